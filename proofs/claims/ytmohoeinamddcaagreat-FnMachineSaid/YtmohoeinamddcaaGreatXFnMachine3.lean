/- What the law FnMachine needs, part 4 of 16: the Lean functions of the Go functions that it reaches, with the proofs that the calls come to what they say, and plain facts about them. Conditions: those that each theorem states. Written by a session and by its programs (after the kit's printer). -/
import Derived.Orders
import Derived.Test.YtmohoeinamddcaaGreatXFnMachine2
open Nat renaming beq → Ya, eq_of_beq_eq_true → Yh, blt → Yq, le_refl → Yr, zero_add → Ys, add_assoc → Yz, add_comm → Y1, le_of_ble_eq_true → Y2, lt_succ_of_lt → Y3, mul_one → Y4, ne_of_lt → Y5, add_zero → Yha, beq_refl → Yia, le_add_right → Yja, lt_of_lt_of_le → Yka, lt_succ_self → Yla
open List renaming mem_cons_of_mem → Yb, mem_cons_self → Yd, mem_filterMap → Ye, mem_singleton → Yg, mem_cons → Yi, filterMap_cons_some → Yj, length_map → Yk, mem_of_getElem? → Yl, filterMap_cons_none → Yn, getElem?_map → Yo, nodup_cons → Yp, append_nil → Yt, getElem?_eq_getElem → Yu, length_append → Yv, mem_append → Yw, mem_append_right → Yx, toList_toArray → Yy, any_eq_true → Y6, drop_eq_nil_of_le → Y7, flatMap_cons → Y8, getD_eq_getElem?_getD → Y9, getElem?_cons_succ → Yaa, getElem?_drop → Yba, getElem?_eq_some_iff → Yca, mem_append_left → Yda, nil_append → Yea, nodup_nil → Yfa, take_zero → Yga
open Bool renaming and_eq_true → Yc
open Array renaming length_toList → Yf, getElem?_toList → Ym, getD_eq_getD_getElem? → Y0
namespace Go.Proofs.Qz
open Go Go.RowKit
set_option linter.unusedVariables false
section
variable {P:Program} {o:Oper} {X:Nat→Prop} {ρ ρ':Rho} {st st':St} {a:Act} {w w':World} {g:Option (Nat×Bool)} {R:Type} {r:R} {K:AV→St→Option R} {C:Ctx}
structure ArrTy (P:Program) (C:Ctx) (t:TypeId) (len:Nat) (k:IntKind):Prop where
 ti:∃ti,C.ti.get t=some ti∧TiFor P t ti∧ti.sz=len∧ti.agg=true
 und:∃elem ei,P.underlying t=some (.array len elem)∧C.ti.get elem=some ei∧TiFor P elem ei∧ei.sz=1∧ei.agg=false
 ok:Zdi k=true
theorem Zsr (T:Zob P C.ti) {α:Type} {t:TypeId} {f:Nat→IntKind→M AV} {K:AV→St→Option R} (hr:(Z9n C t f).run st K=some r):∃len k,ArrTy P C t len k∧(f len k).run st K=some r:=by
 unfold Z9n at hr
 obtain ⟨ti,hti,hr1⟩:=Z2f hr
 clear hr
 cases hk:Ya ti.kind 7 with
 | false=>rw [hk] at hr1;cases hr1
 | true=>
  rw [hk] at hr1;have hk:=Yh hk;rw [Xe] at hr1;obtain ⟨ei,hei,hr⟩:=Z2f hr1;clear hr1;obtain ⟨len,y,hoff,hd⟩:=(T _ _ hti).arr hk;rw [hoff] at hr;dsimp only at hr;cases hz:(Ya ei.kind 1&&(Ya ei.sz 1&&(Zdi ei.ik&&Ya ti.sz len))) with
  | false=>rw [hz] at hr;cases hr
  | true=>
   rw [hz] at hr;obtain ⟨h1,h2⟩:=(Yc _ _).mp hz;obtain ⟨h2,h3⟩:=(Yc _ _).mp h2;obtain ⟨h3,h4⟩:=(Yc _ _).mp h3
   have ha:ti.agg=true:=by
    obtain ⟨d,hd',hag,_⟩:=(T _ _ hti).und;rw [hd] at hd';cases hd';exact hag
   have hb:ei.agg=false:=by
    obtain ⟨d,hd',hag,hi,_⟩:=(T _ _ hei).und;have:=hi (Yh h1);subst this;exact hag
   exact ⟨len,ei.ik,⟨⟨ti,hti,T _ _ hti,Yh h4,ha⟩,⟨ti.elem,ei,hd,hei,T _ _ hei,Yh h2,hb⟩,h3⟩,hr⟩
theorem Zm3 {k:IntKind}:∀{l:List Int} {m q:Nat} {vs:List Value},vs.length=m→(∀i,i<m→vs[i]? = some (.int k (l.getD (q+i) 0)))→Zq X ρ w (Z2y k l q m) vs
 | _,0,_,[],_,_=>trivial
 | _,0,_,_::_,h,_=>by cases h
 | _,_+1,_,[],h,_=>by cases h
 | l,m+1,q,v::vs,h,hv=>by
  have h0:=hv 0 (Nat.zero_lt_succ m);rw [Yha] at h0;cases h0;refine ⟨rfl,Zm3 (by simpa using h) fun i hi=>?_⟩;have:=hv (i+1) (by omega);rw [Yaa] at this;rw [this,Yz,Y1 1 i]
theorem Zp4 {k:IntKind}:∀{xs:List Leaf} {l:List Int} {vs:List Value},Zes k xs=some l→Zq X ρ w xs vs→vs=l.map fun n=>Value.int k n
 | [],l,[],h,_=>by cases h;rfl
 | [],_,_::_,_,h=>h.elim
 | x::xs,l,[],_,h=>h.elim
 | x::xs,l,v::vs,h,hv=>by
  cases x <;> first | cases h | skip;rename_i k' n
  have h:(bif decide (k'=k) then match Zes k xs with
   | some l=>some (n::l)
   | none=>none
   else none)=some l:=h
  cases hk:decide (k'=k) with
  | false=>rw [hk] at h;cases h
  | true=>
   rw [hk,Xe] at h;have hk:=of_decide_eq_true hk;split at h
   ·rename_i m hm
    cases h;rw [Zp4 hm hv.2,show v = .int k' n from hv.1,hk];rfl
   ·cases h
theorem Zj8 {k:IntKind}:∀{xs:List Leaf} {m:Nat} {vs:List Value},Zev k xs m=true→Zq X ρ w xs vs→vs=(Zz1 k m).map fun n=>Value.int k n
 | [],0,[],_,_=>rfl
 | [],0,_::_,_,h=>h.elim
 | [],_+1,_,h,_=>by cases h
 | x::xs,0,_,h,_=>by cases x <;> cases h
 | x::xs,m+1,[],_,h=>h.elim
 | x::xs,m+1,v::vs,h,hv=>by
  cases x <;> first | cases h | skip;rename_i k' n;have h:(decide (k'=k)&&decide (n=0)&&Zev k xs m)=true:=h;obtain ⟨h1,h2⟩:=(Yc _ _).mp h;obtain ⟨h1,h3⟩:=(Yc _ _).mp h1;rw [Zj8 h2 hv.2,show v = .int k' n from hv.1,of_decide_eq_true h1,of_decide_eq_true h3];rfl
theorem Zacb {t:TypeId} {K:AV→St→Option R} {p q:M AV} (hr:(bif isA C t then p else q).run st K=some r):p.run st K=some r∨q.run st K=some r:=by
 cases h:isA C t with
 | true=>rw [h] at hr;exact .inl hr
 | false=>rw [h] at hr;exact .inr hr
theorem Zg2 {e len:Nat} (h:Ya e (2000000+len)=true):Zjn e=true∧e-2000000=len:=by
 have:=Yh h
 subst this
 exact ⟨Nat.ble_eq.mpr (Yja _ _),by omega⟩
theorem Zvib {gb:Nat} {cs:Array Value} {ty:TypeId} {k:IntKind} {l:List Int} {i:Nat} {x:Int} (hh:w.heap[gb]? = some (.cells cs ty (0,0))) (hc:cs.toList=l.map fun n=>Value.int k n) (hx:l[i]? = some x):w.cell? ⟨gb,i,none⟩=some (.int k x):=by
 rw [cell_of_row w gb i cs ty (0,0) hh,← Ym,hc,Yo,hx]
 rfl
theorem Zikb (T:Zob P C.ti) (h:Rel X ρ st a w) {t:TypeId} (ho:o.op = .alloc t) (hr:(Za2 C t).run st K=some r):Zdb P o a w X ρ st K r:=by
 unfold Za2 at hr
 rcases Zacb hr with hr | hr
 ·obtain ⟨len,k,A,hr1⟩:=Zsr (α:=AV) T hr
  clear hr;obtain ⟨i,hi,hr2⟩:=Z2f hr1;clear hr1;cases hz:Zev k i.zero len with
  | false=>rw [hz] at hr2;cases hr2
  | true=>
   rw [hz] at hr2;obtain ⟨q,hq,_,_,z,hzz,hz1,hz2⟩:=(T _ _ hi).info;obtain ⟨hlt,hr3⟩:=Zvj hr2;have hcs:=Zj8 hz (hz2 X ρ w);have e:=Zqp ρ w (.cells z.cells t)
   obtain ⟨ρ',h1,h2,h3⟩:=h.row hlt e (fun j b hb=>Zfo w _ (h.lt j b hb).1) (z:=false) (et:=2000000+len) (t:=.int k) (l:=Zz1 k len) (v:=.pointer (some ⟨w.heap.size,0,none⟩))
    (fun b hb=>by cases hb;exact Yr _)
    (Zwm.ok ⟨w.heap.size,z.cells,t,k,rfl,A.ok,Nat.ble_eq.mpr (Yja _ _),rfl,heap_alloc_new w _,by simp [Zz1],hcs⟩)
   refine Zmh (v:=.pointer (some ⟨w.heap.size,0,none⟩)) ?_ hr3 ⟨.inr (.inr ⟨_,rfl⟩),by rw [h3]⟩ h1 h2 rfl;unfold execOp;rw [ho];simp [Instr.alloc,zeroValue,typeInfo,hq,hzz,newVar,newRow]
 ·exact Zhkb T h ho hr
theorem Z1kb (T:Zob P C.ti) (h:Rel X ρ st a w) (hg:Zyc a g) {t:TypeId} {x i:Operand} (ho:o.op = .indexAddr t x i)
  (hr:((opd g x).bind fun v=>(opd g i).bind fun j=>Znz C t v j).run st K=some r):Zdb P o a w X ρ st K r:=by
 cases hA:isA C t with
 | false=>
  refine Z0kb T h hg ho ?_;unfold Znz at hr;rw [hA] at hr;exact hr
 | true=>
 unfold Znz at hr
 rw [hA] at hr
 rw [M.run_bind] at hr
 obtain ⟨v,hr1,hv⟩:=Zyb h hg hr
 clear hr
 rw [M.run_bind] at hr1
 obtain ⟨jv,hr,hj⟩:=Zyb h hg hr1
 clear hr1
 rw [Xe,M.run_bind] at hr
 obtain ⟨k,j,hj,hr1⟩:=Z9j hj hr
 clear hr
 obtain ⟨len,k0,A,hr⟩:=Zsr (α:=AV) T hr1
 clear hr1
 unfold Zg8 at hr
 split at hr
 ·rename_i n
  replace hr:(Z91 len n j (st.ent n)).run st K=some r:=hr;unfold Z91 at hr;split at hr
  ·rename_i e k' l he
   cases hc:(Ya e (2000000+len)&&Zdi k') with
   | false=>rw [hc] at hr;cases hr
   | true=>
    rw [hc] at hr;obtain ⟨h1,h2⟩:=(Yc _ _).mp hc;obtain ⟨h1,h3⟩:=Zg2 h1;obtain ⟨y,hy,hr2⟩:=Zyf hr;obtain ⟨hi0,hi1,hi2⟩:=Z1m hy;obtain ⟨gb,cs,ty,hn,hh,hl,hcs⟩:=Znt h he h1 h2;have hx:=Za0 (X:=X) (w:=w) hn hv;obtain ⟨elem,ei,hd,hei,Te,hes,_⟩:=A.und
    have hjl:j<(len:Int):=by
     have:l.length=len:=by omega
     omega
    refine Zib (v:=.pointer (some ⟨gb,j.toNat,none⟩)) ?_ hr2 ?_ h
    ·unfold execOp
     rw [ho];simp [Instr.indexAt,Instr.sureAddr,run_underlying hd,hx,hj,asIntOf,hi0,hjl,Zxg Te,hes,Ztg]
    ·show Zcp (ρ n) j _
     rw [hn];exact ⟨gb,rfl,hi0,rfl⟩
  ·cases hr
 ·cases hr
theorem Z3kb (T:Zob P C.ti) (h:Rel X ρ st a w) (hg:Zyc a g) {t:TypeId} {x:Operand} (ho:o.op = .load t x)
  (hr:((opd g x).bind fun p=>Z14 C t p).run st K=some r):Zdb P o a w X ρ st K r:=by
 rw [M.run_bind] at hr
 obtain ⟨p,hr1,hp⟩:=Zyb h hg hr
 clear hr
 unfold Z14 at hr1
 split at hr1
 ·rename_i n j
  obtain ⟨ti,hti,hr⟩:=Z2f hr1;clear hr1;cases hk:Ya ti.kind 1 with
  | false=>rw [hk] at hr;cases hr
  | true=>
   rw [hk] at hr
   have hag:ti.agg=false:=by
    obtain ⟨d,hd',hag,hi,_⟩:=(T _ _ hti).und;have:=hi (Yh hk);subst this;exact hag
   replace hr:(Z24 j (st.ent n)).run st K=some r:=hr;unfold Z24 at hr;split at hr
   ·rename_i e k l he
    cases hc:(Zjn e&&Zdi k) with
    | false=>rw [hc] at hr;cases hr
    | true=>
     rw [hc] at hr;obtain ⟨h1,h2⟩:=(Yc _ _).mp hc;obtain ⟨y,hy,hr2⟩:=Zyf hr;obtain ⟨hi0,hi1,hi2⟩:=Z1m hy;obtain ⟨gb,cs,ty,hn,hh,hl,hcs⟩:=Znt h he h1 h2;have hp:Zcp (ρ n) j (a.eval x):=hp;rw [hn] at hp;obtain ⟨g',hg',_,hx⟩:=hp;cases hg';refine Zib (v:=.int k y) (Zsu ho hx ?_) hr2 rfl h;unfold loadVar;simp [Zos (T _ _ hti),hag,Zvib hh hcs hi2]
   ·cases hr
 ·rename_i n
  obtain ⟨len,k,A,hr⟩:=Zsr (α:=AV) T hr1;clear hr1;replace hr:(Z34 len (st.ent n)).run st K=some r:=hr;unfold Z34 at hr;split at hr
  ·rename_i e k' l he
   cases hc:(Ya e (2000000+len)&&Zdi k') with
   | false=>rw [hc] at hr;cases hr
   | true=>
    rw [hc] at hr;obtain ⟨h1,h2⟩:=(Yc _ _).mp hc;obtain ⟨h1,h3⟩:=Zg2 h1;obtain ⟨gb,cs,ty,hn,hh,hl,hcs⟩:=Znt h he h1 h2;have hx:=Za0 (X:=X) (w:=w) hn hp;obtain ⟨ti,hti,Ti,hsz,hag⟩:=A.ti;have hlen:l.length=len:=by omega
    have hcl:cs.toList.length=len:=by rw [hcs,Yk,hlen]
    refine Zib (v:=.agg cs) (Zsu ho hx ?_) hr ⟨cs,rfl,Zm3 hcl fun i hi=>?_⟩ h
    ·have hload:(loadCells ⟨gb,0,none⟩ cs.toList.length).run P w = .ok cs.toList.toArray w:=
      run_loadCells_list (P:=P) w ⟨gb,0,none⟩ cs.toList (fun j v hv=>by
       rw [Ztg,Ys,cell_of_row w gb j cs ty (0,0) hh,← Ym];exact hv)
     rw [hcl] at hload;unfold loadVar;simp [Zos Ti,hag,Zxg Ti,hsz,hload]
    ·rw [hcs,Yo,Ys,Y9,Yu (by omega:i<l.length)]
     rfl
  ·cases hr
 ·exact Z7mb T h ho hp hr1
theorem Zxkb (T:Zob P C.ti) (h:Rel X ρ st a w) {t:TypeId} {n:Nat} (ho:o.op = .load t (.global n)) (hr:(Z43 C t n).run st K=some r):Zdb P o a w X ρ st K r:=by
 unfold Z43 at hr
 obtain ⟨len,k,A,hr1⟩:=Zsr (α:=AV) T hr
 clear hr
 unfold Zkbb at hr1
 split at hr1
 ·rename_i _ k' l hgl
  cases hz:(decide (k'=k)&&(Ya l.length len&&Yq 0 len)) with
  | false=>rw [hz] at hr1;cases hr1
  | true=>
   rw [hz] at hr1;obtain ⟨hk,hz1⟩:=(Yc _ _).mp hz;obtain ⟨hz2,hz1⟩:=(Yc _ _).mp hz1;have hz1:0<len:=Y2 hz1;have hz2:=Yh hz2;have hk:=of_decide_eq_true hk;subst hk;obtain ⟨ti,hti,Ti,hsz,hag⟩:=A.ti;have hl0:0<l.length:=by omega
   obtain ⟨g1,⟨A',c,hA',_,hrow⟩,cs,ty,fr,hh,hcs⟩:=(h.gl.1 n (.int k') l hgl).row (Yu hl0);cases hA';have hcz:cs.size=l.length:=by rw [hcs];exact Y4 _
   have hcell:∀i (hi:i<l.length),cs.toList[i]? = some (.int k' l[i]):=by
    rcases hrow with rfl | ⟨gb,q,hq,hfix,hrow⟩
    ·cases hl0
    ·cases hq
     intro i hi;obtain ⟨c,hc,hrep⟩:=hrow _ _ (Yu hi);have hrep:c=[Value.int k' l[i]]:=hrep;subst hrep;have:=hc 0 _ rfl;rw [cell_of_row w n _ cs ty fr hh] at this;rw [Ym];simpa [Ty.sz] using this
   have hev:a.eval (.global n) = .pointer (some ⟨n,0,none⟩):=rfl;have hcl:cs.toList.length=len:=by rw [Yf,hcz,hz2]
   refine Zib (v:=.agg cs) (Zsu ho hev ?_) hr1 ⟨cs,rfl,Zm3 hcl fun i hi=>?_⟩ h
   ·have hload:(loadCells ⟨n,0,none⟩ cs.toList.length).run P w = .ok cs.toList.toArray w:=
     run_loadCells_list (P:=P) w ⟨n,0,none⟩ cs.toList (fun j v hv=>by
      rw [Ztg,Ys,cell_of_row w n j cs ty fr hh,← Ym];exact hv)
    rw [hcl] at hload;unfold loadVar;simp [Zos Ti,hag,Zxg Ti,hsz,hload]
   ·rw [hcell i (by omega),Ys,Y9,Yu (by omega:i<l.length)]
    rfl
 ·cases hr1
theorem Zdlb (T:Zob P C.ti) (h:Rel X ρ st a w) (hg:Zyc a g) {t:TypeId} {x y:Operand} (ho:o.op = .store t x y)
  (hr:((opd g x).bind fun p=>(opd g y).bind fun v=>Zm7 C t p v).run st K=some r):Zdb P o a w X ρ st K r:=by
 rw [M.run_bind] at hr
 obtain ⟨p,hr1,hp⟩:=Zyb h hg hr
 clear hr
 rw [M.run_bind] at hr1
 obtain ⟨v,hr,hv⟩:=Zyb h hg hr1
 clear hr1
 unfold Zm7 at hr
 split at hr
 ·rename_i n j k' u
  obtain ⟨ti,hti,hr1⟩:=Z2f hr;clear hr;cases hk:Ya ti.sz 1 with
  | false=>rw [hk] at hr1;cases hr1
  | true=>
   rw [hk] at hr1;have hk:=Yh hk;replace hr1:(Zl7 n k' j u (st.ent n)).run st K=some r:=hr1;unfold Zl7 at hr1;split at hr1
   ·rename_i e k l he
    cases hc:((Zjn e&&Zdi k)&&decide (k'=k)) with
    | false=>rw [hc] at hr1;cases hr1
    | true=>
     rw [hc] at hr1;obtain ⟨h0,hkk⟩:=(Yc _ _).mp hc;obtain ⟨h1,h2⟩:=(Yc _ _).mp h0;have hkk:=of_decide_eq_true hkk;subst hkk;obtain ⟨l',hl',hr2⟩:=Zyf hr1;unfold set? at hl';split at hl'
     ·rename_i hij
      cases hl';obtain ⟨gb,cs,ty,hn,hh,hl,hcs⟩:=Znt h he h1 h2;have hp:Zcp (ρ n) j (a.eval x):=hp;rw [hn] at hp;obtain ⟨g',hg',_,hx⟩:=hp;cases hg';have hv:a.eval y = .int k' u:=hv;have hown:owns (ρ n) gb:=by rw [hn];rfl
      have hcl:cs.size=l.length:=by rw [← Yf,hcs,Yk]
      have hle2:j.toNat+(a.eval y).cells.toList.length≤cs.size:=by rw [hv,hcl];show j.toNat+1≤l.length;omega
      have hrun:=Zx0 (P:=P) (p:=j.toNat) (v:=a.eval y) (T _ _ hti) hh (.inl rfl) (by rw [hv,hk];rfl) (by simpa using hle2) (by rw [hv];intro q hq;rw [Yg.1 hq];rfl);have hblk:=Zrs gb (a.eval y).cells.toList j.toNat cs w hh hle2;have x1:=Zot (p:=j.toNat) (vs:=(a.eval y).cells.toList) h hown;refine Z8v (Zw0 ho hx hrun) hr2 rfl (h.write hown _ ?_) x1 rfl;rw [hn];refine ⟨_,rfl,Zwm.ok ⟨gb,_,ty,k',rfl,h2,h1,rfl,hblk,by rw [List.length_set];exact hl,?_⟩⟩;rw [Yy,hv,hcs];show overL (l.map fun n=>Value.int k' n) j.toNat [Value.int k' u]=(l.set j.toNat u).map fun n=>Value.int k' n
      apply List.ext_getElem?;intro q;rw [Z9m _ _ _ (by simp;omega),Yo,Yo,List.getElem?_set]
      by_cases q1:q<j.toNat
      ·rw [Xc q1,Xd (by omega)]
      ·rw [Xd q1]
       by_cases q2:q<j.toNat+1
       ·have:q=j.toNat:=by omega
        subst this;rw [Xc (by simp),Xc rfl,Xc (by omega),Nat.sub_self];rfl
       ·rw [Xd (by simpa using q2),Xd (by omega)]
     ·cases hl'
   ·cases hr1
 ·rename_i n xs
  obtain ⟨len,k0,A,hr1⟩:=Zsr (α:=AV) T hr;clear hr;obtain ⟨ti,hti,Ti,hsz,hag⟩:=A.ti;obtain ⟨us,hy,hus⟩:=hv;cases hm:Zes k0 xs with
  | none=>rw [hm] at hr1;cases hr1
  | some m=>
   rw [hm] at hr1;have hr1:(bif Ya m.length len then M.getb n (Zp1 n len k0 m) else .fail).run st K=some r:=hr1;cases hml:Ya m.length len with
   | false=>rw [hml] at hr1;cases hr1
   | true=>
    rw [hml] at hr1;have hml:=Yh hml;replace hr1:(Zp1 n len k0 m (st.ent n)).run st K=some r:=hr1;unfold Zp1 at hr1;split at hr1
    ·rename_i e k l he
     cases hc:((Ya e (2000000+len)&&Zdi k)&&decide (k0=k)) with
     | false=>rw [hc] at hr1;cases hr1
     | true=>
      rw [hc] at hr1;obtain ⟨h0,hkk⟩:=(Yc _ _).mp hc;obtain ⟨h00,h2⟩:=(Yc _ _).mp h0;obtain ⟨h1,h3⟩:=Zg2 h00;have hkk:=of_decide_eq_true hkk;subst hkk;obtain ⟨gb,cs,ty,hn,hh,hl,hcs⟩:=Znt h he h1 h2;have hx:=Za0 (X:=X) (w:=w) hn hp;have huv:=Zp4 hm hus;have hown:owns (ρ n) gb:=by rw [hn];rfl
      have hcl:cs.size=len:=by rw [← Yf,hcs,Yk];omega
      have hvl:(a.eval y).cells.toList=m.map fun n=>Value.int k0 n:=by rw [hy];exact huv
      have hvs:(a.eval y).cells.size=len:=by rw [← Yf,hvl,Yk,hml]
      have hle2:0+(a.eval y).cells.toList.length≤cs.size:=by rw [Yf,hvs,hcl];omega
      have hrun:=Zx0 (P:=P) (p:=0) Ti hh (.inl rfl) (by rw [hvs,hsz]) (by simpa using hle2) (by
       rw [hvl];intro q hq;obtain ⟨z,_,rfl⟩:=List.mem_map.1 hq;rfl)
      have hblk:=Zrs gb (a.eval y).cells.toList 0 cs w hh hle2;have x1:=Zot (p:=0) (vs:=(a.eval y).cells.toList) h hown;refine Z8v (Zw0 ho hx hrun) hr1 rfl (h.write hown _ ?_) x1 rfl;rw [hn];refine ⟨_,rfl,Zwm.ok ⟨gb,_,ty,k0,rfl,h2,h1,rfl,hblk,by omega,?_⟩⟩;rw [Yy,hvl];show overL cs.toList 0 (m.map fun n=>Value.int k0 n)=m.map fun n=>Value.int k0 n
      unfold overL;rw [Yga,Yea,Y7 (by rw [Yf,Yk];omega),Yt]
    ·cases hr1
 ·exact Z5rb T h ho hp hv hr
theorem Zzkb (T:Zob P C.ti) (h:Rel X ρ st a w) (hg:Zyc a g) {t:TypeId} {x i:Operand} (ho:o.op = .index t x i)
  (hr:((opd g x).bind fun v=>(opd g i).bind fun j=>Zo4 C t v j).run st K=some r):Zdb P o a w X ρ st K r:=by
 rw [M.run_bind] at hr
 obtain ⟨v,hr1,hv⟩:=Zyb h hg hr
 clear hr
 rw [M.run_bind] at hr1
 obtain ⟨jv,hr,hj⟩:=Zyb h hg hr1
 clear hr1
 unfold Zo4 at hr
 split at hr
 ·rename_i xs
  rw [M.run_bind] at hr;obtain ⟨k,j,hj,hr1⟩:=Z9j hj hr;clear hr;obtain ⟨len,k0,A,hr⟩:=Zsr (α:=AV) T hr1;clear hr1;obtain ⟨us,hx,hus⟩:=hv;cases hm:Zes k0 xs with
  | none=>rw [hm] at hr;cases hr
  | some m=>
   rw [hm] at hr;have hr:(bif Ya m.length len then M.opt Int (at? m j) fun v=>Zgf k0 v else .fail).run st K=some r:=hr;cases hml:Ya m.length len with
   | false=>rw [hml] at hr;cases hr
   | true=>
    rw [hml] at hr;have hml:=Yh hml;obtain ⟨y,hy,hr2⟩:=Zyf hr;obtain ⟨hi0,hi1,hi2⟩:=Z1m hy;obtain ⟨elem,ei,hd,hei,Te,hes,hea⟩:=A.und;have huv:=Zp4 hm hus;have hjl:j<(len:Int):=by omega
    refine Zib (v:=.int k0 y) ?_ hr2 rfl h
    have hc:us[j.toNat]? = some (.int k0 y):=by
     rw [← Ym,huv,Yo,hi2];rfl
    unfold execOp;rw [ho];simp [Instr.index,run_underlying hd,hx,hj,asIntOf,hi0,hjl,Zxg Te,hes,Go.part,Zos Te,hea,hc]
 ·exact Zpmb T h ho hv hj hr
theorem Ztcb {k:IntKind}:∀(m:List Int),Zq X ρ w (m.map fun n=>Leaf.int k n) (m.map fun n=>Value.int k n)
 | []=>trivial
 | _::m=>⟨rfl,Ztcb m⟩
theorem Ztfb {k:IntKind}:∀{qs:List (Nat×List Leaf)} {vs:List (Nat×Value)} {l:List Int} {i:Nat} {cs:Array Value},Zyl X ρ w qs vs→Zgx k qs i=some l→i+l.length≤cs.size →
  Instr.fill (fun i=>some (i*1,1)) cs vs=some (overL cs.toList i (l.map fun n=>Value.int k n)).toArray
 | [],[],l,i,cs,_,h,_=>by
  cases h;simp [Instr.fill,overL]
 | q::qs,v::vs,l,i,cs,hq,h,hl=>by
  obtain ⟨h1,h2,h3⟩:=hq;obtain ⟨f,xs⟩:=q
  match xs,h,h2 with
  | [],h,_=>cases h
  | x::y::xs,h,_=>cases x <;> cases h
  | [x],h,h2=>
   cases x <;> first | cases h | skip;rename_i k' n
   have h:(bif Ya f i&&decide (k'=k) then match Zgx k qs (i+1) with
    | some l=>some (n::l)
    | none=>none
    else none)=some l:=h
   cases hc:(Ya f i&&decide (k'=k)) with
   | false=>rw [hc] at h;cases h
   | true=>
    rw [hc,Xe] at h;obtain ⟨c1,c2⟩:=(Yc _ _).mp hc;have c1:=Yh c1;have c2:=of_decide_eq_true c2;subst c1 c2;split at h
    ·rename_i m hm
     cases h;have hl:f+(m.length+1)≤cs.size:=hl
     have hvc:v.2.cells.toList=[Value.int k' n]:=by
      cases hvc:v.2.cells.toList with
      | nil=>rw [hvc] at h2;exact h2.elim
      | cons u us=>
       rw [hvc] at h2;obtain ⟨h21,h22⟩:=h2;cases us with
       | nil=>rw [show u=Value.int k' n from h21]
       | cons _ _=>exact h22.elim
     have hvs:v.2.cells.size=1:=by rw [← Yf,hvc];rfl
     obtain ⟨f',u⟩:=v;obtain rfl:f=f':=h1;rw [Zw3 (off:=f*1) (size:=1) rfl hvs (by rw [hvs];omega),Y4];have hvs:u.cells.size=1:=hvs;have hol:(overL cs.toList f u.cells.toList).length=cs.size:=by rw [Zks _ _ _ (by rw [Yf,Yf,hvs];omega),Yf]
     rw [Ztfb h3 hm (by rw [List.size_toArray,hol];omega)];rw [Yy,hvc];congr 2;have:=Z15 cs.toList f (Value.int k' n) (m.map fun n=>Value.int k' n) (by simp;omega);rw [List.map_cons,← this];congr 1;unfold overL;rw [List.set_eq_take_append_cons_drop,Xc (by rw [Yf];omega)];simp
    ·cases h
 | [],_::_,_,_,_,h,_,_=>h.elim
 | _::_,[],_,_,_,h,_,_=>h.elim
theorem Znkb (T:Zob P C.ti) (h:Rel X ρ st a w) (hg:Zyc a g) {t:TypeId} {ps:Array (Nat×Operand)} (ho:o.op = .build t ps)
  (hr:(bif isA C t then (Zro g ps.toList).bind fun qs=>Zu2 C t qs else Zfe C t fun ti=>(Zro g ps.toList).bind fun qs=>Zky C ti qs).run st K=some r):Zdb P o a w X ρ st K r:=by
 rcases Zacb hr with hr | hr
 ·rw [M.run_bind] at hr
  obtain ⟨qs,hr1,hq⟩:=Zb0 h hg hr;clear hr;unfold Zu2 at hr1;obtain ⟨len,k,A,hr⟩:=Zsr (α:=AV) T hr1;clear hr1;cases hm:Zgx k qs 0 with
  | none=>rw [hm] at hr;cases hr
  | some m=>
   rw [hm] at hr;have hr:(bif Ya m.length len then M.ret (AV.agg (m.map fun n=>.int k n)) else .fail).run st K=some r:=hr;cases hml:Ya m.length len with
   | false=>rw [hml] at hr;cases hr
   | true=>
    rw [hml] at hr;have hml:=Yh hml;obtain ⟨ti,hti,Ti,hsz,hag⟩:=A.ti;obtain ⟨elem,ei,hd,hei,Te,hes,hea⟩:=A.und;obtain ⟨q,hq1,_,_,z,hz,hz1,_⟩:=Ti.info;have hzl:z.cells.size=len:=by rw [hz1,hsz]
    have hf:=Ztfb (cs:=z.cells) hq hm (by omega)
    have hov:overL z.cells.toList 0 (m.map fun n=>Value.int k n)=m.map fun n=>Value.int k n:=by
     unfold overL;rw [Yga,Yea,Y7 (by rw [Yf,Yk];omega),Yt]
    rw [hov] at hf;simp only [Y4] at hf;refine Zib (v:=.agg (m.map fun n=>Value.int k n).toArray) ?_ hr ⟨_,rfl,?_⟩ h
    ·unfold execOp
     rw [ho];have hmap:(ps.map fun (i,x)=>(i,a.eval x)).toList=ps.toList.map fun p=>(p.1,a.eval p.2):=by simp
     simp [Instr.build,zeroValue,typeInfo,hq1,hz,run_underlying hd,Zxg Te,hes,hf]
    ·rw [Yy]
     exact Ztcb m
 ·exact Zmkb T h hg ho hr
end
def Zof (w:World) (F B:Nat→Prop):Leaf→Value→Prop
 | .int k n,v=>v = .int k n
 | .bool b,v=>v = .bool b
 | .kb b,v=>v = .bool b
 | .str s,v=>v = .string (ba s)
 | .nil,v=>v = .slice none 0 0
 | .list r l,v=>Rep w F (.sl r) l [v]
 | .bor r l,v=>Rep w B (.sl r) l [v]
 | .unk,v=>v.oneCell'=true
 | _,_=>False
def Z4d (w:World) (F B:Nat→Prop):List Leaf→List Value→Prop
 | [],[]=>True
 | x::xs,v::vs=>Zof w F B x v∧Z4d w F B xs vs
 | _,_=>False
inductive GI where
 | blk (g:Nat)
 | row (v:Value)
 | no
def GI.blocks:List GI→List Nat
 | []=>[]
 | .blk g::L=>g::GI.blocks L
 | .row v::L=>(Zzf v).toList++GI.blocks L
 | .no::L=>GI.blocks L
def VLs (w:World) (F B:Nat→Prop):List CL→List Value→List GI→Prop
 | [],[],L=>L=[]
 | .leaf x::xs,v::vs,L=>Zof w F B x v∧VLs w F B xs vs L
 | .row e r l::xs,v::vs,.row u::L=>u=v∧Zac w F false e r v l∧VLs w F B xs vs L
 | .nil::xs,v::vs,.no::L=>v = .slice none 0 0∧VLs w F B xs vs L
 | _,_,_=>False
def MLs (w:World) (F B:Nat→Prop):List CL→List Value→List Value→Prop
 | [],[],M=>M=[]
 | .leaf x::xs,v::vs,M=>Zof w F B x v∧MLs w F B xs vs M
 | .row e r l::xs,v::vs,u::M=>u=v∧Zac w F false e r v l∧MLs w F B xs vs M
 | .nil::xs,v::vs,M=>v = .slice none 0 0∧MLs w F B xs vs M
 | _,_,_=>False
def Z4n (w:World) (F B:Nat→Prop) (t:TypeId) (xs:List CL) (v:Value) (L:List GI) (M:List Value):Prop:=∃g cs fr,L=[.blk g]∧v = .pointer (some ⟨g,0,none⟩)∧w.heap[g]? = some (.cells cs t fr)∧Z8n fr cs.size∧MLs w F B xs cs.toList M
def Zc8 (w:World) (F B:Nat→Prop) (xs:List CL) (v:Value) (L:List GI) (M:List Value):Prop:=L=[]∧M=[]∧∃g o cs,v = .pointer (some ⟨g,o,none⟩)∧B g∧Zig w g o cs∧VLs w F B xs cs []
def Zkj (w:World) (F B:Nat→Prop) (c:TypeId×List CL) (v:Value) (L:List GI) (M:List Value):Prop:=if c.1=roT then Zc8 w F B c.2 v L M else Z4n w F B c.1 c.2 v L M
def Zlj (w:World) (F B:Nat→Prop):List (TypeId×List CL)→List Value→List GI→List Value→Prop
 | [],[],L,M=>L=[]∧M=[]
 | c::cs,v::vs,L,M=>∃L1 L2 M1 M2,L=L1++L2∧M=M1++M2∧Zkj w F B c v L1 M1∧Zlj w F B cs vs L2 M2
 | _,_,_,_=>False
def Z5n (w:World) (F B:Nat→Prop):CArg→Value→List GI→List Value→Prop
 | .val false xs,v,L,M=>M=[]∧VLs w F B xs [v] L
 | .val true xs,v,L,M=>M=[]∧∃cs,v = .agg cs∧VLs w F B xs cs.toList L
 | .rptr xs,v,L,M=>L=[]∧M=[]∧∃g o cs,v = .pointer (some ⟨g,o,none⟩)∧B g∧Zig w g o cs∧Z4d w F B xs cs
 | .ref t xs,v,L,M=>Z4n w F B t xs v L M
 | .fn f caps,v,L,M=>∃cs,v = .func (.func f) #[] cs∧Zlj w F B caps cs.toList L M
 | .mv e r l,v,L,M=>L=[]∧M=[v]∧Zac w F false e r v l
 | .vm false xs,v,L,M=>L=[]∧MLs w F B xs [v] M
 | .vm true xs,v,L,M=>L=[]∧∃cs,v = .agg cs∧MLs w F B xs cs.toList M
def Zth (w:World) (F B:Nat→Prop):List CArg→List Value→List GI→List Value→Prop
 | [],[],L,M=>L=[]∧M=[]
 | a::asx,v::vs,L,M=>∃L1 L2 M1 M2,L=L1++L2∧M=M1++M2∧Z5n w F B a v L1 M1∧Zth w F B asx vs L2 M2
 | _,_,_,_=>False
def cb:Conc→Option Nat
 | .blk g=>some g
 | .row v=>(Zzf v)
 | _=>none
def Zaf (w:World) (F:Nat→Prop):List RL→List Value→List Conc→Prop
 | [],[],O=>O=[]
 | .leaf x::xs,v::vs,O=>Zof w F (fun _=>False) x v∧Zaf w F xs vs O
 | .own e r l::xs,v::vs,c::O=>c = .row v∧Zac w F false e r v l∧Zaf w F xs vs O
 | _,_,_=>False
def Zvm (w:World) (F:Nat→Prop):RC→Value→List Conc→Prop
 | .val true xs,v,O=>∃cs,v = .agg cs∧Zaf w F xs cs.toList O
 | .val false xs,v,O=>Zaf w F xs [v] O
 | .box t xs,v,O=>∃g cs fr O1,O=O1++[.blk g]∧v = .pointer (some ⟨g,0,none⟩)∧w.heap[g]? = some (.cells cs t fr)∧Z8n fr cs.size∧Zaf w F xs cs.toList O1
def Zzl (w:World) (F:Nat→Prop):List RC→List Value→List Conc→Prop
 | [],[],O=>O=[]
 | p::ps,v::vs,O=>∃O1 O2,O=O1++O2∧Zvm w F p v O1∧Zzl w F ps vs O2
 | _,_,_=>False
def Z1i (w:World) (F:Nat→Prop):List GI→List RF→List Conc→Prop
 | [],[],O=>O=[]
 | .blk g::L,.box t xs::rs,O=>∃O1 O2 cs fr,O=O1++O2∧w.heap[g]? = some (.cells cs t fr)∧Z8n fr cs.size∧Zaf w F xs cs.toList O1∧Z1i w F L rs O2
 | .row v::L,.row e r l::rs,O=>Zac w F false e r v l∧Z1i w F L rs O
 | .no::L,.row _ _ _::rs,O=>Z1i w F L rs O
 | _,_,_=>False
def Znu (w:World) (F:Nat→Prop) (rs:List RC) (v:Value) (O:List Conc):Prop:=
 match rs with
 | [p]=>Zvm w F p v O
 | rs=>∃vs,v = .tuple vs∧Zzl w F rs vs.toList O
def Z7gb (G:List Nat) (w w':World):Prop:=w'.os=w.os∧w'.tape=w.tape∧w'.output=w.output∧w.heap.size≤w'.heap.size∧∀b,b<w.heap.size→b∉G→w'.heap[b]? = w.heap[b]?
def Out (F:Nat→Prop) (M:List Nat) (w w':World) (O:List Conc) (b:Nat):Prop:=b<w'.heap.size∧(F b∨b∈M∨w.heap.size≤b)∧∀c∈O,cb c≠some b
def Zxb (M:List Value):List Nat:=M.filterMap Zzf
def Z1x (rr:RR) (F:Nat→Prop) (L:List GI) (M:List Value) (w:World) (v:Value) (w':World):Prop:=Z7gb (GI.blocks L++Zxb M) w w'∧∃O1 O2,(∀c∈O1++O2,∀b,cb c=some b→(b∈Zxb M∨w.heap.size≤b)∧b<w'.heap.size)∧((O1++O2).filterMap cb).Nodup ∧ Z1i w' (Out F (Zxb M) w w' (O1++O2)) L rr.refs O1∧Znu w' (Out F (Zxb M) w w' (O1++O2)) rr.res v O2
def Bor (w:World) (G:List Nat) (b:Nat):Prop:=b<w.heap.size∧b∉G
def Ze (P:Program) (f:FuncId) (c:Con):Prop:=(∀args w,(callFunc f args).run P w = .ok (.enter f args) w) ∧ ∀(asx:List CArg) (rr:RR),(c.f asx).val=some rr→∀(w:World) (vs:List Value) (F:Nat→Prop) (L:List GI) (M:List Value),(∀b,F b→Bor w (GI.blocks L++Zxb M) b)→(GI.blocks L++Zxb M).Nodup→Glx (GI.blocks L++Zxb M) w → Zth w F (Bor w (GI.blocks L++Zxb M)) asx vs L M→Calls P f vs.toArray w fun e w'=>∃v,e = .returned v∧Z1x rr F L M w v w'
def Z01 (P:Program) (con:FuncId→List Con):Prop:=∀f,∀c∈con f,Ze P f c
section
variable {P:Program} {o:Oper} {X:Nat→Prop} {ρ ρ':Rho} {st st':St} {a:Act} {w w':World} {g:Option (Nat×Bool)} {R:Type} {r:R} {K:AV→St→Option R} {C:Ctx} {F F' B B':Nat→Prop}
theorem Zct {c:Conc} {b:Nat}:cb c=some b ↔ owns (some c) b:=by
 cases c with
 | blk g=>exact ⟨(fun h=>by cases h;rfl),(fun h=>by have h:b=g:=h;rw [h];rfl)⟩
 | row v=>exact Iff.rfl
 | frz v=>exact ⟨(fun h=>nomatch h),(fun h=>h.elim)⟩
 | dead=>exact ⟨(fun h=>nomatch h),(fun h=>h.elim)⟩
theorem Zof.mono (hF:∀b,F b→F' b) (hB:∀b,B b→B' b) {x:Leaf} {v:Value} (h:Zof w F B x v):Zof w F' B' x v:=by
 cases x <;> first | exact h | exact Rep.move (fun b hb=>⟨rfl,hF b hb⟩) h | exact Rep.move (fun b hb=>⟨rfl,hB b hb⟩) h
theorem Z4d.mono (hF:∀b,F b→F' b) (hB:∀b,B b→B' b):∀{xs:List Leaf} {vs:List Value},Z4d w F B xs vs→Z4d w F' B' xs vs
 | [],[],_=>trivial
 | _::_,_::_,h=>⟨h.1.mono hF hB,Z4d.mono hF hB h.2⟩
 | [],_::_,h=>h.elim
 | _::_,[],h=>h.elim
theorem Zac.mono (hF:∀b,F b→F' b) {z:Bool} {e:TypeId} {t:Ty} {v:Value} {l:List t.T} (h:Zac w F z e t v l):Zac w F' z e t v l:=by
 rcases h.cases with ⟨he,h | ⟨g,cap,cs,fr,h0,h1,h2,h3,h4,h5,h6⟩⟩ | ⟨he,rfl,hM | hM⟩
 ·exact Zfc.ok (.inl h) he
 ·exact Zfc.ok (.inr ⟨g,cap,cs,fr,h0,h1,h2,h3,h4,h5,fun j x hj=>Rep.move (fun b hf=>⟨rfl,hF b hf⟩) (h6 j x hj)⟩) he
 ·exact Z6n.ok hM he
 ·exact Zwm.ok hM
theorem VLs.mono (hF:∀b,F b→F' b) (hB:∀b,B b→B' b):∀{xs:List CL} {vs:List Value} {L:List GI},VLs w F B xs vs L→VLs w F' B' xs vs L
 | [],[],_,h=>h
 | .leaf _::_,_::_,_,h=>⟨h.1.mono hF hB,VLs.mono hF hB h.2⟩
 | .row _ _ _::_,_::_,.row _::_,h=>⟨h.1,h.2.1.mono hF,VLs.mono hF hB h.2.2⟩
 | .nil::_,_::_,.no::_,h=>⟨h.1,VLs.mono hF hB h.2⟩
theorem MLs.mono (hF:∀b,F b→F' b) (hB:∀b,B b→B' b):∀{xs:List CL} {vs:List Value} {M:List Value},MLs w F B xs vs M→MLs w F' B' xs vs M
 | [],[],_,h=>h
 | .leaf _::_,_::_,_,h=>⟨h.1.mono hF hB,MLs.mono hF hB h.2⟩
 | .row _ _ _::_,_::_,_::_,h=>⟨h.1,h.2.1.mono hF,MLs.mono hF hB h.2.2⟩
 | .nil::_,_::_,_,h=>⟨h.1,MLs.mono hF hB h.2⟩
theorem Z4n.mono (hF:∀b,F b→F' b) (hB:∀b,B b→B' b) {t:TypeId} {xs:List CL} {v:Value} {L:List GI} {M:List Value} (h:Z4n w F B t xs v L M):Z4n w F' B' t xs v L M:=by
 obtain ⟨g,cs,fr,h1,h2,h3,h4,h5⟩:=h
 exact ⟨g,cs,fr,h1,h2,h3,h4,h5.mono hF hB⟩
theorem Zkj.mono (hF:∀b,F b→F' b) (hB:∀b,B b→B' b) {c:TypeId×List CL} {v:Value} {L:List GI} {M:List Value} (h:Zkj w F B c v L M):Zkj w F' B' c v L M:=by
 unfold Zkj at h ⊢
 split
 ·rename_i hc
  rw [Xc hc] at h;obtain ⟨h1,h2,g,o,cs,h3,h4,h5,h6⟩:=h;exact ⟨h1,h2,g,o,cs,h3,hB g h4,h5,VLs.mono hF hB h6⟩
 ·rename_i hc
  rw [Xd hc] at h;exact h.mono hF hB
theorem Zlj.mono (hF:∀b,F b→F' b) (hB:∀b,B b→B' b):∀{xs:List (TypeId×List CL)} {vs:List Value} {L:List GI} {M:List Value},Zlj w F B xs vs L M→Zlj w F' B' xs vs L M
 | [],[],_,_,h=>h
 | _::_,_::_,_,_,⟨L1,L2,M1,M2,h1,h2,h3,h4⟩=>⟨L1,L2,M1,M2,h1,h2,h3.mono hF hB,Zlj.mono hF hB h4⟩
theorem Z5n.mono (hF:∀b,F b→F' b) (hB:∀b,B b→B' b) {x:CArg} {v:Value} {L:List GI} {M:List Value} (h:Z5n w F B x v L M):Z5n w F' B' x v L M:=by
 match x,h with
 | .val false xs,h=>exact ⟨h.1,h.2.mono hF hB⟩
 | .val true xs,⟨h1,cs,h2,h3⟩=>exact ⟨h1,cs,h2,h3.mono hF hB⟩
 | .rptr xs,⟨h1,h2,g,o,cs,h3,h4,h5,h6⟩=>exact ⟨h1,h2,g,o,cs,h3,hB g h4,h5,h6.mono hF hB⟩
 | .ref t xs,h=>exact Z4n.mono hF hB h
 | .fn f caps,⟨cs,h1,h2⟩=>exact ⟨cs,h1,h2.mono hF hB⟩
 | .mv e r l,⟨h1,h2,h3⟩=>exact ⟨h1,h2,h3.mono hF⟩
 | .vm false xs,h=>exact ⟨h.1,h.2.mono hF hB⟩
 | .vm true xs,⟨h1,cs,h2,h3⟩=>exact ⟨h1,cs,h2,h3.mono hF hB⟩
theorem Zth.mono (hF:∀b,F b→F' b) (hB:∀b,B b→B' b):∀{xs:List CArg} {vs:List Value} {L:List GI} {M:List Value},Zth w F B xs vs L M→Zth w F' B' xs vs L M
 | [],[],_,_,h=>h
 | _::_,_::_,_,_,⟨L1,L2,M1,M2,h1,h2,h3,h4⟩=>⟨L1,L2,M1,M2,h1,h2,h3.mono hF hB,Zth.mono hF hB h4⟩
def B0 (ρ:Rho) (w:World) (ns:List Nat) (b:Nat):Prop:=Brw ρ w b∨∃n∈ns,owns (ρ n) b
theorem B0.left {ns ms:List Nat} {b:Nat} (h:B0 ρ w ns b):B0 ρ w (ns++ms) b:=h.imp id fun ⟨n,h1,h2⟩=>⟨n,Yda _ h1,h2⟩
theorem B0.right {ns ms:List Nat} {b:Nat} (h:B0 ρ w ms b):B0 ρ w (ns++ms) b:=h.imp id fun ⟨n,h1,h2⟩=>⟨n,Yx _ h1,h2⟩
theorem B0.frz (h:Rel X ρ st a w) (e:Ext ρ w ρ' w) (f:Frz ρ st ρ' st') {ns:List Nat} {b:Nat} (hb:B0 ρ w ns b):B0 ρ' w ns b:=by
 rcases hb with hb | ⟨n,h1,h2⟩
 ·exact .inl (e.brw b hb).2
 ·rcases f.conc n with k | ⟨v,k1,k2⟩
  ·exact .inr ⟨n,h1,by rw [k];exact h2⟩
  ·refine .inl ⟨(h.lt n b h2).1,fun i hi=>?_⟩
   rcases f.conc i with q | ⟨u,_,q⟩
   ·rw [q] at hi
    obtain rfl:=h.sep i n b hi h2;rw [q,k1] at k2;cases k2
   ·rw [q] at hi;exact hi
def Zvd (ρ:Rho):List RS→List GI→Prop
 | [],[]=>True
 | .box n::sl,.blk g::L=>ρ n=some (.blk g)∧Zvd ρ sl L
 | .row n::sl,.row v::L=>(ρ n=some (.row v)∨ρ n=some (.frz v))∧Zvd ρ sl L
 | .no::sl,.no::L=>Zvd ρ sl L
 | _,_=>False
theorem Zvd.frz (f:Frz ρ st ρ' st'):∀{sl:List RS} {L:List GI},Zvd ρ sl L→Zvd ρ' sl L
 | [],[],_=>trivial
 | .box n::_,.blk _::_,h=>by
  refine ⟨?_,Zvd.frz f h.2⟩;rcases f.conc n with k | ⟨v,k,_⟩
  ·rw [k];exact h.1
  ·rw [h.1] at k;cases k
 | .row n::_,.row _::_,h=>by
  refine ⟨?_,Zvd.frz f h.2⟩;rcases f.conc n with k | ⟨v,k1,k2⟩
  ·rw [k];exact h.1
  ·rcases h.1 with h1 | h1
   ·rw [h1] at k1;cases k1;exact .inr k2
   ·rw [h1] at k1;cases k1
 | .no::sl,.no::L,h=>Zvd.frz f (sl:=sl) (L:=L) h
theorem Zvd.append:∀{sl tl:List RS} {L N:List GI},Zvd ρ sl L→Zvd ρ tl N→Zvd ρ (sl++tl) (L++N)
 | [],_,[],_,_,k=>k
 | .box _::_,_,.blk _::_,_,h,k=>⟨h.1,Zvd.append h.2 k⟩
 | .row _::_,_,.row _::_,_,h,k=>⟨h.1,Zvd.append h.2 k⟩
 | .no::sl,_,.no::L,_,h,k=>Zvd.append (sl:=sl) (L:=L) h k
def Z3f (ρ:Rho) (st:St):List Nat→List Value→Prop
 | [],[]=>True
 | n::ns,v::M=>ρ n=some (.row v)∧st.ent n = .free∧Z3f ρ st ns M
 | _,_=>False
theorem Z3f.frz (f:Frz ρ st ρ' st'):∀{ns:List Nat} {M:List Value},Z3f ρ st ns M→Z3f ρ' st' ns M
 | [],[],_=>trivial
 | _::_,_::_,h=>⟨(f.gone _ h.2.1).2.trans h.1,(f.gone _ h.2.1).1,Z3f.frz f h.2.2⟩
theorem Z3f.append:∀{ns ms:List Nat} {M N:List Value},Z3f ρ st ns M→Z3f ρ st ms N→Z3f ρ st (ns++ms) (M++N)
 | [],_,[],_,_,k=>k
 | _::_,_,_::_,_,h,k=>⟨h.1,h.2.1,Z3f.append h.2.2 k⟩
end
section
variable {P:Program} {o:Oper} {X:Nat→Prop} {ρ ρ':Rho} {st st':St} {a:Act} {w w':World} {g:Option (Nat×Bool)} {R:Type} {r:R} {C:Ctx} {F F' B B':Nat→Prop}
theorem Zhjb {x:Leaf} {v:Value} (h:Zlb X ρ w x v) (hd:Zs4 x):Zof w (Fix X ρ w) B x v:=by
 cases x <;> first | exact h | exact hd.elim
theorem Zqcb {x:Leaf} {v:Value} (h:Zof w (Fix X ρ w) (fun _=>False) x v):Zlb X ρ w x v:=by
 cases x <;> first | exact h | exact h.elim | exact Rep.move (fun b hb=>hb.elim) h
theorem Zfpb {z:Bool} {e:TypeId} {t:Ty} {v:Value} {l:List t.T} (h:Zac w F z e t v l) (hm:Z0 e=false) (hF:∀b,F b→F' b) (hv:∀b,Zzf v=some b→F' b):Rep w F' (.sl t) l [v]:=by
 rcases h.slice hm with ⟨rfl,rfl⟩ | ⟨g,cap,cs,fr,rfl,hg,hu,_,hl,hsz,hx⟩
 ·exact ⟨none,0,rfl,Yr _,.inl rfl⟩
 ·refine ⟨_,cap,rfl,hl,.inr ⟨g,0,rfl,hv g rfl,?_⟩⟩
  intro j y hj;refine ⟨_,?_,Rep.move (fun b hb=>⟨rfl,hF b hb⟩) (hx j y hj)⟩;intro i u hu';rw [cell_of_row w g (0+j*t.sz+i) cs e fr hg];rw [List.getElem?_take] at hu';split at hu'
  ·rw [Yba] at hu'
   rw [Ys];simpa using hu'
  ·cases hu'
theorem Rel.hide (h:Rel X ρ st a w) (n:Nat):Rel X ρ (st.setB n .free) a w:=by
 refine ⟨h.defers,h.size,h.sep,h.lt,?_,h.tmps,h.gs,h.fresh,h.xlt,h.gl⟩
 intro i
 rw [Zkg]
 split
 ·trivial
 ·exact h.ents i
theorem VLs.cons {c:CL} {v:Value} {cs:List CL} {vs:List Value} {L1 L2:List GI} (h:VLs w F B [c] [v] L1) (k:VLs w F B cs vs L2):VLs w F B (c::cs) (v::vs) (L1++L2):=by
 cases c with
 | leaf x=>
  obtain ⟨h1,h2⟩:=h;obtain rfl:L1=[]:=h2;exact ⟨h1,k⟩
 | row e t l=>
  match L1,h with
  | .row u::L1,⟨h1,h2,h3⟩=>
   obtain rfl:L1=[]:=h3;exact ⟨h1,h2,k⟩
 | nil=>
  match L1,h with
  | .no::L1,⟨h1,h3⟩=>
   obtain rfl:L1=[]:=h3;exact ⟨h1,k⟩
theorem MLs.cons {c:CL} {v:Value} {cs:List CL} {vs:List Value} {M1 M2:List Value} (h:MLs w F B [c] [v] M1) (k:MLs w F B cs vs M2):MLs w F B (c::cs) (v::vs) (M1++M2):=by
 cases c with
 | leaf x=>
  obtain ⟨h1,h2⟩:=h;obtain rfl:M1=[]:=h2;exact ⟨h1,k⟩
 | row e t l=>
  match M1,h with
  | u::M1,⟨h1,h2,h3⟩=>
   obtain rfl:M1=[]:=h3;exact ⟨h1,h2,k⟩
 | nil=>
  obtain ⟨h1,h2⟩:=h;obtain rfl:M1=[]:=h2;exact ⟨h1,k⟩
theorem Zzgb {K:CL×AI→St→Option R} (h:Rel X ρ st a w) {x:Leaf} {v:Value} (hx:Zlb X ρ w x v) (hr:(Zv1 x).run st K=some r):
  ∃y ρ' st',K (.leaf y,AI.none) st'=some r∧Rel X ρ' st' a w∧Ext ρ w ρ' w∧st'.n=st.n∧Frz ρ st ρ' st'∧Zof w (Fix X ρ' w) (B0 ρ' w []) y v:=by
 unfold Zv1 at hr
 rw [M.run_bind] at hr
 obtain ⟨y,ρ1,st1,hr1,h1,e1,n1,l1,d1,f1⟩:=Za6 h hx hr
 exact ⟨y,ρ1,st1,hr1,h1,e1,n1,f1,Zhjb l1 d1⟩
theorem Zqeb {K:CL×AI→St→Option R} (h:Rel X ρ st a w) {x:Leaf} {v:Value} (hx:Zlb X ρ w x v) (hr:(Zn0 x).run st K=some r):
  ∃y ns,K (.leaf y,⟨[],ns,[]⟩) st=some r∧Zof w (Fix X ρ w) (B0 ρ w ns) y v:=by
 unfold Zn0 at hr
 split at hr
 ·rename_i n
  replace hr:(match st.ent n with
   | .arr _ e r l=>bif Z0 e then .fail else M.ret (CL.leaf (.bor r l),(⟨[],[n],[]⟩:AI))
   | .frz r l=>.ret (.leaf (.list r l),AI.none)
   | _=>.fail:M (CL×AI)).run st K=some r:=hr
  have h0:=h.ents n;have hx:=hx.2;split at hr
  ·rename_i z e t l he
   rw [he] at h0;obtain ⟨u,hu,h0⟩:=h0;rw [hu] at hx;obtain rfl:v=u:=hx;cases hm:Z0 e with
   | true=>rw [hm] at hr;cases hr
   | false=>
   rw [hm] at hr;refine ⟨_,_,hr,Zfpb h0 hm (fun b hb=>.inl hb.brw) fun b hb=>.inr ⟨n,Yg.2 rfl,?_⟩⟩;rw [hu];exact hb
  ·rename_i t l he
   rw [he] at h0;obtain ⟨u,hu,h0⟩:=h0;rw [hu] at hx;obtain rfl:v=u:=hx;exact ⟨_,_,hr,h0⟩
  ·cases hr
 ·cases hr
 ·cases hr
 ·cases hr
 ·rename_i h1 h2 h3 h4
  refine ⟨x,[],hr,?_⟩;cases x <;> first | exact (h4 _ _ rfl).elim | exact hx | exact (h1 _ rfl).elim | exact (h2 rfl).elim | exact (h3 _ _ rfl).elim | exact Rep.move (fun b hb=>⟨rfl,.inl hb⟩) hx
theorem Zymb {K:CL×AI→St→Option R} (h:Rel X ρ st a w) {m:LM} {x:Leaf} {v:Value} (hx:Zlb X ρ w x v) (hr:(Zgw m x).run st K=some r):
  ∃c ai ρ' st' L,K (c,ai) st'=some r∧Rel X ρ' st' a w∧Ext ρ w ρ' w∧st'.n=st.n∧Frz ρ st ρ' st'∧VLs w (Fix X ρ' w) (B0 ρ' w ai.ro) [c] [v] L∧Zvd ρ' ai.sl L∧ai.mv=[]:=by
 unfold Zgw at hr
 split at hr
 ·obtain ⟨y,ρ1,st1,k1,k2,k3,k4,k5,k6⟩:=Zzgb h hx hr
  exact ⟨_,_,ρ1,st1,[],k1,k2,k3,k4,k5,⟨k6,rfl⟩,trivial,rfl⟩
 ·obtain ⟨y,ns,k1,k2⟩:=Zqeb h hx hr
  exact ⟨_,_,ρ,st,[],k1,h,Ext.refl _ _,rfl,Frz.refl _ _,⟨k2,rfl⟩,trivial,rfl⟩
 ·rename_i n
  replace hr:(match st.ent n with
   | .arr false t r l=>M.ret (CL.row t r l,(⟨[.row n],[],[]⟩:AI))
   | _=>.fail:M (CL×AI)).run st K=some r:=hr
  have h0:=h.ents n;have hx:=hx.2;split at hr
  ·rename_i e t l he
   rw [he] at h0;obtain ⟨u,hu,h0⟩:=h0;rw [hu] at hx;obtain rfl:v=u:=hx;exact ⟨_,_,ρ,st,[.row v],hr,h,Ext.refl _ _,rfl,Frz.refl _ _,⟨rfl,h0,rfl⟩,⟨.inl hu,trivial⟩,rfl⟩
  ·cases hr
 ·exact ⟨_,_,ρ,st,[.no],hr,h,Ext.refl _ _,rfl,Frz.refl _ _,⟨hx,rfl⟩,trivial,rfl⟩
 ·cases hr
theorem Z1mb {K:CL×AI→St→Option R} (h:Rel X ρ st a w) {m:LM} {x:Leaf} {v:Value} (hx:Zlb X ρ w x v) (hr:(Zgs m x).run st K=some r):
  ∃c ai ρ' st' M,K (c,ai) st'=some r∧Rel X ρ' st' a w∧Ext ρ w ρ' w∧st'.n=st.n∧Frz ρ st ρ' st'∧MLs w (Fix X ρ' w) (B0 ρ' w ai.ro) [c] [v] M∧Z3f ρ' st' ai.mv M∧ai.sl=[]:=by
 unfold Zgs at hr
 split at hr
 ·obtain ⟨y,ρ1,st1,k1,k2,k3,k4,k5,k6⟩:=Zzgb h hx hr
  exact ⟨_,_,ρ1,st1,[],k1,k2,k3,k4,k5,⟨k6,rfl⟩,trivial,rfl⟩
 ·rename_i n
  replace hr:(match st.ent n with
   | .arr false t r l=>M.setb n .free (.ret (CL.row t r l,(⟨[],[],[n]⟩:AI)))
   | _=>.fail:M (CL×AI)).run st K=some r:=hr
  have h0:=h.ents n;have hx:=hx.2;split at hr
  ·rename_i e t l he
   rw [he] at h0;obtain ⟨u,hu,h0⟩:=h0;rw [hu] at hx;obtain rfl:v=u:=hx;refine ⟨_,_,ρ,st.setB n .free,[v],hr,h.hide n,Ext.refl _ _,rfl,⟨fun i=>.inl rfl,rfl,?_,?_⟩,⟨rfl,h0,rfl⟩,⟨hu,by rw [Zkg,Xc rfl],trivial⟩,rfl⟩
   ·intro i t xs hi
    rw [Zkg,Xd (fun e=>by subst e;rw [he] at hi;cases hi)];exact hi
   ·intro i hi
    refine ⟨?_,rfl⟩;rw [Zkg];split
    ·rfl
    ·exact hi
  ·cases hr
 ·exact ⟨_,_,ρ,st,[],hr,h,Ext.refl _ _,rfl,Frz.refl _ _,⟨hx,rfl⟩,trivial,rfl⟩
 ·cases hr
theorem Zw4:∀{ms:List LM} {xs:List Leaf} {vs:List Value} {ρ:Rho} {st:St} {K:List CL×AI→St→Option R},Rel X ρ st a w→Zq X ρ w xs vs→(Z6l Zgw ms xs).run st K=some r →
  ∃c ai ρ' st' L,K (c,ai) st'=some r∧Rel X ρ' st' a w∧Ext ρ w ρ' w∧st'.n=st.n∧Frz ρ st ρ' st'∧VLs w (Fix X ρ' w) (B0 ρ' w ai.ro) c vs L∧Zvd ρ' ai.sl L∧ai.mv=[]
 | [],[],[],ρ,st,K,h,_,hr=>⟨_,_,ρ,st,[],hr,h,Ext.refl _ _,rfl,Frz.refl _ _,rfl,trivial,rfl⟩
 | m::ms,x::xs,v::vs,ρ,st,K,h,hx,hr=>by
  unfold Z6l at hr;rw [M.run_bind] at hr;obtain ⟨c1,ai1,ρ1,st1,L1,hr1,h1,e1,n1,f1,v1,s1,m1⟩:=Zymb h hx.1 hr;rw [M.run_bind] at hr1;obtain ⟨c2,ai2,ρ2,st2,L2,hr2,h2,e2,n2,f2,v2,s2,m2⟩:=Zw4 h1 (hx.2.ext e1) hr1;refine ⟨_,_,ρ2,st2,L1++L2,hr2,h2,e1.trans e2,n2.trans n1,f1.trans f2,?_,(s1.frz f2).append s2,?_⟩
  ·refine VLs.cons (VLs.mono (fun b hb=>(e2.fix b hb).2) (fun b hb=>?_) v1) (VLs.mono (fun b hb=>hb) (fun b hb=>B0.right hb) v2)
   exact B0.left (B0.frz h1 e2 f2 hb)
  ·show ai1.mv++ai2.mv=[]
   rw [m1,m2];rfl
 | [],_::_,_,_,_,_,_,_,hr=>by cases hr
 | _::_,[],_,_,_,_,_,_,hr=>by cases hr
 | _,[],_::_,_,_,_,_,h,_=>h.elim
 | _,_::_,[],_,_,_,_,h,_=>h.elim
theorem Zsz:∀{ms:List LM} {xs:List Leaf} {vs:List Value} {ρ:Rho} {st:St} {K:List CL×AI→St→Option R},Rel X ρ st a w→Zq X ρ w xs vs→(Z6l Zgs ms xs).run st K=some r →
  ∃c ai ρ' st' M,K (c,ai) st'=some r∧Rel X ρ' st' a w∧Ext ρ w ρ' w∧st'.n=st.n∧Frz ρ st ρ' st'∧MLs w (Fix X ρ' w) (B0 ρ' w ai.ro) c vs M∧Z3f ρ' st' ai.mv M∧ai.sl=[]
 | [],[],[],ρ,st,K,h,_,hr=>⟨_,_,ρ,st,[],hr,h,Ext.refl _ _,rfl,Frz.refl _ _,rfl,trivial,rfl⟩
 | m::ms,x::xs,v::vs,ρ,st,K,h,hx,hr=>by
  unfold Z6l at hr;rw [M.run_bind] at hr;obtain ⟨c1,ai1,ρ1,st1,M1,hr1,h1,e1,n1,f1,v1,s1,m1⟩:=Z1mb h hx.1 hr;rw [M.run_bind] at hr1;obtain ⟨c2,ai2,ρ2,st2,M2,hr2,h2,e2,n2,f2,v2,s2,m2⟩:=Zsz h1 (hx.2.ext e1) hr1;refine ⟨_,_,ρ2,st2,M1++M2,hr2,h2,e1.trans e2,n2.trans n1,f1.trans f2,?_,(s1.frz f2).append s2,?_⟩
  ·refine MLs.cons (MLs.mono (fun b hb=>(e2.fix b hb).2) (fun b hb=>?_) v1) (MLs.mono (fun b hb=>hb) (fun b hb=>B0.right hb) v2)
   exact B0.left (B0.frz h1 e2 f2 hb)
  ·show ai1.sl++ai2.sl=[]
   rw [m1,m2];rfl
 | [],_::_,_,_,_,_,_,_,hr=>by cases hr
 | _::_,[],_,_,_,_,_,_,hr=>by cases hr
 | _,[],_::_,_,_,_,_,h,_=>h.elim
 | _,_::_,[],_,_,_,_,h,_=>h.elim
end
section
variable {P:Program} {o:Oper} {X:Nat→Prop} {ρ ρ':Rho} {st st':St} {a:Act} {w w':World} {g:Option (Nat×Bool)} {R:Type} {r:R} {C:Ctx} {F F' B B':Nat→Prop}
theorem Zbpb {K:Leaf×List Nat→St→Option R} (h:Rel X ρ st a w) {x:Leaf} {v:Value} (hx:Zlb X ρ w x v) (hr:(Z6w x).run st K=some r):
  ∃y ns,K (y,ns) st=some r∧Zof w (Fix X ρ w) (B0 ρ w ns) y v:=by
 unfold Z6w at hr
 rw [M.run_bind] at hr
 obtain ⟨y,ns,hr1,hy⟩:=Zqeb h hx hr
 clear hr
 cases y with
 | list t l=>exact ⟨_,_,hr1,Rep.move (fun b hb=>⟨rfl,.inl hb.brw⟩) hy⟩
 | _=>exact ⟨_,_,hr1,hy⟩
theorem Zi6 (h:Rel X ρ st a w):∀{xs:List Leaf} {vs:List Value} {K:List (Leaf×List Nat)→St→Option R},Zq X ρ w xs vs→(M.mapL Z6w xs).run st K=some r →
  ∃ys,K ys st=some r∧Z4d w (Fix X ρ w) (B0 ρ w (ys.flatMap (·.2))) (ys.map (·.1)) vs
 | [],[],K,_,hr=>⟨[],hr,trivial⟩
 | x::xs,v::vs,K,hx,hr=>by
  unfold M.mapL at hr;rw [M.run_bind] at hr;obtain ⟨y,ns,hr1,hy⟩:=Zbpb h hx.1 hr;rw [M.run_bind] at hr1;obtain ⟨ys,hr2,hys⟩:=Zi6 h hx.2 hr1;refine ⟨(y,ns)::ys,hr2,?_,?_⟩
  ·exact hy.mono (fun b hb=>hb) fun b hb=>by
    rw [Y8];exact hb.left
  ·exact hys.mono (fun b hb=>hb) fun b hb=>by
    rw [Y8];exact hb.right
 | [],_::_,_,h,_=>h.elim
 | _::_,[],_,h,_=>h.elim
theorem Zkeb {K:(TypeId×List CL)×AI→St→Option R} (h:Rel X ρ st a w) {ms:List LM} {b:Nat} {v:Value} (hv:Zlb X ρ w (.ptr b 0) v) (hr:(Zls ms b (st.ent b)).run st K=some r):
  ∃c ai ρ' st' L M,K (c,ai) st'=some r∧Rel X ρ' st' a w∧Ext ρ w ρ' w∧st'.n=st.n∧Frz ρ st ρ' st'∧(Z4n w (Fix X ρ' w) (B0 ρ' w ai.ro) c.1 c.2 v L M∧c.1≠roT)∧Zvd ρ' ai.sl L∧Z3f ρ' st' ai.mv M:=by
 have h0:=h.ents b
 unfold Zls at hr
 split at hr
 ·rename_i t xs he
  rw [he] at h0;obtain ⟨gb,cs,fr,hb,hh,hu,hxs⟩:=h0;cases ht:Ya t roT with
  | true=>rw [ht] at hr;cases hr
  | false=>
  rw [ht] at hr;replace hr:((Z6l Zgs ms xs).bind fun a=>M.ret ((t,a.1),AI.app ⟨[.box b],[],[]⟩ a.2)).run st K=some r:=hr;rw [M.run_bind] at hr;obtain ⟨c,ai,ρ1,st1,M,hr1,h1,e1,n1,f1,m1,v1,s1⟩:=Zsz h hxs hr;have h2:=hv.2;rw [hb] at h2
  have hb1:ρ1 b=some (.blk gb):=by
   rcases f1.conc b with k | ⟨u,k,_⟩
   ·rw [k];exact hb
   ·rw [hb] at k;cases k
  refine ⟨_,_,ρ1,st1,[.blk gb],M,hr1,h1,e1,n1,f1,⟨⟨gb,cs,fr,rfl,h2,hh,hu,m1⟩,Nat.ne_of_beq_eq_false ht⟩,?_,v1⟩;show Zvd ρ1 ([.box b]++ai.sl) [.blk gb];rw [s1];exact ⟨hb1,trivial⟩
 ·cases hr
theorem Zlj.cons {c:TypeId×List CL} {v:Value} {cs:List (TypeId×List CL)} {vs:List Value} {L1 L2:List GI} {M1 M2:List Value} (h:Zkj w F B c v L1 M1) (k:Zlj w F B cs vs L2 M2):Zlj w F B (c::cs) (v::vs) (L1++L2) (M1++M2):=⟨L1,L2,M1,M2,rfl,rfl,h,k⟩
theorem Z0gb:∀{xs:List Leaf} {vs:List Value},Z4d w F B xs vs→VLs w F B (xs.map .leaf) vs []
 | [],[],_=>rfl
 | _::_,_::_,h=>⟨h.1,Z0gb h.2⟩
 | [],_::_,h=>h.elim
 | _::_,[],h=>h.elim
theorem Zxeb {K:(TypeId×List CL)×AI→St→Option R} (h:Rel X ρ st a w) {xs:List Leaf} {cs:List Value} {b o:Nat} {v:Value} (hx:Zq X ρ w xs cs) (hv:v = .pointer (some ⟨b,o,none⟩)) (hc:Zig w b o cs) (hr:(Z8w xs).run st K=some r):
  ∃c ns,K (c,⟨[],ns,[]⟩) st=some r∧∀ms,B0 ρ w (ns++ms) b→Zkj w (Fix X ρ w) (B0 ρ w (ns++ms)) c v [] []:=by
 unfold Z8w at hr
 rw [M.run_bind] at hr
 obtain ⟨ys,hr1,hy⟩:=Zi6 h hx hr
 refine ⟨_,_,hr1,fun ms hb=>?_⟩
 unfold Zkj
 rw [Xc rfl]
 refine ⟨rfl,rfl,b,o,cs,hv,hb,hc,?_⟩
 have:=Z0gb (hy.mono (fun b hb=>hb) (fun b hb=>(hb.left:B0 ρ w (ys.flatMap (·.2)++ms) b)))
 rwa [List.map_map] at this
theorem Zoib {K:(TypeId×List CL)×AI→St→Option R} (h:Rel X ρ st a w) {ms:List LM} {x:Leaf} {v:Value} (hv:Zlb X ρ w x v) (hr:(Z02 ms x).run st K=some r):
  ∃c ai ρ' st' L M,K (c,ai) st'=some r∧Rel X ρ' st' a w∧Ext ρ w ρ' w∧st'.n=st.n∧Frz ρ st ρ' st'∧Zkj w (Fix X ρ' w) (B0 ρ' w ai.ro) c v L M∧Zvd ρ' ai.sl L∧Z3f ρ' st' ai.mv M:=by
 unfold Z02 at hr
 split at hr
 ·rename_i b
  replace hr:(bif Zso ms then Zny b (st.ent b) else Zls ms b (st.ent b)).run st K=some r:=hr;cases hm:Zso ms with
  | true=>
   rw [hm] at hr;replace hr:(Zny b (st.ent b)).run st K=some r:=hr;have h0:=h.ents b;unfold Zny at hr;split at hr
   ·rename_i t xs he
    rw [he] at h0;obtain ⟨gb,cs,fr,hb,hh,hu,hxs⟩:=h0;have h2:=hv.2;rw [hb] at h2;rw [M.run_bind] at hr;obtain ⟨c,ns,hr1,hc⟩:=Zxeb h hxs (b:=gb) (o:=0) h2 (Zt9 hh) hr;refine ⟨_,_,ρ,st,[],[],hr1,h,Ext.refl _ _,rfl,Frz.refl _ _,hc [b] (.inr ⟨b,Yx _ (Yg.2 rfl),by rw [hb];rfl⟩),trivial,trivial⟩
   ·cases hr
  | false=>
   rw [hm] at hr;replace hr:(Zls ms b (st.ent b)).run st K=some r:=hr;obtain ⟨c,ai,ρ1,st1,L,M,hr1,h1,e1,n1,f1,v1,s1,m1⟩:=Zkeb h hv hr;refine ⟨_,_,ρ1,st1,L,M,hr1,h1,e1,n1,f1,?_,s1,m1⟩;have hne:c.1≠roT:=v1.2;unfold Zkj;rw [Xd hne];exact v1.1
 ·rename_i t x
  cases hm:Zso ms with
  | false=>rw [hm] at hr;cases hr
  | true=>
   rw [hm] at hr;replace hr:(Z8w ((Z2 t x).map Z3i)).run st K=some r:=hr;obtain ⟨gb,o,cs,h1,h2,h3,h4⟩:=hv;obtain ⟨c,ns,hr1,hc⟩:=Zxeb h (Z3t h4) (b:=gb) (o:=o) h1 h3 hr;have:=hc [] (.inl h2);rw [Yt] at this;exact ⟨_,_,ρ,st,[],[],hr1,h,Ext.refl _ _,rfl,Frz.refl _ _,this,trivial,trivial⟩
 ·cases hr
theorem Zl9:∀{mss:List (List LM)} {xs:List Leaf} {vs:List Value} {ρ:Rho} {st:St} {K:List (TypeId×List CL)×AI→St→Option R},Rel X ρ st a w→Zq X ρ w xs vs→(Zoy mss xs).run st K=some r →
  ∃c ai ρ' st' L M,K (c,ai) st'=some r∧Rel X ρ' st' a w∧Ext ρ w ρ' w∧st'.n=st.n∧Frz ρ st ρ' st'∧Zlj w (Fix X ρ' w) (B0 ρ' w ai.ro) c vs L M∧Zvd ρ' ai.sl L∧Z3f ρ' st' ai.mv M
 | [],[],[],ρ,st,K,h,_,hr=>⟨_,_,ρ,st,[],[],hr,h,Ext.refl _ _,rfl,Frz.refl _ _,⟨rfl,rfl⟩,trivial,trivial⟩
 | ms::mss,x::xs,v::vs,ρ,st,K,h,hx,hr=>by
  unfold Zoy at hr;rw [M.run_bind] at hr;obtain ⟨c1,ai1,ρ1,st1,L1,M1,hr1,h1,e1,n1,f1,v1,s1,m1⟩:=Zoib h hx.1 hr;rw [M.run_bind] at hr1;obtain ⟨c2,ai2,ρ2,st2,L2,M2,hr2,h2,e2,n2,f2,v2,s2,m2⟩:=Zl9 h1 (hx.2.ext e1) hr1;refine ⟨_,_,ρ2,st2,L1++L2,M1++M2,hr2,h2,e1.trans e2,n2.trans n1,f1.trans f2,?_,(s1.frz f2).append s2,(m1.frz f2).append m2⟩;exact Zlj.cons (Zkj.mono (fun b hb=>(e2.fix b hb).2) (fun b hb=>B0.left (B0.frz h1 e2 f2 hb)) v1) (Zlj.mono (fun b hb=>hb) (fun b hb=>B0.right hb) v2)
 | [],_::_,_,_,_,_,_,_,hr=>by cases hr
 | _::_,[],_,_,_,_,_,_,hr=>by cases hr
 | [],[],_::_,_,_,_,_,h,_=>h.elim
 | _::_,_::_,[],_,_,_,_,h,_=>h.elim
theorem Zn6 {K:CArg×AI→St→Option R} (h:Rel X ρ st a w) {xs:List Leaf} {cs:List Value} (hx:Zq X ρ w xs cs) (hr:(Zpu xs).run st K=some r):
  ∃ys ns,K (.rptr ys,⟨[],ns,[]⟩) st=some r∧Z4d w (Fix X ρ w) (B0 ρ w ns) ys cs:=by
 unfold Zpu at hr
 rw [M.run_bind] at hr
 obtain ⟨ys,hr1,hy⟩:=Zi6 h hx hr
 exact ⟨_,_,hr1,hy⟩
theorem Z0hb {K:CArg×AI→St→Option R} (h:Rel X ρ st a w) {m:PM} {x:AV} {v:Value} (hx:Z4 X ρ w x v) (hr:(Ze2 m x).run st K=some r):
  ∃c ai ρ' st' L M,K (c,ai) st'=some r∧Rel X ρ' st' a w∧Ext ρ w ρ' w∧st'.n=st.n∧Frz ρ st ρ' st'∧Z5n w (Fix X ρ' w) (B0 ρ' w ai.ro) c v L M∧Zvd ρ' ai.sl L∧Z3f ρ' st' ai.mv M:=by
 unfold Ze2 at hr
 split at hr
 ·rename_i ms y
  rw [M.run_bind] at hr;obtain ⟨c,ai,ρ1,st1,L,hr1,h1,e1,n1,f1,v1,s1,m1⟩:=Zw4 h (xs:=[y]) (vs:=[v]) ⟨hx,trivial⟩ hr;exact ⟨_,_,ρ1,st1,L,[],hr1,h1,e1,n1,f1,⟨rfl,v1⟩,s1,by show Z3f ρ1 st1 ai.mv [];rw [m1];trivial⟩
 ·rename_i ms ys
  obtain ⟨cs,hv,hxs⟩:=hx;rw [M.run_bind] at hr;obtain ⟨c,ai,ρ1,st1,L,hr1,h1,e1,n1,f1,v1,s1,m1⟩:=Zw4 h hxs hr;exact ⟨_,_,ρ1,st1,L,[],hr1,h1,e1,n1,f1,⟨rfl,cs,hv,v1⟩,s1,by show Z3f ρ1 st1 ai.mv [];rw [m1];trivial⟩
 ·rename_i b off
  replace hr:(match st.ent b with
   | .box _ xs=>(Zpu (xs.drop off)).bind fun a=>.ret (a.1,a.2.app ⟨[],[b],[]⟩)
   | _=>.fail:M (CArg×AI)).run st K=some r:=hr
  have h0:=h.ents b;split at hr
  ·rename_i t xs he
   rw [he] at h0;obtain ⟨gb,cs,fr,hb,hh,hu,hxs⟩:=h0;have h2:=hx.2;rw [hb] at h2;rw [M.run_bind] at hr;obtain ⟨ys,ns,hr1,hy⟩:=Zn6 h (hxs.drop off) hr;refine ⟨_,_,ρ,st,[],[],hr1,h,Ext.refl _ _,rfl,Frz.refl _ _,⟨rfl,rfl,gb,off,_,h2,.inr ⟨b,?_,by rw [hb];rfl⟩,?_,hy.mono (fun b hb=>hb) fun b hb=>hb.left⟩,trivial,trivial⟩
   ·exact Yx _ (Yg.2 rfl)
   ·intro i u hi
    rw [Yba] at hi;rw [cell_of_row w gb (off+i) cs t fr hh];simpa using hi
  ·cases hr
 ·rename_i xs
  obtain ⟨gb,off,cs,hv,hg,hc,hxs⟩:=hx;obtain ⟨ys,ns,hr1,hy⟩:=Zn6 h hxs hr;exact ⟨_,_,ρ,st,[],[],hr1,h,Ext.refl _ _,rfl,Frz.refl _ _,⟨rfl,rfl,gb,off,cs,hv,.inl hg,hc,hy⟩,trivial,trivial⟩
 ·rename_i t y
  obtain ⟨gb,off,cs,hv,hg,hc,hrep⟩:=hx;obtain ⟨ys,ns,hr1,hy⟩:=Zn6 h (Z3t hrep) hr;exact ⟨_,_,ρ,st,[],[],hr1,h,Ext.refl _ _,rfl,Frz.refl _ _,⟨rfl,rfl,gb,off,cs,hv,.inl hg,hc,hy⟩,trivial,trivial⟩
 ·rename_i ms b
  replace hr:((Zls ms b (st.ent b)).bind fun a=>M.ret (CArg.ref a.1.1 a.1.2,a.2)).run st K=some r:=hr;rw [M.run_bind] at hr;obtain ⟨c,ai,ρ1,st1,L,M,hr1,h1,e1,n1,f1,v1,s1,m1⟩:=Zkeb h hx hr;exact ⟨_,_,ρ1,st1,L,M,hr1,h1,e1,n1,f1,v1.1,s1,m1⟩
 ·rename_i f mss f' xs
  obtain ⟨cs,hv,hxs⟩:=hx;rw [M.run_bind] at hr;obtain ⟨c,ai,ρ1,st1,L,M,hr1,h1,e1,n1,f1,v1,s1,m1⟩:=Zl9 h hxs hr;exact ⟨_,_,ρ1,st1,L,M,hr1,h1,e1,n1,f1,⟨cs,hv,v1⟩,s1,m1⟩
 ·rename_i n
  replace hr:(match st.ent n with
   | .arr false t r l=>M.setb n .free (.ret (CArg.mv t r l,(⟨[],[],[n]⟩:AI)))
   | _=>.fail:M (CArg×AI)).run st K=some r:=hr
  have h0:=h.ents n;have hx:=hx.2;split at hr
  ·rename_i e t l he
   rw [he] at h0;obtain ⟨u,hu,h0⟩:=h0;rw [hu] at hx;obtain rfl:v=u:=hx;refine ⟨_,_,ρ,st.setB n .free,[],[v],hr,h.hide n,Ext.refl _ _,rfl,⟨fun i=>.inl rfl,rfl,?_,?_⟩,⟨rfl,rfl,h0⟩,trivial,⟨hu,by rw [Zkg,Xc rfl],trivial⟩⟩
   ·intro i t xs hi
    rw [Zkg,Xd (fun e=>by subst e;rw [he] at hi;cases hi)];exact hi
   ·intro i hi
    refine ⟨?_,rfl⟩;rw [Zkg];split
    ·rfl
    ·exact hi
  ·cases hr
 ·rename_i ms y
  rw [M.run_bind] at hr;obtain ⟨c,ai,ρ1,st1,M,hr1,h1,e1,n1,f1,v1,s1,m1⟩:=Zsz h (xs:=[y]) (vs:=[v]) ⟨hx,trivial⟩ hr;exact ⟨_,_,ρ1,st1,[],M,hr1,h1,e1,n1,f1,⟨rfl,v1⟩,by show Zvd ρ1 ai.sl [];rw [m1];trivial,s1⟩
 ·rename_i ms ys
  obtain ⟨cs,hv,hxs⟩:=hx;rw [M.run_bind] at hr;obtain ⟨c,ai,ρ1,st1,M,hr1,h1,e1,n1,f1,v1,s1,m1⟩:=Zsz h hxs hr;exact ⟨_,_,ρ1,st1,[],M,hr1,h1,e1,n1,f1,⟨rfl,cs,hv,v1⟩,by show Zvd ρ1 ai.sl [];rw [m1];trivial,s1⟩
 ·cases hr
theorem Zx8:∀{ms:List PM} {xs:List AV} {vs:List Value} {ρ:Rho} {st:St} {K:List CArg×AI→St→Option R},Rel X ρ st a w→Zni X ρ w xs vs→(Zcy ms xs).run st K=some r →
  ∃c ai ρ' st' L M,K (c,ai) st'=some r∧Rel X ρ' st' a w∧Ext ρ w ρ' w∧st'.n=st.n∧Frz ρ st ρ' st'∧Zth w (Fix X ρ' w) (B0 ρ' w ai.ro) c vs L M∧Zvd ρ' ai.sl L∧Z3f ρ' st' ai.mv M
 | [],[],[],ρ,st,K,h,_,hr=>⟨_,_,ρ,st,[],[],hr,h,Ext.refl _ _,rfl,Frz.refl _ _,⟨rfl,rfl⟩,trivial,trivial⟩
 | m::ms,x::xs,v::vs,ρ,st,K,h,hx,hr=>by
  unfold Zcy at hr;rw [M.run_bind] at hr;obtain ⟨c1,ai1,ρ1,st1,L1,M1,hr1,h1,e1,n1,f1,v1,s1,m1⟩:=Z0hb h hx.1 hr;rw [M.run_bind] at hr1;obtain ⟨c2,ai2,ρ2,st2,L2,M2,hr2,h2,e2,n2,f2,v2,s2,m2⟩:=Zx8 h1 (hx.2.ext e1) hr1;refine ⟨_,_,ρ2,st2,L1++L2,M1++M2,hr2,h2,e1.trans e2,n2.trans n1,f1.trans f2,⟨L1,L2,M1,M2,rfl,rfl,?_,?_⟩,(s1.frz f2).append s2,(m1.frz f2).append m2⟩
  ·exact v1.mono (fun b hb=>(e2.fix b hb).2) (fun b hb=>B0.left (B0.frz h1 e2 f2 hb))
  ·exact v2.mono (fun b hb=>hb) (fun b hb=>B0.right hb)
 | [],_::_,_,_,_,_,_,_,hr=>by cases hr
 | _::_,[],_,_,_,_,_,_,hr=>by cases hr
 | _,[],_::_,_,_,_,_,h,_=>h.elim
 | _,_::_,[],_,_,_,_,h,_=>h.elim
end
structure RelC (X:Nat→Prop) (ρ:Rho) (st:St) (a:Act) (w:World):Prop where
 defers:a.defers=[]
 size:a.tmps.size=st.n
 sep:∀i j b,owns (ρ i) b→owns (ρ j) b→i=j
 lt:∀i b,owns (ρ i) b→b<w.heap.size∧¬X b
 ents:∀i,Zid X ρ w (st.ent i) (ρ i)
 tmps:∀i,Z4 X ρ w (Zz .unk st.tmps i) (Z1 a i)
 gs:∀i t b x,(i,t,b,x)∈st.gs→Zxl X ρ w (Z1 a) t b x (Z1 a i)
 xlt:∀b,X b→b<w.heap.size
 gl:Glo ρ w
structure Agree (bs:List Nat) (st sth:St):Prop where
 n:st.n=sth.n
 tmps:st.tmps=sth.tmps
 gs:st.gs=sth.gs
 nb:st.nb=sth.nb
 ent:∀i,i∉bs→st.ent i=sth.ent i
structure Grow (st st2:St) (k:Nat):Prop where
 nb:st2.nb=st.nb+k
 lim:k=0∨st.nb+k≤st.lim
 lim2:st2.lim=st.lim
 res:st2.res=st.res
 n:st2.n=st.n
theorem Grow.refl (st:St):Grow st st 0:=⟨rfl,.inl rfl,rfl,rfl,rfl⟩
theorem Grow.trans {st st1 st2:St} {j k:Nat} (h:Grow st st1 j) (g:Grow st1 st2 k):Grow st st2 (j+k):=by
 refine ⟨?_,?_,g.lim2.trans h.lim2,g.res.trans h.res,g.n.trans h.n⟩
 ·rw [g.nb,h.nb,Yz]
 ·rcases g.lim with k0 | k1
  ·rcases h.lim with j0 | j1
   ·exact .inl (by omega)
   ·exact .inr (by omega)
  ·rw [h.nb,h.lim2] at k1
   exact .inr (by omega)
def Zbi (ρ:Rho) (n:Nat) (O:List Conc):Prop:=∀(j:Nat) (c:Conc),O[j]? = some c→ρ (n+j)=some c
theorem Zbi.left {ρ:Rho} {n:Nat} {O1 O2:List Conc} (h:Zbi ρ n (O1++O2)):Zbi ρ n O1:=fun j u hj=>h j u (by rw [List.getElem?_append_left (Yca.1 hj).1];exact hj)
theorem Zbi.right {ρ:Rho} {n:Nat} {O1 O2:List Conc} (h:Zbi ρ n (O1++O2)):Zbi ρ (n+O1.length) O2:=fun j u hj=>by
 have:=h (O1.length+j) u (by rw [List.getElem?_append_right (by omega)];simpa using hj)
 rwa [← Yz] at this
def SlR (ρ:Rho):List RS→List GI→Prop
 | [],[]=>True
 | .box n::sl,.blk g::L=>ρ n=some (.blk g)∧SlR ρ sl L
 | .row n::sl,.row v::L=>ρ n=some (.row v)∧SlR ρ sl L
 | .no::sl,.no::L=>SlR ρ sl L
 | _,_=>False
section
variable {P:Program} {o:Oper} {X:Nat→Prop} {ρ ρ':Rho} {st st' sth:St} {a:Act} {w w':World} {R:Type} {r:R} {C:Ctx} {F F' B B':Nat→Prop} {bs:List Nat}
theorem RelC.rel (h:RelC X ρ st a w) (f:Zzk ρ st):Rel X ρ st a w:=⟨h.defers,h.size,h.sep,h.lt,h.ents,h.tmps,h.gs,f,h.xlt,h.gl⟩
theorem RelC.new (h:RelC X ρ sth a w) {e:Ent} (he:Zid X ρ w e (ρ sth.nb)):RelC X ρ (sth.newB e) a w:=by
 refine ⟨h.defers,h.size,h.sep,h.lt,fun i=>?_,h.tmps,h.gs,h.xlt,h.gl⟩
 rw [Zck]
 split
 ·rename_i hi;rw [← hi];exact he
 ·exact h.ents i
theorem RelC.set (h:RelC X ρ sth a w) {n:Nat} {e:Ent} (he:Zid X ρ w e (ρ n)):RelC X ρ (sth.setB n e) a w:=by
 refine ⟨h.defers,h.size,h.sep,h.lt,fun i=>?_,h.tmps,h.gs,h.xlt,h.gl⟩
 rw [Zkg]
 split
 ·rename_i hi;rw [← hi];exact he
 ·exact h.ents i
theorem Agree.new (h:Agree bs st sth) (e:Ent):Agree bs (st.newB e) (sth.newB e):=by
 refine ⟨h.n,h.tmps,h.gs,congrArg (· + 1) h.nb,fun i hi=>?_⟩
 rw [Zck,Zck,h.nb,h.ent i hi]
theorem Agree.set {b:Nat} (h:Agree (b::bs) st sth) (e:Ent):Agree bs (st.setB b e) (sth.setB b e):=by
 refine ⟨h.n,h.tmps,h.gs,h.nb,fun i hi=>?_⟩
 rw [Zkg,Zkg]
 by_cases hb:b=i
 ·rw [Xc hb,Xc hb]
 ·rw [Xd hb,Xd hb]
  exact h.ent i (fun hm=>by
   rcases Yi.1 hm with k | k
   ·exact hb k.symm
   ·exact hi k)
theorem Agree.relC (h:Agree [] st sth) (k:RelC X ρ sth a w):RelC X ρ st a w:=by
 refine ⟨k.defers,by rw [h.n];exact k.size,k.sep,k.lt,fun i=>?_,by rw [h.tmps];exact k.tmps,by rw [h.gs];exact k.gs,k.xlt,k.gl⟩
 rw [h.ent i (by simp)]
 exact k.ents i
theorem Zueb {z:Bool} {e:TypeId} {t:Ty} {v:Value} {l:List t.T} (h:Zac w F z e t v l):Z31 v:=h.form
theorem Z9t:∀{xs:List RL} {vs:List Value} {O:List Conc} {st:St} {K:List Leaf→St→Option R},Zaf w F xs vs O→(M.mapL Z8t xs).run st K=some r →
  ∃ys st2,K ys st2=some r∧Grow st st2 O.length∧∀(X:Nat→Prop) (ρ:Rho) (a:Act) (sth:St) (bs:List Nat),RelC X ρ sth a w→Agree bs st sth→(∀b,F b→Fix X ρ w b)→Zbi ρ st.nb O →
   ∃sth2,RelC X ρ sth2 a w∧Agree bs st2 sth2∧Zq X ρ w ys vs
 | [],[],O,st,K,h,hr=>by
  obtain rfl:O=[]:=h;exact ⟨[],st,hr,Grow.refl st,fun X ρ a sth bs h1 h2 _ _=>⟨sth,h1,h2,trivial⟩⟩
 | .leaf x::xs,v::vs,O,st,K,h,hr=>by
  obtain ⟨h1,h2⟩:=h;unfold M.mapL at hr;rw [M.run_bind] at hr;replace hr:((M.mapL Z8t xs).bind fun ys=>M.ret (x::ys)).run st K=some r:=hr;rw [M.run_bind] at hr;obtain ⟨ys,st2,hr2,g2,k2⟩:=Z9t h2 hr;refine ⟨x::ys,st2,hr2,g2,fun X ρ a sth bs c1 c2 c3 c4=>?_⟩;obtain ⟨sth2,d1,d2,d3⟩:=k2 X ρ a sth bs c1 c2 c3 c4;exact ⟨sth2,d1,d2,Zqcb (h1.mono c3 fun b hb=>hb),d3⟩
 | .own e t l::xs,v::vs,c::O,st,K,h,hr=>by
  obtain ⟨rfl,h1,h2⟩:=h;unfold M.mapL at hr;rw [M.run_bind] at hr;obtain ⟨hlt,hr1⟩:=Zvj hr;replace hr1:((M.mapL Z8t xs).bind fun ys=>M.ret (Leaf.own st.nb::ys)).run (st.newB (.arr false e t l)) K=some r:=hr1;rw [M.run_bind] at hr1;obtain ⟨ys,st2,hr2,g2,k2⟩:=Z9t h2 hr1;have g1:Grow st (st.newB (.arr false e t l)) 1:=⟨rfl,.inr hlt,rfl,rfl,rfl⟩;refine ⟨.own st.nb::ys,st2,hr2,?_,fun X ρ a sth bs c1 c2 c3 c4=>?_⟩
  ·have:=g1.trans g2
   rwa [Y1] at this
  ·have hc:ρ st.nb=some (.row v):=c4 0 _ rfl
   have he:Zid X ρ w (.arr false e t l) (ρ sth.nb):=by
    rw [← c2.nb,hc];exact ⟨v,rfl,h1.mono c3⟩
   obtain ⟨sth2,d1,d2,d3⟩:=k2 X ρ a (sth.newB (.arr false e t l)) bs (c1.new he) (c2.new _) c3 (fun j u hj=>by
    have:=c4 (j+1) u hj
    rwa [show st.nb+(j+1)=st.nb+1+j by omega] at this)
   exact ⟨sth2,d1,d2,⟨Zueb h1,by rw [hc]⟩,d3⟩
 | .own _ _ _::_,_::_,[],_,_,h,_=>h.elim
 | [],_::_,_,_,_,h,_=>h.elim
 | .leaf _::_,[],_,_,_,h,_=>h.elim
 | .own _ _ _::_,[],_,_,_,h,_=>h.elim
theorem Ziu:∀{sl:List RS} {rs:List RF} {L:List GI} {O:List Conc} {st:St} {K:Unit→St→Option R},Z1i w F L rs O→(Zdm sl rs).run st K=some r →
  ∃st2,K () st2=some r∧Grow st st2 O.length∧∀(X:Nat→Prop) (ρ:Rho) (a:Act) (sth:St) (bs:List Nat),RelC X ρ sth a w→Agree (RS.ids sl++bs) st sth→(∀b,F b→Fix X ρ w b)→SlR ρ sl L→Zbi ρ st.nb O →
   ∃sth2,RelC X ρ sth2 a w∧Agree bs st2 sth2
 | [],[],[],O,st,K,h,hr=>by
  obtain rfl:O=[]:=h;exact ⟨st,hr,Grow.refl st,fun X ρ a sth bs h1 h2 _ _ _=>⟨sth,h1,h2⟩⟩
 | .box b::sl,.box t xs::rs,.blk gb::L,O,st,K,h,hr=>by
  obtain ⟨O1,O2,cs,fr,rfl,hh,hu,hx,hrest⟩:=h;unfold Zdm at hr;rw [M.run_bind] at hr;obtain ⟨ys,st1,hr1,g1,k1⟩:=Z9t hx hr;replace hr1:(Zdm sl rs).run (st1.setB b (.box t ys)) K=some r:=hr1;obtain ⟨st2,hr2,g2,k2⟩:=Ziu hrest hr1;have g1':Grow st (st1.setB b (.box t ys)) O1.length:=⟨g1.nb,g1.lim,g1.lim2,g1.res,g1.n⟩;refine ⟨st2,hr2,by rw [Yv];exact g1'.trans g2,fun X ρ a sth bs c1 c2 c3 c4 c5=>?_⟩;obtain ⟨sth1,d1,d2,d3⟩:=k1 X ρ a sth _ c1 c2 c3 c5.left;refine k2 X ρ a (sth1.setB b (.box t ys)) bs (d1.set ⟨gb,cs,fr,c4.1,hh,hu,d3⟩) (Agree.set (bs:=RS.ids sl++bs) d2 _) c3 c4.2 ?_;have:=c5.right
  rwa [← g1.nb] at this
 | .row n::sl,.row e t l::rs,.row v::L,O,st,K,h,hr=>by
  obtain ⟨h1,h2⟩:=h;replace hr:(Zdm sl rs).run (st.setB n (.arr false e t l)) K=some r:=hr;obtain ⟨st2,hr2,g2,k2⟩:=Ziu h2 hr;refine ⟨st2,hr2,⟨g2.nb,g2.lim,g2.lim2,g2.res,g2.n⟩,fun X ρ a sth bs c1 c2 c3 c4 c5=>?_⟩;exact k2 X ρ a (sth.setB n (.arr false e t l)) bs (c1.set ⟨v,c4.1,h1.mono c3⟩) (Agree.set (bs:=RS.ids sl++bs) c2 _) c3 c4.2 c5
 | .row n::sl,.row e t l::rs,.no::L,O,st,K,h,hr=>by
  replace hr:(Zdm sl rs).run (st.setB n (.arr false e t l)) K=some r:=hr;obtain ⟨st2,hr2,g2,k2⟩:=Ziu (L:=L) h hr;exact ⟨st2,hr2,⟨g2.nb,g2.lim,g2.lim2,g2.res,g2.n⟩,fun X ρ a sth bs c1 c2 c3 c4 c5=>c4.elim⟩
 | .no::sl,.row e t l::rs,.no::L,O,st,K,h,hr=>by
  obtain ⟨st2,hr2,g2,k2⟩:=Ziu (sl:=sl) (rs:=rs) (L:=L) h hr;exact ⟨st2,hr2,g2,fun X ρ a sth bs c1 c2 c3 c4 c5=>k2 X ρ a sth bs c1 c2 c3 c4 c5⟩
 | .no::sl,.row e t l::rs,.row v::L,O,st,K,h,hr=>by
  obtain ⟨st2,hr2,g2,k2⟩:=Ziu (sl:=sl) (rs:=rs) (L:=L) h.2 hr;exact ⟨st2,hr2,g2,fun X ρ a sth bs c1 c2 c3 c4 c5=>c4.elim⟩
 | .box _::_,.row _ _ _::_,_,_,_,_,_,hr=>by cases hr
 | .row _::_,.box _ _::_,_,_,_,_,_,hr=>by cases hr
 | .no::_,.box _ _::_,_,_,_,_,_,hr=>by cases hr
 | [],_::_,_,_,_,_,_,hr=>by cases hr
 | .box _::_,[],_,_,_,_,_,hr=>by cases hr
 | .row _::_,[],_,_,_,_,_,hr=>by cases hr
 | .no::_,[],_,_,_,_,_,hr=>by cases hr
 | [],[],.blk _::_,_,_,_,h,_=>h.elim
 | [],[],.row _::_,_,_,_,h,_=>h.elim
 | [],[],.no::_,_,_,_,h,_=>h.elim
theorem Z6ob {p:RC} {v:Value} {O:List Conc} {st:St} {K:Bool×List Leaf→St→Option R} (h:Zvm w F p v O) (hr:(Z4w p).run st K=some r):
  ∃y st2,K y st2=some r∧Grow st st2 O.length∧∀(X:Nat→Prop) (ρ:Rho) (a:Act) (sth:St) (bs:List Nat),RelC X ρ sth a w→Agree bs st sth→(∀b,F b→Fix X ρ w b)→Zbi ρ st.nb O →
   ∃sth2,RelC X ρ sth2 a w∧Agree bs st2 sth2∧Ztm X ρ w y v:=by
 cases p with
 | val ag xs=>
  unfold Z4w at hr;rw [M.run_bind] at hr;cases ag with
  | false=>
   obtain ⟨ys,st1,hr1,g1,k1⟩:=Z9t (vs:=[v]) h hr;exact ⟨_,st1,hr1,g1,fun X ρ a sth bs c1 c2 c3 c4=>k1 X ρ a sth bs c1 c2 c3 c4⟩
  | true=>
   obtain ⟨cs,rfl,h⟩:=h;obtain ⟨ys,st1,hr1,g1,k1⟩:=Z9t h hr;refine ⟨_,st1,hr1,g1,fun X ρ a sth bs c1 c2 c3 c4=>?_⟩;obtain ⟨sth2,d1,d2,d3⟩:=k1 X ρ a sth bs c1 c2 c3 c4;exact ⟨sth2,d1,d2,cs,rfl,d3⟩
 | box t xs=>
  obtain ⟨gb,cs,fr,O1,rfl,rfl,hh,hu,hx⟩:=h;unfold Z4w at hr;rw [M.run_bind] at hr;obtain ⟨ys,st1,hr1,g1,k1⟩:=Z9t hx hr;obtain ⟨hlt,hr2⟩:=Zvj hr1;have g2:Grow st1 (st1.newB (.box t ys)) 1:=⟨rfl,.inr hlt,rfl,rfl,rfl⟩;refine ⟨_,_,hr2,?_,fun X ρ a sth bs c1 c2 c3 c4=>?_⟩
  ·rw [Yv]
   exact g1.trans g2
  ·obtain ⟨sth1,d1,d2,d3⟩:=k1 X ρ a sth bs c1 c2 c3 c4.left
   have hc:ρ st1.nb=some (.blk gb):=by
    have:=c4.right 0 _ rfl
    rwa [← g1.nb] at this
   refine ⟨sth1.newB (.box t ys),d1.new (by rw [← d2.nb,hc];exact ⟨gb,cs,fr,rfl,hh,hu,d3⟩),d2.new _,?_⟩;exact ⟨⟨⟨_,rfl⟩,by rw [hc]⟩,trivial⟩
theorem Zg6:∀{ps:List RC} {vs:List Value} {O:List Conc} {st:St} {K:List (Bool×List Leaf)→St→Option R},Zzl w F ps vs O→(M.mapL Z4w ps).run st K=some r →
  ∃ys st2,K ys st2=some r∧ys.length=ps.length∧Grow st st2 O.length∧∀(X:Nat→Prop) (ρ:Rho) (a:Act) (sth:St) (bs:List Nat),RelC X ρ sth a w→Agree bs st sth→(∀b,F b→Fix X ρ w b)→Zbi ρ st.nb O →
   ∃sth2,RelC X ρ sth2 a w∧Agree bs st2 sth2∧Zwl X ρ w ys vs
 | [],[],O,st,K,h,hr=>by
  obtain rfl:O=[]:=h;exact ⟨[],st,hr,rfl,Grow.refl st,fun X ρ a sth bs h1 h2 _ _=>⟨sth,h1,h2,trivial⟩⟩
 | p::ps,v::vs,O,st,K,h,hr=>by
  obtain ⟨O1,O2,rfl,h1,h2⟩:=h;unfold M.mapL at hr;rw [M.run_bind] at hr;obtain ⟨y,st1,hr1,g1,k1⟩:=Z6ob h1 hr;rw [M.run_bind] at hr1;obtain ⟨ys,st2,hr2,hl,g2,k2⟩:=Zg6 h2 hr1;refine ⟨y::ys,st2,hr2,congrArg (· + 1) hl,by rw [Yv];exact g1.trans g2,fun X ρ a sth bs c1 c2 c3 c4=>?_⟩;obtain ⟨sth1,d1,d2,d3⟩:=k1 X ρ a sth bs c1 c2 c3 c4.left;have c5:=c4.right;rw [← g1.nb] at c5;obtain ⟨sth2,e1,e2,e3⟩:=k2 X ρ a sth1 bs d1 d2 c3 c5;exact ⟨sth2,e1,e2,d3,e3⟩
 | [],_::_,_,_,_,h,_=>h.elim
 | _::_,[],_,_,_,h,_=>h.elim
theorem Z7ob {rs:List RC} {v:Value} {O:List Conc} {st:St} {K:AV→St→Option R} (h:Znu w F rs v O) (hr:(Z5w rs).run st K=some r):
  ∃y st2,K y st2=some r∧Grow st st2 O.length∧∀(X:Nat→Prop) (ρ:Rho) (a:Act) (sth:St) (bs:List Nat),RelC X ρ sth a w→Agree bs st sth→(∀b,F b→Fix X ρ w b)→Zbi ρ st.nb O →
   ∃sth2,RelC X ρ sth2 a w∧Agree bs st2 sth2∧Z4 X ρ w y v:=by
 unfold Z5w at hr
 rw [M.run_bind] at hr
 unfold Znu at h
 split at h
 ·rename_i p
  obtain ⟨ys,st2,hr2,hl,g2,k2⟩:=Zg6 (ps:=[p]) (vs:=[v]) (O:=O) ⟨O,[],by simp,h,rfl⟩ hr
  match ys,hl with
  | [q],_=>
   refine ⟨_,st2,hr2,g2,fun X ρ a sth bs c1 c2 c3 c4=>?_⟩;obtain ⟨sth2,d1,d2,d3⟩:=k2 X ρ a sth bs c1 c2 c3 c4;exact ⟨sth2,d1,d2,Z2z d3.1⟩
 ·rename_i hne
  obtain ⟨vs,rfl,h⟩:=h;obtain ⟨ys,st2,hr2,hl,g2,k2⟩:=Zg6 h hr;refine ⟨_,st2,hr2,g2,fun X ρ a sth bs c1 c2 c3 c4=>?_⟩;obtain ⟨sth2,d1,d2,d3⟩:=k2 X ρ a sth bs c1 c2 c3 c4;refine ⟨sth2,d1,d2,?_⟩;unfold Zmeb;split
  ·rename_i b xs
   exfalso
   match rs,hl with
   | [p],_=>exact hne p rfl
  ·exact ⟨vs,rfl,d3⟩
end
section
variable {P:Program} {o:Oper} {X:Nat→Prop} {ρ ρ':Rho} {st st' sth:St} {a:Act} {w w':World} {g:Option (Nat×Bool)} {R:Type} {r:R} {K:AV→St→Option R} {C:Ctx}
theorem Zpw:∀{bs:List Nat},Z9l bs=true→bs.Nodup
 | [],_=>Yfa
 | b::bs,h=>by
  unfold Z9l at h;obtain ⟨h1,h2⟩:=(Yc _ _).mp h;refine Yp.2 ⟨fun hb=>?_,Zpw h2⟩;have:(bs.any (Ya b))=true:=Y6.2 ⟨b,hb,Yia b⟩;rw [this] at h1;cases h1
theorem Zxy {xs ys:List Nat} (h:Zit xs ys=true):∀n,n∈xs→n∈ys→False:=by
 intro n hx hy
 have h1:=List.all_eq_true.1 h n hx
 have h2:(ys.any (Ya n))=true:=Y6.2 ⟨n,hy,Yia n⟩
 rw [h2] at h1
 cases h1
theorem Zcbb {α:Type} {f:α→Option Nat}:∀{O:List α} {p q:Nat} {u u':α} {b:Nat},(O.filterMap f).Nodup→O[p]? = some u→f u=some b→O[q]? = some u'→f u'=some b→p=q
 | [],p,_,_,_,_,_,h,_,_,_=>by simp at h
 | y::O,p,q,u,u',b,hn,hp,hu,hq,hu'=>by
  have tail:(O.filterMap f).Nodup:=by
   cases hy:f y with
   | none=>rwa [Yn hy] at hn
   | some c=>rw [Yj hy] at hn;exact (Yp.1 hn).2
  have notin:∀(k:Nat) (z:α),O[k]? = some z→f z=some b→f y≠some b:=fun k z hk hz hy=>by
   rw [Yj hy] at hn;exact (Yp.1 hn).1 (Ye.2 ⟨z,Yl hk,hz⟩)
  cases p with
  | zero=>
   cases hp;cases q with
   | zero=>rfl
   | succ q=>exact absurd hu (notin q u' hq hu')
  | succ p=>
   cases q with
   | zero=>
    cases hq;exact absurd hu' (notin p u hp hu)
   | succ q=>rw [Zcbb tail (p:=p) (q:=q) hp hu hq hu']
theorem SlR.congr:∀{sl:List RS} {L:List GI},SlR ρ sl L→(∀n∈RS.ids sl,ρ' n=ρ n)→SlR ρ' sl L
 | [],[],_,_=>trivial
 | .box n::sl,.blk _::_,h,k=>⟨(k n Yd).trans h.1,SlR.congr (sl:=sl) h.2 fun c hc=>k c (Yb _ hc)⟩
 | .row n::sl,.row _::_,h,k=>⟨(k n Yd).trans h.1,SlR.congr (sl:=sl) h.2 fun c hc=>k c (Yb _ hc)⟩
 | .no::sl,.no::L,h,k=>SlR.congr (sl:=sl) (L:=L) h k
theorem SlR.mem:∀{sl:List RS} {L:List GI},SlR ρ sl L→(∀n∈RS.ids sl,∃c,ρ n=some c)∧∀b∈GI.blocks L,∃n∈RS.ids sl,owns (ρ n) b
 | [],[],_=>⟨(fun _ h=>nomatch h),fun _ h=>nomatch h⟩
 | .box n::sl,.blk g::L,h=>by
  obtain ⟨h1,h3⟩:=h;obtain ⟨i1,i2⟩:=SlR.mem h3;refine ⟨fun c hc=>?_,fun b hb=>?_⟩
  ·rcases Yi.1 hc with rfl | hc
   ·exact ⟨_,h1⟩
   ·exact i1 c hc
  ·rcases Yi.1 hb with rfl | hb
   ·exact ⟨n,Yd,by rw [h1];rfl⟩
   ·obtain ⟨k,hk,e⟩:=i2 b hb
    exact ⟨k,Yb _ hk,e⟩
 | .row n::sl,.row v::L,h=>by
  obtain ⟨h1,h3⟩:=h;obtain ⟨i1,i2⟩:=SlR.mem h3;refine ⟨fun c hc=>?_,fun b hb=>?_⟩
  ·rcases Yi.1 hc with rfl | hc
   ·exact ⟨_,h1⟩
   ·exact i1 c hc
  ·rcases Yw.1 hb with hb | hb
   ·exact ⟨n,Yd,by rw [h1];exact Option.mem_toList.1 hb⟩
   ·obtain ⟨k,hk,e⟩:=i2 b hb
    exact ⟨k,Yb _ hk,e⟩
 | .no::sl,.no::L,h=>SlR.mem (sl:=sl) (L:=L) h
theorem Z3f.mem:∀{ns:List Nat} {M:List Value},Z3f ρ st ns M→(∀n∈ns,(∃v,ρ n=some (.row v))∧st.ent n = .free)∧∀b∈Zxb M,∃n∈ns,owns (ρ n) b
 | [],[],_=>⟨(fun _ h=>nomatch h),fun _ h=>nomatch h⟩
 | n::ns,v::M,h=>by
  obtain ⟨h1,h2,h3⟩:=h;obtain ⟨i1,i2⟩:=Z3f.mem h3;refine ⟨fun c hc=>?_,fun b hb=>?_⟩
  ·rcases Yi.1 hc with rfl | hc
   ·exact ⟨⟨_,h1⟩,h2⟩
   ·exact i1 c hc
  ·obtain ⟨u,hu,hub⟩:=Ye.1 hb
   rcases Yi.1 hu with rfl | hu
   ·exact ⟨n,Yd,by rw [h1];exact hub⟩
   ·obtain ⟨k,hk,e⟩:=i2 b (Ye.2 ⟨u,hu,hub⟩)
    exact ⟨k,Yb _ hk,e⟩
def Zbn:List Nat→St→St
 | [],st=>st
 | n::ns,st=>Zbn ns (st.setB n .free)
theorem Zubb:∀(ns:List Nat) (st:St),(Zbn ns st).n=st.n∧(Zbn ns st).tmps=st.tmps∧(Zbn ns st).gs=st.gs∧(Zbn ns st).nb=st.nb∧∀i,(Zbn ns st).ent i=if i∈ns then .free else st.ent i
 | [],st=>⟨rfl,rfl,rfl,rfl,fun i=>by simp [Zbn]⟩
 | n::ns,st=>by
  obtain ⟨h1,h2,h3,h4,h5⟩:=Zubb ns (st.setB n .free);refine ⟨h1,h2,h3,h4,fun i=>?_⟩;show (Zbn ns (st.setB n .free)).ent i=_;rw [h5,Zkg]
  by_cases hi:i∈ns
  ·rw [Xc hi,Xc (Yb _ hi)]
  ·rw [Xd hi]
   by_cases hn:n=i
   ·rw [Xc hn,Xc (by rw [hn];exact Yd)]
   ·rw [Xd hn,Xd (fun hm=>by
     rcases Yi.1 hm with k | k
     ·exact hn k.symm
     ·exact hi k)]
theorem Znib (h:Rel X ρ st a w) {sl:List RS} {mv:List Nat} {L:List GI} {N:List Value} (hs:SlR ρ sl L) (hm:Z3f ρ st mv N) (hnd:(RS.ids sl++mv).Nodup) {rr:RR} {v:Value} (ans:Z1x rr (Fix X ρ w) L N w v w')
  (hr:((Zdm sl rr.refs).bind fun _=>Z5w rr.res).run st K=some r):
  ∃av ρ' st',K av st'=some r∧Rel X ρ' st' a w'∧Ext ρ w ρ' w'∧st'.n=st.n∧Z4 X ρ' w' av v:=by
 obtain ⟨⟨k1,k2,k3,k4,k5⟩,O1,O2,hO,hnO,hrefs,hret⟩:=ans
 rw [M.run_bind] at hr
 obtain ⟨st2,hr2,g1,p1⟩:=Ziu hrefs hr
 obtain ⟨av,st3,hr3,g2,p2⟩:=Z7ob hret hr2
 have gg:=g1.trans g2
 rw [← Yv] at gg
 generalize hOO:O1++O2=O at *
 let ρ':Rho:=fun i=>if st.nb≤i∧i<st.nb+O.length then O[i-st.nb]? else if i∈mv then (ρ i).map (fun _=>.dead) else ρ i
 have r1:∀i,(st.nb≤i∧i<st.nb+O.length)→ρ' i=O[i-st.nb]? :=fun i hi=>Xc hi
 have r2:∀i,¬(st.nb≤i∧i<st.nb+O.length)→i∈mv→ρ' i=(ρ i).map (fun _=>.dead):=fun i hi hm=>by
  show (if _ then _ else if _ then _ else _)=_;rw [Xd hi,Xc hm]
 have r3:∀i,¬(st.nb≤i∧i<st.nb+O.length)→i∉mv→ρ' i=ρ i:=fun i hi hm=>by
  show (if _ then _ else if _ then _ else _)=_;rw [Xd hi,Xd hm]
 have non:∀i,(st.nb≤i∧i<st.nb+O.length)→ρ i=none:=fun i hi=>by
  rcases gg.lim with k | k
  ·omega
  ·exact h.fresh.1 i (.inl ⟨hi.1,by omega⟩)
 have old:∀i c,ρ i=some c→¬(st.nb≤i∧i<st.nb+O.length):=fun i c hc hi=>by rw [non i hi] at hc;cases hc
 obtain ⟨s1,s2⟩:=hs.mem
 obtain ⟨m1,m2⟩:=hm.mem
 have dis:∀n,n∈RS.ids sl→n∉mv:=fun n h1 h2=>(List.nodup_append.1 hnd).2.2 n h1 n h2 rfl
 have ownO:∀i b,(st.nb≤i∧i<st.nb+O.length)→owns (ρ' i) b→∃c,O[i-st.nb]? = some c∧cb c=some b:=fun i b hi hb=>by
  rw [r1 i hi] at hb;cases hu:O[i-st.nb]? with
  | none=>rw [hu] at hb;exact hb.elim
  | some c=>rw [hu] at hb;exact ⟨c,rfl,Zct.2 hb⟩
 have ownR:∀i b,¬(st.nb≤i∧i<st.nb+O.length)→owns (ρ' i) b→i∉mv∧owns (ρ i) b:=fun i b hi hb=>by
  by_cases hmv:i∈mv
  ·rw [r2 i hi hmv] at hb
   cases hc:ρ i with
   | none=>rw [hc] at hb;exact hb.elim
   | some c=>rw [hc] at hb;exact hb.elim
  ·rw [r3 i hi hmv] at hb
   exact ⟨hmv,hb⟩
 have x:Ext ρ w ρ' w':=by
  refine ⟨k1,k2,k3,k4,?_,?_,?_⟩
  ·intro b hb hn
   refine k5 b hb fun hg=>?_
   rcases Yw.1 hg with hg | hg
   ·obtain ⟨n,_,hc⟩:=s2 b hg
    exact hn n hc
   ·obtain ⟨n,_,hc⟩:=m2 b hg
    exact hn n hc
  ·intro i b hi
   by_cases hrg:st.nb≤i∧i<st.nb+O.length
   ·obtain ⟨c,hc,hcb⟩:=ownO i b hrg hi
    rcases (hO c (Yl hc) b hcb).1 with q | q
    ·obtain ⟨n,_,hn⟩:=m2 b q
     exact .inl ⟨n,hn⟩
    ·exact .inr q
   ·exact .inl ⟨i,(ownR i b hrg hi).2⟩
  ·intro i c hc
   by_cases hmv:i∈mv
   ·rw [r2 i (old i c hc) hmv,hc];exact .inr (.inl rfl)
   ·rw [r3 i (old i c hc) hmv];exact .inl hc
 have hF:∀b,Out (Fix X ρ w) (Zxb N) w w' O b→Fix X ρ' w' b:=by
  rintro b ⟨h1,h2,h3⟩;refine ⟨h1,fun hx=>?_,fun i hi=>?_⟩
  ·rcases h2 with h2 | h2 | h2
   ·exact h2.2.1 hx
   ·obtain ⟨n,_,hn⟩:=m2 b h2
    exact (h.lt n b hn).2 hx
   ·have:=h.xlt b hx;omega
  ·by_cases hrg:st.nb≤i∧i<st.nb+O.length
   ·obtain ⟨c,hc,hcb⟩:=ownO i b hrg hi
    exact h3 c (Yl hc) hcb
   ·obtain ⟨q1,q2⟩:=ownR i b hrg hi
    rcases h2 with h2 | h2 | h2
    ·exact h2.2.2 i q2
    ·obtain ⟨n,hn,hb⟩:=m2 b h2
     rw [h.sep i n b q2 hb] at q1;exact q1 hn
    ·have:=(h.lt i b q2).1;omega
 obtain ⟨d1,d2,d3,d4,d5⟩:=Zubb (RS.ids sl) st
 have hc0:RelC X ρ' (Zbn (RS.ids sl) st) a w':=by
  refine ⟨h.defers,by rw [d1];exact h.size,?_,?_,?_,?_,?_,fun b hb=>Yka (h.xlt b hb) k4,h.gl.ext x⟩
  ·intro i j b hi hj
   by_cases ri:st.nb≤i∧i<st.nb+O.length <;> by_cases rj:st.nb≤j∧j<st.nb+O.length
   ·obtain ⟨c,hc,hcb⟩:=ownO i b ri hi
    obtain ⟨c',hc',hcb'⟩:=ownO j b rj hj;have:=Zcbb hnO hc hcb hc' hcb';omega
   ·obtain ⟨c,hc,hcb⟩:=ownO i b ri hi
    obtain ⟨q1,q2⟩:=ownR j b rj hj;exfalso;rcases (hO c (Yl hc) b hcb).1 with q | q
    ·obtain ⟨n,hn,hb⟩:=m2 b q
     rw [h.sep j n b q2 hb] at q1;exact q1 hn
    ·have:=(h.lt j b q2).1;omega
   ·obtain ⟨c,hc,hcb⟩:=ownO j b rj hj
    obtain ⟨q1,q2⟩:=ownR i b ri hi;exfalso;rcases (hO c (Yl hc) b hcb).1 with q | q
    ·obtain ⟨n,hn,hb⟩:=m2 b q
     rw [h.sep i n b q2 hb] at q1;exact q1 hn
    ·have:=(h.lt i b q2).1;omega
   ·exact h.sep i j b (ownR i b ri hi).2 (ownR j b rj hj).2
  ·intro i b hi
   by_cases ri:st.nb≤i∧i<st.nb+O.length
   ·obtain ⟨c,hc,hcb⟩:=ownO i b ri hi
    have hb:=hO c (Yl hc) b hcb;refine ⟨hb.2,fun hx=>?_⟩;rcases hb.1 with q | q
    ·obtain ⟨n,_,hn⟩:=m2 b q
     exact (h.lt n b hn).2 hx
    ·have:=h.xlt b hx;omega
   ·have q2:=(ownR i b ri hi).2
    exact ⟨Yka (h.lt i b q2).1 k4,(h.lt i b q2).2⟩
  ·intro i
   rw [d5];split
   ·trivial
   ·rename_i hni
    by_cases ri:st.nb≤i∧i<st.nb+O.length
    ·have h0:=h.ents i
     rw [non i ri] at h0;cases he:st.ent i with
     | free=>trivial
     | box t xs=>rw [he] at h0;obtain ⟨_,_,_,e,_⟩:=h0;cases e
     | arr z e t l=>rw [he] at h0;obtain ⟨_,e,_⟩:=h0;cases e
     | frz t l=>rw [he] at h0;obtain ⟨_,e,_⟩:=h0;cases e
    ·by_cases hmv:i∈mv
     ·rw [(m1 i hmv).2];trivial
     ·refine Zid.ext (h.ents i) x (r3 i ri hmv) fun b hb=>k5 b (h.lt i b hb).1 fun hg=>?_
      rcases Yw.1 hg with hg | hg
      ·obtain ⟨n,hn,hnb⟩:=s2 b hg
       rw [h.sep i n b hb hnb] at hni;exact hni hn
      ·obtain ⟨n,hn,hnb⟩:=m2 b hg
       rw [h.sep i n b hb hnb] at hmv;exact hmv hn
  ·intro i
   rw [d2];exact (h.tmps i).ext x
  ·intro i t b y hmem
   rw [d3] at hmem;exact (h.gs i t b y hmem).imp (fun k=>⟨k.1,k.2.ext x⟩) id
 have hag:Agree (RS.ids sl++[]) st (Zbn (RS.ids sl) st):=by
  refine ⟨d1.symm,d2.symm,d3.symm,d4.symm,fun i hi=>?_⟩;rw [Yt] at hi;rw [d5,Xd hi]
 have rows:Zbi ρ' st.nb (O1++O2):=fun j c hj=>by
  rw [hOO] at hj;have hjl:=(Yca.1 hj).1;rw [r1 _ ⟨by omega,by omega⟩,show st.nb+j-st.nb=j by omega];exact hj
 have hsl:SlR ρ' sl L:=hs.congr fun n hn=>by
  obtain ⟨c,hc⟩:=s1 n hn;exact r3 n (old n c hc) (dis n hn)
 obtain ⟨sth2,e1,e2⟩:=p1 X ρ' a _ [] hc0 hag hF hsl rows.left
 have rows2:=rows.right
 rw [← g1.nb] at rows2
 obtain ⟨sth3,f1,f2,f3⟩:=p2 X ρ' a sth2 [] e1 e2 hF rows2
 refine ⟨av,ρ',st3,hr3,(f2.relC f1).rel ⟨fun i hi=>?_,fun p hp=>?_⟩,x,gg.n,f3⟩
 ·have nr:¬(st.nb≤i∧i<st.nb+O.length)∧ρ i=none:=by
   rcases hi with hi | ⟨p,hp,hi⟩
   ·rw [gg.nb,gg.lim2] at hi
    exact ⟨by omega,h.fresh.1 i (.inl ⟨by omega,hi.2⟩)⟩
   ·rw [gg.res] at hp
    refine ⟨fun hrg=>?_,h.fresh.1 i (.inr ⟨p,hp,hi⟩)⟩;rcases gg.lim with q | q
    ·omega
    ·rcases h.fresh.2 p hp with q2 | q2 <;> omega
  by_cases hmv:i∈mv
  ·rw [r2 i nr.1 hmv,nr.2];rfl
  ·rw [r3 i nr.1 hmv];exact nr.2
 ·rw [gg.res] at hp
  rw [gg.nb,gg.lim2];rcases h.fresh.2 p hp with q | q
  ·exact .inl (by omega)
  ·exact .inr q
end
section
variable {P:Program} {o:Oper} {X:Nat→Prop} {ρ ρ':Rho} {st st' sth:St} {a:Act} {w w':World} {g:Option (Nat×Bool)} {R:Type} {r:R} {K:AV→St→Option R} {C:Ctx}
theorem Zni.append:∀{xs ys:List AV} {us vs:List Value},Zni X ρ w xs us→Zni X ρ w ys vs→Zni X ρ w (xs++ys) (us++vs)
 | [],_,[],_,_,k=>k
 | _::_,_,_::_,_,h,k=>⟨h.1,Zni.append h.2 k⟩
 | [],_,_::_,_,h,_=>h.elim
 | _::_,_,[],_,h,_=>h.elim
theorem Z28:∀{xs:List Leaf} {vs:List Value},Zq X ρ w xs vs→Zni X ρ w (xs.map .one) vs
 | [],[],_=>trivial
 | _::_,_::_,h=>⟨h.1,Z28 h.2⟩
 | [],_::_,h=>h.elim
 | _::_,[],h=>h.elim
theorem Zcsb {c:CR} {K:RR→St→Option R} (hr:c.toM.run st K=some r):∃rr,c.val=some rr∧K rr st=some r:=by
 cases c with
 | fail=>cases hr
 | ret q=>exact ⟨q,rfl,hr⟩
 | opt β q f=>
  obtain ⟨b,hb,hr1⟩:=Zyf hr;exact ⟨f b,by simp [CR.val,hb],hr1⟩
theorem Ztz:∀{sl:List RS} {K:Unit→St→Option R},(Ziw sl).run st K=some r→K () st=some r∧∀n,RS.row n∈sl→∃z e t l,st.ent n = .arr z e t l
 | [],K,hr=>⟨hr,fun _ h=>nomatch h⟩
 | .row n::sl,K,hr=>by
  replace hr:(match st.ent n with
   | .arr _ _ _ _=>Ziw sl
   | _=>.fail:M Unit).run st K=some r:=hr
  split at hr
  ·rename_i z e t l he
   obtain ⟨h1,h2⟩:=Ztz hr;refine ⟨h1,fun m hm=>?_⟩;rcases Yi.1 hm with k | k
   ·cases k;exact ⟨_,_,_,_,he⟩
   ·exact h2 m k
  ·cases hr
 | .box n::sl,K,hr=>by
  obtain ⟨h1,h2⟩:=Ztz (sl:=sl) hr;refine ⟨h1,fun m hm=>?_⟩;rcases Yi.1 hm with k | k
  ·cases k
  ·exact h2 m k
 | .no::sl,K,hr=>by
  obtain ⟨h1,h2⟩:=Ztz (sl:=sl) hr;refine ⟨h1,fun m hm=>?_⟩;rcases Yi.1 hm with k | k
  ·cases k
  ·exact h2 m k
theorem Zvd.strict (h:Rel X ρ st a w):∀{sl:List RS} {L:List GI},Zvd ρ sl L→(∀n,RS.row n∈sl→∃z e t l,st.ent n = .arr z e t l)→SlR ρ sl L
 | [],[],_,_=>trivial
 | .box n::_,.blk _::_,k,q=>⟨k.1,Zvd.strict h k.2 fun m hm=>q m (Yb _ hm)⟩
 | .row n::_,.row v::_,k,q=>by
  refine ⟨?_,Zvd.strict h k.2 fun m hm=>q m (Yb _ hm)⟩;obtain ⟨z,e,t,l,he⟩:=q n Yd;have h0:=h.ents n;rw [he] at h0;obtain ⟨u,hu,_⟩:=h0;rcases k.1 with k1 | k1
  ·exact k1
  ·rw [k1] at hu;cases hu
 | .no::sl,.no::L,k,q=>Zvd.strict h (sl:=sl) (L:=L) k fun m hm=>q m (Yb _ hm)
theorem Zz3 {ms:List LM} {e:Ent} {K:Bool→St→Option R} (hr:(Z5r ms e).run st K=some r):∃b,K b st=some r:=by
 unfold Z5r at hr
 split at hr <;> exact ⟨_,hr⟩
theorem Z9jb {ms:List LM} {x:Leaf} {K:Bool→St→Option R} (hr:(Z03 ms x).run st K=some r):∃b,K b st=some r:=by
 unfold Z03 at hr
 split at hr
 ·rename_i b
  replace hr:(bif Zso ms then Z5r (ms.map fun _=>.ro) (st.ent b) else Z5r ms (st.ent b)).run st K=some r:=hr;cases hm:Zso ms with
  | true=>rw [hm] at hr;exact Zz3 hr
  | false=>rw [hm] at hr;exact Zz3 hr
 ·exact ⟨_,hr⟩
 ·exact ⟨_,hr⟩
theorem Z8ab:∀{mss:List (List LM)} {xs:List Leaf} {K:Bool→St→Option R},(Z9y mss xs).run st K=some r→∃b,K b st=some r
 | [],[],K,hr=>⟨_,hr⟩
 | ms::mss,x::xs,K,hr=>by
  unfold Z9y at hr;rw [M.run_bind] at hr;obtain ⟨b1,hr1⟩:=Z9jb hr;rw [M.run_bind] at hr1;obtain ⟨b2,hr2⟩:=Z8ab hr1;exact ⟨_,hr2⟩
 | [],_::_,K,hr=>⟨_,hr⟩
 | _::_,[],K,hr=>⟨_,hr⟩
theorem Z8jb {m:PM} {x:AV} {K:Bool→St→Option R} (hr:(Zy3 m x).run st K=some r):∃b,K b st=some r:=by
 unfold Zy3 at hr
 split at hr
 all_goals first
  | exact ⟨_,hr⟩
  | exact Zz3 hr
  | skip
 rename_i f mss f' xs
 cases hf:Ya f f' with
 | false=>rw [hf] at hr;exact ⟨_,hr⟩
 | true=>rw [hf] at hr;exact Z8ab hr
theorem Z7ab:∀{ms:List PM} {xs:List AV} {K:Bool→St→Option R},(Z8y ms xs).run st K=some r→∃b,K b st=some r
 | [],[],K,hr=>⟨_,hr⟩
 | m::ms,x::xs,K,hr=>by
  unfold Z8y at hr;rw [M.run_bind] at hr;obtain ⟨b1,hr1⟩:=Z8jb hr;rw [M.run_bind] at hr1;obtain ⟨b2,hr2⟩:=Z7ab hr1;exact ⟨_,hr2⟩
 | [],_::_,K,hr=>⟨_,hr⟩
 | _::_,[],K,hr=>⟨_,hr⟩
theorem Zj9 {vs:List AV}:∀{cs:List Con},(Zmy cs vs).run st K=some r→∃c∈cs,(Zy2 c vs).run st K=some r
 | [],hr=>by cases hr
 | c::cs,hr=>by
  unfold Zmy at hr;rw [M.run_bind] at hr;obtain ⟨b,hr1⟩:=Z7ab hr;cases b with
  | true=>exact ⟨c,Yd,hr1⟩
  | false=>
   obtain ⟨d,hd,k⟩:=Zj9 (cs:=cs) hr1;exact ⟨d,Yb _ hd,k⟩
theorem Z1fb (h:Rel X ρ st a w):∀{ns gs:List Nat},ns.Nodup→(∃f:Nat→Option Nat,gs=ns.filterMap f∧∀n∈ns,∀b,f n=some b→owns (ρ n) b)→gs.Nodup
 | [],_,_,⟨f,rfl,_⟩=>Yfa
 | n::ns,_,hn,⟨f,rfl,hf⟩=>by
  obtain ⟨n1,n2⟩:=Yp.1 hn;have tail:=Z1fb h (gs:=ns.filterMap f) n2 ⟨f,rfl,fun m hm=>hf m (Yb _ hm)⟩;cases hb:f n with
  | none=>rwa [Yn hb]
  | some b=>
   rw [Yj hb];refine Yp.2 ⟨fun hm=>?_,tail⟩;obtain ⟨m,hm1,hm2⟩:=Ye.1 hm;have:=h.sep n m b (hf n Yd b hb) (hf m (Yb _ hm1) b hm2);rw [this] at n1;exact n1 hm1
def cbO (c:Option Conc):Option Nat:=c.bind cb
theorem Zhx:∀{sl:List RS} {L:List GI},SlR ρ sl L→GI.blocks L=(RS.ids sl).filterMap fun n=>cbO (ρ n)
 | [],[],_=>rfl
 | .box n::sl,.blk g::L,h=>by
  show g::GI.blocks L=(n::RS.ids sl).filterMap _;rw [Yj (b:=g) (by rw [h.1];rfl),Zhx h.2]
 | .row n::sl,.row v::L,h=>by
  show (Zzf v).toList++GI.blocks L=(n::RS.ids sl).filterMap _;cases hv:(Zzf v) with
  | none=>rw [Yn (by rw [h.1];exact hv),← Zhx h.2];rfl
  | some b=>rw [Yj (b:=b) (by rw [h.1];exact hv),← Zhx h.2];rfl
 | .no::sl,.no::L,h=>Zhx (sl:=sl) (L:=L) h
theorem Zl5:∀{ns:List Nat} {N:List Value},Z3f ρ st ns N→Zxb N=ns.filterMap fun n=>cbO (ρ n)
 | [],[],_=>rfl
 | n::ns,v::N,h=>by
  show (v::N).filterMap _=_;cases hv:(Zzf v) with
  | none=>
   rw [Yn hv,Yn (by rw [h.1];exact hv)];exact Zl5 h.2.2
  | some b=>
   rw [Yj hv,Yj (b:=b) (by rw [h.1];exact hv)];exact congrArg (b :: ·) (Zl5 h.2.2)
theorem Zpkb (Co:Z01 P C.con) (h:Rel X ρ st a w) (hg:Zyc a g) {c:Call} {f:Operand} (ho:o.op = .call c) (hc:c.callee = .value f)
  (hr:((opd g f).bind fun fv=>Zz2 C g c.args.toList fv).run st K=some r):Zdb P o a w X ρ st K r:=by
 rw [M.run_bind] at hr
 obtain ⟨fv,hr1,hf⟩:=Zyb h hg hr
 clear hr
 unfold Zz2 at hr1
 split at hr1
 ·rename_i k caps
  obtain ⟨cv,hfv,hcaps⟩:=hf;rw [M.run_bind] at hr1;obtain ⟨vs,hr,hvs⟩:=Zw5 h hg hr1;clear hr1;have hall:=hvs.append (Z28 hcaps);unfold Zk9 at hr;obtain ⟨con,hcon,hr1⟩:=Zj9 hr;clear hr;obtain ⟨henter,hcall⟩:=Co k con hcon;unfold Zy2 at hr1;rw [M.run_bind] at hr1;obtain ⟨asx,ai,ρ1,st1,L,N,hr,h1,e1,n1,_,ca,sa,ma⟩:=Zx8 h hall hr1;clear hr1;dsimp only at hr;rw [M.run_bind] at hr;obtain ⟨hr1,hrow⟩:=Ztz hr;clear hr;cases hok:ai.ok with
  | false=>rw [hok] at hr1;cases hr1
  | true=>
   rw [hok] at hr1;obtain ⟨ok1,ok2⟩:=(Yc _ _).mp hok;have nd:=Zpw ok1;have dj:=Zxy ok2;replace hr1:((con.f asx).toM.bind fun rr=>(Zdm ai.sl rr.refs).bind fun _=>Z5w rr.res).run st1 K=some r:=hr1;rw [M.run_bind] at hr1;obtain ⟨rr,hrr,hr⟩:=Zcsb hr1;clear hr1;have sr:=sa.strict h1 hrow;obtain ⟨s1,s2⟩:=sr.mem;obtain ⟨m1,m2⟩:=ma.mem
   have hG:∀b,b∈GI.blocks L++Zxb N→∃n∈RS.ids ai.sl++ai.mv,owns (ρ1 n) b:=fun b hb=>by
    rcases Yw.1 hb with hb | hb
    ·obtain ⟨n,hn,q⟩:=s2 b hb
     exact ⟨n,Yda _ hn,q⟩
    ·obtain ⟨n,hn,q⟩:=m2 b hb
     exact ⟨n,Yx _ hn,q⟩
   have hnd:(GI.blocks L++Zxb N).Nodup:=by
    refine Z1fb h1 nd ⟨fun n=>cbO (ρ1 n),?_,?_⟩
    ·rw [List.filterMap_append,← Zhx sr,← Zl5 ma]
    ·intro n _ b hb
     replace hb:cbO (ρ1 n)=some b:=hb;cases hc:ρ1 n with
     | none=>rw [hc] at hb;cases hb
     | some c=>rw [hc] at hb;exact Zct.1 hb
   have hFG:∀b,Fix X ρ1 w b→Bor w (GI.blocks L++Zxb N) b:=fun b hb=>⟨hb.1,fun hg=>by
    obtain ⟨n,_,q⟩:=hG b hg;exact hb.2.2 n q⟩
   have hBG:∀b,B0 ρ1 w ai.ro b→Bor w (GI.blocks L++Zxb N) b:=fun b hb=>by
    rcases hb with hb | ⟨m,hm,q⟩
    ·refine ⟨hb.1,fun hg=>?_⟩
     obtain ⟨n,_,q⟩:=hG b hg;exact hb.2 n q
    ·refine ⟨(h1.lt m b q).1,fun hg=>?_⟩
     obtain ⟨n,hn,q2⟩:=hG b hg;rw [h1.sep n m b q2 q] at hn;exact dj m hn hm
   have key:=hcall asx rr hrr w _ (Fix X ρ1 w) L N hFG hnd ⟨h1.gl.1,fun n hn hm=>by
    obtain ⟨i,_,q⟩:=hG n hm;exact h1.gl.2 n hn i q⟩ (ca.mono (fun b hb=>hb) hBG)
   intro next Q hq;unfold Oper.wp
   have hx:(execOp a.eval o).run P w = .ok (.enter k (c.args.map a.eval++cv)) w:=by
    unfold execOp;rw [ho];simp [resolve,hc,hfv,Deferred.ofValue,invoke,henter]
   rw [hx,Oper.upon_enter]
   have harr:(List.map a.eval c.args.toList++cv.toList).toArray=c.args.map a.eval++cv:=by
    apply Array.ext';simp
   rw [harr] at key;refine key.mono ?_;rintro e w' ⟨v,rfl,ans⟩;obtain ⟨av,ρ2,st2,k0,k1,k2,k3,k4⟩:=Znib h1 sr ma nd ans hr;exact hq av v ρ2 st2 w' k0 k4 k1 (e1.trans k2) (k3.trans n1)
 ·cases hr1
end
section
variable {P:Program} {o:Oper} {X:Nat→Prop} {ρ ρ':Rho} {st st':St} {a:Act} {w w':World} {g:Option (Nat×Bool)} {R:Type} {r:R} {K:AV→St→Option R} {C:Ctx}
structure CtxOk (P:Program) (C:Ctx):Prop where
 ti:Zob P C.ti
 con:Z01 P C.con
 mix:P.follows .mixedOrders=true
theorem Z0jb (H:CtxOk P C) (h:Rel X ρ st a w) (hg:Zyc a g) {c:Call} (ho:o.op = .call c) (hr:(Zq3 C g c).run st K=some r):Zdb P o a w X ρ st K r:=by
 unfold Zq3 at hr
 split at hr
 ·exact Z2kb H.ti h hg ho (by assumption) (by assumption) hr
 ·exact Zjkb H.ti h hg ho (by assumption) (by assumption) hr
 ·exact Zpkb H.con h hg ho (by assumption) hr
 ·exact Zpbb (mx:=true) h hg ho (by assumption) (by assumption) hr
 ·exact Zpbb (mx:=false) h hg ho (by assumption) (by assumption) hr
 ·exact Zqkb H.ti h hg ho (by assumption) (by assumption) hr
 ·exact Zskb H.ti h hg ho (by assumption) (by assumption) hr
 ·cases hr
theorem Zr3 (H:CtxOk P C) (h:Rel X ρ st a w) (hg:Zyc a g) (hr:(Zpp C g o).run st K=some r):Zdb P o a w X ρ st K r:=by
 unfold Zpp at hr
 split at hr
 ·exact Zqbb h hg (.inl (by assumption)) hr
 ·exact Zqbb h hg (.inr (by assumption)) hr
 ·exact Zalb h hg (by assumption) hr
 ·exact Zikb H.ti h (by assumption) hr
 ·exact Zlkb h hg (by assumption) hr
 ·exact Znkb H.ti h hg (by assumption) hr
 ·exact Zokb H.ti h hg (by assumption) hr
 ·exact Zxkb H.ti h (by assumption) hr
 ·exact Z3kb H.ti h hg (by assumption) hr
 ·exact Zdlb H.ti h hg (by assumption) hr
 ·exact Z9kb h hg (by assumption) hr
 ·exact Zkkb H.ti h hg (by assumption) hr
 ·exact Zelb h hg (by assumption) hr
 ·exact Zrkb H.ti h hg (by assumption) hr
 ·exact Z5kb h hg (by assumption) hr
 ·exact Z7kb H.ti h hg (by assumption) hr
 ·exact Zykb H.ti h (by assumption) hr
 ·exact Zclb H.ti h hg (by assumption) hr
 ·exact Zblb H.ti h hg (by assumption) hr
 ·exact Z6kb H.ti h (by assumption) hr
 ·exact Z4kb H.ti h hg (by assumption) hr
 ·exact Z8kb H.ti h hg (by assumption) hr
 ·exact Zvkb H.ti h hg (by assumption) hr
 ·exact Zukb H.ti h hg (by assumption) hr
 ·exact Zwkb H.ti h hg (by assumption) hr
 ·exact Z1kb H.ti h hg (by assumption) hr
 ·exact Zzkb H.ti h hg (by assumption) hr
 ·exact Ztkb h hg (by assumption) hr
 ·exact Z0jb H h hg (by assumption) hr
 ·cases hr
theorem Zpz:∀(k t:Nat) {st:St} {K:St→Option R},Rel X ρ st a w→Zfs k t st K=some r→∃st',K st'=some r∧Rel X ρ st' a w∧st'.n=st.n
 | 0,_,_,_,_,hr=>by cases hr
 | k+1,t,st,K,h,hr=>by
  unfold Zfs at hr;have ht:=h.tmp t;split at hr
  ·exact ⟨st,hr,h,rfl⟩
  ·exact ⟨st,hr,h,rfl⟩
  ·rename_i b hb
   rw [hb] at ht
   have ht:Z1 a t = .bool b:=by
    rcases ht with ht | ⟨_,_,_,e,_⟩
    ·exact ht
    ·cases e
   cases b with
   | true=>exact ⟨_,hr,h.refT ht,rfl⟩
   | false=>exact ⟨_,hr,h.refT ht,rfl⟩
  ·rename_i t1 w1 x hb
   rw [hb] at ht
   have ht:Zxl X ρ w (Z1 a) t1 w1 x (Z1 a t):=by
    rcases ht with ht | ⟨_,_,_,e,ht⟩
    ·exact ht.elim
    ·cases e;exact ht
   obtain ⟨st1,hr1,h1,n1⟩:=Zpz k t1 h hr;have ht1:=h1.tmp t1;split at hr1
   ·rename_i b hb1
    rw [hb1] at ht1
    have ht1:Z1 a t1 = .bool b:=by
     rcases ht1 with ht1 | ⟨_,_,_,e,_⟩
     ·exact ht1
     ·cases e
    cases hbw:(b==w1) with
    | true=>
     rw [hbw] at hr1;have:b=w1:=by simpa using hbw
     subst this
     have hx:Z4 X ρ w x (Z1 a t):=by
      rcases ht with ht | ht
      ·exact ht.2
      ·exact absurd ht1 ht.1
     obtain ⟨st2,hr2,h2,n2⟩:=Zpz k t (h1.refT hx) hr1;exact ⟨st2,hr2,h2,n2.trans n1⟩
    | false=>
     rw [hbw] at hr1;refine ⟨_,hr1,h1.refT ?_,n1⟩;show Z1 a t=undef;rcases ht with ht | ht
     ·rw [ht.1] at ht1
      cases ht1;simp at hbw
     ·exact ht.2
   ·rename_i hb1
    rw [hb1] at ht1
    have ht1:Z1 a t1=undef:=by
     rcases ht1 with ht1 | ⟨_,_,_,e,_⟩
     ·exact ht1
     ·cases e
    refine ⟨_,hr1,h1.refT ?_,n1⟩;show Z1 a t=undef;rcases ht with ht | ht
    ·rw [ht.1] at ht1
     cases ht1
    ·exact ht.2
   ·cases hr1
  ·cases hr
theorem Z47 {ops:Array Oper} {j t:Nat} {b:Bool} (hg:o.guard=some (j,b)) (ht:(ops[j]?).bind (·.dst)=some t) (h:Z1 a t = .bool b):Region.wanted o (yielded ops a.tmps)=true:=by
 unfold Region.wanted yielded
 rw [hg]
 have h1:a.tmps[t]? = some (.bool b):=by
  unfold Z1 at h;rw [Y0] at h;cases h2:a.tmps[t]? with
  | none=>rw [h2] at h;cases h
  | some v=>rw [h2] at h;exact congrArg some h
 simp [ht,h1]
theorem Zzx {ops:Array Oper} {j t:Nat} {b:Bool} (hg:o.guard=some (j,b)) (ht:(ops[j]?).bind (·.dst)=some t) (h:Z1 a t≠.bool b):Region.wanted o (yielded ops a.tmps)=false:=by
 unfold Region.wanted yielded
 rw [hg]
 simp only [ht,Option.bind_some]
 unfold Z1 at h
 rw [Y0] at h
 cases h2:a.tmps[t]? with
 | none=>simp
 | some v=>
  rw [h2] at h;have h:v≠.bool b:=h;cases v with
  | bool b'=>
   have hb:b'≠b:=fun e=>h (congrArg Value.bool e)
   simpa using hb
  | _=>rfl
def Zpf (ds:List Nat) (a a':Act):Prop:=∀i,i∉ds→Z1 a' i=Z1 a i
theorem Zpf.refl (ds:List Nat) (a:Act):Zpf ds a a:=fun _ _=>rfl
theorem Zmx {d:Option Tmp} {v:Value} {i:Nat} (h:d≠some i):Z1 (a.put d v) i=Z1 a i:=by
 cases d with
 | none=>rfl
 | some d=>
  have hd:d≠i:=fun e=>h (by rw [e])
  unfold Z1 Act.put;simp only [Y0,Array.getElem?_setIfInBounds];rw [Xd hd]
theorem Zrab (h:Zmt st o=true):∀i,o.dst=some i→i<st.n:=by
 intro i hi
 unfold Zmt at h
 rw [hi] at h
 exact Y2 h
theorem Zs0 (H:CtxOk P C) (ops:Array Oper):∀(l:List Oper) {ρ:Rho} {st:St} {a:Act} {w:World} {K:St→Option R},Rel X ρ st a w→Zuj C ops l st K=some r →
  ∀Q:Exit→Act→World→Prop,(∀ρ' st' a' w',K st'=some r→Rel X ρ' st' a' w'→Ext ρ w ρ' w'→st'.n=st.n→Zpf (l.filterMap (·.dst)) a a'→Q .normal a' w')→wpList P ops Q l a w
 | [],ρ,st,a,w,K,h,hr,Q,hq=>hq ρ _ a w hr h.clear (Ext.refl _ _) rfl (Zpf.refl _ _)
 | o::rest,ρ,st,a,w,K,h,hr,Q,hq=>by
  unfold Zuj at hr;cases hd:Zmt st o with
  | false=>rw [hd] at hr;cases hr
  | true=>
   rw [hd] at hr;have hlt:=Zrab hd
   have exec:∀{st1:St} {K2:AV→St→Option R},Rel X ρ st1 a w→st1.n=st.n→(Zpp C none o).run st1 (fun v st'=>Zuj C ops rest (st'.put o.dst v) K)=some r→Region.wanted o (yielded ops a.tmps)=true→wpList P ops Q (o::rest) a w:=by
    intro st1 K2 h1 n1 hr1 hw;unfold wpList;rw [Xc hw];refine .inl (Zr3 H h1 (fun t b (e:none=some (t,b))=>nomatch e) hr1 _ _ ?_);intro av v ρ' st' w' hk hv hrel hx hn;refine Zs0 H ops rest (hrel.put (fun i hi=>by rw [hn,n1];exact hlt i hi) hv) hk Q ?_;intro ρ2 st2 a2 w2 k1 k2 k3 k4 k5;refine hq ρ2 st2 a2 w2 k1 k2 (hx.trans k3) (k4.trans ?_) ?_
    ·have:(st'.put o.dst av).n=st'.n:=by cases o.dst <;> rfl
     rw [this,hn,n1]
    ·intro i hi
     have h1:o.dst≠some i:=fun e=>hi (Ye.2 ⟨o,Yd,e⟩)
     rw [k5 i (fun hm=>hi (by
      obtain ⟨q,hq1,hq2⟩:=Ye.1 hm;exact Ye.2 ⟨q,Yb _ hq1,hq2⟩))]
     exact Zmx h1
   have skip:∀{st1:St} (st2:St),Rel X ρ st2 (a.put o.dst undef) w→st2.n=st.n→Zuj C ops rest st2 K=some r→Region.wanted o (yielded ops a.tmps)=false→wpList P ops Q (o::rest) a w:=by
    intro st1 st2 h1 n1 hr1 hw;unfold wpList;rw [Xd (by rw [hw];simp)];refine Zs0 H ops rest h1 hr1 Q ?_;intro ρ2 st3 a2 w2 k1 k2 k3 k4 k5;refine hq ρ2 st3 a2 w2 k1 k2 k3 (k4.trans n1) ?_;intro i hi;have h1:o.dst≠some i:=fun e=>hi (Ye.2 ⟨o,Yd,e⟩)
    rw [k5 i (fun hm=>hi (by
     obtain ⟨q,hq1,hq2⟩:=Ye.1 hm;exact Ye.2 ⟨q,Yb _ hq1,hq2⟩))]
    exact Zmx h1
   replace hr:(match o.guard with
    | none=>(Zpp C none o).run st fun v st'=>Zuj C ops rest (st'.put o.dst v) K
    | some (j,w)=>match (ops[j]?).bind (·.dst) with
     | none=>none
     | some t=>Zo6 C o (fun v st'=>Zuj C ops rest (st'.put o.dst v) K) (fun st'=>Zuj C ops rest st' K) t w st)=some r:=hr
   split at hr
   ·rename_i hgd
    exact exec (K2:=fun _ _=>none) h rfl hr (by simp [Region.wanted,hgd])
   ·rename_i j wb hgd
    split at hr
    ·cases hr
    ·rename_i t ht
     have goes:∀{st1:St},Rel X ρ st1 a w→st1.n=st.n→Z9w C o (fun v st'=>Zuj C ops rest (st'.put o.dst v) K) (fun st'=>Zuj C ops rest st' K) t wb st1=some r→wpList P ops Q (o::rest) a w:=by
      intro st1 h1 n1 hr1;unfold Z9w at hr1;have ht1:=h1.tmp t;split at hr1
      ·rename_i b hb
       rw [hb] at ht1
       have ht1:Z1 a t = .bool b:=by
        rcases ht1 with ht1 | ⟨_,_,_,e,_⟩
        ·exact ht1
        ·cases e
       cases hbw:(b==wb) with
       | true=>
        rw [hbw] at hr1;have:b=wb:=by simpa using hbw
        subst this;exact exec (K2:=fun _ _=>none) h1 n1 hr1 (Z47 hgd ht ht1)
       | false=>
        rw [hbw] at hr1;refine skip (st1:=st) _ (h1.put (av:=.undef) (v:=undef) (fun i hi=>by rw [n1];exact hlt i hi) rfl) ?_ hr1 (Zzx hgd ht ?_)
        ·rw [show (st1.put o.dst .undef).n=st1.n by cases o.dst <;> rfl,n1]
        ·rw [ht1]
         intro e;cases e;simp at hbw
      ·rename_i hb
       rw [hb] at ht1
       have ht1:Z1 a t=undef:=by
        rcases ht1 with ht1 | ⟨_,_,_,e,_⟩
        ·exact ht1
        ·cases e
       refine skip (st1:=st) _ (h1.put (av:=.undef) (v:=undef) (fun i hi=>by rw [n1];exact hlt i hi) rfl) ?_ hr1 (Zzx hgd ht ?_)
       ·rw [show (st1.put o.dst .undef).n=st1.n by cases o.dst <;> rfl,n1]
       ·rw [ht1];intro e;cases e
      ·cases hr1
     unfold Zo6 at hr;split at hr
     ·exact goes h rfl hr
     ·exact goes h rfl hr
     ·split at hr
      ·rename_i v hstill
       by_cases hw:Z1 a t = .bool wb
       ·unfold wpList
        rw [Xc (Z47 hgd ht hw)];have hgood:=Zr3 (g:=some (t,wb)) (K:=fun av st'=>some (av,st')) (r:=(v,st)) H h (fun t' b' e=>by cases e;exact hw) (M.run_still _ _ _ hstill _);refine .inl (hgood _ _ ?_);intro av u ρ' st' w' hk hv hrel hx hn;obtain ⟨rfl,rfl⟩:av=v∧st'=st:=by simpa using hk
        refine Zs0 H ops rest (hrel.putG (t:=t) (b:=wb) hlt (.inl ⟨hw,hv⟩)) hr Q ?_;intro ρ2 st2 a2 w2 k1 k2 k3 k4 k5;refine hq ρ2 st2 a2 w2 k1 k2 (hx.trans k3) (k4.trans ?_) ?_
        ·cases o.dst <;> rfl
        ·intro i hi
         have h1:o.dst≠some i:=fun e=>hi (Ye.2 ⟨o,Yd,e⟩)
         rw [k5 i (fun hm=>hi (by
          obtain ⟨q,hq1,hq2⟩:=Ye.1 hm;exact Ye.2 ⟨q,Yb _ hq1,hq2⟩))]
         exact Zmx h1
       ·refine skip (st1:=st) _ (h.putG (t:=t) (b:=wb) hlt (.inr ⟨hw,rfl⟩)) ?_ hr (Zzx hgd ht hw)
        cases o.dst <;> rfl
      ·obtain ⟨st1,hr1,h1,n1⟩:=Zpz 4 t h hr
       exact goes h1 n1 hr1
end
structure FP.le (f f':FP):Prop where
 rt:∀t,t∈f.rt→t∈f'.rt
 rb:∀t,t∈f.rb→t∈f'.rb
 wb:∀t,t∈f.wb→t∈f'.wb
theorem FP.le.refl (f:FP):f.le f:=⟨fun _ h=>h,fun _ h=>h,fun _ h=>h⟩
theorem FP.le.trans {f g h:FP} (a:f.le g) (b:g.le h):f.le h:=⟨fun t k=>b.rt t (a.rt t k),fun t k=>b.rb t (a.rb t k),fun t k=>b.wb t (a.wb t k)⟩
structure Agr (f:FP) (st st2:St):Prop where
 tm:∀t,t∈f.rt→st2.tmp t=st.tmp t
 en:∀b,b∈f.rb∨b∈f.wb→st2.ent b=st.ent b
structure Still (st st':St):Prop where
 tmps:st'.tmps=st.tmps
 gs:st'.gs=st.gs
 n:st'.n=st.n
 lim:st'.lim=st.lim
 res:st'.res=st.res
theorem Still.refl (st:St):Still st st:=⟨rfl,rfl,rfl,rfl,rfl⟩
theorem Still.trans {a b c:St} (h:Still a b) (k:Still b c):Still a c:=⟨k.tmps.trans h.tmps,k.gs.trans h.gs,k.n.trans h.n,k.lim.trans h.lim,k.res.trans h.res⟩
theorem Still.tmp {a b:St} (h:Still a b) (i:Nat):b.tmp i=a.tmp i:=by
 unfold St.tmp
 rw [h.gs,h.tmps]
structure Did {α:Type} (p:M α) (st:St) (a:α) (st':St) (f:FP):Prop where
 still:Still st st'
 nb:st.nb≤st'.nb
 lim:st.nb=st'.nb∨st'.nb≤st.lim
 out:∀b,b∉f.wb→st'.ent b=st.ent b
 loc:∀st2:St,Agr f st st2→st2.nb=st.nb→(st.nb=st'.nb∨st'.nb≤st2.lim)→∃st2':St,(p.run st2 fun a st'=>some (a,st'))=some (a,st2')∧Still st2 st2'∧st2'.nb=st'.nb ∧
  (∀b,b∈f.rb∨b∈f.wb→st2'.ent b=st'.ent b)∧∀b,b∉f.wb→st2'.ent b=st2.ent b
theorem Zqu {α R:Type} {r:R}:∀(p:M α) {st:St} {f:FP} {K:α→St→FP→Option R},p.runF st f K=some r→∃a st' f',K a st' f'=some r∧f.le f'∧Did p st a st' f'
 | .ret a,st,f,K,h=>⟨a,st,f,h,FP.le.refl f,Still.refl st,Yr _,.inl rfl,fun _ _=>rfl,fun st2 ha hn _=>⟨st2,rfl,Still.refl st2,hn,fun b hb=>ha.en b hb,fun _ _=>rfl⟩⟩
 | .get i k,st,f,K,h=>by
  obtain ⟨a,st',f',h1,h2,d⟩:=Zqu (k (st.tmp i)) (show (k (st.tmp i)).runF st { f with rt:=i::f.rt } K=some r from h);refine ⟨a,st',f',h1,⟨fun t ht=>h2.rt t (Yb _ ht),h2.rb,h2.wb⟩,d.still,d.nb,d.lim,d.out,fun st2 ha hn hl=>?_⟩;have e:=ha.tm i (h2.rt i Yd);obtain ⟨st2',g1,g2⟩:=d.loc st2 ha hn hl;exact ⟨st2',by show (k (st2.tmp i)).run st2 _=_;rw [e];exact g1,g2⟩
 | .getb i k,st,f,K,h=>by
  obtain ⟨a,st',f',h1,h2,d⟩:=Zqu (k (st.ent i)) (show (k (st.ent i)).runF st { f with rb:=i::f.rb } K=some r from h);refine ⟨a,st',f',h1,⟨h2.rt,fun t ht=>h2.rb t (Yb _ ht),h2.wb⟩,d.still,d.nb,d.lim,d.out,fun st2 ha hn hl=>?_⟩;have e:=ha.en i (.inl (h2.rb i Yd));obtain ⟨st2',g1,g2⟩:=d.loc st2 ha hn hl;exact ⟨st2',by show (k (st2.ent i)).run st2 _=_;rw [e];exact g1,g2⟩
 | .setb i e k,st,f,K,h=>by
  obtain ⟨a,st',f',h1,h2,d⟩:=Zqu k (show k.runF (st.setB i e) { f with wb:=i::f.wb } K=some r from h);have hi:=h2.wb i Yd;refine ⟨a,st',f',h1,⟨h2.rt,h2.rb,fun t ht=>h2.wb t (Yb _ ht)⟩,⟨d.still.tmps,d.still.gs,d.still.n,d.still.lim,d.still.res⟩,d.nb,d.lim,fun b hb=>?_,fun st2 ha hn hl=>?_⟩
  ·rw [d.out b hb,Zkg,Xd (fun q:i=b=>hb (q▸hi))]
  ·obtain ⟨st2',g1,g2,g3,g4,g5⟩:=d.loc (st2.setB i e) ⟨ha.tm,fun b hb=>by rw [Zkg,Zkg,ha.en b hb]⟩ hn hl
   exact ⟨st2',g1,⟨g2.tmps,g2.gs,g2.n,g2.lim,g2.res⟩,g3,g4,fun b hb=>by rw [g5 b hb,Zkg,Xd (fun q:i=b=>hb (q▸hi))]⟩
 | .new e k,st,f,K,h=>by
  cases hlt:Yq st.nb st.lim with
  | false=>
   replace h:(bif Yq st.nb st.lim then (k st.nb).runF (st.newB e) { f with wb:=st.nb::f.wb } K else none)=some r:=h;rw [hlt] at h;cases h
  | true=>
   replace h:(bif Yq st.nb st.lim then (k st.nb).runF (st.newB e) { f with wb:=st.nb::f.wb } K else none)=some r:=h;rw [hlt] at h;obtain ⟨a,st',f',h1,h2,d⟩:=Zqu (k st.nb) (show (k st.nb).runF (st.newB e) { f with wb:=st.nb::f.wb } K=some r from h);have hi:=h2.wb st.nb Yd;have hn1:st.nb+1≤st'.nb:=d.nb;have hlt:=(Nat.blt_eq).mp hlt;refine ⟨a,st',f',h1,⟨h2.rt,h2.rb,fun t ht=>h2.wb t (Yb _ ht)⟩,⟨d.still.tmps,d.still.gs,d.still.n,d.still.lim,d.still.res⟩,by omega,?_,fun b hb=>?_,fun st2 ha hn hl=>?_⟩
   ·rcases d.lim with k1 | k1
    ·have k1:st.nb+1=st'.nb:=k1
     exact .inr (by omega)
    ·exact .inr k1
   ·rw [d.out b hb,Zck,Xd (fun q:st.nb=b=>hb (q▸hi))]
   ·have hl':st'.nb≤st2.lim:=by
     rcases hl with hl | hl
     ·omega
     ·exact hl
    obtain ⟨st2',g1,g2,g3,g4,g5⟩:=d.loc (st2.newB e) ⟨ha.tm,fun b hb=>by rw [Zck,Zck,hn,ha.en b hb]⟩ (congrArg (· + 1) hn) (.inr hl');refine ⟨st2',?_,⟨g2.tmps,g2.gs,g2.n,g2.lim,g2.res⟩,g3,g4,fun b hb=>by rw [g5 b hb,Zck,hn,Xd (fun q:st.nb=b=>hb (q▸hi))]⟩;show (bif Yq st2.nb st2.lim then (k st2.nb).run (st2.newB e) _ else none)=_;rw [(Nat.blt_eq).mpr (by omega:st2.nb<st2.lim),hn];exact g1
 | .opt β o k,st,f,K,h=>by
  cases ho:o with
  | none=>
   replace h:(o.bind fun b=>(k b).runF st f K)=some r:=h;rw [ho] at h;cases h
  | some b=>
   replace h:(o.bind fun b=>(k b).runF st f K)=some r:=h;rw [ho] at h;obtain ⟨a,st',f',h1,h2,d⟩:=Zqu (k b) h;refine ⟨a,st',f',h1,h2,d.still,d.nb,d.lim,d.out,fun st2 ha hn hl=>?_⟩;obtain ⟨st2',g1,g2⟩:=d.loc st2 ha hn hl;exact ⟨st2',g1,g2⟩
 | .fail,_,_,_,h=>by cases h
structure StepOk (P:Program) (ops:Array Oper) (k:Nat) (pre post:St) (rc:Rec):Prop where
 n:post.n=pre.n
 gs:pre.gs=[]→post.gs=[]
 lim:post.lim=pre.lim
 res:post.res=pre.res
 nb:pre.nb≤post.nb
 outB:∀b,b∉rc.fp.wb→post.ent b=pre.ent b
 outT:∀t,t∉rc.dst→Zz .unk post.tmps t=Zz .unk pre.tmps t
 dst:∀t,t∈rc.dst→∃o,ops[k]? = some o∧o.dst=some t
 exec:∀(X:Nat→Prop) (ρ:Rho) (st2:St) (a:Act) (w:World),Rel X ρ st2 a w→st2.gs=[]→Agr rc.fp pre st2→st2.n=pre.n→st2.nb=pre.nb→post.nb≤st2.lim→∀(Q:Exit→Act→World→Prop) (K:Act→World→Prop),
  (∀ρ' st2' a' w',Rel X ρ' st2' a' w'→Ext ρ w ρ' w'→st2'.gs=[]→st2'.n=st2.n→st2'.nb=post.nb→st2'.lim=st2.lim→st2'.res=st2.res→(∀b,b∈rc.fp.wb→st2'.ent b=post.ent b)→(∀b,b∉rc.fp.wb→st2'.ent b=st2.ent b) →
   (∀t,t∈rc.dst→Zz .unk st2'.tmps t=Zz .unk post.tmps t)→(∀t,t∉rc.dst→Zz .unk st2'.tmps t=Zz .unk st2.tmps t)→(∀t,t∉rc.dst→Z1 a' t=Z1 a t)→K a' w')→wpOp P ops Q k K a w
theorem Zj0 (st:St) (d:Option Tmp) (v:AV):(st.put d v).n=st.n∧(st.put d v).nb=st.nb∧(st.put d v).lim=st.lim∧(st.put d v).res=st.res∧(st.put d v).heap=st.heap∧(st.gs=[]→(st.put d v).gs=[]) ∧
  (∀t,t∉d.toList→Zz .unk (st.put d v).tmps t=Zz .unk st.tmps t)∧∀t,t∈d.toList→Zz .unk (st.put d v).tmps t=v:=by
 cases d with
 | none=>exact ⟨rfl,rfl,rfl,rfl,rfl,id,fun _ _=>rfl,fun t ht=>nomatch ht⟩
 | some i=>
  refine ⟨rfl,rfl,rfl,rfl,rfl,fun h=>?_,fun t ht=>?_,fun t ht=>?_⟩
  ·show Zbo st.gs i=[]
   rw [h];rfl
  ·show Zz .unk (Z7c .unk st.tmps i v) t=_
   rw [Zlh,Xd (fun e=>ht (by rw [e];exact Yg.2 rfl))]
  ·show Zz .unk (Z7c .unk st.tmps i v) t=_
   rw [Zlh,Xc (Yg.1 ht).symm]
theorem Zr1 {st:St} (h:st.gs=[]) (t:Nat):st.tmp t=Zz .unk st.tmps t:=by
 unfold St.tmp
 rw [h]
 rfl
section
variable {P:Program} {o:Oper} {X:Nat→Prop} {ρ ρ':Rho} {st st':St} {a:Act} {w w':World} {R:Type} {r:R} {C:Ctx} {ops:Array Oper}
theorem Znrb {g:Bool} {v:AV} {K:AV→Option R} (h:Zi7 g v K=some r):∃v',K v'=some r∧∀(X:Nat→Prop) (ρ:Rho) (w:World) (u:Value),Z4 X ρ w v u→Z4 X ρ w v' u:=by
 unfold Zi7 at h
 split at h
 ·rename_i b
  cases b with
  | true=>exact ⟨_,h,fun X ρ w u hu=>hu⟩
  | false=>exact ⟨_,h,fun X ρ w u hu=>hu⟩
 ·exact ⟨v,h,fun X ρ w u hu=>hu⟩
theorem Zmab (H:CtxOk P C) {k:Nat} (hk:ops[k]? = some o) (hlt:∀i,o.dst=some i→i<st.n) {g:Bool} {rs:List Rec} {m:Nat} {f:FP} {K:St→List Rec→Option R}
  (hw:∀a:Act,(∀t,t∈f.rt→∃X ρ w,Z4 X ρ w (st.tmp t) (Z1 a t))→Region.wanted o (yielded ops a.tmps)=true) (hr:Z0y C g o rs m f st K=some r):
  ∃st' rc,K st' (rc::rs)=some r∧okR rs rc=true∧rc.anc=m∧StepOk P ops k st st' rc:=by
 unfold Z0y at hr
 obtain ⟨v0,st1,f1,hr1,hle,d⟩:=Zqu _ hr
 obtain ⟨v,hr2,hsp⟩:=Znrb hr1
 clear hr hr1
 cases hok:okR rs ⟨o.dst.toList,f1,m⟩ with
 | false=>rw [hok] at hr2;cases hr2
 | true=>
  rw [hok] at hr2;refine ⟨st1.put o.dst v,⟨o.dst.toList,f1,m⟩,hr2,hok,rfl,?_⟩;obtain ⟨p1,p2,p3,p4,p5,p6,p7,p8⟩:=Zj0 st1 o.dst v;refine ⟨p1.trans d.still.n,fun h=>p6 (d.still.gs.trans h),p3.trans d.still.lim,p4.trans d.still.res,by rw [p2];exact d.nb,fun b hb=>?_,fun t ht=>?_,fun t ht=>⟨o,hk,?_⟩,?_⟩
  ·have:=d.out b hb
   unfold St.ent at this ⊢;rw [p5];exact this
  ·rw [p7 t ht,d.still.tmps]
  ·cases hd:o.dst with
   | none=>
    replace ht:t∈o.dst.toList:=ht;rw [hd] at ht;cases ht
   | some i=>
    replace ht:t∈o.dst.toList:=ht;rw [hd] at ht;rw [Yg.1 ht]
  ·intro X ρ st2 a w hrel hgs ha hn hnb hlim Q K2 hq
   obtain ⟨st2',g1,g2,g3,g4,g5⟩:=d.loc st2 ha hnb (.inr (by rw [← p2];exact hlim));unfold wpOp;rw [hk];dsimp only
   have hwanted:=hw a fun t ht=>⟨X,ρ,w,by
    rw [← ha.tm t (hle.rt t ht),Zr1 hgs];exact hrel.tmps t⟩
   rw [Xc hwanted];refine .inl (Zr3 H hrel (fun t b (e:none=some (t,b))=>nomatch e) g1 _ _ ?_);intro av u ρ' st3 w' hk3 hv hrel3 hx hn3
   obtain ⟨rfl,rfl⟩:v0=av∧st2'=st3:=by
    have:=Option.some.inj hk3;exact ⟨(congrArg Prod.fst this).symm,(congrArg Prod.snd this).symm⟩
   obtain ⟨q1,q2,q3,q4,q5,q6,q7,q8⟩:=Zj0 st2' o.dst v;refine hq ρ' (st2'.put o.dst v) _ w' (hrel3.put (fun i hi=>by rw [hn3,hn];exact hlt i hi) (hsp X ρ' w' u hv)) hx (q6 (g2.gs.trans hgs)) (q1.trans hn3) ?_ (q3.trans g2.lim) (q4.trans g2.res) ?_ ?_ ?_ ?_ ?_
   ·rw [q2,p2];exact g3
   ·intro b hb
    have:=g4 b (.inr hb);unfold St.ent at this ⊢;rw [q5,p5];exact this
   ·intro b hb
    have:=g5 b hb;unfold St.ent at this ⊢;rw [q5];exact this
   ·intro t ht;rw [q8 t ht,p8 t ht]
   ·intro t ht;rw [q7 t ht,g2.tmps]
   ·intro t ht
    exact Zmx (fun e=>ht (by show t∈o.dst.toList;rw [e];exact Yg.2 rfl))
theorem Znab {k:Nat} (hk:ops[k]? = some o) (hlt:∀i,o.dst=some i→i<st.n) {rs:List Rec} {m:Nat} {f:FP} {K:St→List Rec→Option R} (hfb:f.wb=[])
  (hw:∀a:Act,(∀t,t∈f.rt→∃X ρ w,Z4 X ρ w (st.tmp t) (Z1 a t))→Region.wanted o (yielded ops a.tmps)=false) (hr:Z1y o rs m f st K=some r):
  ∃st' rc,K st' (rc::rs)=some r∧okR rs rc=true∧rc.anc=m∧StepOk P ops k st st' rc:=by
 unfold Z1y at hr
 cases hok:okR rs ⟨o.dst.toList,f,m⟩ with
 | false=>rw [hok] at hr;cases hr
 | true=>
  rw [hok] at hr;refine ⟨st.put o.dst .undef,⟨o.dst.toList,f,m⟩,hr,hok,rfl,?_⟩;obtain ⟨p1,p2,p3,p4,p5,p6,p7,p8⟩:=Zj0 st o.dst .undef;refine ⟨p1,p6,p3,p4,by rw [p2];exact Yr _,fun b hb=>by unfold St.ent;rw [p5],fun t ht=>p7 t ht,fun t ht=>⟨o,hk,?_⟩,?_⟩
  ·cases hd:o.dst with
   | none=>
    replace ht:t∈o.dst.toList:=ht;rw [hd] at ht;cases ht
   | some i=>
    replace ht:t∈o.dst.toList:=ht;rw [hd] at ht;rw [Yg.1 ht]
  ·intro X ρ st2 a w hrel hgs ha hn hnb hlim Q K2 hq
   unfold wpOp;rw [hk];dsimp only
   have hwanted:=hw a fun t ht=>⟨X,ρ,w,by
    rw [← ha.tm t ht,Zr1 hgs];exact hrel.tmps t⟩
   rw [Xd (by rw [hwanted];simp)];obtain ⟨q1,q2,q3,q4,q5,q6,q7,q8⟩:=Zj0 st2 o.dst .undef;refine hq ρ (st2.put o.dst .undef) _ w (hrel.put (fun i hi=>by rw [hn];exact hlt i hi) rfl) (Ext.refl _ _) (q6 hgs) q1 ?_ q3 q4 ?_ ?_ ?_ ?_ ?_
   ·rw [q2,p2];exact hnb
   ·intro b hb
    replace hb:b∈f.wb:=hb;rw [hfb] at hb;cases hb
   ·intro b hb;unfold St.ent;rw [q5]
   ·intro t ht;rw [q8 t ht,p8 t ht]
   ·intro t ht;exact q7 t ht
   ·intro t ht
    exact Zmx (fun e=>ht (by show t∈o.dst.toList;rw [e];exact Yg.2 rfl))
theorem Zojb (H:CtxOk P C) {k:Nat} (hk:ops[k]? = some o) (hlt:∀i,o.dst=some i→i<st.n) {rs:List Rec} {m:Nat} {K:St→List Rec→Option R} (hr:Zzy C ops o rs m st K=some r):
  ∃st' rc,K st' (rc::rs)=some r∧okR rs rc=true∧rc.anc=m∧StepOk P ops k st st' rc:=by
 unfold Zzy at hr
 split at hr
 ·rename_i hgd
  exact Zmab H hk hlt (fun a _=>by simp [Region.wanted,hgd]) hr
 ·rename_i j wb hgd
  split at hr
  ·cases hr
  ·rename_i t ht
   split at hr
   ·rename_i b hb
    have tm:∀a:Act,(∀s,s∈[t]→∃X ρ w,Z4 X ρ w (st.tmp s) (Z1 a s))→Z1 a t = .bool b:=fun a ha=>by
     obtain ⟨X,ρ,w,h⟩:=ha t (Yg.2 rfl);rw [hb] at h;exact h
    cases hbw:(b==wb) with
    | true=>
     rw [hbw] at hr;have:b=wb:=by simpa using hbw
     subst this;exact Zmab H hk hlt (fun a ha=>Z47 hgd ht (tm a ha)) hr
    | false=>
     rw [hbw] at hr
     exact Znab hk hlt rfl (fun a ha=>Zzx hgd ht (by
      rw [tm a ha];intro e;cases e;simp at hbw)) hr
   ·rename_i hb
    exact Znab hk hlt rfl (fun a ha=>Zzx hgd ht (by
     obtain ⟨X,ρ,w,h⟩:=ha t (Yg.2 rfl);rw [hb] at h;have h:Z1 a t=undef:=h;rw [h];intro e;cases e)) hr
   ·cases hr
def Z4f (rc:Nat→Rec):Nat→List Rec
 | 0=>[]
 | k+1=>rc k::Z4f rc k
theorem Zm2 {rc rc':Nat→Rec}:∀{k:Nat},(∀i,i<k→rc i=rc' i)→Z4f rc k=Z4f rc' k
 | 0,_=>rfl
 | k+1,h=>by
  show rc k::Z4f rc k=rc' k::Z4f rc' k;rw [h k (Yla k),Zm2 fun i hi=>h i (Y3 hi)]
theorem Zov (rc:Nat→Rec):∀k,(Z4f rc k).length=k
 | 0=>rfl
 | k+1=>congrArg (· + 1) (Zov rc k)
structure Info (P:Program) (ops:Array Oper) (s:Nat→St) (rc:Nat→Rec) (i:Nat):Prop where
 step:StepOk P ops i (s i) (s (i+1)) (rc i)
 ok:okR (Z4f rc i) (rc i)=true
 anc:∃o,ops[i]? = some o∧Zfp (Z4f rc i) o.after.toList=some (rc i).anc
theorem Zzeb (H:CtxOk P C):∀(rest:List Oper) (k:Nat) (s0:Nat→St) (rc0:Nat→Rec) {K:St→Option R},(∀i,rest[i]? = ops[k+i]?)→Zyq C ops rest (Z4f rc0 k) (s0 k) K=some r →
  ∃s rc,(∀i,i≤k→s i=s0 i)∧(∀i,i<k→rc i=rc0 i)∧(∀i,k≤i→i<k+rest.length→Info P ops s rc i)∧K (s (k+rest.length))=some r∧(s (k+rest.length)).nb≤1000000
 | [],k,s0,rc0,K,_,hr=>by
  unfold Zyq at hr;cases hb:Nat.ble (s0 k).nb 1000000 with
  | false=>rw [hb] at hr;cases hr
  | true=>
   rw [hb] at hr;exact ⟨s0,rc0,fun _ _=>rfl,fun _ _=>rfl,fun i h1 h2=>absurd h2 (by simp;omega),hr,Y2 hb⟩
 | o::rest,k,s0,rc0,K,hops,hr=>by
  unfold Zyq at hr
  have hk:ops[k]? = some o:=by
   have:=hops 0;rw [Yha] at this;rw [← this];rfl
  cases hd:Zmt (s0 k) o with
  | false=>rw [hd] at hr;cases hr
  | true=>
   rw [hd] at hr
   replace hr:(match Zfp (Z4f rc0 k) o.after.toList with
    | some m=>Zzy C ops o (Z4f rc0 k) m (s0 k) fun st' rs'=>Zyq C ops rest rs' st' K
    | none=>none)=some r:=hr
   split at hr
   ·rename_i m hm
    obtain ⟨st',rc,hr1,hok,hanc,hstep⟩:=Zojb H hk (Zrab hd) hr
    let s1:Nat→St:=fun i=>if i=k+1 then st' else s0 i
    let rc1:Nat→Rec:=fun i=>if i=k then rc else rc0 i
    have hb1:Z4f rc1 (k+1)=rc::Z4f rc0 k:=by
     show rc1 k::Z4f rc1 k=_;rw [show rc1 k=rc from Xc rfl,Zm2 (rc':=rc0) fun i hi=>Xd (Y5 hi)]
    have hr2:Zyq C ops rest (Z4f rc1 (k+1)) (s1 (k+1)) K=some r:=by
     rw [hb1,show s1 (k+1)=st' from Xc rfl];exact hr1
    obtain ⟨s,rcs,e1,e2,e3,e4,e5⟩:=Zzeb H rest (k+1) s1 rc1 (fun i=>by
     have:=hops (i+1);rw [Yaa] at this;rw [this,Yz,Y1 1 i]) hr2
    have hlen:k+1+rest.length=k+(o::rest).length:=by
     rw [List.length_cons];omega
    rw [hlen] at e3 e4 e5
    have hb2:Z4f rcs k=Z4f rc0 k:=Zm2 fun i hi=>by
     rw [e2 i (Y3 hi)];exact Xd (Y5 hi)
    refine ⟨s,rcs,fun i hi=>?_,fun i hi=>?_,fun i h1 h2=>?_,e4,e5⟩
    ·rw [e1 i (Nat.le_succ_of_le hi)]
     exact Xd (by omega)
    ·rw [e2 i (Y3 hi)]
     exact Xd (Y5 hi)
    ·rcases Nat.eq_or_lt_of_le h1 with h1 | h1
     ·subst h1
      have ek:s k=s0 k:=by
       rw [e1 k (Nat.le_succ k)];exact Xd (by omega)
      have ek1:s (k+1)=st':=by
       rw [e1 (k+1) (Yr _)];exact Xc rfl
      have er:rcs k=rc:=by
       rw [e2 k (Yla k)];exact Xc rfl
      refine ⟨?_,?_,o,hk,?_⟩
      ·rw [ek,ek1,er];exact hstep
      ·rw [hb2,er];exact hok
      ·rw [hb2,er,hanc];exact hm
     ·exact e3 i h1 h2
   ·cases hr
end
end Go.Proofs.Qz
