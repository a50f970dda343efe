/- What the law FnExactDo needs, part 10 of 15: the Lean functions of the Go functions that it reaches, with the proofs that the calls come to what they say, and plain facts about them. Conditions: those that each theorem states. Written by a session and by its programs (after the kit's printer). -/
import Derived.Laws.BitsLemmas
import Derived.Test.YtpcllejjdmmjcaaGreatDoorXFnExactDo5
import Derived.Test.YtpcllejjdmmjcaaGreatDoorXFnExactDo8
open Option renaming bind → Ya, bind_some → Yc
open Go.IntKind renaming wrap → Yb, bits → Yt, signed → Yz
open List renaming getD → Yd, length_append → Yj, append_assoc → Yn, drop_eq_getElem_cons → Yo, set → Yp, replicate → Yu, length_cons → Y0, drop_eq_nil_of_le → Y3, drop_length → Y4, drop_zero → Y5, length_map → Y6, drop_drop → Yga, getElem_mem → Yha, length → Yia, length_drop → Yja, take_add_one → Yka, take_append_drop → Yla, take_length → Yma
open Int renaming toNat_natCast → Ye, toNat → Ym, tmod → Yy, tmod_eq_emod_of_nonneg → Y2, tdiv_eq_ediv_of_nonneg → Yfa
open BitVec renaming ofInt → Yf, ofInt_natCast → Yh, toNat_ofNat → Yi, toNat_and → Yba
open Nat renaming mod_eq_of_lt → Yg, not_lt_zero → Yk, pow_succ → Yq, zero_add → Yr, le_refl → Yv, mul_comm → Yw, xor_assoc → Y1, add_assoc → Y7, lt_or_ge → Y8, mul_le_mul_right → Y9, xor_comm → Yaa, add_comm → Yna, and_one_is_mod → Yoa, div_lt_of_lt_mul → Ypa, min_eq_left → Yqa, mul_assoc → Yra, pow_le_pow_right → Ysa, pow_zero → Yta, sub_self → Yua, xor_lt_two_pow → Yva, xor_zero → Ywa
open Bool renaming and_eq_true → Yl, and_false → Ys, false_eq_true → Yx, eq_false_iff → Yca, eq_iff_iff → Yda, not_true → Yea
namespace Go.Proofs.Qz
open Go Go.RowKit
set_option linter.unusedVariables false
set_option linter.defProp false
def Zmc.l0 (k:Nat):Nat→Str→List Int→Option ((List Int))
 | 0,_,_=>none
 | j+1,a1,a2=>
  bif !(a1==[]) then
   Ya (Z9b a1 0 64) fun v3=>
   Ya (Zpb k a2 v3) fun v4=>
   Ya (Z9b a1 64 ((a1.length):Int)) fun v5=>
   Zmc.l0 k j v5 v4
  else
  some a2
def Zmc.l1 (k:Nat):Nat→Str→Int→Int→Int→Int→Int→Int→Int→Int→Int→Option (Str)
 | 0,_,_,_,_,_,_,_,_,_,_=>none
 | j+1,a1,a2,a3,a4,a5,a6,a7,a8,a9,a10=>
  bif decide (a10<8) then
   Ya (at? [a2,a3,a4,a5,a6,a7,a8,a9] a10) fun v11=>
   Ya (Zvd k (Yb .u64 v11) 4) fun v12=>
   Ya (Zpc a1 v12) fun v13=>
   Zmc.l1 k j v13 a2 a3 a4 a5 a6 a7 a8 a9 (Yb .i64 (a10+1))
  else
  some a1
def Zmc (k:Nat) (a1:Str):Option (Str):=
 Ya (nz? 64) fun v2=>
 Ya (nz? 64) fun v3=>
 Ya (Zpc a1 ([128]:Str)) fun v4=>
 Ya (strings_Repeat ([0]:Str) (Yy (Yb .i64 (119-(Yy ((a1.length):Int) 64))) 64)) fun v5=>
 Ya (Zpc v4 v5) fun v6=>
 Ya (Zvd k (Yb .u64 (8*(Yb .u64 ((a1.length):Int)))) 8) fun v7=>
 Ya (Zpc v6 v7) fun v8=>
 Ya (Zmc.l0 k k v8 [(Yd Z6m 0 0),(Yd Z6m 1 0),(Yd Z6m 2 0),(Yd Z6m 3 0),(Yd Z6m 4 0),(Yd Z6m 5 0),(Yd Z6m 6 0),(Yd Z6m 7 0)]) fun y9=>
 Ya (Zmc.l1 k k [] (Yd y9 0 0) (Yd y9 1 0) (Yd y9 2 0) (Yd y9 3 0) (Yd y9 4 0) (Yd y9 5 0) (Yd y9 6 0) (Yd y9 7 0) 0) fun y10=>
 some y10
def Zmc.con (k:Nat):Con:=Sig.con { ps:=[.val false .str (ros .str)],rs:=[.val false [.v .str]],ntmps:=44 } (fun x=>Zmc k x)
def Zmc.cok (k:Nat):=cX (cC (strings_Repeat.ok k) (cC (Zvd.ok k) (cC (Zpb.ok k) cN)))
def Zmc.l0.s (k:Nat):Summ:=lp 44 { tmps:=[(3,.one (.own 1)),(5,.one (.v .str))],slots:=[(1,.arr false 2000008 (.int .u32))],nb:=2 } [(.exit 0,{ tmps:=[(3,.one (.own 2))],slots:=[(2,.arr false 2000008 (.int .u32))],nb:=3 })] (fun j x=>Zmc.l0 k j x.1 x.2) k
def Zmc.l0.ok (k:Nat):=(lA (Zmc.cok k):Zj Tryz.prog _ (.loop (cO (cO (cL (cR (cR (cR (cR (cB Tryz.f270))))))))) (Zmc.l0.s k))
def Zmc.l1.s (k:Nat):Summ:=lp 44 { tmps:=[(6,.one (.v .str)),(33,.agg [.v (.int .u32),.v (.int .u32),.v (.int .u32),.v (.int .u32),.v (.int .u32),.v (.int .u32),.v (.int .u32),.v (.int .u32)]),(34,.one (.v (.int .i64)))],slots:=[],nb:=3 } [(.exit 2,{ tmps:=[(6,.one (.v .str))],slots:=[],nb:=3 })] (fun j x=>Zmc.l1 k j x.1 x.2.1 x.2.2.1 x.2.2.2.1 x.2.2.2.2.1 x.2.2.2.2.2.1 x.2.2.2.2.2.2.1 x.2.2.2.2.2.2.2.1 x.2.2.2.2.2.2.2.2.1 x.2.2.2.2.2.2.2.2.2) k
def Zmc.l1.ok (k:Nat):=(lA (Zmc.cok k):Zj Tryz.prog _ (.loop (cO (cO (cR (cL (cR (cR (cR (cR (cR (cR (cB Tryz.f270)))))))))))) (Zmc.l1.s k))
theorem Zmc.ok (k:Nat):Zf Tryz.prog 270 (Zmc.con k):=fP (.two .auto (.two .auto (.two .auto (.two .auto (.two (.one (.sum (Zmc.l0.s k))) (.two .auto (.two (.two .auto (.one (.sum (Zmc.l1.s k)))) .auto))))))) (Zmc.cok k) Tryz.func270 (sC (Zmc.l0.ok k) (sC (Zmc.l1.ok k) sN))
def strings_Join (l:List Str) (s:Str):Option Str:=if l.length≤140737488355328∧(Lib.join l s).length≤140737488355328 then some (Lib.join l s) else none
def strings_Join.con (k:Nat):Con:={ ms:=[.val [.ro],.val [.ro]],f:=fun xs=>match xs with
 | [.val false [.leaf (.bor .str l)],.val false [.leaf (.str s)]]=>.opt Str (strings_Join l s) fun r=>⟨[.val false [.leaf (.str r)]],[]⟩
 | _=>.fail }
theorem strings_Join.ok (k:Nat):Zf Tryz.prog 271 (strings_Join.con k):=by
 refine ⟨(Zq2 Tryz.func271 (by kernel_rfl) (show Tryz.f271.body=some (cB Tryz.f271) by kernel_rfl)),?_⟩
 intro xs rr hrr w vs F L M hF hnd hgl hargs
 unfold strings_Join.con at hrr
 dsimp only at hrr
 split at hrr
 ·rename_i l s
  replace hrr:(strings_Join l s).map (fun r=>(⟨[.val false [.leaf (.str r)]],[]⟩:RR))=some rr:=hrr
  unfold strings_Join at hrr
  split at hrr
  ·rename_i hc
   obtain ⟨hc1,hc2⟩:=hc
   cases hrr
   match vs,hargs with
   | [v1,v2],⟨_,_,_,_,hL,hM,⟨rfl,hv1,hn1⟩,_,_,_,_,hL2,hM2,⟨rfl,hv2,hn2⟩,hn3,hn4⟩=>
   have hv2:v2 = .string (ba s):=hv2
   subst hv2
   subst hn1
   subst hn2
   subst hn3
   subst hn4
   subst hL2
   subst hM2
   subst hL
   subst hM
   obtain ⟨A,c,hv,hlc,hrow⟩:=hv1
   cases hv
   have fin:∀w',Below w.heap.size w w'→∃v,Ending.returned (.string (ba (Lib.join l s))) = .returned v∧Zeu ⟨[.val false [.leaf (.str (Lib.join l s))]],[]⟩ F [] [] w v w':=fun w' bel=>
    ⟨_,rfl,⟨bel.os,bel.tape,bel.output,bel.size,fun b hb _=>bel.block b hb⟩,[],[],(fun c hc=>nomatch hc),List.nodup_nil,rfl,rfl,rfl⟩
   rcases hrow with rfl | ⟨g,o,rfl,hB,hcells⟩
   ·refine (Tryz.strings_Join_none A c (ba s) w).mono ?_
    rintro e w' ⟨rfl,rfl⟩
    exact fin _ (Below.refl _ _)
   ·have hx:((l.map ba).map (·.data.toList))=l:=by rw [List.map_map];exact List.map_id' l
    have hcall:=Tryz.strings_Join g o c (l.map ba) (ba s) w (fun j x hj=>by
     rw [List.getElem?_map] at hj
     obtain ⟨y,hy,rfl⟩:=Option.map_eq_some_iff.1 hj
     obtain ⟨cs,h1,h2⟩:=hcells j y hy
     have h2:cs=[.string (ba y)]:=h2
     subst h2
     have:=h1 0 _ rfl
     simpa [Ty.sz] using this) hB.1 (by rw [Y6];exact hc1) (by rw [Y6];exact hlc) (by rw [hx];exact hc2)
    rw [hx,Y6] at hcall
    refine hcall.mono ?_
    rintro e w' ⟨rfl,bel⟩
    exact fin w' bel
  ·cases hrr
 ·cases hrr
def Z6o (k:Nat) (a1:List Str):Option (Str):=
 Ya (strings_Join a1 []) fun v2=>
 Ya (Zmc k v2) fun v3=>
 some v3
def Z6o.con (k:Nat):Con:=Sig.con { ps:=[.val false (.sl .str) (ros (.sl .str))],rs:=[.val false [.v .str]],ntmps:=6 } (fun x=>Z6o k x)
theorem Z6o.ok (k:Nat):Zf Tryz.prog 220 (Z6o.con k):=fA (cX (cC (Zmc.ok k) (cC (strings_Join.ok k) cN))) Tryz.func220
def Zyo (k:Nat) (a1:G28) (a2:G46) (a3:List G52):Option (List Z5c×Str×List Int×Int):=
 Ya (Zbj a2) fun v4=>
 Ya (Zce k a1 v4) fun v5=>
 Ya (Zud k a1) fun v6=>
 bif a2.1 != 2 then
  some ([],[],[],10)
 else
 Ya (Zpk a3) fun v7=>
 bif v7 != a2.2.2.1 then
  some (v5,[],[],4)
 else
 Ya (Zcd k a3 a1.1) fun v8=>
 bif v8 != 0 then
  some (v5,[],[],5)
 else
 Ya (Zqe k v6 a3) fun v9=>
 Ya (Z6o k v9) fun v10=>
 bif !(v10==a2.2.2.2.2.2.1) then
  some (v5,[],[],5)
 else
 Ya (Zmb k a3) fun v11=>
 Ya (Zee k v11) fun v12=>
 bif decide (a2.2.2.2.1<v12) then
  some (v5,[],[],11)
 else
 Ya (Zce k a1 (3,a2.2)) fun v13=>
 Ya (Zt 32 ([(true,(0,[]))]) v13) fun v14=>
 some (v14,[],[],0)
def Zyo.con (k:Nat):Con:=Sig.con { ps:=[.val true T28 (ros T28),.val true T46 (ros T46),.val false (.sl T52) (ros (.sl T52))],rs:=[.val true [.own 151 Zjc,.v .str,.own 2 (.int .i64),.v (.int .i64)]],ntmps:=62 } (fun x=>Zyo k x.1 x.2.1 x.2.2)
theorem Zyo.ok (k:Nat):Zf Tryz.prog 130 (Zyo.con k):=fA (cX (cC (Zud.ok k) (cC (Zcd.ok k) (cC (Zmb.ok k) (cC (Zee.ok k) (cC (Zqe.ok k) (cC (Zce.ok k) (cC (Zbj.ok k) (cC (Zpk.ok k) (cC (Z6o.ok k) cN)))))))))) Tryz.func130
def Zdp (k:Nat) (a1:Int) (a2:Int) (a3:Str):Option (Str):=
 Ya (Zwd k [a1,a2]) fun v4=>
 Ya (Z9i k a3) fun v5=>
 Ya (Zpc v4 v5) fun v6=>
 Ya (Zaj k v6) fun v7=>
 some v7
def Zdp.con (k:Nat):Con:=Sig.con { ps:=[.val false (.int .i64) (ros (.int .i64)),.val false (.int .i64) (ros (.int .i64)),.val false .str (ros .str)],rs:=[.val false [.v .str]],ntmps:=15 } (fun x=>Zdp k x.1 x.2.1 x.2.2)
theorem Zdp.ok (k:Nat):Zf Tryz.prog 222 (Zdp.con k):=fA (cX (cC (Zwd.ok k) (cC (Z9i.ok k) (cC (Zaj.ok k) cN)))) Tryz.func222
def Zvc.j0 (k:Nat) (a1:List G52) (a2:Int) (a3:Int) (a4:List Str) (a5:List Zr) (a6:Int) (a7:Int) (a8:Int) (a9:Int) (a10:Int) (a11:Str) (a12:List Int) (a13:List Int) (a14:Int) (a15:Int) (a16:Int) (a17:Int) (a18:List Zad):Option ((Int×Str×Int×List Str×List Zr×Int×Int×Int×Int×Int×Str×List Int×List Int×Int×Int×Int×Int)):=
 let e19:=(a3,(a4,a5))
 bif a14==1 then
  Ya (at? a13 a17) fun v20=>
  Ya (Zmh e19 v20) fun v21=>
  Ya (Z6f k (a4,a5) a2) fun v22=>
  some (v21,v22,a3,a4,a5,a6,a7,a8,a9,a10,a11,a12,a13,a14,a15,a16,a17)
 else
 Ya (Zcj k a1) fun v23=>
 Ya (at? v23 a15) fun v24=>
 Ya (Z7f k e19 (a6,(a7,(a8,(a9,(a10,(a11,(a12,a13))))))) a18 v24) fun v25=>
 some (a2,v25,a3,a4,a5,a6,a7,a8,a9,a10,a11,a12,a13,a14,a15,a16,a17)
def Zvc.j1 (k:Nat) (a1:Int) (a2:Str) (a3:Str) (a4:Int) (a5:Int) (a6:Int) (a7:Int) (a8:Int) (a9:Str) (a10:List Int) (a11:List Int):Option ((Str×Int×Int×Int×Int×Int×Str×List Int×List Int)):=
 bif ((a2.length):Int)==8 then
  Ya (Zdp k a8 a1 a2) fun v12=>
  some (v12,a4,a5,a6,a7,a8,a9,a10,a11)
 else
 some (a3,a4,a5,a6,a7,a8,a9,a10,a11)
def Zvc (k:Nat) (a1:G28) (a2:G46) (a3:List G52):Option (List Z5c×Str×List Int×Int):=
 bif a2.1 != 5 then
  some ([],[],[],10)
 else
 Ya (Zmb k a3) fun v4=>
 Ya (Zhl v4) fun v5=>
 let e6:=Yb .i64 (v5-a2.2.2.2.2.1)
 bif e6==0 then
  Ya (Zbj a2) fun v7=>
  Ya (Zce k a1 v7) fun v8=>
  some (v8,[],[0],0)
 else
 let e9:=at? v4 a2.2.2.2.2.1
 Ya (e9) fun v10=>
 Ya (e9) fun v11=>
 Ya (Zvc.j0 k a3 (Yb .i64 (3+v11.2.2.1)) a1.1 a1.2.1 a1.2.2 a2.1 a2.2.1 a2.2.2.1 a2.2.2.2.1 a2.2.2.2.2.1 a2.2.2.2.2.2.1 a2.2.2.2.2.2.2.1 a2.2.2.2.2.2.2.2 v11.1 v11.2.1 v11.2.2.1 v11.2.2.2 v4) fun y12=>
 Ya (Zvc.j1 k y12.1 y12.2.1 [] y12.2.2.2.2.2.1 y12.2.2.2.2.2.2.1 y12.2.2.2.2.2.2.2.1 y12.2.2.2.2.2.2.2.2.1 y12.2.2.2.2.2.2.2.2.2.1 y12.2.2.2.2.2.2.2.2.2.2.1 y12.2.2.2.2.2.2.2.2.2.2.2.1 y12.2.2.2.2.2.2.2.2.2.2.2.2.1) fun y13=>
 Ya (Zce k (y12.2.2.1,(y12.2.2.2.1,y12.2.2.2.2.1)) (y13.2.1,(y13.2.2.1,(y13.2.2.2.1,(y13.2.2.2.2.1,((Yb .i64 (y13.2.2.2.2.2.1+1)),y13.2.2.2.2.2.2)))))) fun v14=>
 let e15:=(true,(0,[]))
 Ya (Zt 32 [(false,(2,y13.1)),e15,(false,(y12.1,y12.2.1)),e15] v14) fun v16=>
 some (v16,[],[(Yb .i64 (e6-1))],0)
def Zvc.con (k:Nat):Con:=Sig.conR { ps:=[.val true T28 (Z7g T28),.val true T46 (Z7g T46),.val false (.sl T52) (ros (.sl T52))],rs:=[.val true [.own 151 Zjc,.v .str,.own 2 (.int .i64),.v (.int .i64)]],ntmps:=95 } (fun x=>Zvc k x.1 x.2.1 x.2.2)
def Zvc.cok (k:Nat):=cX (cC (Zmb.ok k) (cC (Zhl.ok k) (cC (Zcj.ok k) (cC (Z7f.ok k) (cC (Z6f.ok k) (cC (Zce.ok k) (cC (Zbj.ok k) (cC (Zmh.ok k) (cC (Zdp.ok k) cN)))))))))
def Zvc.j0.s (k:Nat):Summ:=lq 95 { tmps:=[(2,.one (.bor T52)),(3,.one (.ptr 0 0)),(4,.one (.ptr 1 0)),(7,.one (.own 5)),(9,.one (.ptr 4 0)),(10,.one (.v (.int .i64)))],slots:=[(0,.box 28 [.v (.int .i64),.v (.sl .str),.v (.sl Zp)]),(1,.box 46 [.v (.int .i64),.v (.int .i64),.v (.int .i64),.v (.int .i64),.v (.int .i64),.v .str,.v (.sl (.int .i64)),.v (.sl (.int .i64))]),(4,.box 139 [.v (.int .i64),.v (.int .i64),.v (.int .i64),.v (.int .i64)]),(5,.arr false 139 Z4b)],nb:=6 } [(.nrm,{ tmps:=[(10,.one (.v (.int .i64))),(11,.one (.v .str))],slots:=[(0,.box 28 [.v (.int .i64),.v (.sl .str),.v (.sl Zp)]),(1,.box 46 [.v (.int .i64),.v (.int .i64),.v (.int .i64),.v (.int .i64),.v (.int .i64),.v .str,.v (.sl (.int .i64)),.v (.sl (.int .i64))]),(4,.box 139 [.v (.int .i64),.v (.int .i64),.v (.int .i64),.v (.int .i64)])],nb:=6 })] (fun x=>Zvc.j0 k x.1 x.2.1 x.2.2.1 x.2.2.2.1 x.2.2.2.2.1 x.2.2.2.2.2.1 x.2.2.2.2.2.2.1 x.2.2.2.2.2.2.2.1 x.2.2.2.2.2.2.2.2.1 x.2.2.2.2.2.2.2.2.2.1 x.2.2.2.2.2.2.2.2.2.2.1 x.2.2.2.2.2.2.2.2.2.2.2.1 x.2.2.2.2.2.2.2.2.2.2.2.2.1 x.2.2.2.2.2.2.2.2.2.2.2.2.2.1 x.2.2.2.2.2.2.2.2.2.2.2.2.2.2.1 x.2.2.2.2.2.2.2.2.2.2.2.2.2.2.2.1 x.2.2.2.2.2.2.2.2.2.2.2.2.2.2.2.2.1 x.2.2.2.2.2.2.2.2.2.2.2.2.2.2.2.2.2)
def Zvc.j0.ok (k:Nat):=(jA (Zvc.cok k):Zj Tryz.prog _ (cL (cR (cR (cR (cR (cR (cR (cR (cB Tryz.f133))))))))) (Zvc.j0.s k))
def Zvc.j1.s (k:Nat):Summ:=lq 95 { tmps:=[(4,.one (.ptr 1 0)),(10,.one (.v (.int .i64))),(11,.one (.v .str)),(12,.one (.v .str))],slots:=[(1,.box 46 [.v (.int .i64),.v (.int .i64),.v (.int .i64),.v (.int .i64),.v (.int .i64),.v .str,.v (.sl (.int .i64)),.v (.sl (.int .i64))])],nb:=6 } [(.nrm,{ tmps:=[(12,.one (.v .str))],slots:=[(1,.box 46 [.v (.int .i64),.v (.int .i64),.v (.int .i64),.v (.int .i64),.v (.int .i64),.v .str,.v (.sl (.int .i64)),.v (.sl (.int .i64))])],nb:=6 })] (fun x=>Zvc.j1 k x.1 x.2.1 x.2.2.1 x.2.2.2.1 x.2.2.2.2.1 x.2.2.2.2.2.1 x.2.2.2.2.2.2.1 x.2.2.2.2.2.2.2.1 x.2.2.2.2.2.2.2.2.1 x.2.2.2.2.2.2.2.2.2.1 x.2.2.2.2.2.2.2.2.2.2)
def Zvc.j1.ok (k:Nat):=(jA (Zvc.cok k):Zj Tryz.prog _ (cL (cR (cR (cR (cR (cR (cR (cR (cR (cR (cB Tryz.f133))))))))))) (Zvc.j1.s k))
theorem Zvc.ok (k:Nat):Zf Tryz.prog 133 (Zvc.con k):=Zn8 (fP (.two .auto (.two .auto (.two .auto (.two .auto (.two .auto (.two .auto (.two .auto (.two (.sum (Zvc.j0.s k)) (.two .auto (.two (.sum (Zvc.j1.s k)) .auto)))))))))) (Zvc.cok k) Tryz.func133 (sC (Zvc.j0.ok k) (sC (Zvc.j1.ok k) sN)))
def Zmn (k:Nat) (a1:G28) (a2:G46):Option (List Zad):=
 Ya (Z7c k a1 a2) fun v3=>
 Ya (Zcd k v3 a1.1) fun v4=>
 bif v4 != 0 then
  some ([])
 else
 Ya (Zmb k v3) fun v5=>
 some v5
def Zmn.con (k:Nat):Con:=Sig.con { ps:=[.val true T28 (ros T28),.val true T46 (ros T46)],rs:=[.val false [.own 139 Z4b]],ntmps:=16 } (fun x=>Zmn k x.1 x.2)
theorem Zmn.ok (k:Nat):Zf Tryz.prog 134 (Zmn.con k):=fA (cXr true false (cC (Z7c.ok k) (cC (Zcd.ok k) (cC (Zmb.ok k) cN)))) Tryz.func134
def Zuc.j0 (k:Nat) (a1:Int) (a2:List Str) (a3:List Zr) (a4:Int) (a5:Int) (a6:Int) (a7:Int) (a8:Int) (a9:Int) (a10:Str) (a11:List Int) (a12:List Int):Option ((Int×Int×Int×Int×Int×Int×Str×List Int×List Int)):=
 bif a5==5 then
  Ya (Zmn k (a1,(a2,a3)) (a5,(a6,(a7,(a8,(a9,(a10,(a11,a12)))))))) fun v13=>
  Ya (Zhl v13) fun v14=>
  some (Yb .i64 (v14-a9),a5,a6,a7,a8,a9,a10,a11,a12)
 else
 some (a4,a5,a6,a7,a8,a9,a10,a11,a12)
def Zuc (k:Nat) (a1:G28) (a2:G54):Option (List Z5c×Str×List Int×Int):=
 Ya (Znh k a1) fun v3=>
 Ya (Zzc k a1.2) fun v4=>
 bif v4.1==1000000 then
  some ([],[],[],9)
 else
 let e5:=(v3.2.2.1,(v3.2.2.2.1,(v3.2.2.2.2.1,(v3.2.2.2.2.2.1,(v3.2.2.2.2.2.2.1,v3.2.2.2.2.2.2.2.1)))))
 let e6:=(v3.1,(v3.2.1,e5))
 Ya (Z7c k a1 e6) fun v7=>
 bif a2.1==1 then
  Ya (Zne k a1 e6 a2) fun v8=>
  some (v8.1,v8.2.1,v8.2.2.1,v8.2.2.2)
 else
 bif a2.1==2 then
  Ya (Zzo k a1 e6 v7 a2.2.2.2.2) fun v9=>
  some (v9.1,v9.2.1,v9.2.2.1,v9.2.2.2)
 else
 bif a2.1==3 then
  Ya (Zyo k a1 e6 v7) fun v10=>
  some (v10.1,v10.2.1,v10.2.2.1,v10.2.2.2)
 else
 bif a2.1==4 then
  bif (v3.1==1)||(v3.1==5) then
   some ([],[],[],10)
  else
  Ya (Zbj e6) fun v11=>
  Ya (Zce k a1 v11) fun v12=>
  some (v12,[],[],0)
 else
 bif a2.1==5 then
  bif v3.1 != 4 then
   some ([],[],[],10)
  else
  Ya (Zce k a1 (5,(0,e5))) fun v13=>
  Ya (Zt 32 ([(false,(2,[])),(true,(0,[]))]) v13) fun v14=>
  some (v14,[],[],0)
 else
 bif a2.1==6 then
  Ya (Zvc k a1 e6 v7) fun v15=>
  some (v15.1,v15.2.1,v15.2.2.1,v15.2.2.2)
 else
 bif a2.1==7 then
  bif decide (a1.1≤a2.2.1) then
   some ([],[],[],8)
  else
  Ya (Zoe k a1) fun v16=>
  let e17:=at? v16 a2.2.1
  Ya (e17) fun v18=>
  Ya (e17) fun v19=>
  some ([],v19,[],0)
 else
 bif a2.1==8 then
  Ya (Zuc.j0 k a1.1 a1.2.1 a1.2.2 0 v3.1 v3.2.1 v3.2.2.1 v3.2.2.2.1 v3.2.2.2.2.1 v3.2.2.2.2.2.1 v3.2.2.2.2.2.2.1 v3.2.2.2.2.2.2.2.1) fun y20=>
  Ya (Zpk v7) fun v21=>
  Ya (Zde k v7) fun v22=>
  Ya (Z4j y20.2.2.2.2.2.2.2.1) fun v23=>
  Ya (Z4j y20.2.2.2.2.2.2.2.2) fun v24=>
  some ([],[],[y20.2.1,y20.2.2.1,v21,v22,y20.1,(Yb .i64 ((Yb .i64 (24-v23))-v24))],0)
 else
 bif a2.1==9 then
  Ya (Z1b k v3.2.2.2.2.2.2.1 v3.2.2.2.2.2.2.2.1 a2.2.1) fun v25=>
  bif !v25.2 then
   some ([],[],[],11)
  else
  Ya (Zlc k v3.2.2.2.2.2.2.1) fun v26=>
  Ya (Zlc k v25.1) fun v27=>
  Ya (Zgd k (intBits .or .i64 v26 v27)) fun v28=>
  Ya (Zce k a1 (v3.1,(v3.2.1,(v3.2.2.1,(v3.2.2.2.1,(v3.2.2.2.2.1,(v3.2.2.2.2.2.1,(v28,v3.2.2.2.2.2.2.2.1)))))))) fun v29=>
  some (v29,[],[],0)
 else
 bif a2.1==10 then
  Ya (Zce k a1 (v3.1,(v3.2.1,(v3.2.2.1,(v3.2.2.2.1,(v3.2.2.2.2.1,(v3.2.2.2.2.2.1,([],v3.2.2.2.2.2.2.2.1)))))))) fun v30=>
  some (v30,[],[],0)
 else
 Ya (Zod k a1 e6) fun v31=>
 some (v31,[],[],0)
def Zuc.con (k:Nat):Con:=Sig.con { ps:=[.val true T28 (ros T28),.val true T54 (ros T54)],rs:=[.val true [.own 151 Zjc,.v .str,.own 2 (.int .i64),.v (.int .i64)]],ntmps:=175 } (fun x=>Zuc k x.1 x.2)
def Zuc.cok (k:Nat):=cXr true false (cC (Zoe.ok k) (cC (Znh.ok k) (cC (Zod.ok k) (cC (Z7c.ok k) (cC (Zhl.ok k) (cC (Zzc.ok k) (cC (Zne.ok k) (cC (Zzo.ok k) (cC (Zyo.ok k) (cC (Zce.ok k) (cC (Zbj.ok k) (cC (Zvc.ok k) (cC (Zmn.ok k) (cC (Zpk.ok k) (cC (Zde.ok k) (cC (Z4j.ok k) (cC (Z1b.ok k) (cC (Zgd.ok k) (cC (Zlc.ok k) cN)))))))))))))))))))
def Zuc.j0.s (k:Nat):Summ:=lq 175 { tmps:=[(2,.eptr [.v (.int .i64),.bor .str,.bor Zp]),(5,.one (.ptr 4 0)),(10,.one (.v (.int .i64)))],slots:=[(4,.box 46 [.v (.int .i64),.v (.int .i64),.v (.int .i64),.v (.int .i64),.v (.int .i64),.v .str,.own 7,.own 8]),(7,.arr false 2 (.int .i64)),(8,.arr false 2 (.int .i64))],nb:=9 } [(.nrm,{ tmps:=[(10,.one (.v (.int .i64)))],slots:=[(4,.box 46 [.v (.int .i64),.v (.int .i64),.v (.int .i64),.v (.int .i64),.v (.int .i64),.v .str,.own 9,.own 10]),(9,.arr false 2 (.int .i64)),(10,.arr false 2 (.int .i64))],nb:=11 })] (fun x=>Zuc.j0 k x.1 x.2.1 x.2.2.1 x.2.2.2.1 x.2.2.2.2.1 x.2.2.2.2.2.1 x.2.2.2.2.2.2.1 x.2.2.2.2.2.2.2.1 x.2.2.2.2.2.2.2.2.1 x.2.2.2.2.2.2.2.2.2.1 x.2.2.2.2.2.2.2.2.2.2.1 x.2.2.2.2.2.2.2.2.2.2.2)
def Zuc.j0.ok (k:Nat):=(jA (Zuc.cok k):Zj Tryz.prog _ (cL (cR (cL (cR (cR (cR (cR (cR (cR (cR (cR (cR (cR (cR (cR (cR (cR (cR (cO (cR (cL (cR (cR (cR (cR (cB Tryz.f62)))))))))))))))))))))))))) (Zuc.j0.s k))
theorem Zuc.ok (k:Nat):Zf Tryz.prog 62 (Zuc.con k):=fP (.two .auto (.two .auto (.two .auto (.two .auto (.two (.two .auto (.one (.two .auto (.two .auto (.two .auto (.two .auto (.two .auto (.two .auto (.two .auto (.two .auto (.two .auto (.two .auto (.two .auto (.two .auto (.two .auto (.two .auto (.two .auto (.two (.two .auto (.two (.sum (Zuc.j0.s k)) .auto)) .auto)))))))))))))))))) .auto))))) (Zuc.cok k) Tryz.func62 (sC (Zuc.j0.ok k) sN)
def Zdk (a:List Zr):Option (List Zr):=Ya (Zt 24 [] a) fun y=>some y
def Zdk.sig:Sig:={ ps:=[.val false (.sl Zp) (ros (.sl Zp))],rs:=[.val false [.own 195 Zp]],ntmps:=8 }
def Zdk.con (k:Nat):Con:=Zdk.sig.con (fun x=>Zdk x)
theorem Zdk.ok (k:Nat):Zf Tryz.prog 224 (Zdk.con k):=
 Zxx (e:=195) (C:={ ti:=TAB,con:=Zel [] }) (s:=Zdk.sig) (G:=fun x=>Zdk x) (Zws Zps trivial) Tryz.func224 (by kernel_rfl) rfl (by kernel_rfl) (by kernel_rfl) (by kernel_rfl) rfl rfl rfl rfl rfl rfl (by kernel_rfl) (by kernel_rfl)
  (fun x=>⟨_,_,.inl rfl⟩) (fun x y h=>Eq.trans (b:=Zdk x) (by kernel_rfl) h) (fun x y h hl=>by
   have e:x=([]:List Zr):=hl Zp x (.inl (by kernel_rfl))
   subst e
   exact Eq.trans (b:=Zdk []) (by kernel_rfl) h)
def Z3o (a1:G26):Option (List Str×List Zr):=
 Ya (Z4h a1.1) fun v2=>
 Ya (Zdk a1.2) fun v3=>
 some (v2,v3)
def Z3o.con (k:Nat):Con:=Sig.con { ps:=[.val true T26 (ros T26)],rs:=[.val true [.own 9 .str,.own 195 Zp]],ntmps:=10 } (fun x=>Z3o x)
theorem Z3o.ok (k:Nat):Zf Tryz.prog 141 (Z3o.con k):=fA (cXr true false (cC (Z4h.ok k) (cC (Zdk.ok k) cN))) Tryz.func141
def Zlf.l0:Nat→Int→Int→List Zr→List Str→Option ((List Str×List Zr))
 | 0,_,_,_,_=>none
 | j+1,a1,a2,a3,a4=>
  bif decide (a2<a1) then
   Ya (at? a3 a2) fun v5=>
   Ya (at? a3 a2) fun v6=>
   let e7:=at? a4 v6.1
   Ya (e7) fun v8=>
   Ya (e7) fun v9=>
   Zlf.l0 j a1 (Yb .i64 (a2+1)) a3 (Yp a4 (Ym v6.1) v6.2)
  else
  some (a4,a3)
def Zlf (k:Nat) (a1:G26):Option (List Str×List Zr):=
 Ya (Zlf.l0 k ((a1.2.length):Int) 0 a1.2 a1.1) fun y2=>
 some (y2.1,[])
def Zlf.con (k:Nat):Con:=Sig.con { ps:=[.ref 26 T26 [.own 9,.own 195]],rs:=[],ntmps:=26 } (fun x=>Zlf k x)
def Zlf.cok (k:Nat):=cX cN
def Zlf.l0.s (k:Nat):Summ:=lp 26 { tmps:=[(0,.one (.ptr 0 0)),(7,.one (.own 3)),(8,.one (.v (.int .i64))),(9,.one (.v (.int .i64)))],slots:=[(0,.box 26 [.own 4,.own 3]),(3,.arr false 195 Zp),(4,.arr false 9 .str)],nb:=5 } [(.exit 0,{ tmps:=[],slots:=[(0,.box 26 [.own 5,.own 6]),(5,.arr false 9 .str),(6,.arr false 195 Zp)],nb:=7 })] (fun j x=>Zlf.l0 j x.1 x.2.1 x.2.2.1 x.2.2.2) k
def Zlf.l0.ok (k:Nat):=(lA (Zlf.cok k):Zj Tryz.prog _ (.loop (cO (cO (cR (cL (cB Tryz.f142)))))) (Zlf.l0.s k))
theorem Zlf.ok (k:Nat):Zf Tryz.prog 142 (Zlf.con k):=fP (.two (.two .auto (.one (.sum (Zlf.l0.s k)))) .auto) (Zlf.cok k) Tryz.func142 (sC (Zlf.l0.ok k) sN)
def Zxo (k:Nat) (a1:G26) (a2:Int) (a3:Str):Option (List Str×List Zr):=
 Ya (Zok k a1 a2) fun v4=>
 bif decide (0≤v4) then
  let e5:=at? a1.2 v4
  Ya (e5) fun v6=>
  Ya (e5) fun v7=>
  some (a1.1,Yp a1.2 (Ym v4) (v7.1,a3))
 else
 Ya (Zt 24 a1.2 [(a2,a3)]) fun v8=>
 some (a1.1,v8)
def Zxo.con (k:Nat):Con:=Sig.con { ps:=[.ref 26 T26 [.own 9,.own 195],.val false (.int .i64) (ros (.int .i64)),.val false .str (ros .str)],rs:=[],ntmps:=34 } (fun x=>Zxo k x.1 x.2.1 x.2.2)
theorem Zxo.ok (k:Nat):Zf Tryz.prog 143 (Zxo.con k):=fA (cX (cC (Zok.ok k) cN)) Tryz.func143
def Z3e.l0 (k:Nat):Nat→List Z5c→Int→Int→List Str→List Zr→Option ((List Str×List Zr))
 | 0,_,_,_,_,_=>none
 | j+1,a1,a2,a3,a4,a5=>
  bif decide (a3<a2) then
   Ya (at? a1 a3) fun v6=>
   let e7:=Yb .i64 (a3+1)
   bif v6.1 then
    Ya (Zlf k (a4,a5)) fun v8=>
    Z3e.l0 k j a1 a2 e7 v8.1 v8.2
   else
   Ya (Zxo k (a4,a5) v6.2.1 v6.2.2) fun v9=>
   Z3e.l0 k j a1 a2 e7 v9.1 v9.2
  else
  some (a4,a5)
def Z3e (k:Nat) (a1:G26) (a2:List Z5c):Option (List Str×List Zr):=
 Ya (Z3o a1) fun v3=>
 Ya (Z3e.l0 k k a2 ((a2.length):Int) 0 v3.1 v3.2) fun y4=>
 some (y4.1,y4.2)
def Z3e.con (k:Nat):Con:=Sig.con { ps:=[.val true T26 (ros T26),.val false (.sl Zjc) (ros (.sl Zjc))],rs:=[.val true [.own 9 .str,.own 195 Zp]],ntmps:=26 } (fun x=>Z3e k x.1 x.2)
def Z3e.cok (k:Nat):=cXr true false (cC (Z3o.ok k) (cC (Zlf.ok k) (cC (Zxo.ok k) cN)))
def Z3e.l0.s (k:Nat):Summ:=lp 26 { tmps:=[(5,.one (.ptr 3 0)),(10,.one (.bor Zjc)),(11,.one (.v (.int .i64))),(12,.one (.v (.int .i64)))],slots:=[(3,.box 26 [.own 4,.own 5]),(4,.arr false 9 .str),(5,.arr false 195 Zp)],nb:=6 } [(.exit 0,{ tmps:=[],slots:=[(3,.box 26 [.own 6,.own 7]),(6,.arr false 9 .str),(7,.arr false 195 Zp)],nb:=8 })] (fun j x=>Z3e.l0 k j x.1 x.2.1 x.2.2.1 x.2.2.2.1 x.2.2.2.2) k
def Z3e.l0.ok (k:Nat):=(lA (Z3e.cok k):Zj Tryz.prog _ (.loop (cO (cO (cR (cL (cR (cR (cB Tryz.f63)))))))) (Z3e.l0.s k))
theorem Z3e.ok (k:Nat):Zf Tryz.prog 63 (Z3e.con k):=fP (.two .auto (.two .auto (.two (.two .auto (.one (.sum (Z3e.l0.s k)))) .auto))) (Z3e.cok k) Tryz.func63 (sC (Z3e.l0.ok k) sN)
def Zgl (k:Nat) (a1:G28) (a2:G54):Option (Int×List Str×List Zr×Str×List Int×Int):=
 Ya (Znn k a1) fun v3=>
 bif !v3 then
  some (0,[],[],[],[],1)
 else
 Ya (Z7o a2) fun v4=>
 bif !v4 then
  some (0,[],[],[],[],1)
 else
 Ya (Zuc k a1 a2) fun v5=>
 Ya (Z3e k a1.2 v5.1) fun v6=>
 some (a1.1,v6.1,v6.2,v5.2.1,v5.2.2.1,v5.2.2.2)
def Zgl.con (k:Nat):Con:=Sig.con { ps:=[.val true T28 (ros T28),.val true T54 (ros T54)],rs:=[.val true [.v (.int .i64),.own 9 .str,.own 195 Zp,.v .str,.own 2 (.int .i64),.v (.int .i64)]],ntmps:=33 } (fun x=>Zgl k x.1 x.2)
theorem Zgl.ok (k:Nat):Zf Tryz.prog 24 (Zgl.con k):=fA (cXr true false (cC (Znn.ok k) (cC (Z7o.ok k) (cC (Zuc.ok k) (cC (Z3e.ok k) cN))))) Tryz.func24
def Zqf.l0:Nat→List Str→List Str→Int→Option (Unit ⊕ Bool)
 | 0,_,_,_=>none
 | j+1,a1,a2,a3=>
  bif decide (a3<((a1.length):Int)) then
   Ya (at? a1 a3) fun v4=>
   Ya (at? a2 a3) fun v5=>
   bif !(v4==v5) then
    some (.inr false)
   else
   Zqf.l0 j a1 a2 (Yb .i64 (a3+1))
  else
  some (.inl ())
def Zqf (k:Nat) (a1:List Str) (a2:List Str):Option (Bool):=
 bif ((a1.length):Int) != ((a2.length):Int) then
  some false
 else
 Ya (Zqf.l0 k a1 a2 0) fun
  | .inl y3=>
   some true
  | .inr y4=>
   some y4
def Zqf.con (k:Nat):Con:=Sig.con { ps:=[.val false (.sl .str) (ros (.sl .str)),.val false (.sl .str) (ros (.sl .str))],rs:=[.val false [.v .bool]],ntmps:=26 } (fun x=>Zqf k x.1 x.2)
def Zqf.cok (k:Nat):=cX cN
def Zqf.l0.s (k:Nat):Summ:=lp 26 { tmps:=[(0,.one (.bor .str)),(1,.one (.bor .str)),(5,.one (.v (.int .i64)))],slots:=[],nb:=0 } [(.exit 0,{ tmps:=[],slots:=[],nb:=0 }),(.ret,{ tmps:=[(4,.one (.v .bool))],slots:=[],nb:=0 })] (fun j x=>Zqf.l0 j x.1 x.2.1 x.2.2) k
def Zqf.l0.ok (k:Nat):=(lA (Zqf.cok k):Zj Tryz.prog _ (.loop (cO (cO (cR (cL (cR (cR (cB Tryz.f156)))))))) (Zqf.l0.s k))
theorem Zqf.ok (k:Nat):Zf Tryz.prog 156 (Zqf.con k):=fP (.two .auto (.two .auto (.two (.two .auto (.one (.sum (Zqf.l0.s k)))) .auto))) (Zqf.cok k) Tryz.func156 (sC (Zqf.l0.ok k) sN)
def Znp (a1:Zr) (a2:Zr):Option (Bool):=
 bif a1.1 != a2.1 then
  some false
 else
 bif !(a1.2==a2.2) then
  some false
 else
 some true
def Znp.con (k:Nat):Con:=Sig.con { ps:=[.val true Zp (ros Zp),.val true Zp (ros Zp)],rs:=[.val false [.v .bool]],ntmps:=15 } (fun x=>Znp x.1 x.2)
theorem Znp.ok (k:Nat):Zf Tryz.prog 241 (Znp.con k):=fA (cX cN) Tryz.func241
def Zof.l0:Nat→List Zr→List Zr→Int→Option (Unit ⊕ Bool)
 | 0,_,_,_=>none
 | j+1,a1,a2,a3=>
  bif decide (a3<((a1.length):Int)) then
   Ya (at? a1 a3) fun v4=>
   Ya (at? a2 a3) fun v5=>
   Ya (Znp v4 v5) fun v6=>
   bif !v6 then
    some (.inr false)
   else
   Zof.l0 j a1 a2 (Yb .i64 (a3+1))
  else
  some (.inl ())
def Zof (k:Nat) (a1:List Zr) (a2:List Zr):Option (Bool):=
 bif ((a1.length):Int) != ((a2.length):Int) then
  some false
 else
 Ya (Zof.l0 k a1 a2 0) fun
  | .inl y3=>
   some true
  | .inr y4=>
   some y4
def Zof.con (k:Nat):Con:=Sig.con { ps:=[.val false (.sl Zp) (ros (.sl Zp)),.val false (.sl Zp) (ros (.sl Zp))],rs:=[.val false [.v .bool]],ntmps:=27 } (fun x=>Zof k x.1 x.2)
def Zof.cok (k:Nat):=cX (cC (Znp.ok k) cN)
def Zof.l0.s (k:Nat):Summ:=lp 27 { tmps:=[(0,.one (.bor Zp)),(1,.one (.bor Zp)),(5,.one (.v (.int .i64)))],slots:=[],nb:=0 } [(.exit 0,{ tmps:=[],slots:=[],nb:=0 }),(.ret,{ tmps:=[(4,.one (.v .bool))],slots:=[],nb:=0 })] (fun j x=>Zof.l0 j x.1 x.2.1 x.2.2) k
def Zof.l0.ok (k:Nat):=(lA (Zof.cok k):Zj Tryz.prog _ (.loop (cO (cO (cR (cL (cR (cR (cB Tryz.f157)))))))) (Zof.l0.s k))
theorem Zof.ok (k:Nat):Zf Tryz.prog 157 (Zof.con k):=fP (.two .auto (.two .auto (.two (.two .auto (.one (.sum (Zof.l0.s k)))) .auto))) (Zof.cok k) Tryz.func157 (sC (Zof.l0.ok k) sN)
def Zop (k:Nat) (a1:G26) (a2:G26):Option (Bool):=
 Ya (Zqf k a1.1 a2.1) fun v3=>
 bif !v3 then
  some false
 else
 Ya (Zof k a1.2 a2.2) fun v4=>
 bif !v4 then
  some false
 else
 some true
def Zop.con (k:Nat):Con:=Sig.con { ps:=[.val true T26 (ros T26),.val true T26 (ros T26)],rs:=[.val false [.v .bool]],ntmps:=17 } (fun x=>Zop k x.1 x.2)
theorem Zop.ok (k:Nat):Zf Tryz.prog 73 (Zop.con k):=fA (cXr true false (cC (Zqf.ok k) (cC (Zof.ok k) cN))) Tryz.func73
def Zsk (k:Nat) (a1:G28) (a2:G28):Option (Bool):=
 bif a1.1 != a2.1 then
  some false
 else
 Ya (Zop k a1.2 a2.2) fun v3=>
 bif !v3 then
  some false
 else
 some true
def Zsk.con (k:Nat):Con:=Sig.con { ps:=[.val true T28 (ros T28),.val true T28 (ros T28)],rs:=[.val false [.v .bool]],ntmps:=16 } (fun x=>Zsk k x.1 x.2)
theorem Zsk.ok (k:Nat):Zf Tryz.prog 26 (Zsk.con k):=fA (cXr true false (cC (Zop.ok k) cN)) Tryz.func26
def Zpf.l0:Nat→List Int→List Int→Int→Option (Unit ⊕ Bool)
 | 0,_,_,_=>none
 | j+1,a1,a2,a3=>
  bif decide (a3<((a1.length):Int)) then
   Ya (at? a1 a3) fun v4=>
   Ya (at? a2 a3) fun v5=>
   bif v4 != v5 then
    some (.inr false)
   else
   Zpf.l0 j a1 a2 (Yb .i64 (a3+1))
  else
  some (.inl ())
def Zpf (k:Nat) (a1:List Int) (a2:List Int):Option (Bool):=
 bif ((a1.length):Int) != ((a2.length):Int) then
  some false
 else
 Ya (Zpf.l0 k a1 a2 0) fun
  | .inl y3=>
   some true
  | .inr y4=>
   some y4
def Zpf.con (k:Nat):Con:=Sig.con { ps:=[.val false (.sl (.int .i64)) (ros (.sl (.int .i64))),.val false (.sl (.int .i64)) (ros (.sl (.int .i64)))],rs:=[.val false [.v .bool]],ntmps:=26 } (fun x=>Zpf k x.1 x.2)
def Zpf.cok (k:Nat):=cX cN
def Zpf.l0.s (k:Nat):Summ:=lp 26 { tmps:=[(0,.one (.bor (.int .i64))),(1,.one (.bor (.int .i64))),(5,.one (.v (.int .i64)))],slots:=[],nb:=0 } [(.exit 0,{ tmps:=[],slots:=[],nb:=0 }),(.ret,{ tmps:=[(4,.one (.v .bool))],slots:=[],nb:=0 })] (fun j x=>Zpf.l0 j x.1 x.2.1 x.2.2) k
def Zpf.l0.ok (k:Nat):=(lA (Zpf.cok k):Zj Tryz.prog _ (.loop (cO (cO (cR (cL (cR (cR (cB Tryz.f33)))))))) (Zpf.l0.s k))
theorem Zpf.ok (k:Nat):Zf Tryz.prog 33 (Zpf.con k):=fP (.two .auto (.two .auto (.two (.two .auto (.one (.sum (Zpf.l0.s k)))) .auto))) (Zpf.cok k) Tryz.func33 (sC (Zpf.l0.ok k) sN)
def Zpm (k:Nat) (a1:G70) (a2:G70):Option (Bool):=
 Ya (Zsk k a1.1 a2.1) fun v3=>
 bif !v3 then
  some false
 else
 bif !(a1.2.1==a2.2.1) then
  some false
 else
 Ya (Zpf k a1.2.2.1 a2.2.2.1) fun v4=>
 bif !v4 then
  some false
 else
 bif a1.2.2.2 != a2.2.2.2 then
  some false
 else
 some true
def Zpm.con (k:Nat):Con:=Sig.con { ps:=[.val true T70 (ros T70),.val true T70 (ros T70)],rs:=[.val false [.v .bool]],ntmps:=27 } (fun x=>Zpm k x.1 x.2)
theorem Zpm.ok (k:Nat):Zf Tryz.prog 25 (Zpm.con k):=fA (cXr true false (cC (Zsk.ok k) (cC (Zpf.ok k) cN))) Tryz.func25
def Z0c.l0:Nat→Int→Str→Option (Str)
 | 0,_,_=>none
 | j+1,a1,a2=>
  bif decide (0<a1) then
   Ya (nz? 10) fun v3=>
   Ya (Zpc (Znb [(Yb .u8 (Yb .i64 (48+(Yy a1 10))))]) a2) fun v4=>
   Ya (nz? 10) fun v5=>
   Z0c.l0 j (Yb .i64 (Int.tdiv a1 10)) v4
  else
  some a2
def Z0c (k:Nat) (a1:Int):Option (Str):=
 bif decide (a1≤0) then
  some ([109,48]:Str)
 else
 Ya (Z0c.l0 k a1 []) fun y2=>
 Ya (Zpc ([109]:Str) y2) fun v3=>
 some v3
def Z0c.con (k:Nat):Con:=Sig.con { ps:=[.val false (.int .i64) (ros (.int .i64))],rs:=[.val false [.v .str]],ntmps:=20 } (fun x=>Z0c k x)
def Z0c.cok (k:Nat):=cX cN
def Z0c.l0.s (k:Nat):Summ:=lp 20 { tmps:=[(0,.one (.v (.int .i64))),(3,.one (.v .str))],slots:=[],nb:=0 } [(.exit 0,{ tmps:=[(3,.one (.v .str))],slots:=[],nb:=0 })] (fun j x=>Z0c.l0 j x.1 x.2) k
def Z0c.l0.ok (k:Nat):=(lA (Z0c.cok k):Zj Tryz.prog _ (.loop (cO (cO (cL (cR (cR (cR (cB Tryz.f242)))))))) (Z0c.l0.s k))
theorem Z0c.ok (k:Nat):Zf Tryz.prog 242 (Z0c.con k):=fP (.two .auto (.two .auto (.two .auto (.two (.one (.sum (Z0c.l0.s k))) .auto)))) (Z0c.cok k) Tryz.func242 (sC (Z0c.l0.ok k) sN)
def Z6e.l0 (k:Nat):Nat→Int→Int→List Str→Option ((Int×List Str))
 | 0,_,_,_=>none
 | j+1,a1,a2,a3=>
  bif decide (a2<((a3.length):Int)) then
   Ya (Z0c k a1) fun v4=>
   Ya (at? a3 a2) fun v5=>
   Ya (at? a3 a2) fun v6=>
   Z6e.l0 k j (Yb .i64 (a1+1)) (Yb .i64 (a2+1)) (Yp a3 (Ym a2) v4)
  else
  some (a1,a3)
def Z6e (k:Nat) (a1:List Str) (a2:Int):Option (Int×List Str):=
 Ya (Z6e.l0 k k a2 0 a1) fun y3=>
 some (y3.1,y3.2)
def Z6e.con (k:Nat):Con:=Sig.con { ps:=[.val false (.sl .str) [.own 9],.val false (.int .i64) (ros (.int .i64))],rs:=[.val false [.v (.int .i64)]],ntmps:=20 } (fun x=>Z6e k x.1 x.2)
def Z6e.cok (k:Nat):=cX (cC (Z0c.ok k) cN)
def Z6e.l0.s (k:Nat):Summ:=lp 20 { tmps:=[(0,.one (.pin 0)),(1,.one (.v (.int .i64))),(5,.one (.v (.int .i64)))],slots:=[(0,.pin 9 .str)],nb:=1 } [(.exit 0,{ tmps:=[(1,.one (.v (.int .i64)))],slots:=[(0,.pin 9 .str)],nb:=1 })] (fun j x=>Z6e.l0 k j x.1 x.2.1 x.2.2) k
def Z6e.l0.ok (k:Nat):=(lA (Z6e.cok k):Zj Tryz.prog _ (.loop (cO (cO (cR (cL (cR (cB Tryz.f158))))))) (Z6e.l0.s k))
theorem Z6e.ok (k:Nat):Zf Tryz.prog 158 (Z6e.con k):=fP (.two .auto (.two (.two .auto (.one (.sum (Z6e.l0.s k)))) .auto)) (Z6e.cok k) Tryz.func158 (sC (Z6e.l0.ok k) sN)
def Z5e.l0 (k:Nat):Nat→Int→Int→List Zr→Option ((Int×List Zr))
 | 0,_,_,_=>none
 | j+1,a1,a2,a3=>
  bif decide (a2<((a3.length):Int)) then
   Ya (at? a3 a2) fun v4=>
   Ya (at? a3 a2) fun v5=>
   let e6:=Yb .i64 (a1+1)
   Ya (Z0c k e6) fun v7=>
   let e8:=Yp a3 (Ym a2) (a1,v5.2)
   let e9:=at? e8 a2
   Ya (e9) fun v10=>
   Ya (e9) fun v11=>
   Z5e.l0 k j (Yb .i64 (e6+1)) (Yb .i64 (a2+1)) (Yp e8 (Ym a2) (v11.1,v7))
  else
  some (a1,a3)
def Z5e (k:Nat) (a1:List Zr) (a2:Int):Option (Int×List Zr):=
 Ya (Z5e.l0 k k a2 0 a1) fun y3=>
 some (y3.1,y3.2)
def Z5e.con (k:Nat):Con:=Sig.con { ps:=[.val false (.sl Zp) [.own 195],.val false (.int .i64) (ros (.int .i64))],rs:=[.val false [.v (.int .i64)]],ntmps:=28 } (fun x=>Z5e k x.1 x.2)
def Z5e.cok (k:Nat):=cX (cC (Z0c.ok k) cN)
def Z5e.l0.s (k:Nat):Summ:=lp 28 { tmps:=[(0,.one (.pin 0)),(1,.one (.v (.int .i64))),(5,.one (.v (.int .i64)))],slots:=[(0,.pin 195 Zp)],nb:=1 } [(.exit 0,{ tmps:=[(1,.one (.v (.int .i64)))],slots:=[(0,.pin 195 Zp)],nb:=1 })] (fun j x=>Z5e.l0 k j x.1 x.2.1 x.2.2) k
def Z5e.l0.ok (k:Nat):=(lA (Z5e.cok k):Zj Tryz.prog _ (.loop (cO (cO (cR (cL (cR (cB Tryz.f159))))))) (Z5e.l0.s k))
theorem Z5e.ok (k:Nat):Zf Tryz.prog 159 (Z5e.con k):=fP (.two .auto (.two (.two .auto (.one (.sum (Z5e.l0.s k)))) .auto)) (Z5e.cok k) Tryz.func159 (sC (Z5e.l0.ok k) sN)
def Zrp (k:Nat) (a1:G26) (a2:Int):Option (Int×List Str×List Zr):=
 Ya (Z6e k a1.1 a2) fun v3=>
 Ya (Z5e k a1.2 v3.1) fun v4=>
 some (v4.1,v3.2,v4.2)
def Zrp.con (k:Nat):Con:=Sig.con { ps:=[.val true T26 [.own 9,.own 195],.val false (.int .i64) (ros (.int .i64))],rs:=[.val false [.v (.int .i64)]],ntmps:=14 } (fun x=>Zrp k x.1 x.2)
theorem Zrp.ok (k:Nat):Zf Tryz.prog 74 (Zrp.con k):=fA (cX (cC (Z6e.ok k) (cC (Z5e.ok k) cN))) Tryz.func74
def Ztk (k:Nat) (a1:G28) (a2:Int):Option (Int×List Str×List Zr):=
 Ya (Zrp k a1.2 a2) fun v3=>
 some (v3.1,v3.2.1,v3.2.2)
def Ztk.con (k:Nat):Con:=Sig.con { ps:=[.val true T28 [.v,.own 9,.own 195],.val false (.int .i64) (ros (.int .i64))],rs:=[.val false [.v (.int .i64)]],ntmps:=10 } (fun x=>Ztk k x.1 x.2)
theorem Ztk.ok (k:Nat):Zf Tryz.prog 27 (Ztk.con k):=fA (cX (cC (Zrp.ok k) cN)) Tryz.func27
def Zhe.l0:Nat→Int→Int→List Int→Option ((Int×List Int))
 | 0,_,_,_=>none
 | j+1,a1,a2,a3=>
  bif decide (a2<((a3.length):Int)) then
   Ya (at? a3 a2) fun v4=>
   Ya (at? a3 a2) fun v5=>
   Zhe.l0 j (Yb .i64 (a1+1)) (Yb .i64 (a2+1)) (Yp a3 (Ym a2) a1)
  else
  some (a1,a3)
def Zhe (k:Nat) (a1:List Int) (a2:Int):Option (Int×List Int):=
 Ya (Zhe.l0 k a2 0 a1) fun y3=>
 some (y3.1,y3.2)
def Zhe.con (k:Nat):Con:=Sig.con { ps:=[.val false (.sl (.int .i64)) [.own 2],.val false (.int .i64) (ros (.int .i64))],rs:=[.val false [.v (.int .i64)]],ntmps:=19 } (fun x=>Zhe k x.1 x.2)
def Zhe.cok (k:Nat):=cX cN
def Zhe.l0.s (k:Nat):Summ:=lp 19 { tmps:=[(0,.one (.pin 0)),(1,.one (.v (.int .i64))),(5,.one (.v (.int .i64)))],slots:=[(0,.pin 2 (.int .i64))],nb:=1 } [(.exit 0,{ tmps:=[(1,.one (.v (.int .i64)))],slots:=[(0,.pin 2 (.int .i64))],nb:=1 })] (fun j x=>Zhe.l0 j x.1 x.2.1 x.2.2) k
def Zhe.l0.ok (k:Nat):=(lA (Zhe.cok k):Zj Tryz.prog _ (.loop (cO (cO (cR (cL (cR (cB Tryz.f34))))))) (Zhe.l0.s k))
theorem Zhe.ok (k:Nat):Zf Tryz.prog 34 (Zhe.con k):=fP (.two .auto (.two (.two .auto (.one (.sum (Zhe.l0.s k)))) .auto)) (Zhe.cok k) Tryz.func34 (sC (Zhe.l0.ok k) sN)
def Zqp (k:Nat) (a1:G70) (a2:Int):Option (Int×List Str×List Zr×List Int):=
 Ya (Ztk k a1.1 a2) fun v3=>
 Ya (Zhe k a1.2.2.1 v3.1) fun v4=>
 some (v4.1,v3.2.1,v3.2.2,v4.2)
def Zqp.con (k:Nat):Con:=Sig.con { ps:=[.val true T70 [.v,.own 9,.own 195,.v,.own 2,.v],.val false (.int .i64) (ros (.int .i64))],rs:=[.val false [.v (.int .i64)]],ntmps:=14 } (fun x=>Zqp k x.1 x.2)
theorem Zqp.ok (k:Nat):Zf Tryz.prog 28 (Zqp.con k):=fA (cX (cC (Ztk.ok k) (cC (Zhe.ok k) cN))) Tryz.func28
def Zsf.l0 (k:Nat):Nat→List Str→Int→Int→Option (Int ⊕ Int)
 | 0,_,_,_=>none
 | j+1,a1,a2,a3=>
  bif decide (a3<((a1.length):Int)) then
   Ya (at? a1 a3) fun v4=>
   Ya (Z0c k a2) fun v5=>
   bif !(v4==v5) then
    some (.inr (-1))
   else
   Zsf.l0 k j a1 (Yb .i64 (a2+1)) (Yb .i64 (a3+1))
  else
  some (.inl a2)
def Zsf (k:Nat) (a1:List Str) (a2:Int):Option (Int):=
 Ya (Zsf.l0 k k a1 a2 0) fun
  | .inl y3=>
   some y3
  | .inr y4=>
   some y4
def Zsf.con (k:Nat):Con:=Sig.con { ps:=[.val false (.sl .str) (ros (.sl .str)),.val false (.int .i64) (ros (.int .i64))],rs:=[.val false [.v (.int .i64)]],ntmps:=22 } (fun x=>Zsf k x.1 x.2)
def Zsf.cok (k:Nat):=cX (cC (Z0c.ok k) cN)
def Zsf.l0.s (k:Nat):Summ:=lp 22 { tmps:=[(0,.one (.bor .str)),(1,.one (.v (.int .i64))),(5,.one (.v (.int .i64)))],slots:=[],nb:=0 } [(.exit 0,{ tmps:=[(1,.one (.v (.int .i64)))],slots:=[],nb:=0 }),(.ret,{ tmps:=[(4,.one (.v (.int .i64)))],slots:=[],nb:=0 })] (fun j x=>Zsf.l0 k j x.1 x.2.1 x.2.2) k
def Zsf.l0.ok (k:Nat):=(lA (Zsf.cok k):Zj Tryz.prog _ (.loop (cO (cO (cR (cL (cR (cB Tryz.f243))))))) (Zsf.l0.s k))
theorem Zsf.ok (k:Nat):Zf Tryz.prog 243 (Zsf.con k):=fP (.two .auto (.two (.two .auto (.one (.sum (Zsf.l0.s k)))) .auto)) (Zsf.cok k) Tryz.func243 (sC (Zsf.l0.ok k) sN)
def Zrf.l0 (k:Nat):Nat→List Zr→Int→Int→Option (Int ⊕ Int)
 | 0,_,_,_=>none
 | j+1,a1,a2,a3=>
  bif decide (a3<((a1.length):Int)) then
   Ya (at? a1 a3) fun v4=>
   bif v4.1 != a2 then
    some (.inr (-1))
   else
   Ya (at? a1 a3) fun v5=>
   let e6:=Yb .i64 (a2+1)
   Ya (Z0c k e6) fun v7=>
   bif !(v5.2==v7) then
    some (.inr (-1))
   else
   Zrf.l0 k j a1 (Yb .i64 (e6+1)) (Yb .i64 (a3+1))
  else
  some (.inl a2)
def Zrf (k:Nat) (a1:List Zr) (a2:Int):Option (Int):=
 Ya (Zrf.l0 k k a1 a2 0) fun
  | .inl y3=>
   some y3
  | .inr y4=>
   some y4
def Zrf.con (k:Nat):Con:=Sig.con { ps:=[.val false (.sl Zp) (ros (.sl Zp)),.val false (.int .i64) (ros (.int .i64))],rs:=[.val false [.v (.int .i64)]],ntmps:=32 } (fun x=>Zrf k x.1 x.2)
def Zrf.cok (k:Nat):=cX (cC (Z0c.ok k) cN)
def Zrf.l0.s (k:Nat):Summ:=lp 32 { tmps:=[(0,.one (.bor Zp)),(1,.one (.v (.int .i64))),(5,.one (.v (.int .i64)))],slots:=[],nb:=0 } [(.exit 0,{ tmps:=[(1,.one (.v (.int .i64)))],slots:=[],nb:=0 }),(.ret,{ tmps:=[(4,.one (.v (.int .i64)))],slots:=[],nb:=0 })] (fun j x=>Zrf.l0 k j x.1 x.2.1 x.2.2) k
def Zrf.l0.ok (k:Nat):=(lA (Zrf.cok k):Zj Tryz.prog _ (.loop (cO (cO (cR (cL (cR (cB Tryz.f244))))))) (Zrf.l0.s k))
theorem Zrf.ok (k:Nat):Zf Tryz.prog 244 (Zrf.con k):=fP (.two .auto (.two (.two .auto (.one (.sum (Zrf.l0.s k)))) .auto)) (Zrf.cok k) Tryz.func244 (sC (Zrf.l0.ok k) sN)
def Zur (k:Nat) (a1:G26) (a2:Int):Option (Int):=
 Ya (Zsf k a1.1 a2) fun v3=>
 bif decide (v3<0) then
  some (-1)
 else
 Ya (Zrf k a1.2 v3) fun v4=>
 bif decide (v4<0) then
  some (-1)
 else
 some v4
def Zur.con (k:Nat):Con:=Sig.con { ps:=[.val true T26 (ros T26),.val false (.int .i64) (ros (.int .i64))],rs:=[.val false [.v (.int .i64)]],ntmps:=18 } (fun x=>Zur k x.1 x.2)
theorem Zur.ok (k:Nat):Zf Tryz.prog 160 (Zur.con k):=fA (cXr true false (cC (Zsf.ok k) (cC (Zrf.ok k) cN))) Tryz.func160
def Zpp (k:Nat) (a1:G28) (a2:Int):Option (Int):=
 Ya (Zur k a1.2 a2) fun v3=>
 bif decide (v3<0) then
  some (-1)
 else
 some v3
def Zpp.con (k:Nat):Con:=Sig.con { ps:=[.val true T28 (ros T28),.val false (.int .i64) (ros (.int .i64))],rs:=[.val false [.v (.int .i64)]],ntmps:=12 } (fun x=>Zpp k x.1 x.2)
theorem Zpp.ok (k:Nat):Zf Tryz.prog 75 (Zpp.con k):=fA (cXr true false (cC (Zur.ok k) cN)) Tryz.func75
def Zge.l0:Nat→List Int→Int→Int→Option (Int ⊕ Int)
 | 0,_,_,_=>none
 | j+1,a1,a2,a3=>
  bif decide (a3<((a1.length):Int)) then
   Ya (at? a1 a3) fun v4=>
   bif v4 != a2 then
    some (.inr (-1))
   else
   Zge.l0 j a1 (Yb .i64 (a2+1)) (Yb .i64 (a3+1))
  else
  some (.inl a2)
def Zge (k:Nat) (a1:List Int) (a2:Int):Option (Int):=
 Ya (Zge.l0 k a1 a2 0) fun
  | .inl y3=>
   some y3
  | .inr y4=>
   some y4
def Zge.con (k:Nat):Con:=Sig.con { ps:=[.val false (.sl (.int .i64)) (ros (.sl (.int .i64))),.val false (.int .i64) (ros (.int .i64))],rs:=[.val false [.v (.int .i64)]],ntmps:=21 } (fun x=>Zge k x.1 x.2)
def Zge.cok (k:Nat):=cX cN
def Zge.l0.s (k:Nat):Summ:=lp 21 { tmps:=[(0,.one (.bor (.int .i64))),(1,.one (.v (.int .i64))),(5,.one (.v (.int .i64)))],slots:=[],nb:=0 } [(.exit 0,{ tmps:=[(1,.one (.v (.int .i64)))],slots:=[],nb:=0 }),(.ret,{ tmps:=[(4,.one (.v (.int .i64)))],slots:=[],nb:=0 })] (fun j x=>Zge.l0 j x.1 x.2.1 x.2.2) k
def Zge.l0.ok (k:Nat):=(lA (Zge.cok k):Zj Tryz.prog _ (.loop (cO (cO (cR (cL (cR (cB Tryz.f76))))))) (Zge.l0.s k))
theorem Zge.ok (k:Nat):Zf Tryz.prog 76 (Zge.con k):=fP (.two .auto (.two (.two .auto (.one (.sum (Zge.l0.s k)))) .auto)) (Zge.cok k) Tryz.func76 (sC (Zge.l0.ok k) sN)
def Zsn (k:Nat) (a1:G70) (a2:Int):Option (Int):=
 Ya (Zpp k a1.1 a2) fun v3=>
 bif decide (v3<0) then
  some (-1)
 else
 Ya (Zge k a1.2.2.1 v3) fun v4=>
 bif decide (v4<0) then
  some (-1)
 else
 some v4
def Zsn.con (k:Nat):Con:=Sig.con { ps:=[.val true T70 (ros T70),.val false (.int .i64) (ros (.int .i64))],rs:=[.val false [.v (.int .i64)]],ntmps:=18 } (fun x=>Zsn k x.1 x.2)
theorem Zsn.ok (k:Nat):Zf Tryz.prog 29 (Zsn.con k):=fA (cXr true false (cC (Zpp.ok k) (cC (Zge.ok k) cN))) Tryz.func29
def Z9g (k:Nat) (a1:G28) (a2:G54):Option (Bool):=
 Ya (Zvp k a1 1048576) fun v3=>
 bif decide (v3<0) then
  some true
 else
 Ya (Zsp a2 v3) fun v4=>
 bif decide (v4<0) then
  some true
 else
 Ya (Zll k a1) fun v5=>
 Ya (Ztn a2) fun v6=>
 Ya (Z0m k v5 v6) fun v7=>
 Ya (Zll k a1) fun v8=>
 Ya (Ztn a2) fun v9=>
 Ya (Zgl k v8 v9) fun v10=>
 let e11:=((v10.1,(v10.2.1,v10.2.2.1)),v10.2.2.2)
 let e12:=((v7.1,(v7.2.1,v7.2.2.1)),v7.2.2.2)
 Ya (Zpm k e11 e12) fun v13=>
 bif !v13 then
  some false
 else
 Ya (Zll k a1) fun v14=>
 Ya (Zsk k v8 v14) fun v15=>
 bif !v15 then
  some false
 else
 Ya (Ztk k v8 1) fun v16=>
 bif decide (v16.1<0) then
  some false
 else
 Ya (Zpm k e11 e12) fun v17=>
 bif !v17 then
  some false
 else
 Ya (Zqp k e11 1) fun v18=>
 Ya (Zsn k ((v10.1,(v18.2.1,v18.2.2.1)),(v10.2.2.2.1,(v18.2.2.2,v10.2.2.2.2.2))) 1) fun v19=>
 bif decide (v19<0) then
  some false
 else
 bif v19 != v18.1 then
  some false
 else
 Ya (Zll k a1) fun v20=>
 Ya (Ztn a2) fun v21=>
 Ya (Zgl k v20 v21) fun v22=>
 Ya (Zpm k ((v22.1,(v22.2.1,v22.2.2.1)),v22.2.2.2) e12) fun v23=>
 bif !v23 then
  some false
 else
 Ya (Zsn k ((v10.1,(v18.2.1,v18.2.2.1)),(v10.2.2.2.1,(v18.2.2.2,v10.2.2.2.2.2))) 1) fun v24=>
 bif decide (v24<0) then
  some false
 else
 bif v24 != v18.1 then
  some false
 else
 some true
def Z9g.sig:Sig:={ ps:=[.val true T28 (ros T28),.val true T54 (ros T54)],rs:=[.val false [.v .bool]],ntmps:=82 }
def Z9g.con (k:Nat):Con:=Z9g.sig.con (fun x=>Z9g k x.1 x.2)
theorem Z9g.ok (k:Nat):Zf Tryz.prog 4 (Z9g.con k):=fA (cXr true false (cC (Zvp.ok k) (cC (Zsp.ok k) (cC (Z0m.ok k) (cC (Zll.ok k) (cC (Ztn.ok k) (cC (Zgl.ok k) (cC (Zpm.ok k) (cC (Zsk.ok k) (cC (Ztk.ok k) (cC (Zqp.ok k) (cC (Zsn.ok k) cN)))))))))))) Tryz.func4
end Go.Proofs.Qz
namespace Go.Proofs.Qz
open Go
set_option linter.unusedVariables false
def Ze (p:Nat→Prop):Prop:=∃K,∀k,K≤k→p k
theorem Ze.of {p:Nat→Prop} (h:∀k,p k):Ze p:=⟨0,fun k _=>h k⟩
theorem Ze.ge {p:Nat→Prop} (K:Nat) (h:∀k,K≤k→p k):Ze p:=⟨K,h⟩
theorem Ze.mono {p q:Nat→Prop} (h:Ze p) (f:∀k,p k→q k):Ze q:=by
 obtain ⟨K,h⟩:=h
 exact ⟨K,fun k hk=>f k (h k hk)⟩
theorem Ze.and {p q:Nat→Prop} (h:Ze p) (g:Ze q):Ze fun k=>p k∧q k:=by
 obtain ⟨K,h⟩:=h
 obtain ⟨J,g⟩:=g
 exact ⟨K+J,fun k hk=>⟨h k (by omega),g k (by omega)⟩⟩
theorem Ze.ex {p:Nat→Prop} (h:Ze p):∃k,p k:=by
 obtain ⟨K,h⟩:=h
 exact ⟨K,h K (Yv K)⟩
theorem Ze.all {n:Nat} {p:Nat→Nat→Prop}:(∀i,i<n→Ze (p i))→Ze fun k=>∀i,i<n→p i k:=by
 induction n with
 | zero=>exact fun _=>⟨0,fun k _ i hi=>absurd hi (Yk i)⟩
 | succ n ih=>
  intro h
  refine ((ih fun i hi=>h i (Nat.lt_succ_of_lt hi)).and (h n (Nat.lt_succ_self n))).mono fun k hk i hi=>?_
  rcases Nat.eq_or_lt_of_le (Nat.le_of_lt_succ hi) with rfl | hi
  ·exact hk.2
  ·exact hk.1 i hi
theorem Ze.two {p q r:Nat→Prop} (h:Ze p) (g:Ze q) (f:∀k,p k→q k→r k):Ze r:=(h.and g).mono fun k hk=>f k hk.1 hk.2
theorem Z8u {R:Type} (L:Nat→Nat→Nat→Option R) (n:Nat) (r:R) (hs:Ze fun k=>∀i,i<n→∀j,L k (j+1) i=L k j (i+1)) (hl:Ze fun k=>∀j,L k (j+1) n=some r):Ze fun k=>L k k 0=some r:=by
 obtain ⟨K,hs⟩:=hs
 obtain ⟨J,hl⟩:=hl
 refine ⟨K+J+n+1,fun k hk=>?_⟩
 have hs:=hs k (by omega)
 have hl:=hl k (by omega)
 have key:∀d i j,i+d=n→d<j→L k j i=some r:=by
  intro d
  induction d with
  | zero=>
   intro i j hi hj
   obtain ⟨m,rfl⟩:∃m,j=m+1:=⟨j-1,by omega⟩
   obtain rfl:i=n:=by omega
   exact hl m
  | succ d ih=>
   intro i j hi hj
   obtain ⟨m,rfl⟩:∃m,j=m+1:=⟨j-1,by omega⟩
   rw [hs i (by omega) m]
   exact ih (i+1) m (by omega) (by omega)
 exact key n 0 k (by omega) (by omega)
theorem Zc4 {R:Type} (L:Nat→Nat→Option R) (n:Nat) (r:R) (hs:∀i,i<n→∀j,L (j+1) i=L j (i+1)) (hl:∀j,L (j+1) n=some r):Ze fun k=>L k 0=some r:=
 Z8u (fun _ j i=>L j i) n r (Ze.of fun _=>hs) (Ze.of fun _=>hl)
theorem Zrb {R:Type} (L:Nat→Nat→Option R) (n:Nat) (r:R) (hs:∀i,i<n→∀j,L (j+1) i=L j (i+1)) (hl:∀j,L (j+1) n=some r):∀k,n<k→L k 0=some r:=by
 have key:∀d i j,i+d=n→d<j→L j i=some r:=by
  intro d
  induction d with
  | zero=>
   intro i j hi hj
   obtain ⟨m,rfl⟩:∃m,j=m+1:=⟨j-1,by omega⟩
   obtain rfl:i=n:=by omega
   exact hl m
  | succ d ih=>
   intro i j hi hj
   obtain ⟨m,rfl⟩:∃m,j=m+1:=⟨j-1,by omega⟩
   rw [hs i (by omega) m]
   exact ih (i+1) m (by omega) (by omega)
 exact fun k hk=>key n 0 k (by omega) hk
theorem w64 {n:Int} (h0:-9223372036854775808≤n) (h1:n<9223372036854775808):Yb .i64 n=n:=by
 simp [Yb,Yt,Yz]
 omega
theorem wn {n:Nat} (h:n<9223372036854775808):Yb .i64 (n:Int)=n:=w64 (by omega) (by omega)
theorem Zn {n:Nat} (h:n<9223372036854775807):Yb .i64 ((n:Int)+1)=((n+1:Nat):Int):=by rw [w64] <;> omega
theorem Zi {α:Type} {l:List α} {i:Nat} (h:i<l.length):at? l (i:Int)=some l[i]:=by
 unfold at?
 rw [if_pos (by omega),Ye,List.getElem?_eq_getElem h]
theorem Z3 {α:Type} {n:Nat} {a b:List α} (h:(a.length+b.length)*n≤140737488355328):Zt n a b=some (a++b):=if_pos h
theorem Ztc {a b:Str} (h:a.length+b.length≤9223372036854775807):Zpc a b=some (a++b):=if_pos h
theorem Zwv {α:Type} {b n:Nat} {x:α} (h:n*b≤140737488355328):Zwg b (n:Int) (n:Int) x=some (Yu n x):=by
 unfold Zwg
 rw [if_pos ⟨by omega,Int.le_refl _,by rw [Ye];exact h⟩,Ye]
theorem Z0h {α:Type} {l:List α} {i j:Nat} (h:i≤j) (k:j≤l.length):Z9b l (i:Int) (j:Int)=some ((l.take j).drop i):=by
 unfold Z9b
 rw [if_pos ⟨by omega,by omega,by omega⟩,Ye,Ye]
theorem Zxcb {n b:Nat} (h:n*b≤140737488355328):Zkw n b=some ():=if_pos h
theorem Z1p {b:Int} (h:b≠0):nz? b=some ():=if_neg h
theorem Z1c {b:Int} (h:0≤b):Zvb b=some ():=if_neg (by omega)
theorem Zpeb {α β:Type} {l:List α} (f:α→β) {i:Nat} (h:i<l.length):(l.take (i+1)).map f=(l.take i).map f++[f l[i]]:=by
 rw [Yka,List.getElem?_eq_getElem h,List.map_append]
 rfl
theorem Z8h {α:Type} {l:List α} {i:Nat} (h:i<l.length):l.take (i+1)=l.take i++[l[i]]:=by
 rw [Yka,List.getElem?_eq_getElem h]
 rfl
end Go.Proofs.Qz
namespace Go.Proofs.Qz
open Go
set_option linter.unusedVariables false
def Zrl {α S R:Type} (f:S→α→S ⊕ R) (g:S→R):List α→S→R
 | [],s=>g s
 | x::l,s=>match f s x with
  | .inl s'=>Zrl f g l s'
  | .inr r=>r
theorem Zsmb {α S R:Type} {f:S→α→S ⊕ R} {g:S→R} {x:α} {l:List α} {s s':S} (h:f s x = .inl s'):Zrl f g (x::l) s=Zrl f g l s':=by
 have e:Zrl f g (x::l) s=match f s x with | .inl s'=>Zrl f g l s' | .inr r=>r:=rfl
 rw [e,h]
theorem Zdlb {α S R:Type} (L:Nat→S→Int→Option R) (l:List α) (f:S→α→S ⊕ R) (g:S→R) (I:Nat→S→Prop)
  (hs:∀(i:Nat) (h:i<l.length) (s:S),I i s→(∃s',f s l[i] = .inl s'∧I (i+1) s'∧∀j,L (j+1) s (i:Int)=L j s' ((i+1:Nat):Int))∨∃r,f s l[i] = .inr r∧∀j,L (j+1) s (i:Int)=some r)
  (he:∀(s:S),I l.length s→∀j,L (j+1) s (l.length:Int)=some (g s)):∀(d i:Nat) (s:S),i+d=l.length→I i s→∀j,d<j→L j s (i:Int)=some (Zrl f g (l.drop i) s):=by
 intro d
 induction d with
 | zero=>
  intro i s hi hI j hj
  obtain ⟨j,rfl⟩:∃q,j=q+1:=⟨j-1,by omega⟩
  obtain rfl:i=l.length:=by omega
  rw [Y4,he s hI]
  rfl
 | succ d ih=>
  intro i s hi hI j hj
  obtain ⟨j,rfl⟩:∃q,j=q+1:=⟨j-1,by omega⟩
  have hlt:i<l.length:=by omega
  rw [Yo hlt]
  rcases hs i hlt s hI with ⟨s',h1,h2,h3⟩ | ⟨r,h1,h3⟩
  ·rw [h3 j]
   show _=some (match f s l[i] with | .inl s'=>Zrl f g (l.drop (i+1)) s' | .inr r=>r)
   rw [h1]
   exact ih (i+1) s' (by omega) h2 j (by omega)
  ·rw [h3 j]
   show _=some (match f s l[i] with | .inl s'=>Zrl f g (l.drop (i+1)) s' | .inr r=>r)
   rw [h1]
theorem Zclb {α S R:Type} (L:Nat→S→Int→Option R) (l:List α) (f:S→α→S ⊕ R) (g:S→R) (I:Nat→S→Prop)
  (hs:∀(i:Nat) (h:i<l.length) (s:S),I i s→(∃s',f s l[i] = .inl s'∧I (i+1) s'∧∀j,L (j+1) s (i:Int)=L j s' ((i+1:Nat):Int))∨∃r,f s l[i] = .inr r∧∀j,L (j+1) s (i:Int)=some r)
  (he:∀(s:S),I l.length s→∀j,L (j+1) s (l.length:Int)=some (g s)) {s:S} (hI:I 0 s) {k:Nat} (hk:l.length<k):L k s 0=some (Zrl f g l s):=
 Zdlb L l f g I hs he l.length 0 s (Yr _) hI k hk
def Zqb {α:Type} (p:α→Bool):List α→Nat→Option Nat
 | [],_=>none
 | x::l,i=>if p x then some i else Zqb p l (i+1)
theorem Zoh {α R:Type} (L:Nat→Int→Option R) (l:List α) (p:α→Bool) (a:R) (b:Nat→R)
  (hs:∀(i:Nat) (h:i<l.length),(p l[i]=false→∀j,L (j+1) (i:Int)=L j ((i+1:Nat):Int))∧(p l[i]=true→∀j,L (j+1) (i:Int)=some (b i)))
  (he:∀j,L (j+1) (l.length:Int)=some a) {k:Nat} (hk:l.length<k):L k 0=some (match Zqb p l 0 with | some i=>b i | none=>a):=by
 have key:∀(d i:Nat),i+d=l.length→∀j,d<j→L j (i:Int)=some (match Zqb p (l.drop i) i with | some i=>b i | none=>a):=by
  intro d
  induction d with
  | zero=>
   intro i hi j hj
   obtain ⟨j,rfl⟩:∃q,j=q+1:=⟨j-1,by omega⟩
   obtain rfl:i=l.length:=by omega
   rw [Y4,he]
   rfl
  | succ d ih=>
   intro i hi j hj
   obtain ⟨j,rfl⟩:∃q,j=q+1:=⟨j-1,by omega⟩
   have hlt:i<l.length:=by omega
   rw [Yo hlt]
   obtain ⟨h1,h2⟩:=hs i hlt
   cases hp:p l[i] with
   | true=>rw [h2 hp j];simp [Zqb,hp]
   | false=>
    rw [h1 hp j,ih (i+1) (by omega) j (by omega)]
    simp [Zqb,hp]
 have:=key l.length 0 (Yr _) k hk
 rwa [Y5] at this
theorem Zfl {α:Type} {p:α→Bool}:∀{l:List α} {n i:Nat},Zqb p l n=some i→n≤i∧∃h:i-n<l.length,p (l[i-n])=true∧∀j,(hj:j<i-n)→p (l[j]'(by omega))=false
 | [],_,_,h=>by cases h
 | x::l,n,i,h=>by
  unfold Zqb at h
  split at h
  ·rename_i hp
   cases h
   refine ⟨Yv _,by simp,?_,fun j hj=>by omega⟩
   simpa using hp
  ·rename_i hp
   obtain ⟨h1,h2,h3,h4⟩:=Zfl h
   refine ⟨by omega,by simp only [Y0];omega,?_,fun j hj=>?_⟩
   ·have e:i-n=(i-(n+1))+1:=by omega
    simpa [e] using h3
   ·cases j with
    | zero=>simpa using hp
    | succ j=>simpa using h4 j (by omega)
theorem Zhr {α:Type} {p:α→Bool}:∀{l:List α} {n:Nat},Zqb p l n=none ↔ ∀x∈l,p x=false
 | [],n=>by simp [Zqb]
 | x::l,n=>by
  unfold Zqb
  split
  ·rename_i hp
   simp [hp]
  ·rename_i hp
   rw [Zhr]
   simp at hp
   simp [hp]
theorem Z5s {α:Type} {p:α→Bool} {l:List α} {n:Nat}:(Zqb p l n).isSome=l.any p:=by
 cases h:Zqb p l n with
 | none=>
  have:=Zhr.1 h
  symm
  simp only [Option.isSome_none,List.any_eq_false]
  intro x hx
  rw [this x hx]
  exact nofun
 | some i=>
  obtain ⟨_,h2,h3,_⟩:=Zfl h
  symm
  exact List.any_eq_true.2 ⟨_,Yha h2,h3⟩
theorem Z0x {α:Type} (L:Nat→Int→List α→Option (List α)) (l:List α) (z:α)
  (hs:∀(i:Nat) (h:i<l.length) (c:List α),c.length=l.length→∀j,L (j+1) (i:Int) c=L j ((i+1:Nat):Int) (c.set i l[i]))
  (he:∀(c:List α) j,L (j+1) (l.length:Int) c=some c) {k:Nat} (hk:l.length<k):L k 0 (Yu l.length z)=some l:=by
 have key:∀(d i:Nat),i+d=l.length→∀j,d<j→L j (i:Int) (l.take i++Yu (l.length-i) z)=some l:=by
  intro d
  induction d with
  | zero=>
   intro i hi j hj
   obtain ⟨j,rfl⟩:∃q,j=q+1:=⟨j-1,by omega⟩
   obtain rfl:i=l.length:=by omega
   rw [he,Yua,Yma]
   simp
  | succ d ih=>
   intro i hi j hj
   obtain ⟨j,rfl⟩:∃q,j=q+1:=⟨j-1,by omega⟩
   have hlt:i<l.length:=by omega
   rw [hs i hlt _ (by simp;omega)]
   have e:(l.take i++Yu (l.length-i) z).set i l[i]=l.take (i+1)++Yu (l.length-(i+1)) z:=by
    have hl:(l.take i).length=i:=by simp;omega
    rw [List.set_append_right _ _ (by omega),hl,Yua,show l.length-i=(l.length-(i+1))+1 by omega,List.replicate_succ,List.set_cons_zero,Z8h hlt,Yn]
    rfl
   rw [e]
   exact ih (i+1) (by omega) j (by omega)
 have:=key l.length 0 (Yr _) k hk
 simpa using this
theorem dlt {a b:Nat} (h:a<b):decide ((a:Int)<(b:Int))=true:=decide_eq_true (by omega)
theorem Zy {a b:Nat} (h:b≤a):decide ((a:Int)<(b:Int))=false:=decide_eq_false (by omega)
theorem Za {α β:Type} {x:Option α} {f:α→Option β} {a:α} {b:Option β} (h:x=some a) (k:f a=b):x.bind f=b:=by rw [h];exact k
theorem Zvgb {α:Type} (L:Nat→Nat→Str→Int→Option Str) (l:List α) (f:α→Str) (B M:Nat) (hB:∀x∈l,(f x).length≤B)
  (hs:∀i,(h:i<l.length)→Ze fun k=>∀acc j,acc.length≤M→L k (j+1) acc (i:Int)=L k j (acc++f l[i]) ((i+1:Nat):Int))
  (he:∀k acc j,L k (j+1) acc (l.length:Int)=some acc) (acc:Str) (ha:acc.length+B*l.length≤M):Ze fun k=>L k k acc 0=some (acc++(l.map f).flatten):=by
 have hall:Ze fun k=>∀i,i<l.length→∀(h:i<l.length) acc j,acc.length≤M→L k (j+1) acc (i:Int)=L k j (acc++f l[i]) ((i+1:Nat):Int):=Ze.all fun i hi=>(hs i hi).mono fun k hk h=>hk
 obtain ⟨K,hK⟩:=hall
 refine Ze.ge (K+l.length+1) fun k hk=>?_
 have hK:=hK k (by omega)
 have key:∀(d i:Nat) (acc:Str),i+d=l.length→acc.length+B*d≤M→∀j,d<j→L k j acc (i:Int)=some (acc++((l.drop i).map f).flatten):=by
  intro d
  induction d with
  | zero=>
   intro i acc hi hacc j hj
   obtain ⟨j,rfl⟩:∃q,j=q+1:=⟨j-1,by omega⟩
   obtain rfl:i=l.length:=by omega
   rw [he,Y4]
   simp
  | succ d ih=>
   intro i acc hi hacc j hj
   obtain ⟨j,rfl⟩:∃q,j=q+1:=⟨j-1,by omega⟩
   have h:i<l.length:=by omega
   have hf:=hB _ (Yha h)
   rw [Nat.mul_succ] at hacc
   rw [hK i h h acc j (by omega),ih (i+1) _ (by omega) (by rw [Yj];omega) j (by omega),Yo h,List.map_cons,List.flatten_cons,Yn]
 have:=key l.length 0 acc (Yr _) ha k (by omega)
 rwa [Y5] at this
end Go.Proofs.Qz
namespace Go.Proofs.Qz
open Go
set_option linter.unusedVariables false
theorem u8w (n:Int):Yb .u8 n=n%256:=by simp [Yb,Yt,Yz]
theorem Zhs (n:Int):Yb .u32 n=n%4294967296:=by simp [Yb,Yt,Yz]
theorem Zeh (n:Int):Yb .u64 n=n%18446744073709551616:=by simp [Yb,Yt,Yz]
theorem Zjo (a b:Nat) (ha:a<4294967296) (hb:b<4294967296):intBits .xor .u32 (a:Int) (b:Int)=((a ^^^ b:Nat):Int):=by
 have hx:a ^^^ b<2^32:=Yva (by omega) (by omega)
 show Yb .u32 (((Yf 32 (a:Int)) ^^^ (Yf 32 (b:Int))).toNat:Int)=_
 rw [Yh,Yh,BitVec.toNat_xor,Yi,Yi,Zhs,Yg (show a<2^32 by omega),Yg (show b<2^32 by omega)]
 omega
theorem Zv7 (a:Nat) (ha:a<4294967296):intBits .and .u32 (a:Int) 1=((a%2:Nat):Int):=by
 have h:a &&& 1=a%2:=Yoa a
 show Yb .u32 (((Yf 32 (a:Int)) &&& (Yf 32 ((1:Nat):Int))).toNat:Int)=_
 rw [Yh,Yh,Yba,Yi,Yi,Zhs,Yg (show a<2^32 by omega),Yg (show 1<2^32 by omega),h]
 omega
theorem Zagb (a:Nat) (ha:a<18446744073709551616):intBits .and .u64 (a:Int) 1=((a%2:Nat):Int):=by
 have h:a &&& 1=a%2:=Yoa a
 show Yb .u64 (((Yf 64 (a:Int)) &&& (Yf 64 ((1:Nat):Int))).toNat:Int)=_
 rw [Yh,Yh,Yba,Yi,Yi,Zeh,Yg (show a<2^64 by omega),Yg (show 1<2^64 by omega),h]
 omega
theorem Zhgb (a b:Nat) (ha:a<18446744073709551616) (hb:b<18446744073709551616):intBits .or .u64 (a:Int) (b:Int)=((a ||| b:Nat):Int):=by
 show Yb .u64 (((Yf 64 (a:Int)) ||| (Yf 64 (b:Int))).toNat:Int)=_
 have hx:a ||| b<2^64:=Nat.or_lt_two_pow (by omega) (by omega)
 rw [Yh,Yh,BitVec.toNat_or,Yi,Yi,Zeh,Yg (show a<2^64 by omega),Yg (show b<2^64 by omega)]
 omega
theorem Zxfb:∀a:Nat,a<256→intBits .and .u8 ((a:Nat):Int) 127=((a%128:Nat):Int):=by decide +kernel
theorem Zxlb (a:Nat) (h:a<9223372036854775808):intBits .xor .i64 (-1) (a:Int) = -(a:Int)-1:=by
 show Yb .i64 (((Yf 64 (-1)) ^^^ (Yf 64 (a:Int))).toNat:Int)=_
 have e:(Yf 64 (-1))=BitVec.allOnes 64:=by decide
 rw [Yh,e,BitVec.allOnes_xor,BitVec.toNat_not,Yi,IntKind.wrap_i64,Yg (show a<2^64 by omega)]
 omega
theorem Zmi (k:IntKind) (r m:Nat) (h:m≤k.bits):shr k (r:Int) (m:Int)=((r/2^m:Nat):Int):=by
 unfold shr
 rw [Ye,Yqa h,Int.fdiv_eq_ediv_of_nonneg _ (by exact Int.le_of_lt (Int.pow_pos (by omega)))]
 push_cast
 rfl
theorem Zlo (c:UInt8):c.toNat<256:=c.toNat_lt
theorem Zmgb (c:UInt8):UInt8.ofNat ((c.toNat:Nat):Int).toNat=c:=by simp
def Zmk (r:Nat):Nat:=if r%2=1 then (r/2) ^^^ 3988292384 else r/2
def Zcr:Nat→Nat→Nat
 | 0,r=>r
 | n+1,r=>Zcr n (Zmk r)
def Zdr:Str→Nat→Nat
 | [],r=>r
 | c::l,r=>Zdr l (Zcr 8 (r ^^^ c.toNat))
def Zpg (c:Nat) (s:Str):Nat:=(Zdr s (c ^^^ 4294967295)) ^^^ 4294967295
theorem x32 {a b:Nat} (ha:a<4294967296) (hb:b<4294967296):a ^^^ b<4294967296:=Yva (n:=32) ha hb
theorem Z1u {r:Nat} (h:r<4294967296):Zmk r<4294967296:=by
 unfold Zmk
 split
 ·exact x32 (by omega) (by omega)
 ·omega
theorem Z1x:∀(n:Nat) {r:Nat},r<4294967296→Zcr n r<4294967296
 | 0,_,h=>h
 | n+1,_,h=>Z1x n (Z1u h)
theorem Zh2:∀(l:Str) {r:Nat},r<4294967296→Zdr l r<4294967296
 | [],_,h=>h
 | c::l,r,h=>Zh2 l (Z1x 8 (x32 h (by have:=Zlo c;omega)))
def Z7s (n:Nat):Str:=Znb [((n%256:Nat):Int),((n/256%256:Nat):Int),((n/65536%256:Nat):Int),((n/16777216%256:Nat):Int)]
def Zyg (s:Str):Str:=s++Z7s (Zpg 0 s)
theorem Zdv (n:Nat):(Z7s n).length=4:=rfl
theorem Z65 (s:Str):(Zyg s).length=s.length+4:=by unfold Zyg;rw [Yj,Zdv]
def Zl (s:Str):Str:=s.take (s.length-4)
theorem Z7q (s:Str):(Zl s).length=s.length-4:=by unfold Zl;simp
theorem Z3db {a b:Str}:Zyg a=Zyg b ↔ a=b:=by
 constructor
 ·intro h
  exact List.append_inj_left' h (by rw [Zdv,Zdv])
 ·rintro rfl;rfl
theorem Zoeb (s:Str):(Z7s (Zpg 0 (Zl s))=s.drop (s.length-4)) ↔ Zyg (Zl s)=s:=by
 have e:s=Zl s++s.drop (s.length-4):=(Yla _ _).symm
 unfold Zyg
 constructor
 ·intro h;rw [h];exact e.symm
 ·intro h
  exact List.append_cancel_left (h.trans e)
def Zwc (s:Str):Str×Int:=if s.length<4 then ([],4) else if Zyg (Zl s)=s then (Zl s,0) else ([],5)
theorem Zbu {s:Str} (h:(Zwc s).2=0):Zwc s=(Zl s,0)∧Zyg (Zl s)=s∧4≤s.length:=by
 unfold Zwc at h ⊢
 by_cases h4:s.length<4
 ·rw [if_pos h4] at h;simp at h
 ·rw [if_neg h4] at h ⊢
  by_cases he:Zyg (Zl s)=s
  ·rw [if_pos he];exact ⟨rfl,he,by omega⟩
  ·rw [if_neg he] at h;simp at h
theorem Zlpb {s:Str} (h:(Zwc s).2≠0):(Zwc s).1=[]:=by
 unfold Zwc at h ⊢
 by_cases h4:s.length<4
 ·rw [if_pos h4]
 ·rw [if_neg h4] at h ⊢
  by_cases he:Zyg (Zl s)=s
  ·rw [if_pos he] at h;exact absurd rfl h
  ·rw [if_neg he]
theorem Z4eb (s:Str):(Zwc s).1.length≤s.length:=by
 unfold Zwc
 split
 ·simp
 ·split
  ·rw [Z7q];omega
  ·simp
def zig (n:Int):Nat:=if n<0 then (-2*n-1).toNat else (2*n).toNat
def Zkc:Nat→Nat→List Int
 | 0,_=>[]
 | f+1,u=>if 128≤u then ((u%128+128:Nat):Int)::Zkc f (u/128) else [(u:Int)]
def Zm (n:Int):Str:=Znb (Zkc 10 (zig n))
def Num (n:Int):Prop:=-9223372036854775808≤n∧n<9223372036854775808
theorem Z16 {n:Int} (h:Num n):zig n<18446744073709551616:=by unfold Num at h;unfold zig;split <;> omega
theorem Z59:∀(f u:Nat),(Zkc f u).length≤f
 | 0,_=>by simp [Zkc]
 | f+1,u=>by
  unfold Zkc
  split
  ·simp only [Y0];have:=Z59 f (u/128);omega
  ·simp
theorem Zuk (l:List Int):(Znb l).length=l.length:=by simp [Znb]
theorem Zgc (n:Int):(Zm n).length≤10:=by
 unfold Zm
 rw [Zuk]
 exact Z59 10 _
theorem Ze5 (n:Int):1≤(Zm n).length:=by
 unfold Zm
 rw [Zuk]
 unfold Zkc
 split <;> simp
def Z2b (s:Str):Str:=Zm (s.length:Int)++s
theorem Zfj (s:Str):(Z2b s).length≤10+s.length:=by
 unfold Z2b
 have:=Zgc (s.length:Int)
 rw [Yj]
 omega
def unz (u:Nat):Int:=if u%2=1 then -((u/2:Nat):Int)-1 else ((u/2:Nat):Int)
def gn:Nat→Nat→Nat→Str→Int×Nat×Int
 | 0,_,_,_=>(0,0,3)
 | _+1,_,_,[]=>(0,0,4)
 | f+1,i,u,b::l=>if i=9∧1<b.toNat then (0,0,3) else if 128≤b.toNat then gn f (i+1) (u+b.toNat%128*128^i) l else if b.toNat=0∧0<i then (0,0,3) else (unz (u+b.toNat%128*128^i),i+1,0)
def fin (a:Nat) (r:Int×Nat×Int):Int×Int×Int:=if r.2.2=0 then (r.1,((a+r.2.1:Nat):Int),0) else (0,0,r.2.2)
def Zbd (s:Str) (a:Nat):Int×Int×Int:=fin a (gn 10 0 0 (s.drop a))
theorem Z74 (i:Nat):(2:Nat)^(7*i)=128^i:=by rw [Nat.pow_mul]
theorem Zs0 {i u b:Nat} (_:i≤8) (hu:u<128^i):u+b%128*128^i<128^(i+1):=by
 have h1:b%128≤127:=by omega
 have h2:b%128*128^i≤127*128^i:=Y9 _ h1
 rw [Yq]
 omega
theorem Z4bb {i:Nat} (hi:i≤9):128^i≤9223372036854775808:=by
 have:128^i≤128^9:=Ysa (by omega) hi
 simpa using this
theorem Zseb {i b:Nat} (hi:i≤9) (h9:i=9→b≤1):b%128*128^i<18446744073709551616:=by
 by_cases h:i=9
 ·have:=h9 h
  subst h
  have:b%128≤1:=by omega
  have:=Y9 (128^9) this
  simp at this ⊢
  omega
 ·have h1:128^i≤128^8:=Ysa (by omega) (by omega)
  have h2:b%128≤127:=by omega
  have:=Nat.mul_le_mul h2 h1
  simp at this
  omega
theorem Zi6 {i u b:Nat} (hi:i≤9) (hu:u<128^i) (h9:i=9→b≤1):u+b%128*128^i<18446744073709551616:=by
 by_cases h:i=9
 ·have:=h9 h
  subst h
  have h1:b%128≤1:=by omega
  have:=Y9 (128^9) h1
  simp at this hu ⊢
  omega
 ·have h1:=Zs0 (b:=b) (show i≤8 by omega) hu
  have h2:=Z4bb (show i+1≤9 by omega)
  omega
theorem Z7db {i b:Nat} (hi:i≤9) (h9:i=9→b≤1):shl .u64 ((b%128:Nat):Int) ((7*i:Nat):Int)=((b%128*128^i:Nat):Int):=by
 unfold shl
 rw [Ye,Yqa (by simp [Yt];omega),Zeh]
 have e:((b%128:Nat):Int)*2^(7*i)=((b%128*128^i:Nat):Int):=by rw [← Z74];push_cast;rfl
 rw [e]
 have:=Zseb hi h9
 omega
theorem Z4lb {i u b:Nat} (hu:u<128^i):u ||| (b%128*128^i)=u+b%128*128^i:=by
 have h:=@Nat.shiftLeft_add_eq_or_of_lt (7*i) u (by rw [Z74];exact hu) (b%128)
 rw [Nat.shiftLeft_eq,Z74] at h
 rw [Nat.or_comm,← h,Yna]
theorem Zvpb (v:Nat):zig (unz v)=v:=by
 unfold unz
 split
 ·unfold zig;split <;> omega
 ·unfold zig;split <;> omega
theorem Znpb (n:Int):unz (zig n)=n:=by
 unfold zig
 split
 ·unfold unz;split <;> omega
 ·unfold unz;split <;> omega
theorem Zmpb {v:Nat} (h:v<18446744073709551616):Num (unz v):=by
 unfold Num unz
 split <;> omega
theorem Zz9:∀(f i u:Nat) (l:Str),i+f=10→i≤9→u<128^i→(gn f i u l).2.2=0 →
  ∃v,gn f i u l=(unz (u+v*128^i),i+(Zkc f v).length,0)∧l=Znb (Zkc f v)++l.drop (Zkc f v).length∧u+v*128^i<18446744073709551616∧(0<i→v≠0)
 | 0,i,u,l,hf,h9,_,_=>by omega
 | f+1,i,u,[],hf,h9,hu,h0=>by simp [gn] at h0
 | f+1,i,u,c::l,hf,hi9,hu,h0=>by
  have hb:=Zlo c
  have hbc:=Zmgb c
  simp only [gn] at h0 ⊢
  generalize hcb:c.toNat=b at h0 hb hbc ⊢
  by_cases h9:i=9∧1<b
  ·rw [if_pos h9] at h0;simp at h0
  rw [if_neg h9] at h0 ⊢
  have hb9:i=9→b≤1:=fun h=>by
   rcases Y8 1 b with h1 | h1
   ·exact absurd ⟨h,h1⟩ h9
   ·exact h1
  by_cases h128:128≤b
  ·have hi8:i≤8:=by
    by_cases h:i=9
    ·have:=hb9 h;omega
    ·omega
   rw [if_pos h128] at h0 ⊢
   obtain ⟨v,e1,e2,e3,e4⟩:=Zz9 f (i+1) (u+b%128*128^i) l (by omega) (by omega) (Zs0 hi8 hu) h0
   have hv:=e4 (by omega)
   have hs:u+b%128*128^i+v*128^(i+1)=u+(b%128+128*v)*128^i:=by
    rw [Yq,Nat.add_mul,Yw (128^i) 128,← Yra,Yw v 128,Y7]
   have hg:Zkc (f+1) (b%128+128*v)=(b:Int)::Zkc f v:=by
    have h1:128≤b%128+128*v:=by omega
    have h2:(b%128+128*v)/128=v:=by omega
    have h3:(b%128+128*v)%128+128=b:=by omega
    simp only [Zkc,if_pos h1,h2,h3]
   refine ⟨b%128+128*v,?_,?_,?_,?_⟩
   ·rw [e1,hs,hg,Y0,Y7,Yna 1]
   ·rw [hg]
    show c::l=UInt8.ofNat ((b:Nat):Int).toNat::(Znb (Zkc f v)++l.drop (Zkc f v).length)
    rw [hbc,← e2]
   ·rw [← hs];exact e3
   ·intro _;omega
  ·rw [if_neg h128] at h0 ⊢
   by_cases hz:b=0∧0<i
   ·rw [if_pos hz] at h0;simp at h0
   rw [if_neg hz] at h0 ⊢
   have hm:b%128=b:=by omega
   have hsl:=Zi6 (b:=b) hi9 hu hb9
   rw [hm] at hsl ⊢
   have hg:Zkc (f+1) b=[(b:Int)]:=by simp only [Zkc,if_neg h128]
   refine ⟨b,?_,?_,hsl,?_⟩
   ·rw [hg];rfl
   ·rw [hg]
    show c::l=UInt8.ofNat ((b:Nat):Int).toNat::l
    rw [hbc]
   ·intro hi hb0;exact hz ⟨hb0,hi⟩
structure Got (s:Str) (a:Nat) (n:Int) (a':Nat):Prop where
 at':a'=a+(Zm n).length
 le:a'≤s.length
 eq:s.drop a=Zm n++s.drop a'
 range:Num n
theorem Zwk (s:Str) (a:Nat):(∃(n:Int) (a':Nat),Zbd s a=(n,(a':Int),0)∧Got s a n a')∨∃c,c≠0∧Zbd s a=(0,0,c):=by
 unfold Zbd fin
 by_cases h:(gn 10 0 0 (s.drop a)).2.2=0
 ·left
  obtain ⟨v,e1,e2,e3,_⟩:=Zz9 10 0 0 (s.drop a) (by omega) (by omega) (by omega) h
  simp only [Yta,Nat.mul_one,Yr] at e1 e3
  have hB:Zm (unz v)=Znb (Zkc 10 v):=by unfold Zm;rw [Zvpb]
  have hsz:(Zm (unz v)).length=(Zkc 10 v).length:=by rw [hB,Zuk]
  refine ⟨unz v,a+(Zm (unz v)).length,?_,rfl,?_,?_,Zmpb e3⟩
  ·rw [e1,hsz]
   rfl
  ·have:=congrArg Yia e2
   simp only [Yj,Zuk,Yja] at this
   have hp:0<(Zkc 10 v).length:=by unfold Zkc;split <;> simp
   omega
  ·rw [hsz,← Yga,hB]
   exact e2
 ·right
  exact ⟨_,h,by rw [if_neg h]⟩
theorem Z09:∀(f i u v:Nat) (l:Str),i+f=10→i≤9→v<128^f→u+v*128^i<18446744073709551616→(0<i→v≠0)→gn f i u (Znb (Zkc f v)++l)=(unz (u+v*128^i),i+(Zkc f v).length,0)
 | 0,i,u,v,l,hf,h9,_,_,_=>by omega
 | f+1,i,u,v,l,hf,hi9,hv,hb,hz=>by
  have h9':i=9→v≤1:=fun h=>by subst h;simp at hb;omega
  by_cases h128:128≤v
  ·have hi8:i≤8:=by
    by_cases h:i=9
    ·have:=h9' h;omega
    ·omega
   have hg:Zkc (f+1) v=((v%128+128:Nat):Int)::Zkc f (v/128):=by simp only [Zkc,if_pos h128]
   have ht:(UInt8.ofNat (((v%128+128:Nat):Int)).toNat).toNat=v%128+128:=by
    rw [Ye,UInt8.toNat_ofNat']
    omega
   rw [hg]
   show gn (f+1) i u (UInt8.ofNat (((v%128+128:Nat):Int)).toNat::(Znb (Zkc f (v/128))++l))=_
   simp only [gn]
   rw [ht,if_neg (by omega),if_pos (by omega)]
   have hs:u+(v%128+128)%128*128^i+v/128*128^(i+1)=u+v*128^i:=by
    have e:(v%128+128)%128=v%128:=by omega
    have e2:v%128*128^i+v/128*(128*128^i)=v*128^i:=by
     rw [← Yra,← Nat.add_mul]
     congr 1
     omega
    rw [e,Yq,Yw (128^i) 128,Y7,e2]
   rw [Z09 f (i+1) _ (v/128) l (by omega) (by omega) (by rw [Yq] at hv;exact Ypa (by rw [Yw];exact hv)) (by rw [hs];exact hb) (fun _=>by omega),hs]
   simp only [Y0,Prod.mk.injEq,and_true,true_and]
   omega
  ·have hg:Zkc (f+1) v=[(v:Int)]:=by simp only [Zkc,if_neg h128]
   have ht:(UInt8.ofNat ((v:Int)).toNat).toNat=v:=by
    rw [Ye,UInt8.toNat_ofNat']
    omega
   rw [hg]
   show gn (f+1) i u (UInt8.ofNat ((v:Int)).toNat::l)=_
   simp only [gn]
   rw [ht,if_neg (fun q=>by have:=h9' q.1;omega),if_neg h128,if_neg (fun q=>hz q.2 q.1),Yg (by omega)]
   rfl
theorem Zgv (n:Int) (h:Num n) (s:Str) (a:Nat) (t:Str) (hs:s.drop a=Zm n++t):Zbd s a=(n,((a+(Zm n).length:Nat):Int),0):=by
 unfold Zbd
 have hz:=Z16 h
 rw [hs]
 unfold Zm
 rw [Z09 10 0 0 (zig n) t rfl (by omega) (by omega) (by omega) (fun q=>absurd q (by omega))]
 simp only [Yta,Nat.mul_one,Yr,Znpb,Zuk]
 rfl
def Zkh (s:Str) (a:Nat):Str×Int×Int:=
 if (Zbd s a).2.2=0 then
  if 0≤(Zbd s a).1∧(Zbd s a).1≤8000 then
   if (Zbd s a).1 > (s.length:Int)-(Zbd s a).2.1 then ([],0,4)
   else ((s.take ((Zbd s a).2.1+(Zbd s a).1).toNat).drop (Zbd s a).2.1.toNat,(Zbd s a).2.1+(Zbd s a).1,0)
  else ([],0,3)
 else ([],0,(Zbd s a).2.2)
structure GotT (s:Str) (a:Nat) (t:Str) (a':Nat):Prop where
 at':a'=a+(Z2b t).length
 le:a'≤s.length
 eq:s.drop a=Z2b t++s.drop a'
 size:t.length≤8000
theorem Zuq (s:Str) (a:Nat):(∃t a',Zkh s a=(t,((a':Nat):Int),0)∧GotT s a t a')∨∃c,c≠0∧Zkh s a=([],0,c):=by
 unfold Zkh
 rcases Zwk s a with ⟨n,a',e,g⟩ | ⟨c,hc,e⟩
 ·rw [e]
  simp only [if_true]
  by_cases hn:0≤n∧n≤8000
  ·rw [if_pos hn]
   have hle:=g.le
   by_cases hs:n > (s.length:Int)-(a':Int)
   ·rw [if_pos hs]
    exact .inr ⟨4,by omega,rfl⟩
   ·rw [if_neg hs]
    obtain ⟨m,rfl⟩:∃m:Nat,n=(m:Int):=⟨n.toNat,by omega⟩
    have e1:((a':Int)+(m:Int)).toNat=a'+m:=by omega
    rw [e1,Ye]
    have hB:(s.take (a'+m)).drop a'=(s.drop a').take m:=by
     rw [List.drop_take,Nat.add_sub_cancel_left]
    have hsz:((s.take (a'+m)).drop a').length=m:=by
     rw [hB,List.length_take,Yja]
     omega
    refine .inl ⟨_,a'+m,by push_cast;rfl,?_,?_,?_,?_⟩
    ·unfold Z2b
     rw [Yj,hsz]
     have:=g.at'
     omega
    ·omega
    ·unfold Z2b
     rw [hsz,hB,g.eq,Yn,← Yga,Yla]
    ·rw [hsz];omega
  ·rw [if_neg hn]
   exact .inr ⟨3,by omega,rfl⟩
 ·rw [e]
  simp only
  rw [if_neg hc]
  exact .inr ⟨c,hc,rfl⟩
def Zib (s:Str) (a:Nat):Int×Str×Int×Bool:=if (Zbd s a).2.2=0 then ((Zbd s a).1,s,(Zbd s a).2.1,false) else (0,s,(a:Int),true)
theorem Zmt (s:Str) (a:Nat):(∃n a',Zib s a=(n,s,((a':Nat):Int),false)∧Got s a n a')∨Zib s a=(0,s,(a:Int),true):=by
 unfold Zib
 rcases Zwk s a with ⟨n,a',e,g⟩ | ⟨c,hc,e⟩
 ·left;exact ⟨n,a',by rw [e];rfl,g⟩
 ·right;rw [e,if_neg hc]
def Zzf (s:Str) (a:Nat):Str×Str×Int×Bool:=if (Zkh s a).2.2=0 then ((Zkh s a).1,s,(Zkh s a).2.1,false) else ([],s,(a:Int),true)
theorem Zteb (s:Str) (a:Nat):(∃t a',Zzf s a=(t,s,((a':Nat):Int),false)∧GotT s a t a')∨Zzf s a=([],s,(a:Int),true):=by
 unfold Zzf
 rcases Zuq s a with ⟨n,a',e,g⟩ | ⟨c,hc,e⟩
 ·left;exact ⟨n,a',by rw [e];rfl,g⟩
 ·right;rw [e,if_neg hc]
end Go.Proofs.Qz
namespace Go.Proofs.Qz
open Go
set_option linter.unusedVariables false
theorem Zdi (a b:Int):(a==b)=decide (a=b):=by rw [Yda];simp
theorem Z69 (r:Nat):shr .u32 (r:Int) 1=((r/2:Nat):Int):=Zmi .u32 r 1 (by decide)
theorem sl0:∀(n r j:Nat),n≤8→r<4294967296→n<j→Z7b.l0 j (r:Int) ((8-n:Nat):Int)=some ((Zcr n r:Nat):Int)
 | n,r,0,_,_,h=>absurd h (Yk n)
 | 0,r,j+1,_,_,_=>by
  unfold Z7b.l0
  rfl
 | n+1,r,j+1,hn,hr,hj=>by
  have e:Yb .i64 (((8-(n+1):Nat):Int)+1)=((8-n:Nat):Int):=by rw [w64] <;> omega
  unfold Z7b.l0
  rw [decide_eq_true (by omega:(((8-(n+1):Nat):Int))<8),Zv7 _ hr,Z69,e,Z1c (by omega),Zdi]
  simp only [cond_true,Yc]
  by_cases hp:r%2=1
  ·rw [decide_eq_true (by omega:((r%2:Nat):Int)=1),show (3988292384:Int)=((3988292384:Nat):Int) from rfl,Zjo _ _ (by omega) (by omega)]
   have e2:Zmk r=r/2 ^^^ 3988292384:=by unfold Zmk;rw [if_pos hp]
   rw [cond_true,← e2]
   exact sl0 n (Zmk r) j (by omega) (Z1u hr) (by omega)
  ·rw [decide_eq_false (by omega:¬(((r%2:Nat):Int)=1))]
   have e2:Zmk r=r/2:=by unfold Zmk;rw [if_neg hp]
   rw [cond_false,← e2]
   exact sl0 n (Zmk r) j (by omega) (Z1u hr) (by omega)
theorem sl1 (x:Str) (hx:x.length≤140737488351232) (k:Nat) (hk:9≤k):∀(d i r j:Nat),x.length-i=d→i≤x.length→r<4294967296→d<j→Z7b.l1 k j x (r:Int) (i:Int)=some ((Zdr (x.drop i) r:Nat):Int)
 | d,i,r,0,_,_,_,h=>absurd h (Yk d)
 | 0,i,r,j+1,hd,hi,hr,_=>by
  unfold Z7b.l1
  rw [decide_eq_false (by omega:¬((i:Int)<(x.length:Int))),Y3 (by omega)]
  rfl
 | d+1,i,r,j+1,hd,hi,hr,hj=>by
  have hlt:i<x.length:=by omega
  have hc:=Zlo x[i]
  unfold Z7b.l1
  rw [decide_eq_true (by omega:(i:Int)<(x.length:Int)),Zi hlt]
  simp only [cond_true,Yc]
  have hxr:=x32 hr (show x[i].toNat<4294967296 by omega)
  rw [Zhs,show (((x[i].toNat:Nat):Int)%4294967296)=((x[i].toNat:Nat):Int) by omega,Zjo _ _ hr (by omega),Zn (by omega)]
  have h8:=sl0 8 (r ^^^ x[i].toNat) k (Yv _) hxr (by omega)
  have h8:Z7b.l0 k ((r ^^^ x[i].toNat:Nat):Int) 0=some ((Zcr 8 (r ^^^ x[i].toNat):Nat):Int):=h8
  rw [h8,Yo hlt]
  simp only [Yc]
  exact sl1 x hx k hk d (i+1) _ j (by omega) (by omega) (Z1x 8 hxr) (by omega)
theorem sCrc (c:Nat) (s:Str) (hc:c<4294967296) (hs:s.length≤140737488351232):Ze fun k=>Z7b k (c:Int) s=some ((Zpg c s:Nat):Int):=by
 refine Ze.ge (s.length+9) fun k hk=>?_
 have h:=sl1 s hs k (by omega) s.length 0 (c ^^^ 4294967295) k (by omega) (by omega) (x32 hc (by omega)) (by omega)
 have h:Z7b.l1 k k s ((c ^^^ 4294967295:Nat):Int) 0=some ((Zdr s (c ^^^ 4294967295):Nat):Int):=h
 unfold Z7b
 rw [Zhs,show ((c:Int)%4294967296)=(c:Int) by omega,show (4294967295:Int)=((4294967295:Nat):Int) from rfl,Zjo _ _ hc (by omega),h]
 simp only [Yc]
 have hl:=Zh2 s (x32 hc (show 4294967295<4294967296 by omega))
 have hl2:=x32 hl (show 4294967295<4294967296 by omega)
 rw [Zjo _ _ hl (by omega),w64 (by omega) (by omega)]
 rfl
theorem il0 (x:Str) (i:Nat) (hi:i<x.length):∀(n s r j:Nat),n≤8→s<4294967296→r=s ^^^ (x[i].toNat/2^(8-n))→n<j→Zdc.l0 j x (r:Int) (i:Int) ((8-n:Nat):Int)=some ((Zcr n s:Nat):Int)
 | n,s,r,0,_,_,_,h=>absurd h (Yk n)
 | 0,s,r,j+1,_,_,hr,_=>by
  have hc:=Zlo x[i]
  have:x[i].toNat/2^(8-0)=0:=Nat.div_eq_of_lt (by simpa using hc)
  rw [this,Ywa] at hr
  subst hr
  unfold Zdc.l0
  rfl
 | n+1,s,r,j+1,hn,hs,hr,hj=>by
  have hc:=Zlo x[i]
  have e:Yb .i64 (((8-(n+1):Nat):Int)+1)=((8-n:Nat):Int):=by rw [w64] <;> omega
  have ih:=il0 x i hi n (Zmk s)
  unfold Zdc.l0
  rw [decide_eq_true (by omega:(((8-(n+1):Nat):Int))<8),Zi hi]
  simp only [cond_true,Yc]
  generalize x[i].toNat=c at hc hr ih ⊢
  have hcd:c/2^(8-(n+1))<256:=Nat.lt_of_le_of_lt (Nat.div_le_self _ _) hc
  have hrl:r<4294967296:=by rw [hr];exact x32 hs (by omega)
  have hsr:r ^^^ (c/2^(8-(n+1)))=s:=by rw [hr,Y1,Nat.xor_self,Ywa]
  have hhalf:r/2=s/2 ^^^ (c/2^(8-n)):=by
   have e1:c/2^(8-n)=(c/2^(8-(n+1)))/2:=by rw [Nat.div_div_eq_div_mul,← Yq];congr 2;omega
   rw [hr,e1]
   have:=@Nat.shiftRight_xor_distrib 1 s (c/2^(8-(n+1)))
   simpa [Nat.shiftRight_eq_div_pow] using this
  rw [Zhs,show ((c:Int)%4294967296)=(c:Int) by omega,Zmi .u32 c (8-(n+1)) (by show 8-(n+1)≤32;omega),Zjo _ _ hrl (by omega),hsr,Zv7 _ hs,Z69,e,Z1c (by omega),Z1c (by omega),Zdi]
  simp only [Yc]
  by_cases hp:s%2=1
  ·rw [decide_eq_true (by omega:((s%2:Nat):Int)=1),show (3988292384:Int)=((3988292384:Nat):Int) from rfl,Zjo _ _ (by omega) (by omega),cond_true]
   refine ih _ j (by omega) (Z1u hs) ?_ (by omega)
   unfold Zmk
   rw [if_pos hp,hhalf,Y1,Y1,Yaa (c/2^(8-n))]
  ·rw [decide_eq_false (by omega:¬(((s%2:Nat):Int)=1)),cond_false]
   refine ih _ j (by omega) (Z1u hs) ?_ (by omega)
   unfold Zmk
   rw [if_neg hp,hhalf]
theorem il1 (x:Str) (hx:x.length≤140737488351232) (k:Nat) (hk:9≤k):∀(d i r j:Nat),x.length-i=d→i≤x.length→r<4294967296→d<j→Zdc.l1 k j x (r:Int) (x.length:Int) (i:Int)=some ((Zdr (x.drop i) r:Nat):Int)
 | d,i,r,0,_,_,_,h=>absurd h (Yk d)
 | 0,i,r,j+1,hd,hi,hr,_=>by
  unfold Zdc.l1
  rw [decide_eq_false (by omega:¬((i:Int)<(x.length:Int))),Y3 (by omega)]
  rfl
 | d+1,i,r,j+1,hd,hi,hr,hj=>by
  have hlt:i<x.length:=by omega
  have hc:=Zlo x[i]
  unfold Zdc.l1
  rw [decide_eq_true (by omega:(i:Int)<(x.length:Int))]
  have hxr:=x32 hr (show x[i].toNat<4294967296 by omega)
  have h8:=il0 x i hlt 8 (r ^^^ x[i].toNat) r k (Yv _) hxr (by simp [Y1]) (by omega)
  have h8:Zdc.l0 k x (r:Int) (i:Int) 0=some ((Zcr 8 (r ^^^ x[i].toNat):Nat):Int):=h8
  rw [h8,Yo hlt]
  simp only [cond_true,Yc]
  rw [Zn (by omega)]
  exact il1 x hx k hk d (i+1) _ j (by omega) (by omega) (Z1x 8 hxr) (by omega)
theorem iCrc (c:Nat) (s:Str) (hc:c<4294967296) (hs:s.length≤140737488351232):Ze fun k=>Zdc k (c:Int) s=some ((Zpg c s:Nat):Int):=by
 refine Ze.ge (s.length+9) fun k hk=>?_
 have h:=il1 s hs k (by omega) s.length 0 (c ^^^ 4294967295) k (by omega) (by omega) (x32 hc (by omega)) (by omega)
 have h:Zdc.l1 k k s ((c ^^^ 4294967295:Nat):Int) (s.length:Int) 0=some ((Zdr s (c ^^^ 4294967295):Nat):Int):=h
 unfold Zdc
 rw [show (IntKind.max .u32:Int)=((4294967295:Nat):Int) from rfl,Zjo _ _ (by omega) hc,Yaa,h]
 simp only [Yc]
 have hl:=Zh2 s (x32 hc (show 4294967295<4294967296 by omega))
 rw [Zjo _ _ (by omega) hl,Yaa]
 rfl
theorem Zgdb (n:Nat):Z3m (n:Int)=some (Z7s n):=by
 unfold Z3m Z7s
 have h8:=Zmi .i64 n 8 (by decide)
 have h16:=Zmi .i64 n 16 (by decide)
 have h24:=Zmi .i64 n 24 (by decide)
 have h8:shr .i64 (n:Int) 8=((n/256:Nat):Int):=h8
 have h16:shr .i64 (n:Int) 16=((n/65536:Nat):Int):=h16
 have h24:shr .i64 (n:Int) 24=((n/16777216:Nat):Int):=h24
 rw [Z1c (by omega),Z1c (by omega),Z1c (by omega)]
 simp only [Yc]
 rw [h8,h16,h24,u8w,u8w,u8w,u8w]
 rfl
theorem Z05 (s:Str) (hs:s.length≤7996):Ze fun k=>Z2k k s=some (Zyg s):=by
 refine (sCrc 0 s (by omega) (by omega)).mono fun k h=>?_
 have h:Z7b k 0 s=some ((Zpg 0 s:Nat):Int):=h
 unfold Z2k
 rw [decide_eq_false (by omega:¬(7996<(s.length:Int))),h]
 simp only [cond_false,Yc]
 rw [Zgdb]
 simp only [Yc]
 rw [Ztc (by rw [Zdv];omega)]
 rfl
theorem Zpy (s:Str) (hs:s.length≤140737488351232):Ze fun k=>Zaj k s=some (Zyg s):=by
 refine (iCrc 0 s (by omega) (by omega)).mono fun k h=>?_
 have h:Zdc k 0 s=some ((Zpg 0 s:Nat):Int):=h
 have h8:=Zmi .u32 (Zpg 0 s) 8 (by decide)
 have h16:=Zmi .u32 (Zpg 0 s) 16 (by decide)
 have h24:=Zmi .u32 (Zpg 0 s) 24 (by decide)
 have h8:shr .u32 ((Zpg 0 s:Nat):Int) 8=((Zpg 0 s/256:Nat):Int):=h8
 have h16:shr .u32 ((Zpg 0 s:Nat):Int) 16=((Zpg 0 s/65536:Nat):Int):=h16
 have h24:shr .u32 ((Zpg 0 s:Nat):Int) 24=((Zpg 0 s/16777216:Nat):Int):=h24
 unfold Zaj
 rw [h,Z1c (by omega),Z1c (by omega),Z1c (by omega)]
 simp only [Yc]
 rw [h8,h16,h24,u8w,u8w,u8w,u8w]
 have e:Znb [((Zpg 0 s:Nat):Int)%256,((Zpg 0 s/256:Nat):Int)%256,((Zpg 0 s/65536:Nat):Int)%256,((Zpg 0 s/16777216:Nat):Int)%256]=Z7s (Zpg 0 s):=rfl
 rw [e,Ztc (by rw [Zdv];omega)]
 rfl
theorem Z3q (s t:Str):(s==t)=decide (s=t):=by rw [Yda];simp
theorem Z9s (s:Str) (hs:s.length≤140737488351232):Ze fun k=>Zqk k s=some (Zwc s):=by
 refine (Zpy (Zl s) (by rw [Z7q];omega)).mono fun k h=>?_
 unfold Zqk Zwc
 by_cases h4:s.length<4
 ·rw [decide_eq_true (by omega:(s.length:Int)<4),if_pos h4]
  rfl
 ·rw [decide_eq_false (by omega:¬((s.length:Int)<4)),if_neg h4,w64 (by omega) (by omega),show ((s.length:Int)-4)=((s.length-4:Nat):Int) by omega]
  have hc:=Z0h (l:=s) (i:=0) (j:=s.length-4) (by omega) (by omega)
  have hc:Z9b s 0 ((s.length-4:Nat):Int)=some (Zl s):=hc
  rw [hc]
  simp only [cond_false,Yc]
  rw [h]
  simp only [Yc,Z3q]
  by_cases he:Zyg (Zl s)=s
  ·rw [if_pos he,decide_eq_true he];rfl
  ·rw [if_neg he,decide_eq_false he];rfl
theorem Zsl (s:Str) (hs:s.length≤8000):Ze fun k=>Z3k k s=some ((Zwc s).1,0,(Zwc s).2):=by
 refine (sCrc 0 (Zl s) (by omega) (by rw [Z7q];omega)).mono fun k h=>?_
 have h:Z7b k 0 (Zl s)=some ((Zpg 0 (Zl s):Nat):Int):=h
 unfold Z3k Zwc
 rw [decide_eq_false (by omega:¬(8000<(s.length:Int)))]
 by_cases h4:s.length<4
 ·rw [decide_eq_true (by omega:(s.length:Int)<4),if_pos h4]
  rfl
 ·rw [decide_eq_false (by omega:¬((s.length:Int)<4)),if_neg h4,w64 (by omega) (by omega),show ((s.length:Int)-4)=((s.length-4:Nat):Int) by omega]
  have hc:=Z0h (l:=s) (i:=0) (j:=s.length-4) (by omega) (by omega)
  have hc:Z9b s 0 ((s.length-4:Nat):Int)=some (Zl s):=hc
  have hd:=Z0h (l:=s) (i:=s.length-4) (j:=s.length) (by omega) (by omega)
  rw [Yma] at hd
  simp only [cond_false]
  rw [hc]
  simp only [cond_false,Yc]
  rw [h]
  simp only [Yc]
  rw [Zgdb,hd]
  simp only [Yc,Z3q]
  by_cases he:Zyg (Zl s)=s
  ·rw [if_pos he,decide_eq_true ((Zoeb s).2 he)];rfl
  ·rw [if_neg he,decide_eq_false (fun q=>he ((Zoeb s).1 q))];rfl
end Go.Proofs.Qz
namespace Go.Proofs.Qz
open Go
set_option linter.unusedVariables false
theorem Zonb (n:Int) (h:Num n):Zlq n=some ((zig n:Nat):Int):=by
 unfold Num at h
 unfold Zlq zig
 simp only [Zeh]
 by_cases hn:n<0
 ·rw [decide_eq_true hn,if_pos hn,w64 (n:=n+1) (by omega) (by omega),w64 (by omega) (by omega)]
  rw [cond_true]
  congr 1
  omega
 ·rw [decide_eq_false hn,if_neg hn,cond_false]
  congr 1
  omega
theorem sput:∀(f u:Nat) (acc:List Int) (j:Nat),u<128^f→u<18446744073709551616→acc.length+f≤100→0<f→f<j+1→∃p:Int×List Int,Z6b.l0 j (u:Int) acc=some p∧p.2.length≤100∧p.2++[Yb .u8 p.1]=acc++Zkc f u
 | 0,_,_,_,_,_,_,h,_=>absurd h (by omega)
 | f+1,u,acc,0,hu,hb,hl,_,hj=>by omega
 | f+1,u,acc,j+1,hu,hb,hl,_,hj=>by
  unfold Z6b.l0
  by_cases h:128≤u
  ·have hf:0<f:=by
    rcases Nat.eq_zero_or_pos f with rfl | h'
    ·simp at hu;omega
    ·exact h'
   obtain ⟨p,e,e1,e2⟩:=sput f (u/128) (acc++[((u%128+128:Nat):Int)]) j (by rw [Yq] at hu;exact Ypa (by rw [Yw];exact hu)) (by omega) (by simp;omega) hf (by omega)
   refine ⟨p,?_,e1,?_⟩
   ·rw [decide_eq_true (by omega:(128:Int)≤(u:Int)),Z1p (by omega:(128:Int)≠0)]
    simp only [cond_true,Yc]
    rw [Z3 (by simp;omega),u8w,Zeh,Zeh,Y2 (by omega),Yfa (by omega)]
    simp only [Yc]
    rw [show (((u:Int)/128)%18446744073709551616)=((u/128:Nat):Int) by omega,show ((((u:Int)%128+128)%18446744073709551616)%256)=((u%128+128:Nat):Int) by omega]
    exact e
   ·rw [e2,Yn]
    simp [Zkc,h]
  ·refine ⟨((u:Int),acc),?_,by show acc.length≤100;omega,?_⟩
   ·rw [decide_eq_false (by omega:¬((128:Int)≤(u:Int)))]
    rfl
   ·show acc++[Yb .u8 (u:Int)]=_
    rw [u8w,show ((u:Int)%256)=(u:Int) by omega]
    simp [Zkc,h]
theorem Zwi (n:Int) (h:Num n):Ze fun k=>Z6b k n=some (Zm n):=by
 refine Ze.ge 10 fun k hk=>?_
 have hz:=Z16 h
 obtain ⟨p,e,e1,e2⟩:=sput 10 (zig n) [] k (by omega) hz (by simp) (by omega) (by omega)
 unfold Z6b
 rw [Zonb n h]
 simp only [Yc]
 rw [e]
 simp only [Yc]
 rw [Z3 (by simp;omega),e2]
 rfl
theorem Z98 (s:Str) (j:Nat):(s.drop j=[]∧s.length≤j)∨∃h:j<s.length,s.drop j=s[j]::s.drop (j+1):=by
 by_cases h:j<s.length
 ·exact .inr ⟨h,Yo h⟩
 ·exact .inl ⟨Y3 (by omega),by omega⟩
theorem sgn (s:Str) (hs:s.length≤140737488351232) (a:Nat) (ha:a<9223372036854775000):∀(f i u j:Nat),i+f=10→i≤9→u<128^i→(0<i→a+i≤s.length)→f<j→Zjd.l0 j s (a:Int) (u:Int) (i:Int) 0 0 0=some (.inr (fin a (gn f i u (s.drop (a+i)))))
 | f,i,u,0,_,_,_,_,h=>absurd h (Yk f)
 | 0,i,u,j+1,hf,h9,hu,hz,_=>by omega
 | f+1,i,u,j+1,hf,hi9,hu,hz,hj=>by
  unfold Zjd.l0
  rw [decide_eq_true (by omega:(i:Int)<10),w64 (n:=(s.length:Int)-(i:Int)) (by omega) (by omega),cond_true]
  rcases Z98 s (a+i) with ⟨hd,hlen⟩ | ⟨hlt,hd⟩
  ·rw [decide_eq_true (by omega:(s.length:Int)-(i:Int)≤(a:Int)),hd]
   rfl
  ·rw [decide_eq_false (by omega:¬((s.length:Int)-(i:Int)≤(a:Int))),w64 (n:=(a:Int)+(i:Int)) (by omega) (by omega),show ((a:Int)+(i:Int))=((a+i:Nat):Int) by omega]
   simp only [cond_false]
   rw [Zi hlt,hd]
   simp only [Yc,gn]
   have hb:=Zlo s[a+i]
   have ih:=fun u'=>sgn s hs a ha f (i+1) u' j
   generalize s[a+i].toNat=b at hb ⊢
   rw [Zeh (b:Int),show ((b:Int)%18446744073709551616)=(b:Int) by omega,Zdi,Z1p (by omega:(128:Int)≠0)]
   by_cases h9:i=9∧1<b
   ·rw [decide_eq_true (by omega:(i:Int)=9),decide_eq_true (by omega:(1:Int)<(b:Int)),if_pos h9]
    rfl
   ·rw [if_neg h9,show (decide ((i:Int)=9)&&decide ((1:Int)<(b:Int)))=false by
     by_cases h:i=9
     ·rw [decide_eq_false (by omega:¬((1:Int)<(b:Int))),Ys]
     ·rw [decide_eq_false (by omega:¬((i:Int)=9))];rfl]
    have hb9:i=9→b≤1:=fun h=>by
     rcases Y8 1 b with h1 | h1
     ·exact absurd ⟨h,h1⟩ h9
     ·exact h1
    have hsl:=Zi6 (b:=b) (show i≤9 by omega) hu hb9
    have hv:Yb .u64 ((u:Int)+shl .u64 (Yy (b:Int) 128) (Yb .u64 (Yb .i64 (7*(i:Int)))))=((u+b%128*128^i:Nat):Int):=by
     rw [w64 (by omega) (by omega),Zeh (7*(i:Int)),show (7*(i:Int))%18446744073709551616=((7*i:Nat):Int) by omega,Y2 (by omega),show (b:Int)%128=((b%128:Nat):Int) by omega,Z7db (by omega) hb9,Zeh]
     omega
    have hn:Zvb (Yb .u64 (Yb .i64 (7*(i:Int))))=some ():=Z1c (by rw [Zeh];omega)
    simp only [cond_false,Yc]
    rw [hn]
    simp only [Yc]
    rw [hv]
    by_cases h128:128≤b
    ·have hi8:i≤8:=by
      by_cases h:i=9
      ·have:=hb9 h;omega
      ·omega
     rw [decide_eq_false (by omega:¬((b:Int)<128)),if_pos h128,cond_false,Zn (by omega),show a+i+1=a+(i+1) by omega]
     exact ih _ (by omega) (by omega) (Zs0 hi8 hu) (fun _=>by omega) (by omega)
    ·rw [decide_eq_true (by omega:((b:Int)<128)),if_neg h128,cond_true,Zdi]
     by_cases h0:b=0∧0<i
     ·rw [decide_eq_true (by omega:(b:Int)=0),decide_eq_true (by omega:(0:Int)<(i:Int)),if_pos h0]
      rfl
     ·rw [if_neg h0,show (decide ((b:Int)=0)&&decide ((0:Int)<(i:Int)))=false by
       by_cases h:b=0
       ·rw [decide_eq_false (by omega:¬((0:Int)<(i:Int))),Ys]
       ·rw [decide_eq_false (by omega:¬((b:Int)=0))];rfl]
      generalize u+b%128*128^i=v at hsl
      have e2:Yb .i64 (Yb .u64 (Int.tdiv (v:Int) 2))=((v/2:Nat):Int):=by
       rw [Yfa (by omega),Zeh,w64 (by omega) (by omega)]
       omega
      rw [cond_false,Z1p (by omega:(2:Int)≠0)]
      simp only [Yc]
      rw [Zn (by omega),e2,Y2 (by omega),Zdi]
      unfold fin unz
      by_cases hp:v%2=1
      ·rw [decide_eq_true (by omega:(v:Int)%2=1),if_pos hp,w64 (n:=0-((v/2:Nat):Int)) (by omega) (by omega),w64 (by omega) (by omega),cond_true,show (0-((v/2:Nat):Int)-1) = -((v/2:Nat):Int)-1 by omega]
       rfl
      ·rw [decide_eq_false (by omega:¬((v:Int)%2=1)),if_neg hp]
       rfl
theorem ign (s:Str) (hs:s.length≤140737488351232) (a:Nat) (ha:a<9223372036854775000):∀(f i u j:Nat),i+f=10→i≤9→u<128^i→(0<i→a+i≤s.length)→f<j→Z4e.l0 j s (a:Int) (u:Int) (i:Int)=some (fin a (gn f i u (s.drop (a+i))))
 | f,i,u,0,_,_,_,_,h=>absurd h (Yk f)
 | 0,i,u,j+1,hf,h9,hu,hz,_=>by omega
 | f+1,i,u,j+1,hf,hi9,hu,hz,hj=>by
  unfold Z4e.l0
  rw [w64 (n:=(s.length:Int)-(i:Int)) (by omega) (by omega)]
  rcases Z98 s (a+i) with ⟨hd,hlen⟩ | ⟨hlt,hd⟩
  ·rw [decide_eq_true (by omega:(s.length:Int)-(i:Int)≤(a:Int)),hd]
   rfl
  ·rw [decide_eq_false (by omega:¬((s.length:Int)-(i:Int)≤(a:Int))),w64 (n:=(a:Int)+(i:Int)) (by omega) (by omega),show ((a:Int)+(i:Int))=((a+i:Nat):Int) by omega]
   simp only [cond_false]
   rw [Zi hlt,hd]
   simp only [Yc,gn]
   have hb:=Zlo s[a+i]
   have ih:=fun u'=>ign s hs a ha f (i+1) u' j
   generalize s[a+i].toNat=b at hb ⊢
   rw [Zdi]
   by_cases h9:i=9∧1<b
   ·rw [decide_eq_true (by omega:(i:Int)=9),decide_eq_true (by omega:(1:Int)<(b:Int)),if_pos h9]
    rfl
   ·rw [if_neg h9,show (decide ((i:Int)=9)&&decide ((1:Int)<(b:Int)))=false by
     by_cases h:i=9
     ·rw [decide_eq_false (by omega:¬((1:Int)<(b:Int))),Ys]
     ·rw [decide_eq_false (by omega:¬((i:Int)=9))];rfl]
    have hb9:i=9→b≤1:=fun h=>by
     rcases Y8 1 b with h1 | h1
     ·exact absurd ⟨h,h1⟩ h9
     ·exact h1
    have hsl:=Zi6 (b:=b) (show i≤9 by omega) hu hb9
    have hv:intBits .or .u64 (u:Int) (shl .u64 (Yb .u64 (intBits .and .u8 (b:Int) 127)) (Yb .i64 (7*(i:Int))))=((u+b%128*128^i:Nat):Int):=by
     rw [Zxfb b hb,Zeh,show ((b%128:Nat):Int)%18446744073709551616=((b%128:Nat):Int) by omega,w64 (by omega) (by omega),show (7*(i:Int))=((7*i:Nat):Int) by omega,Z7db (by omega) hb9,Zhgb _ _ (by have:=Z4bb (show i≤9 by omega);omega) (Zseb (by omega) hb9),Z4lb hu]
    have hn:Zvb (Yb .i64 (7*(i:Int)))=some ():=Z1c (by rw [w64 (by omega) (by omega)];omega)
    simp only [cond_false,Yc]
    rw [hn]
    simp only [Yc]
    rw [hv]
    by_cases h128:128≤b
    ·have hi8:i≤8:=by
      by_cases h:i=9
      ·have:=hb9 h;omega
      ·omega
     rw [decide_eq_true (by omega:((127:Int)<(b:Int))),if_pos h128,cond_true,Zn (by omega),show a+i+1=a+(i+1) by omega]
     exact ih _ (by omega) (by omega) (Zs0 hi8 hu) (fun _=>by omega) (by omega)
    ·rw [decide_eq_false (by omega:¬((127:Int)<(b:Int))),if_neg h128,cond_false,Zdi]
     by_cases h0:b=0∧0<i
     ·rw [decide_eq_true (by omega:(b:Int)=0),decide_eq_true (by omega:(0:Int)<(i:Int)),if_pos h0]
      rfl
     ·rw [if_neg h0,show (decide ((b:Int)=0)&&decide ((0:Int)<(i:Int)))=false by
       by_cases h:b=0
       ·rw [decide_eq_false (by omega:¬((0:Int)<(i:Int))),Ys]
       ·rw [decide_eq_false (by omega:¬((b:Int)=0))];rfl]
      generalize u+b%128*128^i=v at hsl
      have e2:shr .u64 (v:Int) 1=((v/2:Nat):Int):=Zmi .u64 v 1 (by decide)
      rw [cond_false,Z1c (by omega:(0:Int)≤1)]
      simp only [Yc]
      rw [Zn (by omega),e2,Zagb v hsl,w64 (n:=((v/2:Nat):Int)) (by omega) (by omega),Zdi]
      unfold fin unz
      by_cases hp:v%2=1
      ·rw [decide_eq_true (by omega:((v%2:Nat):Int)=1),if_pos hp,Zxlb _ (by omega)]
       rfl
      ·rw [decide_eq_false (by omega:¬(((v%2:Nat):Int)=1)),if_neg hp]
       rfl
section
variable (s:Str) (a:Nat) (ha:a<9223372036854775000)
include ha
theorem Zly (hs:s.length≤140737488351232):Ze fun k=>Z4e k s (a:Int)=some (Zbd s a):=by
 refine Ze.ge 11 fun k hk=>?_
 have h:=ign s hs a ha 10 0 0 k rfl (by omega) (by omega) (fun h=>absurd h (by omega)) (by omega)
 have h:Z4e.l0 k s (a:Int) 0 0=some (Zbd s a):=h
 unfold Z4e
 rw [decide_eq_false (by omega:¬((a:Int)<0)),h]
 rfl
theorem Z4t (hs:s.length≤8000):Ze fun k=>Zjd k s (a:Int)=some (Zbd s a):=by
 refine Ze.ge 11 fun k hk=>?_
 have h:=sgn s (by omega) a ha 10 0 0 k rfl (by omega) (by omega) (fun h=>absurd h (by omega)) (by omega)
 have h:Zjd.l0 k s (a:Int) 0 0 0 0 0=some (.inr (Zbd s a)):=h
 unfold Zjd
 rw [decide_eq_false (by omega:¬(8000<(s.length:Int))),decide_eq_false (by omega:¬((a:Int)<0)),h]
 rfl
theorem Zm3 (hs:s.length≤140737488351232):Ze fun k=>Zfc k (s,((a:Int),false))=some (Zib s a):=by
 refine (Zly s a ha hs).mono fun k h=>?_
 unfold Zfc Zib
 rw [h]
 rcases Zwk s a with ⟨n,a',e,g⟩ | ⟨c,hc,e⟩
 ·rw [e];rfl
 ·rw [e,if_neg hc]
  simp only [Yc]
  rw [show (c != 0)=true by simpa using hc]
  rfl
theorem Z6t (hs:s.length≤8000):Ze fun k=>Zcc k (s,((a:Int),false))=some (Zib s a):=by
 refine (Z4t s a ha hs).mono fun k h=>?_
 unfold Zcc Zib
 rw [h]
 rcases Zwk s a with ⟨n,a',e,g⟩ | ⟨c,hc,e⟩
 ·rw [e];rfl
 ·rw [e,if_neg hc]
  simp only [Yc]
  rw [show (c != 0)=true by simpa using hc]
  rfl
theorem Zz5 (hs:s.length≤8000):Ze fun k=>Zcc k (s,((a:Int),true))=some (0,s,(a:Int),true):=by
 refine (Z4t s a ha hs).mono fun k h=>?_
 unfold Zcc
 rw [h]
 rfl
theorem Zvjb (hs:s.length≤140737488351232):∃(n:Int) (a':Nat),(Ze fun k=>Zfc k (s,((a:Int),true))=some (n,s,(a':Int),true))∧a'≤max a s.length:=by
 rcases Zwk s a with ⟨n,a',e,g⟩ | ⟨c,hc,e⟩
 ·refine ⟨n,a',(Zly s a ha hs).mono fun k h=>?_,?_⟩
  ·unfold Zfc
   rw [h,e]
   rfl
  ·have:=g.le;omega
 ·refine ⟨0,a,(Zly s a ha hs).mono fun k h=>?_,by omega⟩
  unfold Zfc
  rw [h,e]
  simp only [Yc]
  rw [show (c != 0)=true by simpa using hc]
  rfl
end
end Go.Proofs.Qz
namespace Go.Proofs.Qz
open Go
set_option linter.unusedVariables false
theorem Zf0 (s:Str) (h:s.length≤8000):Ze fun k=>Zxi k s=some (Z2b s):=by
 refine (Zwi (s.length:Int) ⟨by omega,by omega⟩).mono fun k hk=>?_
 have:=Zgc (s.length:Int)
 unfold Zxi
 rw [decide_eq_false (by omega:¬(8000<(s.length:Int))),hk]
 simp only [cond_false,Yc]
 rw [Ztc (by omega)]
 rfl
section
variable (s:Str) (a:Nat) (ha:a<9223372036854775000)
include ha
theorem Zow (hs:s.length≤8000):Ze fun k=>Ztl k s (a:Int)=some (Zkh s a):=by
 refine (Z4t s a ha hs).mono fun k h=>?_
 unfold Ztl Zkh
 rw [h]
 rcases Zwk s a with ⟨n,a',e,g⟩ | ⟨c,hc,e⟩
 ·rw [e]
  simp only [if_true,Yc]
  have hle:=g.le
  rw [show ((0:Int) != 0)=false from rfl,cond_false]
  by_cases hn:0≤n∧n≤8000
  ·rw [decide_eq_false (by omega:¬(n<0)),decide_eq_false (by omega:¬(8000<n)),if_pos hn,w64 (n:=(s.length:Int)-n) (by omega) (by omega),w64 (n:=(a':Int)+n) (by omega) (by omega)]
   by_cases hq:n > (s.length:Int)-(a':Int)
   ·rw [decide_eq_true (by omega:(s.length:Int)-n<(a':Int)),if_pos hq]
    rfl
   ·rw [decide_eq_false (by omega:¬((s.length:Int)-n<(a':Int))),if_neg hq]
    obtain ⟨m,rfl⟩:∃m:Nat,n=(m:Int):=⟨n.toNat,by omega⟩
    rw [show ((a':Int)+(m:Int))=((a'+m:Nat):Int) by omega]
    have hc:=Z0h (l:=s) (i:=a') (j:=a'+m) (by omega) (by omega)
    simp only [Bool.or_false,cond_false]
    rw [hc]
    rfl
  ·rw [if_neg hn,show (decide (n<0)||decide (8000<n))=true by
    by_cases h0:n<0
    ·rw [decide_eq_true h0];rfl
    ·rw [decide_eq_true (by omega:8000<n),Bool.or_true]]
   rfl
 ·rw [e]
  simp only [Yc]
  rw [if_neg hc,show (c != 0)=true by simpa using hc]
  rfl
theorem Zi3 (hs:s.length≤140737488351232):Ze fun k=>Z5o k s (a:Int)=some (Zkh s a):=by
 refine (Zly s a ha hs).mono fun k h=>?_
 unfold Z5o Zkh
 rw [h]
 rcases Zwk s a with ⟨n,a',e,g⟩ | ⟨c,hc,e⟩
 ·rw [e]
  simp only [if_true,Yc]
  have hle:=g.le
  rw [show ((0:Int) != 0)=false from rfl,cond_false]
  unfold Zhb
  simp only [Yc]
  by_cases hn:0≤n∧n≤8000
  ·rw [decide_eq_true (by omega:0≤n),decide_eq_true (by omega:n≤8000),if_pos hn,w64 (n:=(s.length:Int)-(a':Int)) (by omega) (by omega),w64 (n:=(a':Int)+n) (by omega) (by omega)]
   by_cases hq:n > (s.length:Int)-(a':Int)
   ·rw [decide_eq_true (by omega:(s.length:Int)-(a':Int)<n),if_pos hq]
    rfl
   ·rw [decide_eq_false (by omega:¬((s.length:Int)-(a':Int)<n)),if_neg hq]
    obtain ⟨m,rfl⟩:∃m:Nat,n=(m:Int):=⟨n.toNat,by omega⟩
    rw [show ((a':Int)+(m:Int))=((a'+m:Nat):Int) by omega]
    have hc:=Z0h (l:=s) (i:=a') (j:=a'+m) (by omega) (by omega)
    simp only [Bool.and_true,Yea,cond_false]
    rw [hc]
    rfl
  ·rw [if_neg hn,show (decide (0≤n)&&decide (n≤8000))=false by
    by_cases h0:0≤n
    ·rw [decide_eq_false (by omega:¬(n≤8000)),Ys]
    ·rw [decide_eq_false h0];rfl]
   rfl
 ·rw [e]
  simp only [Yc]
  rw [if_neg hc,show (c != 0)=true by simpa using hc]
  rfl
theorem Zhab (hs:s.length≤140737488351232):Ze fun k=>Ztg k (s,((a:Int),false))=some (Zzf s a):=by
 refine (Zi3 s a ha hs).mono fun k h=>?_
 unfold Ztg Zzf
 rw [h]
 rcases Zuq s a with ⟨n,a',e,g⟩ | ⟨c,hc,e⟩
 ·rw [e];rfl
 ·rw [e,if_neg hc]
  simp only [Yc]
  rw [show (c != 0)=true by simpa using hc]
  rfl
theorem Zxdb (hs:s.length≤8000):Ze fun k=>Zth k (s,((a:Int),false))=some (Zzf s a):=by
 refine (Zow s a ha hs).mono fun k h=>?_
 unfold Zth Zzf
 rw [h]
 rcases Zuq s a with ⟨n,a',e,g⟩ | ⟨c,hc,e⟩
 ·rw [e];rfl
 ·rw [e,if_neg hc]
  simp only [Yc]
  rw [show (c != 0)=true by simpa using hc]
  rfl
theorem Zi0 (hs:s.length≤8000):Ze fun k=>Zth k (s,((a:Int),true))=some ([],s,(a:Int),true):=by
 refine (Zow s a ha hs).mono fun k h=>?_
 unfold Zth
 rw [h]
 rfl
theorem Ziab (hs:s.length≤140737488351232):∃(t:Str) (a':Nat),(Ze fun k=>Ztg k (s,((a:Int),true))=some (t,s,(a':Int),true))∧a'≤max a s.length:=by
 rcases Zuq s a with ⟨n,a',e,g⟩ | ⟨c,hc,e⟩
 ·refine ⟨n,a',(Zi3 s a ha hs).mono fun k h=>?_,?_⟩
  ·unfold Ztg
   rw [h,e]
   rfl
  ·have:=g.le;omega
 ·refine ⟨[],a,(Zi3 s a ha hs).mono fun k h=>?_,by omega⟩
  unfold Ztg
  rw [h,e]
  simp only [Yc]
  rw [show (c != 0)=true by simpa using hc]
  rfl
end
end Go.Proofs.Qz
namespace Go.Proofs.Qz
open Go
set_option linter.unusedVariables false
def Zgj (s:Str):Option (Int×Int×Int×Str×Nat):=
 if (Zib s 0).2.2.2=true then none else
 if (Zib s (Zib s 0).2.2.1.toNat).2.2.2=true then none else
 if (Zib s (Zib s (Zib s 0).2.2.1.toNat).2.2.1.toNat).2.2.2=true then none else
 if (Zzf s (Zib s (Zib s (Zib s 0).2.2.1.toNat).2.2.1.toNat).2.2.1.toNat).2.2.2=true then none else
 some ((Zib s 0).1,(Zib s (Zib s 0).2.2.1.toNat).1,(Zib s (Zib s (Zib s 0).2.2.1.toNat).2.2.1.toNat).1,(Zzf s (Zib s (Zib s (Zib s 0).2.2.1.toNat).2.2.1.toNat).2.2.1.toNat).1,(Zzf s (Zib s (Zib s (Zib s 0).2.2.1.toNat).2.2.1.toNat).2.2.1.toNat).2.2.1.toNat)
theorem Ze3 {s:Str} {x y z:Int} {t:Str} {a b c d:Nat} (g1:Got s 0 x a) (g2:Got s a y b) (g3:Got s b z c) (g4:GotT s c t d):Zm x++Zm y++Zm z++Z2b t=s ↔ d=s.length:=by
 have e1:=g1.eq
 have e2:=g2.eq
 have e3:=g3.eq
 have e4:=g4.eq
 rw [Y5] at e1
 constructor
 ·intro h
  have h1:=congrArg Yia h
  rw [Yj,Yj,Yj] at h1
  have:=g1.at';have:=g2.at';have:=g3.at';have:=g4.at'
  omega
 ·rintro rfl
  rw [List.drop_of_length_le (l:=s) (i:=s.length) (Yv _),List.append_nil] at e4
  rw [← e4,Yn,← e3,Yn,← e2,← e1]
theorem Zbcb {s:Str} {x y z:Int} {t:Str} {d:Nat} (h:Zgj s=some (x,y,z,t,d)):∃a b c,Got s 0 x a∧Got s a y b∧Got s b z c∧GotT s c t d:=by
 unfold Zgj at h
 rcases Zmt s 0 with ⟨x',a,e1,g1⟩ | e1
 ·rw [e1] at h
  simp only [Ye,Yx,if_false] at h
  rcases Zmt s a with ⟨y',b,e2,g2⟩ | e2
  ·rw [e2] at h
   simp only [Ye,Yx,if_false] at h
   rcases Zmt s b with ⟨z',c,e3,g3⟩ | e3
   ·rw [e3] at h
    simp only [Ye,Yx,if_false] at h
    rcases Zteb s c with ⟨t',d',e4,g4⟩ | e4
    ·rw [e4] at h
     simp only [Ye,Yx,if_false,Option.some.injEq,Prod.mk.injEq] at h
     obtain ⟨rfl,rfl,rfl,rfl,rfl⟩:=h
     exact ⟨a,b,c,g1,g2,g3,g4⟩
    ·rw [e4] at h;simp at h
   ·rw [e3] at h;simp at h
  ·rw [e2] at h;simp at h
 ·rw [e1] at h;simp at h
def Zifb (k:Nat) (s:Str):Prop:=∃v3 v4 v5:Int×Str×Int×Bool,∃v6:Str×Str×Int×Bool,Zcc k (s,(0,false))=some v3∧Zcc k v3.2=some v4∧Zcc k v4.2=some v5∧Zth k v5.2=some v6 ∧
 ((∃x y z t d,Zgj s=some (x,y,z,t,d)∧v3.1=x∧v4.1=y∧v5.1=z∧v6=(t,s,((d:Nat):Int),false))∨(Zgj s=none∧v6.2.2.2=true))
theorem Zpcb (s:Str) (hs:s.length≤8000):Ze fun k=>Zifb k s:=by
 have f0:=Z6t s 0 (by omega) hs
 rcases Zmt s 0 with ⟨x,a,e1,g1⟩ | e1
 ·have l1:=g1.le
  have f1:=Z6t s a (by omega) hs
  rcases Zmt s a with ⟨y,b,e2,g2⟩ | e2
  ·have l2:=g2.le
   have f2:=Z6t s b (by omega) hs
   rcases Zmt s b with ⟨z,c,e3,g3⟩ | e3
   ·have l3:=g3.le
    have f3:=Zxdb s c (by omega) hs
    refine (((f0.and f1).and f2).and f3).mono fun k ⟨⟨⟨h0,h1⟩,h2⟩,h3⟩=>⟨Zib s 0,Zib s a,Zib s b,Zzf s c,h0,?_,?_,?_,?_⟩
    ·rw [e1];exact h1
    ·rw [e2];exact h2
    ·rw [e3];exact h3
    ·rcases Zteb s c with ⟨t,d,e4,g4⟩ | e4
     ·refine .inl ⟨x,y,z,t,d,?_,by rw [e1],by rw [e2],by rw [e3],e4⟩
      unfold Zgj
      simp [e1,e2,e3,e4]
     ·refine .inr ⟨?_,by rw [e4]⟩
      unfold Zgj
      simp [e1,e2,e3,e4]
   ·have f3:=Zi0 s b (by omega) hs
    refine (((f0.and f1).and f2).and f3).mono fun k ⟨⟨⟨h0,h1⟩,h2⟩,h3⟩=>⟨Zib s 0,Zib s a,Zib s b,([],s,(b:Int),true),h0,?_,?_,?_,.inr ⟨?_,?_⟩⟩
    ·rw [e1];exact h1
    ·rw [e2];exact h2
    ·rw [e3];exact h3
    ·unfold Zgj
     simp [e1,e2,e3]
    ·rfl
  ·have f2:=Zz5 s a (by omega) hs
   have f3:=Zi0 s a (by omega) hs
   refine (((f0.and f1).and f2).and f3).mono fun k ⟨⟨⟨h0,h1⟩,h2⟩,h3⟩=>⟨Zib s 0,Zib s a,(0,s,(a:Int),true),([],s,(a:Int),true),h0,?_,?_,h3,.inr ⟨?_,rfl⟩⟩
   ·rw [e1];exact h1
   ·rw [e2];exact h2
   ·unfold Zgj
    simp [e1,e2]
 ·have f1:=Zz5 s 0 (by omega) hs
  have f3:=Zi0 s 0 (by omega) hs
  refine ((f0.and f1).and f3).mono fun k ⟨⟨h0,h1⟩,h3⟩=>⟨Zib s 0,(0,s,((0:Nat):Int),true),(0,s,((0:Nat):Int),true),([],s,((0:Nat):Int),true),h0,?_,h1,h3,.inr ⟨?_,rfl⟩⟩
  ·rw [e1];exact h1
  ·unfold Zgj
   simp [e1]
end Go.Proofs.Qz
namespace Go.Proofs.Qz
open Go
set_option linter.unusedVariables false
def Zed (k t f:Int) (d:Str) (n:Int):Bool:=
 if k=1 then decide (0≤t)&&decide (t≤n-1)&&decide (f=0)&&(d==[])
 else if k=2 then decide (0≤t)&&decide (t≤n-1)&&decide (f=0)&&decide ((d.length:Int)=8)
 else if k=3 then decide (0≤t)&&decide (t≤n-1)&&(decide (0≤f)&&decide (f≤n-1))&&(d==[])
 else if k=4 then decide (0≤t)&&decide (t≤n-1)&&(decide (0≤f)&&decide (f≤n-1))&&decide ((d.length:Int)=8)
 else if k=5 then decide (t=0)&&(decide (0≤f)&&decide (f≤1000000))&&(d==[])
 else false
theorem Zg0 (k t f:Int) (d:Str) (n:Int) (h1:1≤n) (h2:n≤8):Z5h (k,(t,(f,d))) n=some (Zed k t f d n):=by
 unfold Z5h Zfb Zed
 simp only [Yc]
 rw [w64 (n:=n-1) (by omega) (by omega),decide_eq_true h1,decide_eq_true h2]
 simp only [Zdi]
 generalize (decide (0≤t)&&decide (t≤n-1))=P
 generalize (decide (0≤f)&&decide (f≤n-1))=Q
 generalize (decide (0≤f)&&decide (f≤1000000))=R
 generalize (d==([]:Str))=E
 generalize decide ((d.length:Int)=8)=Z
 by_cases c1:k=1
 ·subst c1;cases P <;> by_cases h:f=0 <;> simp [h]
 by_cases c2:k=2
 ·subst c2;cases P <;> by_cases h:f=0 <;> simp [h]
 by_cases c3:k=3
 ·subst c3;cases P <;> cases Q <;> simp
 by_cases c4:k=4
 ·subst c4;cases P <;> cases Q <;> simp
 by_cases c5:k=5
 ·subst c5;cases R <;> by_cases h:t=0 <;> simp [h]
 simp [c1,c2,c3,c4,c5]
theorem Zry (k t f:Int) (d:Str) (n:Int) (h1:1≤n) (h2:n≤8):Znc (k,(t,(f,d))) n=some (Zed k t f d n):=by
 have hw:Yb .i64 (n-1)=n-1:=w64 (by omega) (by omega)
 unfold Znc
 simp only [Zhb,Zii,Yc,hw,Znc.j0,Znc.j1,Zed,Zdi]
 generalize (decide (0≤t)&&decide (t≤n-1))=P
 generalize (decide (0≤f)&&decide (f≤n-1))=Q
 generalize (d==([]:Str))=E
 by_cases c1:k=1
 ·subst c1;cases P <;> by_cases h:f=0 <;> simp [h]
 by_cases c2:k=2
 ·subst c2;cases P <;> by_cases h:f=0 <;> simp [h]
 by_cases c3:k=3
 ·subst c3;cases P <;> cases Q <;> simp
 by_cases c4:k=4
 ·subst c4;cases P <;> cases Q <;> simp
 by_cases c5:k=5
 ·subst c5;cases E <;> by_cases h:t=0 <;> simp [h]
 have hk:(decide (1≤k)&&decide (k≤5))=false:=by
  rw [Yca,Ne,Yl,decide_eq_true_eq,decide_eq_true_eq];omega
 simp [c1,c2,c3,c4,c5,hk]
theorem Zvw {k t f:Int} {d:Str} {n:Int} (h:Zed k t f d n=true):d.length≤8:=by
 unfold Zed at h
 have e:(d==([]:Str))=true→d.length≤8:=fun q=>by
  rw [Z3q] at q
  rw [of_decide_eq_true q];simp
 have e8:decide ((d.length:Int)=8)=true→d.length≤8:=fun q=>by
  have:=of_decide_eq_true q;omega
 split at h
 ·exact e ((Yl _ _).mp h).2
 split at h
 ·exact e8 ((Yl _ _).mp h).2
 split at h
 ·exact e ((Yl _ _).mp h).2
 split at h
 ·exact e8 ((Yl _ _).mp h).2
 split at h
 ·exact e ((Yl _ _).mp h).2
 ·cases h
def Zoi (s:Str):Option (Int×Int×Int×Str):=match Zgj s with
 | some (x,y,z,t,d)=>if d=s.length∧Zed x y z t 8=true then some (x,y,z,t) else none
 | none=>none
theorem Z0ob {s:Str} {x y z:Int} {t:Str} (h:Zoi s=some (x,y,z,t)):Zed x y z t 8=true:=by
 unfold Zoi at h
 split at h
 ·split at h
  ·rename_i hq
   cases h
   exact hq.2
  ·cases h
 ·cases h
theorem Zacb (x y z:Int) (t:Str) (hx:Num x) (hy:Num y) (hz:Num z) (ht:t.length≤8000):Ze fun k=>Z6b k x=some (Zm x)∧Z6b k y=some (Zm y)∧Z6b k z=some (Zm z)∧Zxi k t=some (Z2b t):=
 ((Zwi x hx).and ((Zwi y hy).and ((Zwi z hz).and (Zf0 t ht))))
theorem Zfob (x y z:Int) (t:Str) (hx:Num x) (hy:Num y) (hz:Num z) (ht:t.length≤8000):Ze fun k=>Zkq k (x,(y,(z,t)))=some (if Zed x y z t 8=true then Zm x++Zm y++Zm z++Z2b t else []):=by
 refine (Zacb x y z t hx hy hz ht).mono fun k ⟨h1,h2,h3,h4⟩=>?_
 have l1:=Zgc x
 have l2:=Zgc y
 have l3:=Zgc z
 have l4:=Zfj t
 unfold Zkq
 rw [Zg0 x y z t 8 (by omega) (by omega)]
 simp only [Yc]
 by_cases hb:Zed x y z t 8=true
 ·rw [hb,if_pos rfl]
  unfold Zwl
  simp only [Yea,cond_false]
  rw [h1,h2,h3,h4]
  simp only [Yc]
  rw [Ztc (by omega)]
  simp only [Yc]
  rw [Ztc (by simp;omega)]
  simp only [Yc]
  rw [Ztc (by simp;omega)]
  rfl
 ·rw [if_neg hb,(Yca.2 hb:Zed x y z t 8=false)]
  rfl
theorem Zb9 {s:Str} (h:1≤s.length):(([]:Str)==s)=false:=by
 cases s with
 | nil=>exact absurd h (by simp)
 | cons _ _=>rfl
theorem Z25 (s:Str) (hs:s.length≤8000):Ze fun k=>Zvl k s=some (match Zoi s with
  | some (x,y,z,t)=>(x,y,z,t,0)
  | none=>(0,0,0,[],3)):=by
 cases hq:Zgj s with
 | none=>
  refine (Zpcb s hs).mono fun k ⟨v3,v4,v5,v6,h3,h4,h5,h6,h⟩=>?_
  have h7:v6.2.2.2=true:=by
   rcases h with ⟨x,y,z,t,d,e,_⟩ | ⟨_,h⟩
   ·rw [hq] at e;cases e
   ·exact h
  unfold Zvl Zoi
  rw [hq,decide_eq_false (by omega:¬(8000<(s.length:Int)))]
  simp only [cond_false]
  rw [h3]
  simp only [Yc]
  rw [h4]
  simp only [Yc]
  rw [h5]
  simp only [Yc]
  rw [h6]
  simp only [Yc]
  rw [h7]
  rfl
 | some q=>
  obtain ⟨x,y,z,t,d⟩:=q
  obtain ⟨a,b,c,g1,g2,g3,g4⟩:=Zbcb hq
  refine ((Zpcb s hs).and (Zfob x y z t g1.range g2.range g3.range g4.size)).mono fun k ⟨⟨v3,v4,v5,v6,h3,h4,h5,h6,h⟩,hb⟩=>?_
  have h7:v3.1=x∧v4.1=y∧v5.1=z∧v6=(t,s,((d:Nat):Int),false):=by
   rcases h with ⟨x',y',z',t',d',e,h⟩ | ⟨e,_⟩
   ·rw [hq] at e;cases e;exact h
   ·rw [hq] at e;cases e
  obtain ⟨i1,i2,i3,i4⟩:=h7
  unfold Zvl Zoi
  rw [hq,decide_eq_false (by omega:¬(8000<(s.length:Int)))]
  simp only [cond_false]
  rw [h3]
  simp only [Yc]
  rw [h4]
  simp only [Yc]
  rw [h5]
  simp only [Yc]
  rw [h6]
  simp only [Yc]
  rw [i1,i2,i3,i4]
  simp only [cond_false]
  rw [hb]
  simp only [Yc]
  by_cases hr:Zed x y z t 8=true
  ·rw [if_pos hr,Z3q]
   by_cases hd:d=s.length
   ·rw [decide_eq_true ((Ze3 g1 g2 g3 g4).2 hd),if_pos ⟨hd,hr⟩]
    rfl
   ·rw [decide_eq_false (fun q=>hd ((Ze3 g1 g2 g3 g4).1 q)),if_neg (fun q=>hd q.1)]
    rfl
  ·have:=g1.le
   have:=g1.at'
   have:=Ze5 x
   rw [if_neg hr,if_neg (fun q=>hr q.2),Zb9 (by omega)]
   rfl
end Go.Proofs.Qz
namespace Go.Proofs.Qz
open Go
set_option linter.unusedVariables false
abbrev Zk:=Int×Int×Int×Str
end Go.Proofs.Qz
