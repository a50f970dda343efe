/- What the law FnExactDeedDo needs, part 11 of 15: the Lean functions of the Go functions that it reaches, with the proofs that the calls come to what they say, and plain facts about them. Conditions: those that each theorem states. Written by a session and by its programs (after the kit's printer). -/
import Derived.Test.YtpcllejjdmmjcaaGreatDoorXFnExactDeedDo9
open Option renaming bind_some → Ya, some → Yxa, isSome_some → Ylb
open Nat renaming le_refl → Yb, zero_add → Yi, not_lt_zero → Yk, lt_or_ge → Yx, xor_assoc → Yfa, zero_le → Yga, xor_comm → Ywa, le_trans → Yib, pow_succ → Yjb, xor_zero → Ykb
open List renaming range → Yc, replicate → Yd, getElem_mem → Yg, mem_cons_self → Yj, append_assoc → Ym, getElem?_cons_succ → Yn, mem_singleton → Yo, getElem?_eq_getElem → Yp, length_filter_le → Yq, length_take → Yr, mem_range → Ys, take_length → Yt, append_nil → Yu, getElem?_cons_zero → Yv, nodup_nil → Yw, all_eq_true → Y1, drop_eq_getElem_cons → Y2, filter_append → Y3, length_cons → Y4, length_erase_of_mem → Y5, length_replicate → Y6, length_set → Y7, nodup_append → Y8, nodup_cons → Y9, drop_zero → Yca, length_append → Yda, mem_append → Yea, drop_eq_nil_of_le → Yja, eq_nil_of_length_eq_zero → Yka, find? → Yla, find?_eq_none → Yma, getElem_of_mem → Yna, getElem_replicate → Yoa, getElem_set → Ypa, getElem_take → Yqa, length_nil → Yra, length_range → Ysa, mem_filter → Yta, mem_of_mem_erase → Yua, take → Yva, any_eq_true → Y2a, drop_length → Y3a, ext_getElem → Y4a, filter_eq_self → Y5a, find?_append → Y6a, find?_some → Y7a, getD_eq_getElem?_getD → Y8a, getElem_map → Y9a, getElem_range → Yab, length_map → Ybb, mem_append_right → Ycb, mem_map → Ydb, mem_of_find?_eq_some → Yeb, not_all_eq_any_not → Yfb, take_sublist → Ygb, take_succ_cons → Yhb
open Go.IntKind renaming wrap → Ye
open Bool renaming and_eq_true → Yf, not_true → Yl, and_false → Yy, eq_false_iff → Yz, false_eq_true → Y0, and_self → Yaa, eq_iff_iff → Yba, true_and → Yha, or_eq_true → Yya, or_false → Yza
open Int renaming toNat_natCast → Yh, tmod_eq_emod_of_nonneg → Yia, eq_ofNat_of_zero_le → Y0a, tdiv_eq_ediv_of_nonneg → Y1a
namespace Go.Proofs.Qz
open Go
set_option linter.unusedVariables false
theorem Zdi (a b:Int):(a==b)=decide (a=b):=by rw [Yba];simp
theorem Z5bb (r:Nat):shr .u32 (r:Int) 1=((r/2:Nat):Int):=Z2i .u32 r 1 (by decide)
theorem sl0:∀(n r j:Nat),n≤8→r<4294967296→n<j→Z9b.l0 j (r:Int) ((8-n:Nat):Int)=some ((Zos n r:Nat):Int)
 | n,r,0,_,_,h=>absurd h (Yk n)
 | 0,r,j+1,_,_,_=>by
  unfold Z9b.l0;rfl
 | n+1,r,j+1,hn,hr,hj=>by
  have e:Ye .i64 (((8-(n+1):Nat):Int)+1)=((8-n:Nat):Int):=by rw [w64] <;> omega
  unfold Z9b.l0;rw [Xa (by omega:(((8-(n+1):Nat):Int))<8),Zm9 _ hr,Z5bb,e,Z4c (by omega),Zdi];simp only [Xe,Ya]
  by_cases hp:r%2=1
  ·rw [Xa (by omega:((r%2:Nat):Int)=1),show (3988292384:Int)=((3988292384:Nat):Int) from rfl,Zhp _ _ (by omega) (by omega)]
   have e2:Z3k r=r/2 ^^^ 3988292384:=by unfold Z3k;rw [Xc hp]
   rw [Xe,← e2];exact sl0 n (Z3k r) j (by omega) (Zlw hr) (by omega)
  ·rw [Xb (by omega:¬(((r%2:Nat):Int)=1))]
   have e2:Z3k r=r/2:=by unfold Z3k;rw [Xd hp]
   rw [Xf,← e2];exact sl0 n (Z3k r) j (by omega) (Zlw hr) (by omega)
theorem sl1 (x:Str) (hx:x.length≤140737488351232) (k:Nat) (hk:9≤k):∀(d i r j:Nat),x.length-i=d→i≤x.length→r<4294967296→d<j→Z9b.l1 k j x (r:Int) (i:Int)=some ((Zps (x.drop i) r:Nat):Int)
 | d,i,r,0,_,_,_,h=>absurd h (Yk d)
 | 0,i,r,j+1,hd,hi,hr,_=>by
  unfold Z9b.l1;rw [Xb (by omega:¬((i:Int)<(x.length:Int))),Yja (by omega)];rfl
 | d+1,i,r,j+1,hd,hi,hr,hj=>by
  have hlt:i<x.length:=by omega
  have hc:=Zjp x[i];unfold Z9b.l1;rw [Xa (by omega:(i:Int)<(x.length:Int)),Zg hlt];simp only [Xe,Ya];have hxr:=x32 hr (show x[i].toNat<4294967296 by omega);rw [Zyt,show (((x[i].toNat:Nat):Int)%4294967296)=((x[i].toNat:Nat):Int) by omega,Zhp _ _ hr (by omega),Zm (by omega)];have h8:=sl0 8 (r ^^^ x[i].toNat) k (Yb _) hxr (by omega);have h8:Z9b.l0 k ((r ^^^ x[i].toNat:Nat):Int) 0=some ((Zos 8 (r ^^^ x[i].toNat):Nat):Int):=h8;rw [h8,Y2 hlt];simp only [Ya];exact sl1 x hx k hk d (i+1) _ j (by omega) (by omega) (Znz 8 hxr) (by omega)
theorem sCrc (c:Nat) (s:Str) (hc:c<4294967296) (hs:s.length≤140737488351232):Zc fun k=>Z9b k (c:Int) s=some ((Z1g c s:Nat):Int):=by
 refine Zc.ge (s.length+9) fun k hk=>?_
 have h:=sl1 s hs k (by omega) s.length 0 (c ^^^ 4294967295) k (by omega) (by omega) (x32 hc (by omega)) (by omega)
 have h:Z9b.l1 k k s ((c ^^^ 4294967295:Nat):Int) 0=some ((Zps s (c ^^^ 4294967295):Nat):Int):=h
 unfold Z9b
 rw [Zyt,show ((c:Int)%4294967296)=(c:Int) by omega,show (4294967295:Int)=((4294967295:Nat):Int) from rfl,Zhp _ _ hc (by omega),h]
 simp only [Ya]
 have hl:=Z93 s (x32 hc (show 4294967295<4294967296 by omega))
 have hl2:=x32 hl (show 4294967295<4294967296 by omega)
 rw [Zhp _ _ hl (by omega),w64 (by omega) (by omega)]
 rfl
theorem il0 (x:Str) (i:Nat) (hi:i<x.length):∀(n s r j:Nat),n≤8→s<4294967296→r=s ^^^ (x[i].toNat/2^(8-n))→n<j→Zec.l0 j x (r:Int) (i:Int) ((8-n:Nat):Int)=some ((Zos n s:Nat):Int)
 | n,s,r,0,_,_,_,h=>absurd h (Yk n)
 | 0,s,r,j+1,_,_,hr,_=>by
  have hc:=Zjp x[i];have:x[i].toNat/2^(8-0)=0:=Nat.div_eq_of_lt (by simpa using hc);rw [this,Ykb] at hr;subst hr;unfold Zec.l0;rfl
 | n+1,s,r,j+1,hn,hs,hr,hj=>by
  have hc:=Zjp x[i];have e:Ye .i64 (((8-(n+1):Nat):Int)+1)=((8-n:Nat):Int):=by rw [w64] <;> omega
  have ih:=il0 x i hi n (Z3k s);unfold Zec.l0;rw [Xa (by omega:(((8-(n+1):Nat):Int))<8),Zg hi];simp only [Xe,Ya];generalize x[i].toNat=c at hc hr ih ⊢;have hcd:c/2^(8-(n+1))<256:=Nat.lt_of_le_of_lt (Nat.div_le_self _ _) hc;have hrl:r<4294967296:=by rw [hr];exact x32 hs (by omega)
  have hsr:r ^^^ (c/2^(8-(n+1)))=s:=by rw [hr,Yfa,Nat.xor_self,Ykb]
  have hhalf:r/2=s/2 ^^^ (c/2^(8-n)):=by
   have e1:c/2^(8-n)=(c/2^(8-(n+1)))/2:=by rw [Nat.div_div_eq_div_mul,← Yjb];congr 2;omega
   rw [hr,e1];have:=@Nat.shiftRight_xor_distrib 1 s (c/2^(8-(n+1)));simpa [Nat.shiftRight_eq_div_pow] using this
  rw [Zyt,show ((c:Int)%4294967296)=(c:Int) by omega,Z2i .u32 c (8-(n+1)) (by show 8-(n+1)≤32;omega),Zhp _ _ hrl (by omega),hsr,Zm9 _ hs,Z5bb,e,Z4c (by omega),Z4c (by omega),Zdi];simp only [Ya]
  by_cases hp:s%2=1
  ·rw [Xa (by omega:((s%2:Nat):Int)=1),show (3988292384:Int)=((3988292384:Nat):Int) from rfl,Zhp _ _ (by omega) (by omega),Xe]
   refine ih _ j (by omega) (Zlw hs) ?_ (by omega);unfold Z3k;rw [Xc hp,hhalf,Yfa,Yfa,Ywa (c/2^(8-n))]
  ·rw [Xb (by omega:¬(((s%2:Nat):Int)=1)),Xf]
   refine ih _ j (by omega) (Zlw hs) ?_ (by omega);unfold Z3k;rw [Xd hp,hhalf]
theorem il1 (x:Str) (hx:x.length≤140737488351232) (k:Nat) (hk:9≤k):∀(d i r j:Nat),x.length-i=d→i≤x.length→r<4294967296→d<j→Zec.l1 k j x (r:Int) (x.length:Int) (i:Int)=some ((Zps (x.drop i) r:Nat):Int)
 | d,i,r,0,_,_,_,h=>absurd h (Yk d)
 | 0,i,r,j+1,hd,hi,hr,_=>by
  unfold Zec.l1;rw [Xb (by omega:¬((i:Int)<(x.length:Int))),Yja (by omega)];rfl
 | d+1,i,r,j+1,hd,hi,hr,hj=>by
  have hlt:i<x.length:=by omega
  have hc:=Zjp x[i];unfold Zec.l1;rw [Xa (by omega:(i:Int)<(x.length:Int))];have hxr:=x32 hr (show x[i].toNat<4294967296 by omega);have h8:=il0 x i hlt 8 (r ^^^ x[i].toNat) r k (Yb _) hxr (by simp [Yfa]) (by omega);have h8:Zec.l0 k x (r:Int) (i:Int) 0=some ((Zos 8 (r ^^^ x[i].toNat):Nat):Int):=h8;rw [h8,Y2 hlt];simp only [Xe,Ya];rw [Zm (by omega)];exact il1 x hx k hk d (i+1) _ j (by omega) (by omega) (Znz 8 hxr) (by omega)
theorem iCrc (c:Nat) (s:Str) (hc:c<4294967296) (hs:s.length≤140737488351232):Zc fun k=>Zec k (c:Int) s=some ((Z1g c s:Nat):Int):=by
 refine Zc.ge (s.length+9) fun k hk=>?_
 have h:=il1 s hs k (by omega) s.length 0 (c ^^^ 4294967295) k (by omega) (by omega) (x32 hc (by omega)) (by omega)
 have h:Zec.l1 k k s ((c ^^^ 4294967295:Nat):Int) (s.length:Int) 0=some ((Zps s (c ^^^ 4294967295):Nat):Int):=h
 unfold Zec
 rw [show (IntKind.max .u32:Int)=((4294967295:Nat):Int) from rfl,Zhp _ _ (by omega) hc,Ywa,h]
 simp only [Ya]
 have hl:=Z93 s (x32 hc (show 4294967295<4294967296 by omega))
 rw [Zhp _ _ (by omega) hl,Ywa]
 rfl
theorem Zgfb (n:Nat):Zwn (n:Int)=some (Znu n):=by
 unfold Zwn Znu
 have h8:=Z2i .i64 n 8 (by decide)
 have h16:=Z2i .i64 n 16 (by decide)
 have h24:=Z2i .i64 n 24 (by decide)
 have h8:shr .i64 (n:Int) 8=((n/256:Nat):Int):=h8
 have h16:shr .i64 (n:Int) 16=((n/65536:Nat):Int):=h16
 have h24:shr .i64 (n:Int) 24=((n/16777216:Nat):Int):=h24
 rw [Z4c (by omega),Z4c (by omega),Z4c (by omega)]
 simp only [Ya]
 rw [h8,h16,h24,u8w,u8w,u8w,u8w]
 rfl
theorem Zu7 (s:Str) (hs:s.length≤7996):Zc fun k=>Zql k s=some (Zeh s):=by
 refine (sCrc 0 s (by omega) (by omega)).mono fun k h=>?_
 have h:Z9b k 0 s=some ((Z1g 0 s:Nat):Int):=h
 unfold Zql
 rw [Xb (by omega:¬(7996<(s.length:Int))),h]
 simp only [Xf,Ya]
 rw [Zgfb]
 simp only [Ya]
 rw [Zwc (by rw [Zww];omega)]
 rfl
theorem Zc0 (s:Str) (hs:s.length≤140737488351232):Zc fun k=>Zoj k s=some (Zeh s):=by
 refine (iCrc 0 s (by omega) (by omega)).mono fun k h=>?_
 have h:Zec k 0 s=some ((Z1g 0 s:Nat):Int):=h
 have h8:=Z2i .u32 (Z1g 0 s) 8 (by decide)
 have h16:=Z2i .u32 (Z1g 0 s) 16 (by decide)
 have h24:=Z2i .u32 (Z1g 0 s) 24 (by decide)
 have h8:shr .u32 ((Z1g 0 s:Nat):Int) 8=((Z1g 0 s/256:Nat):Int):=h8
 have h16:shr .u32 ((Z1g 0 s:Nat):Int) 16=((Z1g 0 s/65536:Nat):Int):=h16
 have h24:shr .u32 ((Z1g 0 s:Nat):Int) 24=((Z1g 0 s/16777216:Nat):Int):=h24
 unfold Zoj
 rw [h,Z4c (by omega),Z4c (by omega),Z4c (by omega)]
 simp only [Ya]
 rw [h8,h16,h24,u8w,u8w,u8w,u8w]
 have e:Zob [((Z1g 0 s:Nat):Int)%256,((Z1g 0 s/256:Nat):Int)%256,((Z1g 0 s/65536:Nat):Int)%256,((Z1g 0 s/16777216:Nat):Int)%256]=Znu (Z1g 0 s):=rfl
 rw [e,Zwc (by rw [Zww];omega)]
 rfl
theorem Zes (s t:Str):(s==t)=decide (s=t):=by rw [Yba];simp
theorem Zsu (s:Str) (hs:s.length≤140737488351232):Zc fun k=>Zbl k s=some (Zyc s):=by
 refine (Zc0 (Zl s) (by rw [Zis];omega)).mono fun k h=>?_
 unfold Zbl Zyc
 by_cases h4:s.length<4
 ·rw [Xa (by omega:(s.length:Int)<4),Xc h4]
  rfl
 ·rw [Xb (by omega:¬((s.length:Int)<4)),Xd h4,w64 (by omega) (by omega),show ((s.length:Int)-4)=((s.length-4:Nat):Int) by omega]
  have hc:=Zwf (l:=s) (i:=0) (j:=s.length-4) (by omega) (by omega);have hc:Zpb s 0 ((s.length-4:Nat):Int)=some (Zl s):=hc;rw [hc];simp only [Xf,Ya];rw [h];simp only [Ya,Zes]
  by_cases he:Zeh (Zl s)=s
  ·rw [Xc he,Xa he];rfl
  ·rw [Xd he,Xb he];rfl
theorem Zhm (s:Str) (hs:s.length≤8000):Zc fun k=>Zrl k s=some ((Zyc s).1,0,(Zyc s).2):=by
 refine (sCrc 0 (Zl s) (by omega) (by rw [Zis];omega)).mono fun k h=>?_
 have h:Z9b k 0 (Zl s)=some ((Z1g 0 (Zl s):Nat):Int):=h
 unfold Zrl Zyc
 rw [Xb (by omega:¬(8000<(s.length:Int)))]
 by_cases h4:s.length<4
 ·rw [Xa (by omega:(s.length:Int)<4),Xc h4]
  rfl
 ·rw [Xb (by omega:¬((s.length:Int)<4)),Xd h4,w64 (by omega) (by omega),show ((s.length:Int)-4)=((s.length-4:Nat):Int) by omega]
  have hc:=Zwf (l:=s) (i:=0) (j:=s.length-4) (by omega) (by omega);have hc:Zpb s 0 ((s.length-4:Nat):Int)=some (Zl s):=hc;have hd:=Zwf (l:=s) (i:=s.length-4) (j:=s.length) (by omega) (by omega);rw [Yt] at hd;simp only [Xf];rw [hc];simp only [Ya];rw [h];simp only [Ya];rw [Zgfb,hd];simp only [Ya,Zes]
  by_cases he:Zeh (Zl s)=s
  ·rw [Xc he,Xa ((Zqgb s).2 he)];rfl
  ·rw [Xd he,Xb (fun q=>he ((Zqgb s).1 q))];rfl
theorem Zxpb (n:Int) (h:Num n):Ztr n=some ((zig n:Nat):Int):=by
 unfold Num at h
 unfold Ztr zig
 simp only [Zth]
 by_cases hn:n<0
 ·rw [Xa hn,Xc hn,w64 (n:=n+1) (by omega) (by omega),w64 (by omega) (by omega)]
  rw [Xe];congr 1;omega
 ·rw [Xb hn,Xd hn,Xf]
  congr 1;omega
theorem sput:∀(f u:Nat) (acc:List Int) (j:Nat),u<128^f→u<18446744073709551616→acc.length+f≤100→0<f→f<j+1→∃p:Int×List Int,Z8b.l0 j (u:Int) acc=some p∧p.2.length≤100∧p.2++[Ye .u8 p.1]=acc++Zkc f u
 | 0,_,_,_,_,_,_,h,_=>absurd h (by omega)
 | f+1,u,acc,0,hu,hb,hl,_,hj=>by omega
 | f+1,u,acc,j+1,hu,hb,hl,_,hj=>by
  unfold Z8b.l0
  by_cases h:128≤u
  ·have hf:0<f:=by
    rcases Nat.eq_zero_or_pos f with rfl | h'
    ·simp at hu;omega
    ·exact h'
   obtain ⟨p,e,e1,e2⟩:=sput f (u/128) (acc++[((u%128+128:Nat):Int)]) j (by rw [Yjb] at hu;exact Nat.div_lt_of_lt_mul (by rw [Nat.mul_comm];exact hu)) (by omega) (by simp;omega) hf (by omega);refine ⟨p,?_,e1,?_⟩
   ·rw [Xa (by omega:(128:Int)≤(u:Int)),Z7q (by omega:(128:Int)≠0)]
    simp only [Xe,Ya];rw [Z5 (by simp;omega),u8w,Zth,Zth,Yia (by omega),Y1a (by omega)];simp only [Ya];rw [show (((u:Int)/128)%18446744073709551616)=((u/128:Nat):Int) by omega,show ((((u:Int)%128+128)%18446744073709551616)%256)=((u%128+128:Nat):Int) by omega];exact e
   ·rw [e2,Ym]
    simp [Zkc,h]
  ·refine ⟨((u:Int),acc),?_,by show acc.length≤100;omega,?_⟩
   ·rw [Xb (by omega:¬((128:Int)≤(u:Int)))]
    rfl
   ·show acc++[Ye .u8 (u:Int)]=_
    rw [u8w,show ((u:Int)%256)=(u:Int) by omega];simp [Zkc,h]
theorem Zaj (n:Int) (h:Num n):Zc fun k=>Z8b k n=some (Zn n):=by
 refine Zc.ge 10 fun k hk=>?_
 have hz:=Zu8 h
 obtain ⟨p,e,e1,e2⟩:=sput 10 (zig n) [] k (by omega) hz (by simp) (by omega) (by omega)
 unfold Z8b
 rw [Zxpb n h]
 simp only [Ya]
 rw [e]
 simp only [Ya]
 rw [Z5 (by simp;omega),e2]
 rfl
theorem Z5ab (s:Str) (j:Nat):(s.drop j=[]∧s.length≤j)∨∃h:j<s.length,s.drop j=s[j]::s.drop (j+1):=by
 by_cases h:j<s.length
 ·exact .inr ⟨h,Y2 h⟩
 ·exact .inl ⟨Yja (by omega),by omega⟩
theorem sgn (s:Str) (hs:s.length≤140737488351232) (a:Nat) (ha:a<9223372036854775000):∀(f i u j:Nat),i+f=10→i≤9→u<128^i→(0<i→a+i≤s.length)→f<j→Zpd.l0 j s (a:Int) (u:Int) (i:Int) 0 0 0=some (.inr (fin a (gn f i u (s.drop (a+i)))))
 | f,i,u,0,_,_,_,_,h=>absurd h (Yk f)
 | 0,i,u,j+1,hf,h9,hu,hz,_=>by omega
 | f+1,i,u,j+1,hf,hi9,hu,hz,hj=>by
  unfold Zpd.l0;rw [Xa (by omega:(i:Int)<10),w64 (n:=(s.length:Int)-(i:Int)) (by omega) (by omega),Xe];rcases Z5ab s (a+i) with ⟨hd,hlen⟩ | ⟨hlt,hd⟩
  ·rw [Xa (by omega:(s.length:Int)-(i:Int)≤(a:Int)),hd]
   rfl
  ·rw [Xb (by omega:¬((s.length:Int)-(i:Int)≤(a:Int))),w64 (n:=(a:Int)+(i:Int)) (by omega) (by omega),show ((a:Int)+(i:Int))=((a+i:Nat):Int) by omega]
   simp only [Xf];rw [Zg hlt,hd];simp only [Ya,gn];have hb:=Zjp s[a+i];have ih:=fun u'=>sgn s hs a ha f (i+1) u' j
   generalize s[a+i].toNat=b at hb ⊢;rw [Zth (b:Int),show ((b:Int)%18446744073709551616)=(b:Int) by omega,Zdi,Z7q (by omega:(128:Int)≠0)]
   by_cases h9:i=9∧1<b
   ·rw [Xa (by omega:(i:Int)=9),Xa (by omega:(1:Int)<(b:Int)),Xc h9]
    rfl
   ·rw [Xd h9,show (decide ((i:Int)=9)&&decide ((1:Int)<(b:Int)))=false by
     by_cases h:i=9
     ·rw [Xb (by omega:¬((1:Int)<(b:Int))),Yy]
     ·rw [Xb (by omega:¬((i:Int)=9))];rfl]
    have hb9:i=9→b≤1:=fun h=>by
     rcases Yx 1 b with h1 | h1
     ·exact absurd ⟨h,h1⟩ h9
     ·exact h1
    have hsl:=Zb8 (b:=b) (show i≤9 by omega) hu hb9
    have hv:Ye .u64 ((u:Int)+shl .u64 (Int.tmod (b:Int) 128) (Ye .u64 (Ye .i64 (7*(i:Int)))))=((u+b%128*128^i:Nat):Int):=by
     rw [w64 (by omega) (by omega),Zth (7*(i:Int)),show (7*(i:Int))%18446744073709551616=((7*i:Nat):Int) by omega,Yia (by omega),show (b:Int)%128=((b%128:Nat):Int) by omega,Z8fb (by omega) hb9,Zth];omega
    have hn:Zwb (Ye .u64 (Ye .i64 (7*(i:Int))))=some ():=Z4c (by rw [Zth];omega);simp only [Xf,Ya];rw [hn];simp only [Ya];rw [hv]
    by_cases h128:128≤b
    ·have hi8:i≤8:=by
      by_cases h:i=9
      ·have:=hb9 h;omega
      ·omega
     rw [Xb (by omega:¬((b:Int)<128)),Xc h128,Xf,Zm (by omega),show a+i+1=a+(i+1) by omega];exact ih _ (by omega) (by omega) (Zh2 hi8 hu) (fun _=>by omega) (by omega)
    ·rw [Xa (by omega:((b:Int)<128)),Xd h128,Xe,Zdi]
     by_cases h0:b=0∧0<i
     ·rw [Xa (by omega:(b:Int)=0),Xa (by omega:(0:Int)<(i:Int)),Xc h0]
      rfl
     ·rw [Xd h0,show (decide ((b:Int)=0)&&decide ((0:Int)<(i:Int)))=false by
       by_cases h:b=0
       ·rw [Xb (by omega:¬((0:Int)<(i:Int))),Yy]
       ·rw [Xb (by omega:¬((b:Int)=0))];rfl]
      generalize u+b%128*128^i=v at hsl
      have e2:Ye .i64 (Ye .u64 (Int.tdiv (v:Int) 2))=((v/2:Nat):Int):=by
       rw [Y1a (by omega),Zth,w64 (by omega) (by omega)];omega
      rw [Xf,Z7q (by omega:(2:Int)≠0)];simp only [Ya];rw [Zm (by omega),e2,Yia (by omega),Zdi];unfold fin unz
      by_cases hp:v%2=1
      ·rw [Xa (by omega:(v:Int)%2=1),Xc hp,w64 (n:=0-((v/2:Nat):Int)) (by omega) (by omega),w64 (by omega) (by omega),Xe,show (0-((v/2:Nat):Int)-1) = -((v/2:Nat):Int)-1 by omega]
       rfl
      ·rw [Xb (by omega:¬((v:Int)%2=1)),Xd hp]
       rfl
theorem ign (s:Str) (hs:s.length≤140737488351232) (a:Nat) (ha:a<9223372036854775000):∀(f i u j:Nat),i+f=10→i≤9→u<128^i→(0<i→a+i≤s.length)→f<j→Zhf.l0 j s (a:Int) (u:Int) (i:Int)=some (fin a (gn f i u (s.drop (a+i))))
 | f,i,u,0,_,_,_,_,h=>absurd h (Yk f)
 | 0,i,u,j+1,hf,h9,hu,hz,_=>by omega
 | f+1,i,u,j+1,hf,hi9,hu,hz,hj=>by
  unfold Zhf.l0;rw [w64 (n:=(s.length:Int)-(i:Int)) (by omega) (by omega)];rcases Z5ab s (a+i) with ⟨hd,hlen⟩ | ⟨hlt,hd⟩
  ·rw [Xa (by omega:(s.length:Int)-(i:Int)≤(a:Int)),hd]
   rfl
  ·rw [Xb (by omega:¬((s.length:Int)-(i:Int)≤(a:Int))),w64 (n:=(a:Int)+(i:Int)) (by omega) (by omega),show ((a:Int)+(i:Int))=((a+i:Nat):Int) by omega]
   simp only [Xf];rw [Zg hlt,hd];simp only [Ya,gn];have hb:=Zjp s[a+i];have ih:=fun u'=>ign s hs a ha f (i+1) u' j
   generalize s[a+i].toNat=b at hb ⊢;rw [Zdi]
   by_cases h9:i=9∧1<b
   ·rw [Xa (by omega:(i:Int)=9),Xa (by omega:(1:Int)<(b:Int)),Xc h9]
    rfl
   ·rw [Xd h9,show (decide ((i:Int)=9)&&decide ((1:Int)<(b:Int)))=false by
     by_cases h:i=9
     ·rw [Xb (by omega:¬((1:Int)<(b:Int))),Yy]
     ·rw [Xb (by omega:¬((i:Int)=9))];rfl]
    have hb9:i=9→b≤1:=fun h=>by
     rcases Yx 1 b with h1 | h1
     ·exact absurd ⟨h,h1⟩ h9
     ·exact h1
    have hsl:=Zb8 (b:=b) (show i≤9 by omega) hu hb9
    have hv:intBits .or .u64 (u:Int) (shl .u64 (Ye .u64 (intBits .and .u8 (b:Int) 127)) (Ye .i64 (7*(i:Int))))=((u+b%128*128^i:Nat):Int):=by
     rw [Z1hb b hb,Zth,show ((b%128:Nat):Int)%18446744073709551616=((b%128:Nat):Int) by omega,w64 (by omega) (by omega),show (7*(i:Int))=((7*i:Nat):Int) by omega,Z8fb (by omega) hb9,Zlib _ _ (by have:=Z2db (show i≤9 by omega);omega) (Zugb (by omega) hb9),Zfob hu]
    have hn:Zwb (Ye .i64 (7*(i:Int)))=some ():=Z4c (by rw [w64 (by omega) (by omega)];omega);simp only [Xf];rw [hn];simp only [Ya];rw [hv]
    by_cases h128:128≤b
    ·have hi8:i≤8:=by
      by_cases h:i=9
      ·have:=hb9 h;omega
      ·omega
     rw [Xa (by omega:((127:Int)<(b:Int))),Xc h128,Xe,Zm (by omega),show a+i+1=a+(i+1) by omega];exact ih _ (by omega) (by omega) (Zh2 hi8 hu) (fun _=>by omega) (by omega)
    ·rw [Xb (by omega:¬((127:Int)<(b:Int))),Xd h128,Xf,Zdi]
     by_cases h0:b=0∧0<i
     ·rw [Xa (by omega:(b:Int)=0),Xa (by omega:(0:Int)<(i:Int)),Xc h0]
      rfl
     ·rw [Xd h0,show (decide ((b:Int)=0)&&decide ((0:Int)<(i:Int)))=false by
       by_cases h:b=0
       ·rw [Xb (by omega:¬((0:Int)<(i:Int))),Yy]
       ·rw [Xb (by omega:¬((b:Int)=0))];rfl]
      generalize u+b%128*128^i=v at hsl;have e2:shr .u64 (v:Int) 1=((v/2:Nat):Int):=Z2i .u64 v 1 (by decide);rw [Xf,Z4c (by omega:(0:Int)≤1)];simp only [Ya];rw [Zm (by omega),e2,Zeib v hsl,w64 (n:=((v/2:Nat):Int)) (by omega) (by omega),Zdi];unfold fin unz
      by_cases hp:v%2=1
      ·rw [Xa (by omega:((v%2:Nat):Int)=1),Xc hp,Z8nb _ (by omega)]
       rfl
      ·rw [Xb (by omega:¬(((v%2:Nat):Int)=1)),Xd hp]
       rfl
section
variable (s:Str) (a:Nat) (ha:a<9223372036854775000)
include ha
theorem Z8z (hs:s.length≤140737488351232):Zc fun k=>Zhf k s (a:Int)=some (Zfd s a):=by
 refine Zc.ge 11 fun k hk=>?_
 have h:=ign s hs a ha 10 0 0 k rfl (by omega) (by omega) (fun h=>absurd h (by omega)) (by omega)
 have h:Zhf.l0 k s (a:Int) 0 0=some (Zfd s a):=h
 unfold Zhf
 rw [Xb (by omega:¬((a:Int)<0)),h]
 rfl
theorem Znv (hs:s.length≤8000):Zc fun k=>Zpd k s (a:Int)=some (Zfd s a):=by
 refine Zc.ge 11 fun k hk=>?_
 have h:=sgn s (by omega) a ha 10 0 0 k rfl (by omega) (by omega) (fun h=>absurd h (by omega)) (by omega)
 have h:Zpd.l0 k s (a:Int) 0 0 0 0 0=some (.inr (Zfd s a)):=h
 unfold Zpd
 rw [Xb (by omega:¬(8000<(s.length:Int))),Xb (by omega:¬((a:Int)<0)),h]
 rfl
theorem Zg5 (hs:s.length≤140737488351232):Zc fun k=>Zgc k (s,((a:Int),false))=some (Zib s a):=by
 refine (Z8z s a ha hs).mono fun k h=>?_
 unfold Zgc Zib
 rw [h]
 rcases Zhl s a with ⟨n,a',e,g⟩ | ⟨c,hc,e⟩
 ·rw [e];rfl
 ·rw [e,Xd hc]
  simp only [Ya];rw [show (c != 0)=true by simpa using hc];rfl
theorem Zov (hs:s.length≤8000):Zc fun k=>Zdc k (s,((a:Int),false))=some (Zib s a):=by
 refine (Znv s a ha hs).mono fun k h=>?_
 unfold Zdc Zib
 rw [h]
 rcases Zhl s a with ⟨n,a',e,g⟩ | ⟨c,hc,e⟩
 ·rw [e];rfl
 ·rw [e,Xd hc]
  simp only [Ya];rw [show (c != 0)=true by simpa using hc];rfl
theorem Zt7 (hs:s.length≤8000):Zc fun k=>Zdc k (s,((a:Int),true))=some (0,s,(a:Int),true):=by
 refine (Znv s a ha hs).mono fun k h=>?_
 unfold Zdc
 rw [h]
 rfl
theorem Z4lb (hs:s.length≤140737488351232):∃(n:Int) (a':Nat),(Zc fun k=>Zgc k (s,((a:Int),true))=some (n,s,(a':Int),true))∧a'≤max a s.length:=by
 rcases Zhl s a with ⟨n,a',e,g⟩ | ⟨c,hc,e⟩
 ·refine ⟨n,a',(Z8z s a ha hs).mono fun k h=>?_,?_⟩
  ·unfold Zgc
   rw [h,e];rfl
  ·have:=g.le;omega
 ·refine ⟨0,a,(Z8z s a ha hs).mono fun k h=>?_,by omega⟩
  unfold Zgc;rw [h,e];simp only [Ya];rw [show (c != 0)=true by simpa using hc];rfl
end
theorem Z41 (s:Str) (h:s.length≤8000):Zc fun k=>Zbj k s=some (Z3b s):=by
 refine (Zaj (s.length:Int) ⟨by omega,by omega⟩).mono fun k hk=>?_
 have:=Zhc (s.length:Int)
 unfold Zbj
 rw [Xb (by omega:¬(8000<(s.length:Int))),hk]
 simp only [Xf,Ya]
 rw [Zwc (by omega)]
 rfl
section
variable (s:Str) (a:Nat) (ha:a<9223372036854775000)
include ha
theorem Z9x (hs:s.length≤8000):Zc fun k=>Zjm k s (a:Int)=some (Zzh s a):=by
 refine (Znv s a ha hs).mono fun k h=>?_
 unfold Zjm Zzh
 rw [h]
 rcases Zhl s a with ⟨n,a',e,g⟩ | ⟨c,hc,e⟩
 ·rw [e]
  simp only [if_true,Ya];have hle:=g.le;rw [show ((0:Int) != 0)=false from rfl,Xf]
  by_cases hn:0≤n∧n≤8000
  ·rw [Xb (by omega:¬(n<0)),Xb (by omega:¬(8000<n)),Xc hn,w64 (n:=(s.length:Int)-n) (by omega) (by omega),w64 (n:=(a':Int)+n) (by omega) (by omega)]
   by_cases hq:n > (s.length:Int)-(a':Int)
   ·rw [Xa (by omega:(s.length:Int)-n<(a':Int)),Xc hq]
    rfl
   ·rw [Xb (by omega:¬((s.length:Int)-n<(a':Int))),Xd hq]
    obtain ⟨m,rfl⟩:∃m:Nat,n=(m:Int):=⟨n.toNat,by omega⟩;rw [show ((a':Int)+(m:Int))=((a'+m:Nat):Int) by omega];have hc:=Zwf (l:=s) (i:=a') (j:=a'+m) (by omega) (by omega);simp only [Yza,Xf];rw [hc];rfl
  ·rw [Xd hn,show (decide (n<0)||decide (8000<n))=true by
    by_cases h0:n<0
    ·rw [Xa h0];rfl
    ·rw [Xa (by omega:8000<n),Bool.or_true]]
   rfl
 ·rw [e]
  simp only [Ya];rw [Xd hc,show (c != 0)=true by simpa using hc];rfl
theorem Zd5 (hs:s.length≤140737488351232):Zc fun k=>Z6p k s (a:Int)=some (Zzh s a):=by
 refine (Z8z s a ha hs).mono fun k h=>?_
 unfold Z6p Zzh
 rw [h]
 rcases Zhl s a with ⟨n,a',e,g⟩ | ⟨c,hc,e⟩
 ·rw [e]
  simp only [if_true,Ya];have hle:=g.le;rw [show ((0:Int) != 0)=false from rfl,Xf];unfold Z3;simp only [Ya]
  by_cases hn:0≤n∧n≤8000
  ·rw [Xa (by omega:0≤n),Xa (by omega:n≤8000),Xc hn,w64 (n:=(s.length:Int)-(a':Int)) (by omega) (by omega),w64 (n:=(a':Int)+n) (by omega) (by omega)]
   by_cases hq:n > (s.length:Int)-(a':Int)
   ·rw [Xa (by omega:(s.length:Int)-(a':Int)<n),Xc hq]
    rfl
   ·rw [Xb (by omega:¬((s.length:Int)-(a':Int)<n)),Xd hq]
    obtain ⟨m,rfl⟩:∃m:Nat,n=(m:Int):=⟨n.toNat,by omega⟩;rw [show ((a':Int)+(m:Int))=((a'+m:Nat):Int) by omega];have hc:=Zwf (l:=s) (i:=a') (j:=a'+m) (by omega) (by omega);simp only [Bool.and_true,Yl,Xf];rw [hc];rfl
  ·rw [Xd hn,show (decide (0≤n)&&decide (n≤8000))=false by
    by_cases h0:0≤n
    ·rw [Xb (by omega:¬(n≤8000)),Yy]
    ·rw [Xb h0];rfl]
   rfl
 ·rw [e]
  simp only [Ya];rw [Xd hc,show (c != 0)=true by simpa using hc];rfl
theorem Zhcb (hs:s.length≤140737488351232):Zc fun k=>Z8g k (s,((a:Int),false))=some (Zcg s a):=by
 refine (Zd5 s a ha hs).mono fun k h=>?_
 unfold Z8g Zcg
 rw [h]
 rcases Z2r s a with ⟨n,a',e,g⟩ | ⟨c,hc,e⟩
 ·rw [e];rfl
 ·rw [e,Xd hc]
  simp only [Ya];rw [show (c != 0)=true by simpa using hc];rfl
theorem Zyfb (hs:s.length≤8000):Zc fun k=>Z5h k (s,((a:Int),false))=some (Zcg s a):=by
 refine (Z9x s a ha hs).mono fun k h=>?_
 unfold Z5h Zcg
 rw [h]
 rcases Z2r s a with ⟨n,a',e,g⟩ | ⟨c,hc,e⟩
 ·rw [e];rfl
 ·rw [e,Xd hc]
  simp only [Ya];rw [show (c != 0)=true by simpa using hc];rfl
theorem Z71 (hs:s.length≤8000):Zc fun k=>Z5h k (s,((a:Int),true))=some ([],s,(a:Int),true):=by
 refine (Z9x s a ha hs).mono fun k h=>?_
 unfold Z5h
 rw [h]
 rfl
theorem Zicb (hs:s.length≤140737488351232):∃(t:Str) (a':Nat),(Zc fun k=>Z8g k (s,((a:Int),true))=some (t,s,(a':Int),true))∧a'≤max a s.length:=by
 rcases Z2r s a with ⟨n,a',e,g⟩ | ⟨c,hc,e⟩
 ·refine ⟨n,a',(Zd5 s a ha hs).mono fun k h=>?_,?_⟩
  ·unfold Z8g
   rw [h,e];rfl
  ·have:=g.le;omega
 ·refine ⟨[],a,(Zd5 s a ha hs).mono fun k h=>?_,by omega⟩
  unfold Z8g;rw [h,e];simp only [Ya];rw [show (c != 0)=true by simpa using hc];rfl
end
def Zuj (s:Str):Option (Int×Int×Int×Str×Nat):=if (Zib s 0).2.2.2=true then none else if (Zib s (Zib s 0).2.2.1.toNat).2.2.2=true then none else if (Zib s (Zib s (Zib s 0).2.2.1.toNat).2.2.1.toNat).2.2.2=true then none else if (Zcg s (Zib s (Zib s (Zib s 0).2.2.1.toNat).2.2.1.toNat).2.2.1.toNat).2.2.2=true then none else some ((Zib s 0).1,(Zib s (Zib s 0).2.2.1.toNat).1,(Zib s (Zib s (Zib s 0).2.2.1.toNat).2.2.1.toNat).1,(Zcg s (Zib s (Zib s (Zib s 0).2.2.1.toNat).2.2.1.toNat).2.2.1.toNat).1,(Zcg s (Zib s (Zib s (Zib s 0).2.2.1.toNat).2.2.1.toNat).2.2.1.toNat).2.2.1.toNat)
theorem Z74 {s:Str} {x y z:Int} {t:Str} {a b c d:Nat} (g1:Got s 0 x a) (g2:Got s a y b) (g3:Got s b z c) (g4:GotT s c t d):Zn x++Zn y++Zn z++Z3b t=s ↔ d=s.length:=by
 have e1:=g1.eq
 have e2:=g2.eq
 have e3:=g3.eq
 have e4:=g4.eq
 rw [Yca] at e1
 constructor
 ·intro h
  have h1:=congrArg List.length h;rw [Yda,Yda,Yda] at h1;have:=g1.at';have:=g2.at';have:=g3.at';have:=g4.at';omega
 ·rintro rfl
  rw [List.drop_of_length_le (l:=s) (i:=s.length) (Yb _),Yu] at e4;rw [← e4,Ym,← e3,Ym,← e2,← e1]
theorem Z9db {s:Str} {x y z:Int} {t:Str} {d:Nat} (h:Zuj s=some (x,y,z,t,d)):∃a b c,Got s 0 x a∧Got s a y b∧Got s b z c∧GotT s c t d:=by
 unfold Zuj at h
 rcases Z5u s 0 with ⟨x',a,e1,g1⟩ | e1
 ·rw [e1] at h
  simp only [Yh,Y0,if_false] at h;rcases Z5u s a with ⟨y',b,e2,g2⟩ | e2
  ·rw [e2] at h
   simp only [Yh,Y0,if_false] at h;rcases Z5u s b with ⟨z',c,e3,g3⟩ | e3
   ·rw [e3] at h
    simp only [Yh,Y0,if_false] at h;rcases Zvgb s c with ⟨t',d',e4,g4⟩ | e4
    ·rw [e4] at h
     simp only [Yh,Y0,if_false,Yxa.injEq,Prod.mk.injEq] at h;obtain ⟨rfl,rfl,rfl,rfl,rfl⟩:=h;exact ⟨a,b,c,g1,g2,g3,g4⟩
    ·rw [e4] at h;simp at h
   ·rw [e3] at h;simp at h
  ·rw [e2] at h;simp at h
 ·rw [e1] at h;simp at h
def Zlhb (k:Nat) (s:Str):Prop:=∃v3 v4 v5:Int×Str×Int×Bool,∃v6:Str×Str×Int×Bool,Zdc k (s,(0,false))=some v3∧Zdc k v3.2=some v4∧Zdc k v4.2=some v5∧Z5h k v5.2=some v6 ∧ ((∃x y z t d,Zuj s=some (x,y,z,t,d)∧v3.1=x∧v4.1=y∧v5.1=z∧v6=(t,s,((d:Nat):Int),false))∨(Zuj s=none∧v6.2.2.2=true))
theorem Zneb (s:Str) (hs:s.length≤8000):Zc fun k=>Zlhb k s:=by
 have f0:=Zov s 0 (by omega) hs
 rcases Z5u s 0 with ⟨x,a,e1,g1⟩ | e1
 ·have l1:=g1.le
  have f1:=Zov s a (by omega) hs;rcases Z5u s a with ⟨y,b,e2,g2⟩ | e2
  ·have l2:=g2.le
   have f2:=Zov s b (by omega) hs;rcases Z5u s b with ⟨z,c,e3,g3⟩ | e3
   ·have l3:=g3.le
    have f3:=Zyfb s c (by omega) hs;refine (((f0.and f1).and f2).and f3).mono fun k ⟨⟨⟨h0,h1⟩,h2⟩,h3⟩=>⟨Zib s 0,Zib s a,Zib s b,Zcg s c,h0,?_,?_,?_,?_⟩
    ·rw [e1];exact h1
    ·rw [e2];exact h2
    ·rw [e3];exact h3
    ·rcases Zvgb s c with ⟨t,d,e4,g4⟩ | e4
     ·refine .inl ⟨x,y,z,t,d,?_,by rw [e1],by rw [e2],by rw [e3],e4⟩
      unfold Zuj;simp [e1,e2,e3,e4]
     ·refine .inr ⟨?_,by rw [e4]⟩
      unfold Zuj;simp [e1,e2,e3,e4]
   ·have f3:=Z71 s b (by omega) hs
    refine (((f0.and f1).and f2).and f3).mono fun k ⟨⟨⟨h0,h1⟩,h2⟩,h3⟩=>⟨Zib s 0,Zib s a,Zib s b,([],s,(b:Int),true),h0,?_,?_,?_,.inr ⟨?_,?_⟩⟩
    ·rw [e1];exact h1
    ·rw [e2];exact h2
    ·rw [e3];exact h3
    ·unfold Zuj
     simp [e1,e2,e3]
    ·rfl
  ·have f2:=Zt7 s a (by omega) hs
   have f3:=Z71 s a (by omega) hs;refine (((f0.and f1).and f2).and f3).mono fun k ⟨⟨⟨h0,h1⟩,h2⟩,h3⟩=>⟨Zib s 0,Zib s a,(0,s,(a:Int),true),([],s,(a:Int),true),h0,?_,?_,h3,.inr ⟨?_,rfl⟩⟩
   ·rw [e1];exact h1
   ·rw [e2];exact h2
   ·unfold Zuj
    simp [e1,e2]
 ·have f1:=Zt7 s 0 (by omega) hs
  have f3:=Z71 s 0 (by omega) hs;refine ((f0.and f1).and f3).mono fun k ⟨⟨h0,h1⟩,h3⟩=>⟨Zib s 0,(0,s,((0:Nat):Int),true),(0,s,((0:Nat):Int),true),([],s,((0:Nat):Int),true),h0,?_,h1,h3,.inr ⟨?_,rfl⟩⟩
  ·rw [e1];exact h1
  ·unfold Zuj
   simp [e1]
def Zjd (k t f:Int) (d:Str) (n:Int):Bool:=if k=1 then decide (0≤t)&&decide (t≤n-1)&&decide (f=0)&&(d==[]) else if k=2 then decide (0≤t)&&decide (t≤n-1)&&decide (f=0)&&decide ((d.length:Int)=8) else if k=3 then decide (0≤t)&&decide (t≤n-1)&&(decide (0≤f)&&decide (f≤n-1))&&(d==[]) else if k=4 then decide (0≤t)&&decide (t≤n-1)&&(decide (0≤f)&&decide (f≤n-1))&&decide ((d.length:Int)=8) else if k=5 then decide (t=0)&&(decide (0≤f)&&decide (f≤1000000))&&(d==[]) else false
theorem Z51 (k t f:Int) (d:Str) (n:Int) (h1:1≤n) (h2:n≤8):Zji (k,(t,(f,d))) n=some (Zjd k t f d n):=by
 unfold Zji Z7 Zjd
 simp only [Ya]
 rw [w64 (n:=n-1) (by omega) (by omega),Xa h1,Xa h2]
 simp only [Zdi]
 generalize (decide (0≤t)&&decide (t≤n-1))=P
 generalize (decide (0≤f)&&decide (f≤n-1))=Q
 generalize (decide (0≤f)&&decide (f≤1000000))=R
 generalize (d==([]:Str))=E
 generalize decide ((d.length:Int)=8)=Z
 by_cases c1:k=1
 ·subst c1;cases P <;> by_cases h:f=0 <;> simp [h]
 by_cases c2:k=2
 ·subst c2;cases P <;> by_cases h:f=0 <;> simp [h]
 by_cases c3:k=3
 ·subst c3;cases P <;> cases Q <;> simp
 by_cases c4:k=4
 ·subst c4;cases P <;> cases Q <;> simp
 by_cases c5:k=5
 ·subst c5;cases R <;> by_cases h:t=0 <;> simp [h]
 simp [c1,c2,c3,c4,c5]
theorem Zd0 (k t f:Int) (d:Str) (n:Int) (h1:1≤n) (h2:n≤8):Zqc (k,(t,(f,d))) n=some (Zjd k t f d n):=by
 have hw:Ye .i64 (n-1)=n-1:=w64 (by omega) (by omega)
 unfold Zqc
 simp only [Z3,Zyi,Ya,hw,Zqc.j0,Zqc.j1,Zjd,Zdi]
 generalize (decide (0≤t)&&decide (t≤n-1))=P
 generalize (decide (0≤f)&&decide (f≤n-1))=Q
 generalize (d==([]:Str))=E
 by_cases c1:k=1
 ·subst c1;cases P <;> by_cases h:f=0 <;> simp [h]
 by_cases c2:k=2
 ·subst c2;cases P <;> by_cases h:f=0 <;> simp [h]
 by_cases c3:k=3
 ·subst c3;cases P <;> cases Q <;> simp
 by_cases c4:k=4
 ·subst c4;cases P <;> cases Q <;> simp
 by_cases c5:k=5
 ·subst c5;cases E <;> by_cases h:t=0 <;> simp [h]
 have hk:(decide (1≤k)&&decide (k≤5))=false:=by
  rw [Yz,Ne,Yf,decide_eq_true_eq,decide_eq_true_eq];omega
 simp [c1,c2,c3,c4,c5,hk]
theorem Zhy {k t f:Int} {d:Str} {n:Int} (h:Zjd k t f d n=true):d.length≤8:=by
 unfold Zjd at h
 have e:(d==([]:Str))=true→d.length≤8:=fun q=>by
  rw [Zes] at q;rw [of_decide_eq_true q];simp
 have e8:decide ((d.length:Int)=8)=true→d.length≤8:=fun q=>by
  have:=of_decide_eq_true q;omega
 split at h
 ·exact e ((Yf _ _).mp h).2
 split at h
 ·exact e8 ((Yf _ _).mp h).2
 split at h
 ·exact e ((Yf _ _).mp h).2
 split at h
 ·exact e8 ((Yf _ _).mp h).2
 split at h
 ·exact e ((Yf _ _).mp h).2
 ·cases h
def Z3i (s:Str):Option (Int×Int×Int×Str):=match Zuj s with
 | some (x,y,z,t,d)=>if d=s.length∧Zjd x y z t 8=true then some (x,y,z,t) else none
 | none=>none
theorem Zarb {s:Str} {x y z:Int} {t:Str} (h:Z3i s=some (x,y,z,t)):Zjd x y z t 8=true:=by
 unfold Z3i at h
 split at h
 ·split at h
  ·rename_i hq
   cases h;exact hq.2
  ·cases h
 ·cases h
theorem Z8db (x y z:Int) (t:Str) (hx:Num x) (hy:Num y) (hz:Num z) (ht:t.length≤8000):Zc fun k=>Z8b k x=some (Zn x)∧Z8b k y=some (Zn y)∧Z8b k z=some (Zn z)∧Zbj k t=some (Z3b t):=((Zaj x hx).and ((Zaj y hy).and ((Zaj z hz).and (Z41 t ht))))
theorem Zoqb (x y z:Int) (t:Str) (hx:Num x) (hy:Num y) (hz:Num z) (ht:t.length≤8000):Zc fun k=>Zrr k (x,(y,(z,t)))=some (if Zjd x y z t 8=true then Zn x++Zn y++Zn z++Z3b t else []):=by
 refine (Z8db x y z t hx hy hz ht).mono fun k ⟨h1,h2,h3,h4⟩=>?_
 have l1:=Zhc x
 have l2:=Zhc y
 have l3:=Zhc z
 have l4:=Ztj t
 unfold Zrr
 rw [Z51 x y z t 8 (by omega) (by omega)]
 simp only [Ya]
 by_cases hb:Zjd x y z t 8=true
 ·rw [hb,Xc rfl]
  unfold Znm;simp only [Yl,Xf];rw [h1,h2,h3,h4];simp only [Ya];rw [Zwc (by omega)];simp only [Ya];rw [Zwc (by simp;omega)];simp only [Ya];rw [Zwc (by simp;omega)];rfl
 ·rw [Xd hb,(Yz.2 hb:Zjd x y z t 8=false)]
  rfl
theorem Z7ab {s:Str} (h:1≤s.length):(([]:Str)==s)=false:=by
 cases s with
 | nil=>exact absurd h (by simp)
 | cons _ _=>rfl
theorem Zv7 (s:Str) (hs:s.length≤8000):Zc fun k=>Zmm k s=some (match Z3i s with
  | some (x,y,z,t)=>(x,y,z,t,0)
  | none=>(0,0,0,[],3)):=by
 cases hq:Zuj s with
 | none=>
  refine (Zneb s hs).mono fun k ⟨v3,v4,v5,v6,h3,h4,h5,h6,h⟩=>?_
  have h7:v6.2.2.2=true:=by
   rcases h with ⟨x,y,z,t,d,e,_⟩ | ⟨_,h⟩
   ·rw [hq] at e;cases e
   ·exact h
  unfold Zmm Z3i;rw [hq,Xb (by omega:¬(8000<(s.length:Int)))];simp only [Xf];rw [h3];simp only [Ya];rw [h4];simp only [Ya];rw [h5];simp only [Ya];rw [h6];simp only [Ya];rw [h7];rfl
 | some q=>
  obtain ⟨x,y,z,t,d⟩:=q;obtain ⟨a,b,c,g1,g2,g3,g4⟩:=Z9db hq;refine ((Zneb s hs).and (Zoqb x y z t g1.range g2.range g3.range g4.size)).mono fun k ⟨⟨v3,v4,v5,v6,h3,h4,h5,h6,h⟩,hb⟩=>?_
  have h7:v3.1=x∧v4.1=y∧v5.1=z∧v6=(t,s,((d:Nat):Int),false):=by
   rcases h with ⟨x',y',z',t',d',e,h⟩ | ⟨e,_⟩
   ·rw [hq] at e;cases e;exact h
   ·rw [hq] at e;cases e
  obtain ⟨i1,i2,i3,i4⟩:=h7;unfold Zmm Z3i;rw [hq,Xb (by omega:¬(8000<(s.length:Int)))];simp only [Xf];rw [h3];simp only [Ya];rw [h4];simp only [Ya];rw [h5];simp only [Ya];rw [h6];simp only [Ya];rw [i1,i2,i3,i4];simp only [Xf];rw [hb];simp only [Ya]
  by_cases hr:Zjd x y z t 8=true
  ·rw [Xc hr,Zes]
   by_cases hd:d=s.length
   ·rw [Xa ((Z74 g1 g2 g3 g4).2 hd),Xc ⟨hd,hr⟩]
    rfl
   ·rw [Xb (fun q=>hd ((Z74 g1 g2 g3 g4).1 q)),Xd (fun q=>hd q.1)]
    rfl
  ·have:=g1.le
   have:=g1.at';have:=Z76 x;rw [Xd hr,Xd (fun q=>hr q.2),Z7ab (by omega)];rfl
abbrev Zk:=Int×Int×Int×Str
theorem Zkrb (x:Zk) (n:Int) (hx:x.2.2.2.length≤140737488351232) (h0:0≤n) (h1:n≤1048576):Z1q x n=some (if n<(x.2.2.2.length:Int) then -1 else n-(x.2.2.2.length:Int)):=by
 unfold Z1q
 rw [w64 (by omega) (by omega)]
 by_cases h:n<(x.2.2.2.length:Int)
 ·rw [Xc h]
  dsimp only;rw [Xa (by omega:n-(x.2.2.2.length:Int)<0)];rfl
 ·rw [Xd h]
  dsimp only;rw [Xb (by omega:¬(n-(x.2.2.2.length:Int)<0))];rfl
theorem Zujb (x:Zk):Zsq x x=some true:=by
 unfold Zsq
 simp only [bne_self_eq_false,beq_self_eq_true,Yl,Xf]
theorem Zr8 {n:Int} (h0:0≤n) (h1:n<18446744073709551616):Ye .u64 n=n:=by rw [Zth];omega
def Zvg (n:Int) (x:Zk):Bool:=Zjd x.1 x.2.1 x.2.2.1 x.2.2.2 n
theorem Zomb (x:Zk) (n:Int) (h1:1≤n) (h2:n≤8):Zqc x n=some (Zvg n x):=Zd0 x.1 x.2.1 x.2.2.1 x.2.2.2 n h1 h2
theorem Zwfb (x:Zk) (n:Int) (h1:1≤n) (h2:n≤8):Zji x n=some (Zvg n x):=Z51 x.1 x.2.1 x.2.2.1 x.2.2.2 n h1 h2
def isW (x:Zk):Bool:=x.1 != 5
def Zi (l:List Zk):List Zk:=l.filter isW
def Zbf (l:List Zk):List Int:=(Zi l).map fun x=>x.2.1
def Zpk:Int→List Zk→Bool
 | _,[]=>true
 | a,x::l=>if x.1=5 then decide (a<x.2.2.1)&&Zpk x.2.2.1 l else Zpk a l
def Zfb (l:List Zk) (n:Int):Int:=if 20<l.length∨¬(1≤n∧n≤8)∨l.all (Zvg n)=false then 1 else if ¬(Zbf l).Nodup then 12 else if Zpk (-1) l then 0 else 8
theorem Zmy {l:List Zk} {i:Nat} (h:i<l.length):Zbf (l.take (i+1))=if isW l[i] then Zbf (l.take i)++[(l[i]).2.1] else Zbf (l.take i):=by
 unfold Zbf Zi
 rw [Zni h,Y3,List.map_append]
 split
 ·rename_i hw;simp [hw]
 ·rename_i hw;simp [hw]
theorem Z7w {x:Zk} (h:x.1≠5):isW x=true:=by unfold isW;simpa using h
theorem Z6w {x:Zk} (h:x.1=5):isW x=false:=by unfold isW;simp [h]
theorem Z1gb {l:List Zk} (i:Nat):(Zbf (l.take i)).Sublist (Zbf l):=by
 unfold Zbf Zi
 exact (((Ygb i l).filter _).map _)
theorem Zxnb {l:List Zk} {b:Int}:b∈Zbf l ↔ ∃x∈l,isW x=true∧x.2.1=b:=by
 unfold Zbf Zi
 rw [Ydb]
 constructor
 ·rintro ⟨x,hx,e⟩
  rw [Yta] at hx;exact ⟨x,hx.1,hx.2,e⟩
 ·rintro ⟨x,h1,h2,e⟩
  exact ⟨x,Yta.2 ⟨h1,h2⟩,e⟩
theorem Zf6 {l:List Zk} {b:Int} {i:Nat}:b∈Zbf (l.take i) ↔ ∃j,∃h:j<l.length,j<i∧isW l[j]=true∧(l[j]).2.1=b:=by
 rw [Zxnb]
 constructor
 ·rintro ⟨x,hx,h1,h2⟩
  obtain ⟨j,hj,rfl⟩:=Yna hx;rw [Yqa] at h1 h2;rw [Yr] at hj;exact ⟨j,by omega,by omega,h1,h2⟩
 ·rintro ⟨j,h,hji,h1,h2⟩
  refine ⟨l[j],?_,h1,h2⟩;rw [List.mem_take_iff_getElem];exact ⟨j,by omega,rfl⟩
def Z6o (b:Int) (x:Zk):Bool:=isW x&&(x.2.1==b)
def Zny (l:List Zk) (b:Int):Int:=match Zmb (Z6o b) l 0 with
 | some i=>(i:Int)
 | none=>-1
theorem Ztmb (l:List Zk) (b:Int) (hl:l.length≤1048576):∀k,l.length<k→Zoq k l b=some (Zny l b):=by
 intro k hk
 have run:=Z2g (fun j i=>Z5d.l0 j l (l.length:Int) i b) l (Z6o b) (.inl b) (fun i=>.inr ((i:Int),b)) (fun i hi=>by
  have e:Z4s l[i] b=some (Z6o b l[i]):=rfl;constructor
  ·intro hp j
   show Z5d.l0 (j+1) l (l.length:Int) (i:Int) b=Z5d.l0 j l (l.length:Int) ((i+1:Nat):Int) b;rw [Z5d.l0];rw [dlt hi,Zg hi,Zm (by omega)];simp only [Xe,Ya,e,hp,Xf]
  ·intro hp j
   show Z5d.l0 (j+1) l (l.length:Int) (i:Int) b=_;unfold Z5d.l0;rw [dlt hi,Zg hi];simp only [Xe,Ya,e,hp]) (fun j=>by
  show Z5d.l0 (j+1) l (l.length:Int) (l.length:Int) b=_;unfold Z5d.l0;rw [Zs (Yb _)];rfl) hk
 have run:Z5d.l0 k l (l.length:Int) 0 b=_:=run
 unfold Zoq Z5d Zny
 rw [run]
 cases Zmb (Z6o b) l 0 <;> rfl
theorem Z2gb {l:List Zk} {i:Nat} (h:i<l.length) (hw:isW l[i]=true):Zny l (l[i]).2.1<(i:Int) ↔ (l[i]).2.1∈Zbf (l.take i):=by
 unfold Zny
 rw [Zf6]
 cases hf:Zmb (Z6o (l[i]).2.1) l 0 with
 | none=>
  have:=Zus.1 hf l[i] (Yg h);unfold Z6o at this;rw [hw] at this;simp at this
 | some m=>
  obtain ⟨_,h2,h3,h4⟩:=Z4l hf;have h4:∀j,(hj:j<m)→Z6o (l[i]).2.1 (l[j]'(by omega))=false:=h4;unfold Z6o at h3;simp only [Yf,beq_iff_eq] at h3;constructor
  ·intro hm
   have hm:(m:Int)<(i:Int):=hm;exact ⟨m,h2,by omega,h3.1,h3.2⟩
  ·rintro ⟨j,hj,hji,h5,h6⟩
   show (m:Int)<(i:Int);rcases Yx m i with h | h
   ·omega
   ·have:=h4 j (by omega)
    unfold Z6o at this;rw [h5,h6] at this;simp at this
theorem Zclb (l:List Zk) (n:Int) (h1:1≤n) (h2:n≤8) (hl:l.length≤1048576):∀k,l.length<k→Zir k l n=some (!(l.all (Zvg n)),n):=by
 intro k hk
 have run:=Z2g (fun j i=>Z4d.l0 j l (l.length:Int) i n) l (fun x=>!(Zvg n x)) (.inl n) (fun i=>.inr ((i:Int),n)) (fun i hi=>by
  have e:Znq l[i] n=some (!(Zvg n l[i])):=by
   unfold Znq;rw [Zomb _ _ h1 h2];rfl
  constructor
  ·intro hp j
   show Z4d.l0 (j+1) l (l.length:Int) (i:Int) n=Z4d.l0 j l (l.length:Int) ((i+1:Nat):Int) n;rw [Z4d.l0];rw [dlt hi,Zg hi,Zm (by omega)];simp only [Xe,Ya,e,hp,Xf]
  ·intro hp j
   show Z4d.l0 (j+1) l (l.length:Int) (i:Int) n=_;unfold Z4d.l0;rw [dlt hi,Zg hi];simp only [Xe,Ya,e,hp]) (fun j=>by
  show Z4d.l0 (j+1) l (l.length:Int) (l.length:Int) n=_;unfold Z4d.l0;rw [Zs (Yb _)];rfl) hk
 have run:Z4d.l0 k l (l.length:Int) 0 n=_:=run
 have hany:=Zdo (p:=fun x=>!(Zvg n x)) (l:=l) (n:=0)
 rw [← Yfb] at hany
 unfold Zir Z4d
 rw [run,← hany]
 cases Zmb (fun x=>!(Zvg n x)) l 0 with
 | none=>rfl
 | some m=>
  simp only [Ya,Ylb];rw [Xa (by omega:(0:Int)≤(m:Int))]
theorem Zilb (l:List Zk) (hl:l.length≤20) (k:Nat) (hk:20<k):∀(d i:Nat) (a:Int) (b:Bool),i+d=l.length→(Zbf (l.take i)).Nodup→∀j,d<j →
  Zgd.l0 k j l a b l (l.length:Int) (i:Int)=some (if (Zbf l).Nodup then .inl (b&&Zpk a (l.drop i)) else .inr 12):=by
 intro d
 induction d with
 | zero=>
  intro i a b hi hn j hj;obtain ⟨j,rfl⟩:∃q,j=q+1:=⟨j-1,by omega⟩;obtain rfl:i=l.length:=by omega
  rw [Yt] at hn;unfold Zgd.l0;rw [Zs (Yb _),Xc hn,Y3a];simp [Zpk]
 | succ d ih=>
  intro i a b hi hn j hj;obtain ⟨j,rfl⟩:∃q,j=q+1:=⟨j-1,by omega⟩;have hlt:i<l.length:=by omega
  rw [Zgd.l0,dlt hlt,Zg hlt,Zm (by omega)];simp only [Xe,Ya];rw [Y2 hlt]
  by_cases h5:(l[i]).1=5
  ·have hw:=Z6w h5
   have hn2:(Zbf (l.take (i+1))).Nodup:=by rw [Zmy hlt,hw];exact hn
   have e:((l[i]).1 != 5)=false:=by simp [h5]
   rw [e];simp only [Xf];rw [ih (i+1) _ _ (by omega) hn2 j (by omega)];simp only [Zpk,Xc h5,Bool.and_assoc]
  ·have hw:=Z7w h5
   have e:((l[i]).1 != 5)=true:=by simpa using h5
   rw [e];simp only [Xe];rw [Ztmb l (l[i]).2.1 (by omega) k (by omega)];simp only [Ya]
   by_cases ht:Zny l (l[i]).2.1<(i:Int)
   ·rw [Xa ht]
    have hin:=(Z2gb hlt hw).1 ht
    have hnd:¬(Zbf l).Nodup:=by
     intro hnd;have h3:=(Z1gb (l:=l) (i+1)).nodup hnd;rw [Zmy hlt,hw] at h3;simp only [if_true] at h3;exact (Y8.1 h3).2.2 _ hin _ (Yo.2 rfl) rfl
    rw [Xd hnd];rfl
   ·rw [Xb ht]
    have hn2:(Zbf (l.take (i+1))).Nodup:=by
     rw [Zmy hlt,hw];refine Y8.2 ⟨hn,Y9.2 ⟨(fun h=>nomatch h),Yw⟩,fun x hx y hy e=>?_⟩;rw [Yo.1 hy] at e;subst e;exact ht ((Z2gb hlt hw).2 hx)
    simp only [Xf];rw [ih (i+1) _ _ (by omega) hn2 j (by omega)];simp only [Zpk,Xd h5]
theorem Ze0 (l:List Zk) (n:Int) (hl:l.length≤1048576):Zc fun k=>Zgd k l n=some (Zfb l n):=by
 refine Zc.ge (l.length+30) fun k hk=>?_
 unfold Zgd Zhk Z3 Zfb
 simp only [Ya]
 by_cases hb:1≤n∧n≤8
 ·rw [Xa hb.1,Xa hb.2]
  by_cases h20:20<l.length
  ·rw [Xa (by omega:(20:Int)<(l.length:Int)),Xc (.inl h20)]
   rfl
  ·rw [Xb (by omega:¬((20:Int)<(l.length:Int))),Zclb l n hb.1 hb.2 hl k (by omega)]
   simp only [Yaa,Yl,Yza,Xf,Ya];cases ha:l.all (Zvg n) with
   | false=>rw [Xc (.inr (.inr rfl))];rfl
   | true=>
    rw [Xd (by rintro (h | h | h);exact h20 h;exact h hb;cases h)];simp only [Yl,Xf];have run:=Zilb l (by omega) k (by omega) l.length 0 (-1) true (Yi _) Yw k (by omega);rw [Yca,Yha] at run;have run:Zgd.l0 k k l (-1) true l (l.length:Int) 0=_:=run;rw [run]
    by_cases hd:(Zbf l).Nodup
    ·rw [Xc hd,Xd (not_not_intro hd)]
     cases Zpk (-1) l <;> rfl
    ·rw [Xd hd,Xc hd]
     rfl
 ·have e:(!(decide (1≤n)&&decide (n≤8))||decide ((20:Int)<(l.length:Int)))=true:=by
   rw [show (decide (1≤n)&&decide (n≤8))=false by rw [Yz,Ne,Yf,decide_eq_true_eq,decide_eq_true_eq];exact hb];rfl
  rw [e,Xc (.inr (.inl hb))];rfl
theorem Zppb (l:List Zk) (i:Nat) (hi:i<l.length) (hl:l.length≤1048576):∀(d c j:Nat),(hc:c+d=i)→d<j→(∀q,(hq:q<c)→isW l[i]=true→isW (l[q]'(by omega))=true→(l[q]'(by omega)).2.1≠(l[i]).2.1) →
  Zu.l1 j l (i:Int) (c:Int)=some (if isW l[i]=true∧(l[i]).2.1∈Zbf (l.take i) then .inr 12 else .inl ()):=by
 intro d
 induction d with
 | zero=>
  intro c j hc hj hq;obtain ⟨j,rfl⟩:∃q,j=q+1:=⟨j-1,by omega⟩;obtain rfl:c=i:=by omega
  unfold Zu.l1;rw [Zs (Yb _),Xd]
  ·rfl
  ·rintro ⟨h1,h2⟩
   obtain ⟨q,hq1,hq2,hq3,hq4⟩:=Zf6.1 h2;exact hq q hq2 h1 hq3 hq4
 | succ d ih=>
  intro c j hc hj hq;obtain ⟨j,rfl⟩:∃q,j=q+1:=⟨j-1,by omega⟩;have hcl:c<l.length:=by omega
  rw [Zu.l1,dlt (by omega:c<i),Zg hi,Zg hcl,Zm (by omega)];simp only [Xe,Ya]
  have go:(isW l[i]=true→isW l[c]=true→(l[c]).2.1≠(l[i]).2.1)→Zu.l1 j l (i:Int) ((c+1:Nat):Int)=some (if isW l[i]=true∧(l[i]).2.1∈Zbf (l.take i) then .inr 12 else .inl ()):=fun h=>by
   refine ih (c+1) j (by omega) (by omega) fun q hqc h1 h2=>?_
   rcases Yx q c with h3 | h3
   ·exact hq q h3 h1 h2
   ·obtain rfl:q=c:=by omega
    exact h h1 h2
  by_cases h5:(l[i]).1=5
  ·rw [show ((l[i]).1 != 5)=false by simp [h5]]
   simp only [Xf];exact go fun h1=>by rw [Z6w h5] at h1;cases h1
  ·rw [show ((l[i]).1 != 5)=true by simpa using h5]
   simp only [Xe]
   by_cases h6:(l[c]).1=5
   ·rw [show ((l[c]).1 != 5)=false by simp [h6]]
    simp only [Xf];exact go fun _ h1=>by rw [Z6w h6] at h1;cases h1
   ·rw [show ((l[c]).1 != 5)=true by simpa using h6]
    simp only [Xe]
    by_cases h7:(l[i]).2.1=(l[c]).2.1
    ·rw [show ((l[i]).2.1==(l[c]).2.1)=true by simpa using h7,Xc ⟨Z7w h5,Zf6.2 ⟨c,hcl,by omega,Z7w h6,h7.symm⟩⟩]
     rfl
    ·rw [show ((l[i]).2.1==(l[c]).2.1)=false by simpa using h7]
     simp only [Xf];exact go fun _ _ e=>h7 e.symm
theorem Zqpb (l:List Zk) (hl:l.length≤20) (k:Nat) (hk:20<k):∀(d i:Nat),i+d=l.length→(Zbf (l.take i)).Nodup→∀j,d<j →
  Zu.l2 k j l (i:Int)=some (if (Zbf l).Nodup then .inl () else .inr 12):=by
 intro d
 induction d with
 | zero=>
  intro i hi hn j hj;obtain ⟨j,rfl⟩:∃q,j=q+1:=⟨j-1,by omega⟩;obtain rfl:i=l.length:=by omega
  rw [Yt] at hn;unfold Zu.l2;rw [Zs (Yb _),Xc hn];rfl
 | succ d ih=>
  intro i hi hn j hj;obtain ⟨j,rfl⟩:∃q,j=q+1:=⟨j-1,by omega⟩;have hlt:i<l.length:=by omega
  rw [Zu.l2,dlt hlt,Zm (by omega)];have run:=Zppb l i hlt (by omega) i 0 k (Yi _) (by omega) (fun q hq=>by omega);have run:Zu.l1 k l (i:Int) 0=_:=run;simp only [Xe];rw [run]
  by_cases h:isW l[i]=true∧(l[i]).2.1∈Zbf (l.take i)
  ·rw [Xc h]
   have hnd:¬(Zbf l).Nodup:=by
    intro hnd;have h3:=(Z1gb (l:=l) (i+1)).nodup hnd;rw [Zmy hlt,h.1] at h3;simp only [if_true] at h3;exact (Y8.1 h3).2.2 _ h.2 _ (Yo.2 rfl) rfl
   rw [Xd hnd];rfl
  ·rw [Xd h]
   simp only [Ya];refine ih (i+1) (by omega) ?_ j (by omega);rw [Zmy hlt];split
   ·rename_i hw
    refine Y8.2 ⟨hn,Y9.2 ⟨(fun h=>nomatch h),Yw⟩,fun x hx y hy e=>?_⟩;rw [Yo.1 hy] at e;subst e;exact h ⟨hw,hx⟩
   ·exact hn
theorem Zrpb (l:List Zk) (hl:l.length≤20):∀(d i:Nat) (a:Int),i+d=l.length→∀j,d<j →
  Zu.l3 j l a (i:Int)=some (if Zpk a (l.drop i) then .inl () else .inr 8):=by
 intro d
 induction d with
 | zero=>
  intro i a hi j hj;obtain ⟨j,rfl⟩:∃q,j=q+1:=⟨j-1,by omega⟩;obtain rfl:i=l.length:=by omega
  unfold Zu.l3;rw [Zs (Yb _),Y3a];rfl
 | succ d ih=>
  intro i a hi j hj;obtain ⟨j,rfl⟩:∃q,j=q+1:=⟨j-1,by omega⟩;have hlt:i<l.length:=by omega
  rw [Zu.l3,dlt hlt,Zg hlt,Zm (by omega)];simp only [Xe,Ya];rw [Y2 hlt]
  by_cases h5:(l[i]).1=5
  ·rw [show ((l[i]).1 != 5)=false by simp [h5]]
   simp only [Xf,Zpk,Xc h5]
   by_cases h6:a<(l[i]).2.2.1
   ·rw [Xb (by omega:¬((l[i]).2.2.1≤a)),Xa h6,Yha]
    exact ih (i+1) _ (by omega) j (by omega)
   ·rw [Xa (by omega:(l[i]).2.2.1≤a),Xb h6]
    rfl
  ·rw [show ((l[i]).1 != 5)=true by simpa using h5]
   simp only [Xe,Zpk,Xd h5];exact ih (i+1) _ (by omega) j (by omega)
theorem Zopb (l:List Zk) (n:Int) (h1:1≤n) (h2:n≤8) (hl:l.length≤20):∀k,20<k→Zu.l0 k l n 0=some (if l.all (Zvg n) then .inl () else .inr 1):=by
 intro k hk
 have run:=Z2g (fun j i=>Zu.l0 j l n i) l (fun x=>!(Zvg n x)) (.inl ()) (fun i=>.inr 1) (fun i hi=>by
  constructor
  ·intro hp j
   show Zu.l0 (j+1) l n (i:Int)=Zu.l0 j l n ((i+1:Nat):Int);rw [Zu.l0,dlt hi,Zg hi,Zm (by omega)];simp only [Xe,Ya];rw [Zwfb _ _ h1 h2];simp only [Ya,hp,Xf]
  ·intro hp j
   show Zu.l0 (j+1) l n (i:Int)=_;unfold Zu.l0;rw [dlt hi,Zg hi];simp only [Xe,Ya];rw [Zwfb _ _ h1 h2];simp only [Ya,hp,Xe]) (fun j=>by
  show Zu.l0 (j+1) l n (l.length:Int)=_;unfold Zu.l0;rw [Zs (Yb _)];rfl) (by omega:l.length<k)
 have run:Zu.l0 k l n 0=_:=run
 have hany:=Zdo (p:=fun x=>!(Zvg n x)) (l:=l) (n:=0)
 rw [← Yfb] at hany
 rw [run]
 cases hf:Zmb (fun x=>!(Zvg n x)) l 0 with
 | none=>
  rw [hf] at hany;have:l.all (Zvg n)=true:=by simpa using hany.symm
  rw [this];rfl
 | some m=>
  rw [hf] at hany;have:l.all (Zvg n)=false:=by simpa using hany.symm
  rw [this];rfl
theorem Z61 (l:List Zk) (n:Int) (hl:l.length≤1048576):Zc fun k=>Zu k l n=some (Zfb l n):=by
 refine Zc.ge 30 fun k hk=>?_
 unfold Zu Z7 Zfb
 simp only [Ya]
 by_cases h20:20<l.length
 ·rw [Xa (by omega:(20:Int)<(l.length:Int)),Xc (.inl h20)]
  rfl
 rw [Xb (by omega:¬((20:Int)<(l.length:Int)))]
 simp only [Xf]
 by_cases hb:1≤n∧n≤8
 ·rw [Xa hb.1,Xa hb.2,Zopb l n hb.1 hb.2 (by omega) k (by omega)]
  simp only [Yaa,Yl,Xf];cases ha:l.all (Zvg n) with
  | false=>simp only [Y0,if_false];rw [Xc (.inr (.inr True.intro))];rfl
  | true=>
   simp only [if_true,Ya];rw [Xd (by rintro (h | h | h);exact h20 h;exact h hb;cases h)];have r2:=Zqpb l (by omega) k (by omega) l.length 0 (Yi _) Yw k (by omega);have r2:Zu.l2 k k l 0=_:=r2;have r3:=Zrpb l (by omega) l.length 0 (-1) (Yi _) k (by omega);rw [Yca] at r3;have r3:Zu.l3 k l (-1) 0=_:=r3;rw [r2]
   by_cases hd:(Zbf l).Nodup
   ·rw [Xc hd,Xd (not_not_intro hd)]
    simp only [Ya];rw [r3];cases Zpk (-1) l <;> rfl
   ·rw [Xd hd,Xc hd]
    rfl
 ·have e:(decide (1≤n)&&decide (n≤8))=false:=by rw [Yz,Ne,Yf,decide_eq_true_eq,decide_eq_true_eq];exact hb
  rw [e,Xc (.inr (.inl hb))];rfl
theorem Zfg {l:List Zk} {n:Int} (h:Zfb l n=0):l.length≤20∧1≤n∧n≤8∧(∀x∈l,Zvg n x=true)∧(Zbf l).Nodup∧Zpk (-1) l=true:=by
 unfold Zfb at h
 split at h
 ·cases h
 ·rename_i h1
  split at h
  ·cases h
  ·rename_i h2
   split at h
   ·rename_i h3
    have h1a:¬20<l.length:=fun q=>h1 (.inl q)
    have h1b:1≤n∧n≤8:=Decidable.not_not.1 fun q=>h1 (.inr (.inl q))
    have h1c:l.all (Zvg n)=true:=by
     cases ha:l.all (Zvg n) with
     | true=>rfl
     | false=>exact absurd (.inr (.inr ha)) h1
    exact ⟨by omega,h1b.1,h1b.2,fun x hx=>Y1.1 h1c x hx,Decidable.not_not.1 h2,h3⟩
   ·cases h
abbrev Zvc:=Int×Int×Int×Int
theorem Zw7 (l:List Zk) (hl:l.length≤20):∀k,20<k→Zbd k l=some (Zi l):=by
 intro k hk
 have run:=Zonb (fun j (s:List Zk) i=>Zbd.l0 j l i s) l (fun s x=>.inl (if isW x then s++[x] else s)) (fun s=>s) (fun i s=>s=Zi (l.take i)) (fun i hi s hs=>by
  refine .inl ⟨_,rfl,?_,fun j=>?_⟩
  ·unfold Zi at hs ⊢
   rw [Zni hi,Y3,hs]
   by_cases hw:isW l[i]=true
   ·rw [Xc hw];simp [hw]
   ·rw [Xd hw];simp [hw]
  ·show Zbd.l0 (j+1) l (i:Int) s=Zbd.l0 j l ((i+1:Nat):Int) (if isW l[i] then s++[l[i]] else s)
   have hsl:s.length≤20:=by
    rw [hs];refine Yib (Yq _ _) ?_;rw [Yr];omega
   rw [Zbd.l0,dlt hi,Xa (by omega:(l.length:Int)≤20),Zg hi,Zm (by omega)];simp only [Yaa,Xe,Ya]
   by_cases h5:(l[i]).1=5
   ·rw [show ((l[i]).1 != 5)=false by simp [h5],Z6w h5]
    rfl
   ·rw [show ((l[i]).1 != 5)=true by simpa using h5,Z7w h5,Z5 (by simp;omega)]
    rfl) (fun s hs j=>by
  show Zbd.l0 (j+1) l (l.length:Int) s=some s;unfold Zbd.l0;rw [Zs (Yb _)];rfl) (s:=[]) rfl (by omega:l.length<k)
 have fold:∀(m s:List Zk),Zgm (fun s x=>.inl (if isW x then s++[x] else s)) (fun s=>s) m s=s++Zi m:=by
  intro m
  induction m with
  | nil=>intro s;simp [Zgm,Zi]
  | cons x m ih=>
   intro s;rw [Z3ob rfl,ih];unfold Zi
   by_cases hw:isW x=true
   ·rw [Xc hw,List.filter_cons_of_pos hw];simp
   ·rw [Xd hw,List.filter_cons_of_neg hw]
 rw [fold,List.nil_append] at run
 have run:Zbd.l0 k l 0 []=some (Zi l):=run
 unfold Zbd
 rw [run]
 rfl
theorem Znlb (l:List Zk) (hl:l.length≤1048576):∀(d j0:Nat) (c:List Zk),j0+d=l.length→c.length=l.length→c.drop j0=l.drop j0→(Zi (l.take j0)).length≤j0→c.take (Zi (l.take j0)).length=Zi (l.take j0)→(Zi (l.take j0)).length<j0 →
  ∀j,d<j→∃c',Zlg.l0 j ((Zi (l.take j0)).length:Int) (j0:Int) c=some ((((Zi l).length:Nat):Int),c')∧c'.length=l.length∧c'.take (Zi l).length=Zi l:=by
 intro d
 induction d with
 | zero=>
  intro j0 c hj hc hd hle ht hlt j hjj;obtain ⟨j,rfl⟩:∃q,j=q+1:=⟨j-1,by omega⟩;obtain rfl:j0=l.length:=by omega
  rw [Yt] at ht ⊢;refine ⟨c,?_,hc,ht⟩;unfold Zlg.l0;rw [Zs (by omega:c.length≤l.length)];rfl
 | succ d ih=>
  intro j0 c hj hc hd hle ht hlt j hjj;obtain ⟨j,rfl⟩:∃q,j=q+1:=⟨j-1,by omega⟩;have h1:j0<l.length:=by omega
  have h2:j0<c.length:=by omega
  have hcj:c[j0]=l[j0]:=by
   have:=congrArg (fun z=>z[0]?) hd;simp only [List.getElem?_drop,Nat.add_zero] at this;rw [Yp h2,Yp h1] at this;exact Yxa.inj this
  have hdrop:c.drop (j0+1)=l.drop (j0+1):=by
   have:=congrArg (fun z=>z.drop 1) hd;simpa [List.drop_drop,Nat.add_comm] using this
  rw [Zlg.l0,dlt h2,Zg h2,Zm (by omega)];simp only [Xe,Ya,Z6l,hcj]
  have htake:Zi (l.take (j0+1))=if isW l[j0] then Zi (l.take j0)++[l[j0]] else Zi (l.take j0):=by
   unfold Zi;rw [Zni h1,Y3]
   by_cases hw:isW l[j0]=true
   ·rw [Xc hw];simp [hw]
   ·rw [Xd hw];simp [hw]
  generalize hW:Zi (l.take j0)=W at ht hle hlt htake ⊢
  by_cases h5:(l[j0]).1=5
  ·rw [show ((l[j0]).1==5)=true by simpa using h5]
   simp only [Yl,Xf];rw [Z6w h5] at htake;have htake:Zi (l.take (j0+1))=W:=htake;have:=ih (j0+1) c (by omega) hc hdrop (by rw [htake];omega) (by rw [htake];exact ht) (by rw [htake];omega) j (by omega);rw [htake] at this;exact this
  ·rw [show ((l[j0]).1==5)=false by simpa using h5]
   have hwl:W.length<c.length:=by omega
   rw [Zg hwl,Zm (by omega),Yh];simp only [Bool.not_false,Xe,Ya];rw [Z7w h5] at htake;have htake:Zi (l.take (j0+1))=W++[l[j0]]:=htake;have hlen:(Zi (l.take (j0+1))).length=W.length+1:=by rw [htake];simp
   have:=ih (j0+1) (c.set W.length l[j0]) (by omega) (by simpa using hc) (by
    rw [List.drop_set_of_lt (by omega)];exact hdrop) (by omega) (by
    rw [hlen,htake,List.take_add_one,List.take_set_of_le (Yb _),ht,List.getElem?_set_self (by omega)];rfl) (by omega) j (by omega)
   rw [hlen] at this;exact this
theorem Zf0 (l:List Zk) (hl:l.length≤1048576):∀k,l.length<k→Zqj k l=some (Zi l):=by
 intro k hk
 have clone:Zyj l=some l:=by
  unfold Zyj;rw [Z5 (by simp;omega)];rfl
 have run:=Z2g (fun j i=>Z6d.l0 j l (l.length:Int) i) l (fun x=>!(isW x)) (.inl ()) (fun i=>.inr (i:Int)) (fun i hi=>by
  have e:Z6l l[i]=some (!(isW l[i])):=by unfold Z6l isW;simp [bne]
  constructor
  ·intro hp j
   show Z6d.l0 (j+1) l (l.length:Int) (i:Int)=Z6d.l0 j l (l.length:Int) ((i+1:Nat):Int);rw [Z6d.l0,dlt hi,Zg hi,Zm (by omega)];simp only [Xe,Ya,e,hp,Xf]
  ·intro hp j
   show Z6d.l0 (j+1) l (l.length:Int) (i:Int)=_;unfold Z6d.l0;rw [dlt hi,Zg hi];simp only [Xe,Ya,e,hp]) (fun j=>by
  show Z6d.l0 (j+1) l (l.length:Int) (l.length:Int)=_;unfold Z6d.l0;rw [Zs (Yb _)];rfl) hk
 have run:Z6d.l0 k l (l.length:Int) 0=_:=run
 unfold Zqj
 rw [clone]
 simp only [Ya]
 unfold Zlg Z6d
 rw [run]
 cases hf:Zmb (fun x=>!(isW x)) l 0 with
 | none=>
  have hall:=Zus.1 hf
  have:Zi l=l:=by
   unfold Zi;exact Y5a.2 fun x hx=>by simpa using hall x hx
  rw [this];rfl
 | some m=>
  obtain ⟨_,h2,h3,h4⟩:=Z4l hf;have h2:m<l.length:=h2;have h3:(!(isW l[m]))=true:=h3;have h4:∀j,(hj:j<m)→(!(isW (l[j]'(by omega))))=false:=h4
  have hW:Zi (l.take m)=l.take m:=by
   unfold Zi;refine Y5a.2 fun x hx=>?_
   obtain ⟨j,hj,rfl⟩:=Yna hx;rw [Yr] at hj;rw [Yqa];simpa using h4 j (by omega)
  have hW2:Zi (l.take (m+1))=l.take m:=by
   have:Zi (l.take (m+1))=Zi (l.take m):=by
    unfold Zi;rw [Zni h2,Y3];have:isW l[m]=false:=by simpa using h3
    simp [this]
   rw [this,hW]
  have hlen:(Zi (l.take (m+1))).length=m:=by rw [hW2,Yr];omega
  obtain ⟨c',e1,e2,e3⟩:=Znlb l hl (l.length-(m+1)) (m+1) l (by omega) rfl rfl (by omega) (by rw [hlen,hW2]) (by omega) k (by omega);rw [hlen] at e1;have hne:(((m:Nat):Int) == -1)=false:=by rw [Zdi];exact Xb (by omega)
  simp only [Ya,hne,Xf];rw [Zm (by omega),e1];simp only [Ya];have hwl:(Zi l).length≤l.length:=Yq _ _
  have ht:Zky (((Zi l).length:Nat):Int) c'.length=some ():=by
   unfold Zky;rw [Xc ⟨by omega,by omega⟩]
  rw [ht];simp only [Ya,Yh]
  have hcut:Zpb (Yva (Zi l).length c'++Yd (c'.length-(Zi l).length) ((0,(0,(0,[]))):Zk)) 0 (((Zi l).length:Nat):Int)=some (Zi l):=by
   have hc:(Yva (Zi l).length c').length=(Zi l).length:=by rw [e3]
   have:=Zwf (l:=Yva (Zi l).length c'++Yd (c'.length-(Zi l).length) ((0,(0,(0,[]))):Zk)) (i:=0) (j:=(Zi l).length) (Yga _) (by rw [Yda,hc];omega);rw [Yca,List.take_append_of_le_length (by rw [hc];omega)] at this;rw [e3] at this ⊢;rw [Yt] at this;exact this
  rw [hcut];rfl
def Zok (x:Zk) (b:Int):Bool:=((x.1==3)||(x.1==4))&&(x.2.2.1==b)
def wAt (w:List Zk) (i:Nat):Zk:=w.getD i (0,(0,(0,[])))
theorem Zwg {w:List Zk} {i:Nat} (h:i<w.length):wAt w i=w[i]:=by
 unfold wAt
 rw [Y8a,Yp h]
 rfl
def Zue (w:List Zk) (left:List Nat) (st:List Int) (i:Nat):Bool:=Zrg (wAt w i).2.1 st || !(left.any fun k=>(k != i)&&Zok (wAt w k) (wAt w i).2.1)
def Zrc (w:List Zk):Nat→List Nat→List Int→List Zvc
 | 0,_,_=>[]
 | _+1,[],_=>[]
 | n+1,i0::rest,st=>match (i0::rest).find? (Zue w (i0::rest) st) with
  | some i=>(2,((i:Int),((wAt w i).2.1,0)))::Zrc w n ((i0::rest).erase i) st
  | none=>(1,((i0:Int),((wAt w i0).2.1,(st.length:Int))))::Zrc w n (i0::rest) (Zvh (wAt w i0).2.1 st)
def Zh (l:List Zk):List Zvc:=Zrc (Zi l) 40 (Yc (Zi l).length) []
theorem Zlx:∀(n:Nat) (l:List Nat),l.Nodup→(∀x∈l,x<n)→l.length≤n
 | 0,l,_,h=>by
  cases l with
  | nil=>exact Yb _
  | cons x l=>exact absurd (h x Yj) (Yk _)
 | n+1,l,hn,h=>by
  by_cases hm:n∈l
  ·have h1:=Zlx n (l.erase n) (hn.erase n) (fun x hx=>by
    have h2:=h x (Yua hx);have h3:=(hn.mem_erase_iff.1 hx).1;omega)
   rw [Y5 hm] at h1;omega
  ·have:=Zlx n l hn (fun x hx=>by
    have h2:=h x hx;rcases Yx x n with h3 | h3
    ·exact h3
    ·have:x=n:=by omega
     exact absurd (this▸hx) hm)
   omega
theorem Zdt {l:List Int} (hn:l.Nodup) (h:∀x∈l,0≤x∧x≤7):l.length≤8:=by
 have:=Zlx 8 (l.map Int.toNat) (by
  refine List.pairwise_map.2 (hn.imp_of_mem fun {a b} ha hb hab e=>hab ?_);have:=h a ha;have:=h b hb;omega) (fun x hx=>by
  obtain ⟨y,hy,rfl⟩:=Ydb.1 hx;have:=h y hy;omega)
 simpa using this
structure PlanI (w:List Zk) (left:List Nat) (st:List Int):Prop where
 nd:left.Nodup
 lt:∀i∈left,i<w.length
 sd:st.Nodup
 sb:∀b∈st,0≤b∧b≤7
theorem Z54 {k:Int} {l:List Int}:Zrg k l=true ↔ k∈l:=by
 unfold Zrg
 rw [Y2a]
 constructor
 ·rintro ⟨x,hx,e⟩
  have:k=x:=by simpa using e
  subst this;exact hx
 ·exact fun h=>⟨k,h,by simp⟩
theorem Zvhb {k:Int} {l:List Int} (h:Zrg k l=false):Zvh k l=l++[k]:=by unfold Zvh;rw [h];rfl
theorem Z3jb {w:List Zk} {left:List Nat} {st:List Int} {i:Nat} (h:Zue w left st i=false):Zrg (wAt w i).2.1 st=false:=by
 unfold Zue at h
 exact ((Bool.or_eq_false_iff).1 h).1
theorem PlanI.stash {w:List Zk} {i0:Nat} {rest:List Nat} {st:List Int} (h:PlanI w (i0::rest) st) (hw:∀x∈w,0≤x.2.1∧x.2.1≤7) (hf:(i0::rest).find? (Zue w (i0::rest) st)=none):
  PlanI w (i0::rest) (Zvh (wAt w i0).2.1 st)∧(Zvh (wAt w i0).2.1 st).length=st.length+1∧Zvh (wAt w i0).2.1 st=st++[(wAt w i0).2.1]:=by
 have h0:=Yma.1 hf i0 Yj
 have h1:=Z3jb (Yz.2 h0)
 have hi:=h.lt i0 Yj
 rw [Zvhb h1]
 refine ⟨⟨h.nd,h.lt,?_,?_⟩,by simp,rfl⟩
 ·refine Y8.2 ⟨h.sd,Y9.2 ⟨(fun h=>nomatch h),Yw⟩,fun x hx y hy e=>?_⟩
  rw [Yo.1 hy] at e;subst e;rw [Z54.2 hx] at h1;cases h1
 ·intro b hb
  rcases Yea.1 hb with hb | hb
  ·exact h.sb b hb
  ·rw [Yo.1 hb,Zwg hi]
   exact hw _ (Yg hi)
theorem PlanI.done {w:List Zk} {left:List Nat} {st:List Int} (h:PlanI w left st) (i:Nat):PlanI w (left.erase i) st:=⟨h.nd.erase i,fun j hj=>h.lt j (Yua hj),h.sd,h.sb⟩
def Z4 (l:List Nat):List Int:=List.map (fun (n:Nat)=>(n:Int)) l
theorem Z4w {l:List Nat} {i:Nat} (h:i<l.length):(Z4 l)[i]'(by simpa [Z4] using h)=((l[i]:Nat):Int):=by simp [Z4]
theorem Zuu (l:List Nat):(Z4 l).length=l.length:=by simp [Z4]
theorem Zjlb (w:List Zk) (left:List Nat) (i:Nat) (b:Int) (hw:w.length≤1000) (hl:left.length≤1000) (hlt:∀q∈left,q<w.length):∀k,left.length<k →
  Zlr k (Z4 left) (i:Int) w b=some (left.any fun k=>(k != i)&&Zok (wAt w k) b,(i:Int),b):=by
 intro k hk
 have run:=Z2g (fun j q=>Z9d.l0 j (Z4 left) w ((Z4 left).length:Int) q (i:Int) b) left (fun k=>(k != i)&&Zok (wAt w k) b) (.inl ((i:Int),b)) (fun q=>.inr ((q:Int),((i:Int),b))) (fun q hq=>by
  have hql:left[q]<w.length:=hlt _ (Yg hq);have hq':q<(Z4 left).length:=by rw [Zuu];exact hq
  have e:Ziq ((left[q]:Nat):Int) (i:Int) w b=some ((left[q] != i)&&Zok (wAt w left[q]) b):=by
   unfold Ziq
   by_cases hne:left[q]=i
   ·rw [show (((left[q]:Nat):Int) != (i:Int))=false by simp [hne],show (left[q] != i)=false by simp [hne]]
    rfl
   ·rw [show (((left[q]:Nat):Int) != (i:Int))=true by simp;omega,show (left[q] != i)=true by simpa using hne,Zg hql,Zwg hql]
    rfl
  constructor
  ·intro hp j
   show Z9d.l0 (j+1) (Z4 left) w ((Z4 left).length:Int) (q:Int) (i:Int) b=Z9d.l0 j (Z4 left) w ((Z4 left).length:Int) ((q+1:Nat):Int) (i:Int) b;rw [Z9d.l0,dlt hq',Zg hq',Zm (by omega),Z4w hq];simp only [Xe,Ya,e,hp,Xf]
  ·intro hp j
   show Z9d.l0 (j+1) (Z4 left) w ((Z4 left).length:Int) (q:Int) (i:Int) b=_;rw [Z9d.l0,dlt hq',Zg hq',Z4w hq];simp only [Xe,Ya,e,hp]) (fun j=>by
  show Z9d.l0 (j+1) (Z4 left) w ((Z4 left).length:Int) (left.length:Int) (i:Int) b=_;unfold Z9d.l0;rw [Zs (by rw [Zuu];exact Yb _)];rfl) hk
 have run:Z9d.l0 k (Z4 left) w ((Z4 left).length:Int) 0 (i:Int) b=_:=run
 have hany:=Zdo (p:=fun k=>(k != i)&&Zok (wAt w k) b) (l:=left) (n:=0)
 unfold Zlr Z9d
 rw [run,← hany]
 cases Zmb (fun k=>(k != i)&&Zok (wAt w k) b) left 0 with
 | none=>rfl
 | some m=>
  simp only [Ya,Ylb];rw [Xa (by omega:(0:Int)≤(m:Int))]
theorem Zulb (w:List Zk) (left:List Nat) (st:List Int) (i:Nat) (hw:w.length≤1000) (hl:left.length≤1000) (hlt:∀q∈left,q<w.length) (hi:i<w.length):∀k,left.length<k →
  Zhq k (i:Int) w st (Z4 left)=some (Zue w left st i,st):=by
 intro k hk
 unfold Zhq Zue
 rw [Zg hi,Zwg hi]
 simp only [Ya]
 cases Zrg (w[i]).2.1 st with
 | true=>rfl
 | false=>
  rw [Zjlb w left i _ hw hl hlt k hk];rfl
theorem Z1lb (w:List Zk) (left:List Nat) (st:List Int) (hw:w.length≤1000) (hl:left.length≤1000) (hlt:∀q∈left,q<w.length):∀k,left.length<k →
  Zxd k (Z4 left) w st (Z4 left)=some (match Zmb (Zue w left st) left 0 with | some p=>(p:Int) | none=>-1,w,st):=by
 intro k hk
 have run:=Z2g (fun j q=>Zxd.l0 k j (Z4 left) (Z4 left) ((Z4 left).length:Int) q w st) left (Zue w left st) (.inl (w,st)) (fun q=>.inr ((q:Int),(w,st))) (fun q hq=>by
  have hql:left[q]<w.length:=hlt _ (Yg hq);have hq':q<(Z4 left).length:=by rw [Zuu];exact hq
  have e:=Zulb w left st left[q] hw hl hlt hql k hk;constructor
  ·intro hp j
   show Zxd.l0 k (j+1) (Z4 left) (Z4 left) ((Z4 left).length:Int) (q:Int) w st=Zxd.l0 k j (Z4 left) (Z4 left) ((Z4 left).length:Int) ((q+1:Nat):Int) w st;rw [Zxd.l0,dlt hq',Zg hq',Zm (by omega),Z4w hq];simp only [Xe,Ya,e,hp,Xf]
  ·intro hp j
   show Zxd.l0 k (j+1) (Z4 left) (Z4 left) ((Z4 left).length:Int) (q:Int) w st=_;rw [Zxd.l0,dlt hq',Zg hq',Z4w hq];simp only [Xe,Ya,e,hp]) (fun j=>by
  show Zxd.l0 k (j+1) (Z4 left) (Z4 left) ((Z4 left).length:Int) (left.length:Int) w st=_;unfold Zxd.l0;rw [Zs (by rw [Zuu];exact Yb _)];rfl) hk
 have run:Zxd.l0 k k (Z4 left) (Z4 left) ((Z4 left).length:Int) 0 w st=_:=run
 unfold Zxd
 rw [run]
 cases Zmb (Zue w left st) left 0 <;> rfl
theorem Zvw {α:Type} {p:α→Bool}:∀{l:List α} {n:Nat},(Zmb p l n=none∧l.find? p=none)∨∃i,∃h:i<l.length,Zmb p l n=some (n+i)∧l.find? p=some l[i]∧∀j,(hj:j<i)→p (l[j]'(by omega))=false
 | [],n=>.inl ⟨rfl,rfl⟩
 | x::l,n=>by
  cases hp:p x with
  | true=>exact .inr ⟨0,by simp,by simp [Zmb,hp],by simp [Yla,hp],fun j hj=>absurd hj (Yk _)⟩
  | false=>
   have e1:Zmb p (x::l) n=Zmb p l (n+1):=by simp [Zmb,hp]
   have e2:(x::l).find? p=l.find? p:=by simp [Yla,hp]
   rw [e1,e2];rcases Zvw (p:=p) (l:=l) (n:=n+1) with ⟨h1,h2⟩ | ⟨i,hi,h1,h2,h3⟩
   ·exact .inl ⟨h1,h2⟩
   ·refine .inr ⟨i+1,by simpa using hi,by rw [h1];congr 1;omega,by rw [h2];rfl,fun j hj=>?_⟩
    cases j with
    | zero=>exact hp
    | succ j=>exact h3 j (by omega)
theorem Zgbb:∀{l:List Nat} {i:Nat} (h:i<l.length),l.Nodup→l.erase l[i]=l.take i++l.drop (i+1)
 | x::l,0,h,hn=>by simp
 | x::l,i+1,h,hn=>by
  have hi:i<l.length:=by simpa using h
  have hne:x≠l[i]:=fun e=>(Y9.1 hn).1 (e▸Yg hi)
  rw [List.getElem_cons_succ,List.erase_cons_tail (by simpa using hne),Zgbb hi (Y9.1 hn).2];rfl
theorem Z8lb (w:List Zk) (hw:w.length≤20) (hwb:∀x∈w,0≤x.2.1∧x.2.1≤7) (k:Nat) (hk:20<k):∀(d:Nat) (left:List Nat) (st:List Int) (out:List Zvc),PlanI w left st→left.length+(8-st.length)≤d→out.length+d≤100→∀n j,d<n→d<j →
  ∃f,Znb.l1 k j w out (Z4 left) st=some (w,out++Zrc w n left st,f):=by
 intro d
 induction d with
 | zero=>
  intro left st out hI hd ho n j hn hj;obtain ⟨j,rfl⟩:∃q,j=q+1:=⟨j-1,by omega⟩;obtain ⟨n,rfl⟩:∃q,n=q+1:=⟨n-1,by omega⟩;obtain rfl:left=[]:=Yka (by omega);refine ⟨(Z4 [],st),?_⟩;unfold Znb.l1;rw [Xb (by simp [Z4]:¬((0:Int)<((Z4 ([]:List Nat)).length:Int)))];simp only [Xf,Zrc,Yu]
 | succ d ih=>
  intro left st out hI hd ho n j hn hj;obtain ⟨j,rfl⟩:∃q,j=q+1:=⟨j-1,by omega⟩;obtain ⟨n,rfl⟩:∃q,n=q+1:=⟨n-1,by omega⟩;have hll:left.length≤20:=Yib (Zlx w.length left hI.nd hI.lt) hw;have hsl:=Zdt hI.sd hI.sb;cases left with
  | nil=>
   refine ⟨(Z4 [],st),?_⟩;unfold Znb.l1;rw [Xb (by simp [Z4]:¬((0:Int)<((Z4 ([]:List Nat)).length:Int)))];simp only [Xf,Zrc,Yu]
  | cons i0 rest=>
   have hi0:=hI.lt i0 Yj;rw [Znb.l1,Xa (by rw [Zuu,Y4];omega:(0:Int)<((Z4 (i0::rest)).length:Int)),Z1lb w (i0::rest) st (by omega) (by omega) hI.lt k (by omega)];simp only [Xe,Ya];rcases Zvw (p:=Zue w (i0::rest) st) (l:=i0::rest) (n:=0) with ⟨h1,h2⟩ | ⟨p,hp,h1,h2,h3⟩
   ·obtain ⟨g1,g2,g3⟩:=hI.stash hwb h2
    have hst:=Zdt g1.sd g1.sb;rw [g2] at hst;rw [h1];have e0:at? (Z4 (i0::rest)) 0=some (i0:Int):=rfl;rw [Xa (by decide:(-1:Int)<0),e0];simp only [Xe,Ya];rw [Zg hi0];simp only [Ya];rw [Z5 (by simp;omega)];simp only [Ya]
    have hp2:Zrc w (n+1) (i0::rest) st=(1,((i0:Int),((wAt w i0).2.1,(st.length:Int))))::Zrc w n (i0::rest) (Zvh (wAt w i0).2.1 st):=by
     simp only [Zrc,h2]
    rw [hp2,Zwg hi0];rw [Zwg hi0] at g1 g2;obtain ⟨f,hf⟩:=ih (i0::rest) (Zvh (w[i0]).2.1 st) (out++[(1,((i0:Int),((w[i0]).2.1,(st.length:Int))))]) g1 (by omega) (by simp;omega) n j (by omega) (by omega);exact ⟨f,by rw [hf,Ym];rfl⟩
   ·rw [h1,Yi]
    have hpi:p<(Z4 (i0::rest)).length:=by rw [Zuu];exact hp
    have hpl:=hI.lt _ (Yg hp);rw [Xb (by omega:¬((p:Int)<0)),Zg hpi,Z4w hp,Zm (by omega)];simp only [Xf,Ya];rw [Zg hpl];simp only [Ya];rw [Z5 (by simp;omega)]
    have hdel:slices_Delete_int (Z4 (i0::rest)) (p:Int) ((p+1:Nat):Int)=some (Z4 ((i0::rest).erase (i0::rest)[p])):=by
     unfold slices_Delete_int;rw [Xc ⟨by omega,by omega,by omega⟩,Yh,Yh,Zgbb hp hI.nd];simp [Z4,List.map_take,List.map_drop]
    rw [hdel];simp only [Ya]
    have hp2:Zrc w (n+1) (i0::rest) st=(2,(((i0::rest)[p]:Nat):Int),(wAt w (i0::rest)[p]).2.1,0)::Zrc w n ((i0::rest).erase (i0::rest)[p]) st:=by
     simp only [Zrc,h2]
    have hle:((i0::rest).erase (i0::rest)[p]).length=(i0::rest).length-1:=Y5 (Yg hp);rw [hp2,Zwg hpl]
    obtain ⟨f,hf⟩:=ih ((i0::rest).erase (i0::rest)[p]) st (out++[(2,((((i0::rest)[p]:Nat):Int),((w[(i0::rest)[p]]).2.1,0)))]) (hI.done _) (by
     rw [hle];have:(i0::rest).length=rest.length+1:=rfl;omega) (by simp;omega) n j (by omega) (by omega)
    exact ⟨f,by rw [hf,Ym];rfl⟩
theorem Zrlb (n:Nat) (hn:n≤20):∀k,n<k→Znb.l0 k (n:Int) 0 (Yd n 0)=some (Z4 (Yc n)):=by
 intro k hk
 have run:=Zkw (fun j i c=>Znb.l0 j (n:Int) i c) (Z4 (Yc n)) (0:Int) (fun i hi c hc j=>by
  have hin:i<n:=by simpa [Z4] using hi
  have hl:(Z4 (Yc n)).length=n:=by simp [Z4]
  show Znb.l0 (j+1) (n:Int) (i:Int) c=Znb.l0 j (n:Int) ((i+1:Nat):Int) (c.set i (Z4 (Yc n))[i]);rw [Znb.l0,dlt hin,Zg (by omega:i<c.length),Zm (by omega),Yh];simp [Z4]) (fun c j=>by
  show Znb.l0 (j+1) (n:Int) ((Z4 (Yc n)).length:Int) c=some c;have hl:(Z4 (Yc n)).length=n:=by simp [Z4]
  unfold Znb.l0;rw [hl,Zs (Yb _)];rfl) (k:=k) (by simp [Z4];omega)
 have hl:(Z4 (Yc n)).length=n:=by simp [Z4]
 rw [hl] at run
 exact run
theorem Zg2 (w:List Zk):PlanI w (Yc w.length) []:=⟨List.nodup_range,fun i hi=>Ys.1 hi,Yw,fun b hb=>nomatch hb⟩
theorem Zqu (l:List Zk) (hl:l.length≤20) (hb:∀x∈Zi l,0≤x.2.1∧x.2.1≤7):Zc fun k=>Znb k l=some (Zh l):=by
 refine Zc.ge 60 fun k hk=>?_
 have hwl:(Zi l).length≤l.length:=Yq _ _
 unfold Znb
 rw [Zf0 l (by omega) k (by omega)]
 simp only [Ya]
 rw [Z0u (by omega)]
 simp only [Ya,Y6]
 rw [Zrlb _ (by omega) k (by omega)]
 simp only [Ya]
 obtain ⟨f,hf⟩:=Z8lb (Zi l) (by omega) hb k (by omega) 30 (Yc (Zi l).length) [] [] (Zg2 _) (by simp;omega) (by simp) 40 k (by omega) (by omega)
 rw [hf]
 rfl
theorem Znnb {R:Type} (L:Nat→Int→Option R) (n:Nat) (p:Nat→Bool) (a:R) (b:Nat→R)
  (hs:∀(i:Nat),i<n→(p i=false→∀j,L (j+1) (i:Int)=L j ((i+1:Nat):Int))∧(p i=true→∀j,L (j+1) (i:Int)=some (b i)))
  (he:∀j,L (j+1) (n:Int)=some a) {k:Nat} (hk:n<k):L k 0=some (match (Yc n).find? p with | some i=>b i | none=>a):=by
 have hl:(Yc n).length=n:=Ysa
 have run:=Z2g L (Yc n) p a b (fun i hi=>by rw [Yab];exact hs i (by omega)) (by rw [hl];exact he) (k:=k) (by rw [hl];exact hk)
 rw [run]
 rcases Zvw (p:=p) (l:=Yc n) (n:=0) with ⟨h1,h2⟩ | ⟨q,hq,h1,h2,h3⟩
 ·rw [h1,h2]
 ·rw [h1,h2,Yi,Yab]
def Zil:Option Nat→Int
 | some i=>(i:Int)
 | none=>-1
theorem Zv6 (i:Nat):decide (Zil (some i)<0)=false:=Xb (by show ¬((i:Int)<0);omega)
theorem Ztdb:decide (Zil none<0)=true:=rfl
structure PlanR (w:List Zk) (left:List Nat) (st:List Int) (lB sB:List Bool):Prop where
 pi:PlanI w left st
 so:left.Pairwise (· < ·)
 ll:lB.length=w.length
 lm:∀i,(h:i<lB.length)→lB[i]=decide (i∈left)
 sl:sB.length=8
 sm:∀b:Nat,(h:b<sB.length)→sB[b]=Zrg (b:Int) st
section
variable {w:List Zk} {left:List Nat} {st:List Int} {lB sB:List Bool}
theorem PlanR.done (h:PlanR w left st lB sB) (i:Nat):PlanR w (left.erase i) st (lB.set i false) sB:=by
 refine ⟨h.pi.done i,h.so.sublist List.erase_sublist,by rw [Y7];exact h.ll,fun q hq=>?_,h.sl,h.sm⟩
 rw [Y7] at hq
 rw [Ypa]
 by_cases hi:i=q
 ·subst hi
  rw [Xc rfl,Xb];intro hm;exact (h.pi.nd.mem_erase_iff.1 hm).1 rfl
 ·rw [Xd hi,h.lm q hq,Yba,decide_eq_true_eq,decide_eq_true_eq,h.pi.nd.mem_erase_iff]
  exact ⟨fun g=>⟨fun e=>hi e.symm,g⟩,fun g=>g.2⟩
theorem PlanR.stash (h:PlanR w left st lB sB) {b:Nat} {st':List Int} (hp:PlanI w left st') (e:st'=st++[(b:Int)]):PlanR w left st' lB (sB.set b true):=by
 refine ⟨hp,h.so,h.ll,h.lm,by rw [Y7];exact h.sl,fun q hq=>?_⟩
 rw [Y7] at hq
 rw [Ypa,e]
 have ha:Zrg (q:Int) (st++[(b:Int)])=(Zrg (q:Int) st||((b:Int)==(q:Int)||(q:Int)==(b:Int))):=by
  rw [Yba,Z54,Yya,Z54,Yea,Yo,Yya,beq_iff_eq,beq_iff_eq];constructor
  ·rintro (g | g)
   ·exact .inl g
   ·exact .inr (.inr g)
  ·rintro (g | g | g)
   ·exact .inl g
   ·exact .inr g.symm
   ·exact .inr g
 rw [ha]
 by_cases hb:b=q
 ·subst hb
  rw [Xc rfl];simp
 ·rw [Xd hb,h.sm q hq]
  have e1:((b:Int)==(q:Int))=false:=by rw [Zdi];exact Xb (by omega)
  have e2:((q:Int)==(b:Int))=false:=by rw [Zdi];exact Xb (by omega)
  rw [e1,e2];simp
theorem Zmpb (h:PlanR w left st lB sB) (hw:w.length≤20) (hwb:∀x∈w,0≤x.2.1∧x.2.1≤7) (i:Nat) (hi:i<w.length):∀k,20<k→Z6c k w lB sB (i:Int)=some (!(Zue w left st i)):=by
 intro k hk
 obtain ⟨h0,h7⟩:=hwb _ (Yg hi)
 obtain ⟨b,hb⟩:=Y0a h0
 have hbs:b<sB.length:=by have:=h.sl;omega
 have run:=Znnb (fun j q=>Z6c.l0 j w lB (i:Int) q) w.length (fun q=>(q != i)&&(decide (q∈left)&&Zok (wAt w q) (wAt w i).2.1)) (.inl ()) (fun _=>.inr true) (fun q hq=>by
  have hql:q<lB.length:=by have:=h.ll;omega
  have e0:Ztt w[q] (w[i]).2.1=some (Zok (wAt w q) (wAt w i).2.1):=by rw [Zwg hq,Zwg hi];rfl
  have key:∀j,Z6c.l0 (j+1) w lB (i:Int) (q:Int)=if ((q != i)&&(decide (q∈left)&&Zok (wAt w q) (wAt w i).2.1))=true then some (.inr true) else Z6c.l0 j w lB (i:Int) ((q+1:Nat):Int):=by
   intro j;rw [Z6c.l0,dlt hq,Zg hql,Zg hq,Zg hi,Zm (by omega),h.lm q hql];simp only [Xe,Ya,e0]
   by_cases hne:q=i
   ·rw [show ((q:Int) != (i:Int))=false by simp [hne],show (q != i)=false by simp [hne]]
    rfl
   ·rw [show ((q:Int) != (i:Int))=true by simp;omega,show (q != i)=true by simpa using hne]
    cases decide (q∈left) with
    | false=>rfl
    | true=>cases Zok (wAt w q) (wAt w i).2.1 <;> rfl
  constructor
  ·intro hp j
   show Z6c.l0 (j+1) w lB (i:Int) (q:Int)=Z6c.l0 j w lB (i:Int) ((q+1:Nat):Int);rw [key,Xd (by rw [hp];exact Bool.false_ne_true)]
  ·intro hp j
   show Z6c.l0 (j+1) w lB (i:Int) (q:Int)=_;rw [key,Xc hp]) (fun j=>by
  show Z6c.l0 (j+1) w lB (i:Int) (w.length:Int)=_;unfold Z6c.l0;rw [Zs (Yb _)];rfl) (by omega:w.length<k)
 have run:Z6c.l0 k w lB (i:Int) 0=_:=run
 unfold Z6c Zue
 rw [Zg hi,Zwg hi]
 simp only [Ya]
 have hat:at? sB (w[i]).2.1=some (Zrg (w[i]).2.1 st):=by
  rw [hb,Zg hbs,h.sm b hbs]
 rw [hat]
 simp only [Ya]
 cases Zrg (w[i]).2.1 st with
 | true=>rfl
 | false=>
  simp only [Xf,Bool.false_or,Bool.not_not];rw [run];rw [Zwg hi];cases hf:(Yc w.length).find? (fun q=>(q != i)&&(decide (q∈left)&&Zok (wAt w q) (w[i]).2.1)) with
  | none=>
   have:=Yma.1 hf
   have:(left.any fun k=>(k != i)&&Zok (wAt w k) (w[i]).2.1)=false:=by
    rw [List.any_eq_false];intro x hx hc;refine this x (Ys.2 (h.pi.lt x hx)) ?_;rw [Xa hx,Yha];exact hc
   rw [this];rfl
  | some q=>
   have h1:=Y7a hf
   have:(left.any fun k=>(k != i)&&Zok (wAt w k) (w[i]).2.1)=true:=by
    rw [Y2a];simp only [Yf,decide_eq_true_eq] at h1;exact ⟨q,h1.2.1,by rw [Yf];exact ⟨h1.1,h1.2.2⟩⟩
   rw [this];rfl
theorem Z4pb (h:PlanR w left st lB sB) (hw:w.length≤20) (hwb:∀x∈w,0≤x.2.1∧x.2.1≤7) (k:Nat) (hk:20<k):∀(d i:Nat) (dn todo:List Nat),i+d=w.length→left=dn++todo→(∀x∈dn,x<i)→(∀x∈todo,i≤x)→∀j,d<j →
  Zqd.l0 k j w lB sB (Zil (dn.find? (Zue w left st))) (Zil dn.head?) (i:Int)=some (Zil (left.find? (Zue w left st)),Zil left.head?):=by
 intro d
 induction d with
 | zero=>
  intro i dn todo hi hl h1 h2 j hj;obtain ⟨j,rfl⟩:∃q,j=q+1:=⟨j-1,by omega⟩;obtain rfl:i=w.length:=by omega
  have ht:todo=[]:=by
   cases todo with
   | nil=>rfl
   | cons y t=>
    have:=h2 y Yj;have:=h.pi.lt y (by rw [hl];exact Ycb _ Yj);omega
  subst ht;rw [Yu] at hl;rw [← hl];unfold Zqd.l0;rw [Zs (Yb _)];rfl
 | succ d ih=>
  intro i dn todo hi hl h1 h2 j hj;obtain ⟨j,rfl⟩:∃q,j=q+1:=⟨j-1,by omega⟩;have hiw:i<w.length:=by omega
  have hil:i<lB.length:=by have:=h.ll;omega
  rw [Zqd.l0,dlt hiw,Zg hil,Zm (by omega),h.lm i hil,Zmpb h hw hwb i hiw k hk];simp only [Xe,Ya]
  by_cases hm:i∈left
  ·rw [Xa hm]
   have hit:i∈todo:=by
    rw [hl] at hm;rcases Yea.1 hm with g | g
    ·exact absurd (h1 i g) (Nat.lt_irrefl _)
    ·exact g
   have hso:=h.so;rw [hl] at hso;have hst:=(List.pairwise_append.1 hso).2.1;cases todo with
   | nil=>exact nomatch hit
   | cons y t=>
    have hyt:=List.pairwise_cons.1 hst
    have hyi:y=i:=by
     rcases List.mem_cons.1 hit with g | g
     ·exact g.symm
     ·have:=hyt.1 i g
      have:=h2 y Yj;omega
    subst hyi
    have ih':=ih (y+1) (dn++[y]) t (by omega) (by rw [hl,Ym];rfl) (fun x hx=>by
     rcases Yea.1 hx with g | g
     ·have:=h1 x g;omega
     ·rw [Yo.1 g];omega) (fun x hx=>hyt.1 x hx) j (by omega)
    have eA:(dn++[y]).find? (Zue w left st)=(dn.find? (Zue w left st)).or (if Zue w left st y then some y else none):=by
     rw [Y6a];congr 1;unfold Yla;cases Zue w left st y <;> rfl
    have eB:(dn++[y]).head? = (dn.head?).or (some y):=by cases dn <;> rfl
    rw [eA,eB] at ih';simp only [Yl,Xf];cases hB:dn.head? with
    | none=>
     have hdn:dn=[]:=by cases dn with | nil=>rfl | cons a b=>cases hB
     subst hdn;rw [hB] at ih';have e1:(([]:List Nat).find? (Zue w left st))=none:=rfl;rw [e1] at ih' ⊢;rw [Ztdb];simp only [Xe];cases hf:Zue w left st y with
     | true=>rw [hf] at ih';exact ih'
     | false=>rw [hf] at ih';exact ih'
    | some a=>
     rw [hB] at ih';rw [Zv6];simp only [Xf];cases hA:dn.find? (Zue w left st) with
     | none=>
      rw [hA] at ih';rw [Ztdb];simp only [Xe];cases hf:Zue w left st y with
      | true=>rw [hf] at ih';exact ih'
      | false=>rw [hf] at ih';exact ih'
     | some c=>
      rw [hA] at ih';rw [Zv6];exact ih'
  ·rw [Xb hm]
   exact ih (i+1) dn todo (by omega) hl (fun x hx=>by have:=h1 x hx;omega) (fun x hx=>by
    have:=h2 x hx;rcases Yx i x with g | g
    ·exact g
    ·have:x=i:=by omega
     subst this;exact absurd (by rw [hl];exact Ycb _ hx) hm) j (by omega)
theorem Zs7 (h:PlanR w left st lB sB) (hw:w.length≤20) (hwb:∀x∈w,0≤x.2.1∧x.2.1≤7) (k:Nat) (hk:21<k):Zqd k w lB sB=some (Zil (left.find? (Zue w left st)),Zil left.head?):=by
 have run:=Z4pb h hw hwb k (by omega) w.length 0 [] left (Yi _) rfl (fun x hx=>nomatch hx) (fun x _=>Yga x) k (by omega)
 have run:Zqd.l0 k k w lB sB (-1) (-1) 0=_:=run
 unfold Zqd
 rw [run]
 rfl
end
theorem Z7pb (w:List Zk) (hw:w.length≤20) (hwb:∀x∈w,0≤x.2.1∧x.2.1≤7) (k:Nat) (hk:21<k):∀(d:Nat) (left:List Nat) (st:List Int) (lB sB:List Bool) (out:List Zvc),PlanR w left st lB sB→left.length+(8-st.length)≤d→out.length+d≤100→∀n j,d<n→d<j →
  Z1b.l1 k j (st.length:Int) w lB sB out=some (out++Zrc w n left st):=by
 intro d
 induction d with
 | zero=>
  intro left st lB sB out hI hd ho n j hn hj;obtain ⟨j,rfl⟩:∃q,j=q+1:=⟨j-1,by omega⟩;obtain ⟨n,rfl⟩:∃q,n=q+1:=⟨n-1,by omega⟩;obtain rfl:left=[]:=Yka (by omega);unfold Z1b.l1;rw [Zs7 hI hw hwb k hk];simp only [Zrc,Yu];rfl
 | succ d ih=>
  intro left st lB sB out hI hd ho n j hn hj;obtain ⟨j,rfl⟩:∃q,j=q+1:=⟨j-1,by omega⟩;obtain ⟨n,rfl⟩:∃q,n=q+1:=⟨n-1,by omega⟩;have hsl:=Zdt hI.pi.sd hI.pi.sb;cases left with
  | nil=>
   unfold Z1b.l1;rw [Zs7 hI hw hwb k hk];simp only [Zrc,Yu];rfl
  | cons i0 rest=>
   have hi0:=hI.pi.lt i0 Yj;rw [Z1b.l1,Zs7 hI hw hwb k hk];simp only [Ya];rw [show (i0::rest).head? = some i0 from rfl,Zv6];simp only [Xf];rcases Zvw (p:=Zue w (i0::rest) st) (l:=i0::rest) (n:=0) with ⟨h1,h2⟩ | ⟨p,hp,h1,h2,h3⟩
   ·obtain ⟨g1,g2,g3⟩:=hI.pi.stash hwb h2
    have hst:=Zdt g1.sd g1.sb;rw [g2] at hst;rw [h2]
    have hp2:Zrc w (n+1) (i0::rest) st=(1,((i0:Int),((wAt w i0).2.1,(st.length:Int))))::Zrc w n (i0::rest) (Zvh (wAt w i0).2.1 st):=by
     simp only [Zrc,h2]
    rw [hp2,Zwg hi0];rw [Zwg hi0] at g1 g2 g3;obtain ⟨q0,q7⟩:=hwb _ (Yg hi0);obtain ⟨b,hb⟩:=Y0a q0;have hb:(w[i0]).2.1=(b:Int):=hb;have hbs:b<sB.length:=by have:=hI.sl;omega
    rw [show decide (0≤Zil none)=false from rfl,show Zil (some i0)=(i0:Int) from rfl,Zg hi0,Zm (by omega)];simp only [Xf,Ya];rw [Z5 (by simp;omega),hb,Zg hbs];simp only [Ya,Yh];rw [hb] at g1 g2 g3;have:=ih (i0::rest) (Zvh (b:Int) st) lB (sB.set b true) (out++[(1,((i0:Int),((b:Int),(st.length:Int))))]) (hI.stash g1 g3) (by omega) (by simp;omega) n j (by omega) (by omega);rw [g2] at this;rw [this,Ym];rfl
   ·rw [h2]
    have hpl:=hI.pi.lt _ (Yg hp);have hll:(i0::rest)[p]<lB.length:=by have:=hI.ll;omega
    have hp2:Zrc w (n+1) (i0::rest) st=(2,(((i0::rest)[p]:Nat):Int),(wAt w (i0::rest)[p]).2.1,0)::Zrc w n ((i0::rest).erase (i0::rest)[p]) st:=by
     simp only [Zrc,h2]
    have hle:((i0::rest).erase (i0::rest)[p]).length=(i0::rest).length-1:=Y5 (Yg hp);rw [hp2,Zwg hpl];rw [show decide (0≤Zil (some (i0::rest)[p]))=true from Xa (Int.natCast_nonneg _),show Zil (some (i0::rest)[p])=(((i0::rest)[p]:Nat):Int) from rfl,Zg hpl,Zg hll];simp only [Xe,Ya,Yh];rw [Z5 (by simp;omega)];simp only [Ya]
    rw [ih ((i0::rest).erase (i0::rest)[p]) st (lB.set (i0::rest)[p] false) sB (out++[(2,((((i0::rest)[p]:Nat):Int),((w[(i0::rest)[p]]).2.1,0)))]) (hI.done _) (by
     rw [hle];have:(i0::rest).length=rest.length+1:=rfl;omega) (by simp;omega) n j (by omega) (by omega),Ym]
    rfl
theorem Zvpb (w:List Zk) (hw:w.length≤20):∀k,w.length<k→Z1b.l0 k 0 w (Yd w.length false)=some (w,Yd w.length true):=by
 intro k hk
 have run:=Zkw (fun j i c=>(Z1b.l0 j i w c).map fun p=>p.2) (Yd w.length true) false (fun i hi c hc j=>by
  have hiw:i<w.length:=by simpa using hi
  have hic:i<c.length:=by rw [hc];exact hi
  show (Z1b.l0 (j+1) (i:Int) w c).map _=(Z1b.l0 j ((i+1:Nat):Int) w (c.set i (Yd w.length true)[i])).map _;rw [Z1b.l0,dlt hiw,Zg hic,Zm (by omega),Yh,Yoa];rfl) (fun c j=>by
  show (Z1b.l0 (j+1) ((Yd w.length true).length:Int) w c).map _=some c;unfold Z1b.l0;rw [Zs (by simp)];rfl) (k:=k) (by simpa using hk)
 have fst:∀(d i:Nat) (c:List Bool) (r:List Zk×List Bool),i+d=w.length→∀j,Z1b.l0 j (i:Int) w c=some r→r.1=w:=by
  intro d
  induction d with
  | zero=>
   intro i c r hi j h;cases j with
   | zero=>cases h
   | succ j=>
    unfold Z1b.l0 at h;rw [Zs (by omega:w.length≤i)] at h;cases h;rfl
  | succ d ih=>
   intro i c r hi j h;cases j with
   | zero=>cases h
   | succ j=>
    rw [Z1b.l0,dlt (by omega:i<w.length),Zm (by omega)] at h;simp only [Xe] at h;cases ha:at? c (i:Int) with
    | none=>rw [ha] at h;cases h
    | some v=>
     rw [ha] at h;exact ih (i+1) _ r (by omega) j h
 rw [Y6] at run
 have run:(Z1b.l0 k 0 w (Yd w.length false)).map (fun p=>p.2)=some (Yd w.length true):=run
 cases hr:Z1b.l0 k 0 w (Yd w.length false) with
 | none=>rw [hr] at run;cases run
 | some r=>
  rw [hr] at run;have h1:=fst w.length 0 _ r (Yi _) k hr;have h2:r.2=Yd w.length true:=Yxa.inj run;obtain ⟨r1,r2⟩:=r;have h1:r1=w:=h1;have h2:r2=Yd w.length true:=h2;rw [h1,h2]
theorem Z9qb (w:List Zk):PlanR w (Yc w.length) [] (Yd w.length true) (Yd 8 false):=by
 refine ⟨Zg2 w,List.pairwise_lt_range,Y6,fun i hi=>?_,Y6,fun b hb=>?_⟩
 ·rw [Y6] at hi
  rw [Yoa,Xa (Ys.2 hi)]
 ·rw [Yoa]
  rfl
theorem Zqx (l:List Zk) (hl:l.length≤20) (hb:∀x∈Zi l,0≤x.2.1∧x.2.1≤7):(Zh l).length≤28:=by
 have hwl:(Zi l).length≤l.length:=Yq _ _
 have key:∀(n:Nat) (left:List Nat) (st:List Int),PlanI (Zi l) left st→(Zrc (Zi l) n left st).length≤left.length+(8-st.length):=by
  intro n
  induction n with
  | zero=>intro left st h;exact Yga _
  | succ n ih=>
   intro left st h;cases left with
   | nil=>exact Yga _
   | cons i0 rest=>
    rcases Zvw (p:=Zue (Zi l) (i0::rest) st) (l:=i0::rest) (n:=0) with ⟨h1,h2⟩ | ⟨p,hp,h1,h2,h3⟩
    ·obtain ⟨g1,g2,g3⟩:=h.stash hb h2
     have hst:=Zdt g1.sd g1.sb;have:=ih _ _ g1;simp only [Zrc,h2,Y4] at this ⊢;omega
    ·have:=ih _ _ (h.done (i0::rest)[p])
     have hle:((i0::rest).erase (i0::rest)[p]).length=(i0::rest).length-1:=Y5 (Yg hp);rw [hle] at this;simp only [Zrc,h2,Y4] at this ⊢;omega
 have:=key 40 _ _ (Zg2 (Zi l))
 rw [Ysa,Yra] at this
 unfold Zh
 omega
theorem Zqfb (l:List Zk) (hl:l.length≤20) (hb:∀x∈Zi l,0≤x.2.1∧x.2.1≤7):∀k,60≤k→Z1b k l=some (Zh l):=by
 intro k hk
 have hwl:(Zi l).length≤l.length:=Yq _ _
 unfold Z1b
 rw [Zw7 l hl k (by omega)]
 simp only [Ya]
 rw [Z0u (by omega)]
 simp only [Ya]
 rw [Zvpb _ (by omega) k (by omega)]
 simp only [Ya]
 rw [show Z3g 1 8 8 false=some (Yd 8 false) from Z0u (n:=8) (by omega)]
 simp only [Ya]
 have run:=Z7pb (Zi l) (by omega) hb k (by omega) 30 _ [] _ _ [] (Z9qb _) (by simp;omega) (by simp) 40 k (by omega) (by omega)
 have run:Z1b.l1 k k 0 (Zi l) (Yd (Zi l).length true) (Yd 8 false) []=_:=run
 rw [run]
 rfl
def Z7b (l:List Zvc):Int:=(((l.filter fun m=>m.1==1).length:Nat):Int)
theorem Z57 {l:List Zvc} {i:Nat} (h:i<l.length):Z7b (l.take (i+1))=if (l[i]).1=1 then Z7b (l.take i)+1 else Z7b (l.take i):=by
 unfold Z7b
 rw [Zni h,Y3]
 split
 ·rename_i hw;simp [hw]
 ·rename_i hw;simp [hw]
theorem Ze2 (l:List Zvc):0≤Z7b l∧Z7b l≤(l.length:Int):=by
 unfold Z7b
 have:=Yq (fun m:Zvc=>m.1==1) l
 omega
theorem Zufb (l:List Zvc) (hl:l.length≤40):∀k,41≤k→Zre k l=some (Z7b l):=by
 intro k hk
 have key:∀(d i:Nat),i+d=l.length→∀j,d<j→Zre.l0 j l (Z7b (l.take i)) (i:Int)=some (Z7b l):=by
  intro d
  induction d with
  | zero=>
   intro i hi j hj;obtain ⟨j,rfl⟩:∃q,j=q+1:=⟨j-1,by omega⟩;obtain rfl:i=l.length:=by omega
   unfold Zre.l0;rw [Zs (Yb _),Yt];rfl
  | succ d ih=>
   intro i hi j hj;obtain ⟨j,rfl⟩:∃q,j=q+1:=⟨j-1,by omega⟩;have h:i<l.length:=by omega
   have hb:=Ze2 (l.take i);have hbl:(l.take i).length≤40:=by rw [Yr];omega
   have:=ih (i+1) (by omega) j (by omega);rw [Z57 h] at this;rw [Zre.l0,dlt h,Xa (by omega:(l.length:Int)≤40),Zg h,Zm (by omega),w64 (n:=Z7b (l.take i)+1) (by omega) (by omega)];simp only [Yaa,Xe,Ya]
   by_cases h1:(l[i]).1=1
   ·rw [Xc h1] at this
    rw [show ((l[i]).1==1)=true by simpa using h1];exact this
   ·rw [Xd h1] at this
    rw [show ((l[i]).1==1)=false by simpa using h1];exact this
 have run:=key l.length 0 (Yi _) k (by omega)
 have run:Zre.l0 k l 0 0=_:=run
 unfold Zre
 rw [run]
 rfl
theorem Zgcb (l:List Zvc) (hl:l.length≤40):∀k,41≤k→Zme k l=some (Z7b l):=by
 intro k hk
 have key:∀(d i:Nat),i+d=l.length→∀j,d<j→Zme.l0 j (Z7b (l.take i)) l (l.length:Int) (i:Int)=some (Z7b l):=by
  intro d
  induction d with
  | zero=>
   intro i hi j hj;obtain ⟨j,rfl⟩:∃q,j=q+1:=⟨j-1,by omega⟩;obtain rfl:i=l.length:=by omega
   unfold Zme.l0;rw [Zs (Yb _),Yt];rfl
  | succ d ih=>
   intro i hi j hj;obtain ⟨j,rfl⟩:∃q,j=q+1:=⟨j-1,by omega⟩;have h:i<l.length:=by omega
   have hb:=Ze2 (l.take i);have hbl:(l.take i).length≤40:=by rw [Yr];omega
   have:=ih (i+1) (by omega) j (by omega);rw [Z57 h] at this;rw [Zme.l0,dlt h,Zg h,Zm (by omega),w64 (n:=Z7b (l.take i)+1) (by omega) (by omega)];simp only [Xe,Ya]
   by_cases h1:(l[i]).1=1
   ·rw [Xc h1] at this
    rw [show ((l[i]).1==1)=true by simpa using h1];exact this
   ·rw [Xd h1] at this
    rw [show ((l[i]).1==1)=false by simpa using h1];exact this
 have run:=key l.length 0 (Yi _) k (by omega)
 have run:Zme.l0 k 0 l (l.length:Int) 0=_:=run
 unfold Zme
 rw [run]
 rfl
theorem Zij {l:List Zk} {n:Int} (h:Zfb l n=0):∀x∈Zi l,0≤x.2.1∧x.2.1≤7:=by
 obtain ⟨_,h1,h2,h3,_,_⟩:=Zfg h
 intro x hx
 unfold Zi at hx
 rw [Yta] at hx
 have hs:=h3 x hx.1
 have hw:=hx.2
 unfold isW at hw
 have h5:x.1≠5:=by simpa using hw
 unfold Zvg Zjd at hs
 rw [Xd h5] at hs
 split at hs
 ·simp only [Yf,decide_eq_true_eq] at hs;omega
 ·split at hs
  ·simp only [Yf,decide_eq_true_eq] at hs;omega
  ·split at hs
   ·simp only [Yf,decide_eq_true_eq] at hs;omega
   ·split at hs
    ·simp only [Yf,decide_eq_true_eq] at hs;omega
    ·cases hs
theorem Zrfb (l:List Zk) (n:Int) (h:Zfb l n=0):Zc fun k=>Z1j k l n=some (Zh l,0):=by
 have hl:=(Zfg h).1
 refine ((Z61 l n (by omega)).and (Zc.ge 60 fun k hk=>hk)).mono fun k hk=>?_
 unfold Z1j
 rw [Xb (by omega:¬((400:Int)<(l.length:Int))),hk.1,h,Zqfb l hl (Zij h) k hk.2]
 rfl
theorem Zbgb (m:Zvc) (l:List Zvc):Z7b (m::l)=(if m.1=1 then 1 else 0)+Z7b l:=by
 unfold Z7b
 rw [List.filter_cons]
 by_cases h:m.1=1
 ·rw [Xc h,show (m.1==1)=true by simpa using h,Xc rfl,Y4];omega
 ·rw [Xd h,show (m.1==1)=false by simpa using h,Xd (by simp)];omega
theorem Ziob {w:List Zk} (hw:∀x∈w,0≤x.2.1∧x.2.1≤7):∀(n:Nat) (left:List Nat) (st:List Int),PlanI w left st→left.length+(8-st.length)≤n →
  (∀j∈left,∃i:Nat,(Zrc w n left st)[i]? = some (2,((j:Int),((wAt w j).2.1,0)))) ∧
  (∀(i:Nat) (m:Zvc),(Zrc w n left st)[i]? = some m→∃j∈left,m=(2,((j:Int),((wAt w j).2.1,0)))∨m=(1,((j:Int),((wAt w j).2.1,(st.length:Int)+Z7b ((Zrc w n left st).take i))))) ∧
  ∀(i i':Nat) (m m':Zvc),(Zrc w n left st)[i]? = some m→(Zrc w n left st)[i']? = some m'→m.1=2→m'.1=2→m.2.1=m'.2.1→i=i':=by
 intro n
 induction n with
 | zero=>
  intro left st h hn;have:left=[]:=Yka (by omega);subst this;exact ⟨fun j hj=>(by cases hj),fun i m h=>(by cases h),fun i i' m m' h=>(by cases h)⟩
 | succ n ih=>
  intro left st h hn;cases left with
  | nil=>exact ⟨fun j hj=>(by cases hj),fun i m h=>(by cases h),fun i i' m m' h=>(by cases h)⟩
  | cons i0 rest=>
   have hst:=Zdt h.sd h.sb;cases hf:(i0::rest).find? (Zue w (i0::rest) st) with
   | none=>
    obtain ⟨g1,g2,g3⟩:=h.stash hw hf;have hst':=Zdt g1.sd g1.sb;obtain ⟨k1,k2,k3⟩:=ih _ _ g1 (by rw [g2];omega);have e:Zrc w (n+1) (i0::rest) st=(1,((i0:Int),((wAt w i0).2.1,(st.length:Int))))::Zrc w n (i0::rest) (Zvh (wAt w i0).2.1 st):=by simp only [Zrc,hf]
    rw [e];refine ⟨fun j hj=>?_,fun i m hm=>?_,fun i i' m m' hm hm' h2 h2' he=>?_⟩
    ·obtain ⟨i,hi⟩:=k1 j hj
     exact ⟨i+1,by rw [Yn];exact hi⟩
    ·cases i with
     | zero=>
      rw [Yv] at hm;cases hm;exact ⟨i0,Yj,.inr (by simp [Z7b])⟩
     | succ i=>
      rw [Yn] at hm;obtain ⟨j,hj,q⟩:=k2 i m hm;refine ⟨j,hj,?_⟩;rcases q with q | q
      ·exact .inl q
      ·refine .inr ?_
       rw [q,g2,Yhb,Zbgb,Xc rfl];congr 3;omega
    ·cases i with
     | zero=>
      rw [Yv] at hm;cases hm;cases h2
     | succ i=>
      cases i' with
      | zero=>
       rw [Yv] at hm';cases hm';cases h2'
      | succ i'=>
       rw [Yn] at hm hm';rw [k3 i i' m m' hm hm' h2 h2' he]
   | some i1=>
    have hi1:i1∈i0::rest:=Yeb hf;have hle:((i0::rest).erase i1).length=(i0::rest).length-1:=Y5 hi1;obtain ⟨k1,k2,k3⟩:=ih _ _ (h.done i1) (by rw [hle];simp only [Y4] at hn ⊢;omega);have e:Zrc w (n+1) (i0::rest) st=(2,((i1:Int),((wAt w i1).2.1,0)))::Zrc w n ((i0::rest).erase i1) st:=by simp only [Zrc,hf]
    have away:∀(i:Nat) (m:Zvc),(Zrc w n ((i0::rest).erase i1) st)[i]? = some m→m.2.1≠(i1:Int):=fun i m hm q=>by
     obtain ⟨j,hj,r⟩:=k2 i m hm;have hj:=(h.nd.mem_erase_iff.1 hj).1;rcases r with r | r <;> rw [r] at q <;> exact hj (by have q:(j:Int)=(i1:Int):=q;omega)
    rw [e];refine ⟨fun j hj=>?_,fun i m hm=>?_,fun i i' m m' hm hm' h2 h2' he=>?_⟩
    ·by_cases hj1:j=i1
     ·subst hj1
      exact ⟨0,rfl⟩
     ·obtain ⟨i,hi⟩:=k1 j (h.nd.mem_erase_iff.2 ⟨hj1,hj⟩)
      exact ⟨i+1,by rw [Yn];exact hi⟩
    ·cases i with
     | zero=>
      rw [Yv] at hm;cases hm;exact ⟨i1,hi1,.inl rfl⟩
     | succ i=>
      rw [Yn] at hm;obtain ⟨j,hj,q⟩:=k2 i m hm;refine ⟨j,Yua hj,?_⟩;rcases q with q | q
      ·exact .inl q
      ·refine .inr ?_
       rw [q,Yhb,Zbgb,Xd (show ¬((2:Int)=1) by decide)];congr 3;omega
    ·cases i with
     | zero=>
      cases i' with
      | zero=>rfl
      | succ i'=>
       rw [Yv] at hm;rw [Yn] at hm';cases hm;exact absurd he.symm (away i' m' hm')
     | succ i=>
      cases i' with
      | zero=>
       rw [Yn] at hm;rw [Yv] at hm';cases hm';exact absurd he (away i m hm)
      | succ i'=>
       rw [Yn] at hm hm';rw [k3 i i' m m' hm hm' h2 h2' he]
structure PlanF (l:List Zk) (n:Int):Prop where
 all:∀j,j<(Zi l).length→∃i:Nat,(Zh l)[i]? = some (2,((j:Int),((wAt (Zi l) j).2.1,0)))
 form:∀(i:Nat) (m:Zvc),(Zh l)[i]? = some m→∃j,j<(Zi l).length∧(m=(2,((j:Int),((wAt (Zi l) j).2.1,0)))∨m=(1,((j:Int),((wAt (Zi l) j).2.1,Z7b ((Zh l).take i)))))
 one:∀(i i':Nat) (m m':Zvc),(Zh l)[i]? = some m→(Zh l)[i']? = some m'→m.1=2→m'.1=2→m.2.1=m'.2.1→i=i'
theorem Z70 {l:List Zk} {n:Int} (h:Zfb l n=0):PlanF l n:=by
 have hl:=(Zfg h).1
 have hwl:(Zi l).length≤l.length:=Yq _ _
 obtain ⟨h1,h2,h3⟩:=Ziob (Zij h) 40 _ _ (Zg2 (Zi l)) (by rw [Ysa,Yra];omega)
 refine ⟨fun j hj=>h1 j (Ys.2 hj),fun i m hm=>?_,h3⟩
 obtain ⟨j,hj,q⟩:=h2 i m hm
 refine ⟨j,Ys.1 hj,?_⟩
 rcases q with q | q
 ·exact .inl q
 ·refine .inr ?_
  rw [q,Yra];show _=(1,((j:Int),((wAt (Zi l) j).2.1,Z7b ((Zh l).take i))));congr 3;show ((0:Nat):Int)+Z7b ((Zh l).take i)=_;omega
theorem Zcgb {l:List Zvc} {i:Nat} {m:Zvc} (h:l[i]? = some m) (h1:m.1=1):Z7b (l.take i)<Z7b l:=by
 obtain ⟨hi,rfl⟩:=List.getElem?_eq_some_iff.1 h
 have h2:Z7b (l.take (i+1))=Z7b (l.take i)+1:=by rw [Z57 hi,Xc h1]
 have h3:Z7b (l.take (i+1))≤Z7b l:=by
  unfold Z7b;have:=((Ygb (i+1) l).filter fun m=>m.1==1).length_le;omega
 omega
def Z7c (base:List Str) (w:List Zk) (done:Int→Bool) (mk:Zk→Str):List Str:=
 (Yc base.length).map fun (b:Nat)=>match w.find? (fun x=>x.2.1==(b:Int)) with
  | some x=>if done (b:Int)=true then base.getD b [] else mk x
  | none=>base.getD b []
theorem Z8h (base:List Str) (w:List Zk) (done:Int→Bool) (mk:Zk→Str):(Z7c base w done mk).length=base.length:=by simp [Z7c]
theorem Z5r {base:List Str} {w:List Zk} {done:Int→Bool} {mk:Zk→Str} {b:Nat} (h:b<base.length):(Z7c base w done mk)[b]'(by rw [Z8h];exact h)=match w.find? (fun x=>x.2.1==(b:Int)) with
  | some x=>if done (b:Int)=true then base.getD b [] else mk x
  | none=>base.getD b []:=by simp [Z7c]
theorem Zn8 (base:List Str) (done:Int→Bool) (mk:Zk→Str):Z7c base [] done mk=base:=by
 refine Y4a (Z8h _ _ _ _) fun b h1 h2=>?_
 rw [Z5r h2]
 show base.getD b []=_
 rw [Y8a,Yp h2]
 rfl
theorem Z3rb {base:List Str} {w:List Zk} {done done':Int→Bool} {mk mk':Zk→Str} (h:∀x∈w,done x.2.1=done' x.2.1) (hm:∀x∈w,mk x=mk' x):Z7c base w done mk=Z7c base w done' mk':=by
 unfold Z7c
 refine List.map_congr_left fun b _=>?_
 cases hf:w.find? (fun x=>x.2.1==(b:Int)) with
 | none=>rfl
 | some x=>
  have hx:=Yeb hf;have hb:x.2.1=(b:Int):=by simpa using Y7a hf
  have:=h x hx;rw [hb] at this;dsimp only;rw [this,hm x hx]
theorem Zo8 {base:List Str} {w:List Zk} {done:Int→Bool} {mk:Zk→Str} (hn:(w.map fun x=>x.2.1).Nodup) {i:Nat} (h:i<w.length) (h0:0≤w[i].2.1) (h1:w[i].2.1<(base.length:Int)):
  Z7c base (w.take (i+1)) done mk=if done w[i].2.1=true then Z7c base (w.take i) done mk else (Z7c base (w.take i) done mk).set w[i].2.1.toNat (mk w[i]):=by
 have away:∀b:Int,w[i].2.1=b→(w.take i).find? (fun x=>x.2.1==b)=none:=fun b hb=>by
  refine Yma.2 fun x hx=>?_
  obtain ⟨j,hj,rfl⟩:=List.mem_iff_getElem.1 hx;rw [Yr] at hj;rw [Yqa];intro q;have q:w[j].2.1=b:=by simpa using q
  have:=List.pairwise_iff_getElem.1 hn j i (by rw [Ybb];omega) (by rw [Ybb];exact h) (by omega);rw [Y9a,Y9a] at this;exact this (q.trans hb.symm)
 have hfind:∀b:Int,(w.take (i+1)).find? (fun x=>x.2.1==b)=if w[i].2.1=b then some w[i] else (w.take i).find? (fun x=>x.2.1==b):=fun b=>by
  rw [Zni h,Y6a]
  by_cases hb:w[i].2.1=b
  ·rw [Xc hb,away b hb]
   simp [hb]
  ·rw [Xd hb]
   have:([w[i]].find? fun x=>x.2.1==b)=none:=by simp [hb]
   rw [this];cases (w.take i).find? (fun x=>x.2.1==b) <;> rfl
 refine Y4a ?_ fun b k1 k2=>?_
 ·split
  ·rw [Z8h,Z8h]
  ·rw [Z8h,Y7,Z8h]
 ·rw [Z8h] at k1
  rw [Z5r k1,hfind]
  by_cases hd:done w[i].2.1=true
  ·simp only [Xc hd]
   rw [Z5r k1]
   by_cases hb:w[i].2.1=(b:Int)
   ·rw [Xc hb,away _ hb]
    dsimp only;rw [← hb,Xc hd]
   ·rw [Xd hb]
  ·simp only [Xd hd]
   rw [Ypa]
   by_cases hb:w[i].2.1=(b:Int)
   ·rw [Xc hb,Xc (by omega)]
    dsimp only;rw [← hb,Xd hd]
   ·rw [Xd hb,Xd (by omega),Z5r k1]
theorem Z38 (n:Nat) (p:Nat→Bool):(∀i,i<n→p i=true)∨∃m,m<n∧p m=false∧∀i,i<m→p i=true:=by
 induction n with
 | zero=>exact .inl fun i hi=>absurd hi (Yk i)
 | succ n ih=>
  rcases ih with h | ⟨m,h1,h2,h3⟩
  ·cases hp:p n with
   | true=>
    refine .inl fun i hi=>?_
    rcases Nat.eq_or_lt_of_le (Nat.le_of_lt_succ hi) with rfl | hi
    ·exact hp
    ·exact h i hi
   | false=>exact .inr ⟨n,Nat.lt_succ_self n,hp,h⟩
  ·exact .inr ⟨m,Nat.lt_succ_of_lt h1,h2,h3⟩
theorem Z0hb {α:Type} {l:List α} {q:α→Bool}:(∀x∈l,q x=true) ↔ ∀i,(h:i<l.length)→q l[i]=true:=by
 constructor
 ·exact fun h i hi=>h _ (Yg hi)
 ·intro h x hx
  obtain ⟨i,hi,rfl⟩:=Yna hx;exact h i hi
theorem Z6cb {α:Type} (l:List α) (q:α→Bool):(l.all q=true)∨(l.all q=false∧∃m,∃h:m<l.length,q l[m]=false∧∀i,(hi:i<m)→q (l[i]'(by omega))=true):=by
 rcases Z38 l.length (fun i=>match l[i]? with | some x=>q x | none=>true) with h | ⟨m,h1,h2,h3⟩
 ·refine .inl (Y1.2 (Z0hb.2 fun i hi=>?_))
  have:=h i hi
  rwa [Yp hi] at this
 ·rw [Yp h1] at h2
  replace h2:q l[m]=false:=h2;refine .inr ⟨?_,m,h1,h2,fun i hi=>?_⟩
  ·cases ha:l.all q with
   | false=>rfl
   | true=>rw [Y1.1 ha _ (Yg h1)] at h2;cases h2
  ·have:=h3 i hi
   rwa [Yp (by omega)] at this
theorem Zn0 {R:Type} (L:Nat→Nat→Option (Unit ⊕ R)) (n:Nat) (p:Nat→Bool) (q:Nat→R) (hs:∀i,i<n→p i=true→∀j,L (j+1) i=L j (i+1)) (hf:∀i,i<n→p i=false→∀j,L (j+1) i=some (.inr (q i))) (he:∀j,L (j+1) n=some (.inl ())):
  ((Yc n).all p=true∧∀k,n<k→L k 0=some (.inl ()))∨((Yc n).all p=false∧∃i,i<n∧p i=false∧∀k,n<k→L k 0=some (.inr (q i))):=by
 rcases Z38 n p with h | ⟨m,h1,h2,h3⟩
 ·refine .inl ⟨Y1.2 fun i hi=>h i (Ys.1 hi),Zqb L n _ (fun i hi=>hs i hi (h i hi)) he⟩
 ·refine .inr ⟨?_,m,h1,h2,fun k hk=>Zqb L m _ (fun i hi=>hs i (by omega) (h3 i hi)) (hf m h1 h2) k (by omega)⟩
  cases ha:(Yc n).all p with
  | false=>rfl
  | true=>rw [Y1.1 ha m (Ys.2 h1)] at h2;cases h2
end Go.Proofs.Qz
