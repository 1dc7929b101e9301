/- Plain facts on numbers of 64 bits; no program in sight. -/
import Derived.Below
import Derived.Calls
import Derived.Laws.BitsLemmas
import Derived.Laws.BitsAllLaws
import Derived.Laws.Small
set_option linter.unusedSimpArgs false
set_option linter.unusedVariables false
namespace Go.Proofs.YthfjpkdadjemcaaGreat
open _root_.Int renaming mul_comm → FV4, mul_assoc → FV5, ediv_ediv_of_nonneg → FV6, mul_left_comm → FV7, mul_emod_left → FV8, add_mul → FV9, mul_le_mul_of_nonneg_right → FW0, mul_nonneg → FW1, pow_add → FW2, eq_ofNat_of_zero_le → FW3, mul_emod_mul_of_pos → FW4, ediv_nonneg → FW5, ediv_eq_zero_of_lt → FW6, ediv_lt_of_lt_mul → FW7, add_comm → FW8, emod_lt_of_pos → FW9, mul_right_comm → FX0
open Go.IntKind renaming signed → FX1
def I64 (n:Int):Prop := -9223372036854775808≤n∧n≤9223372036854775807
def U64 (n:Int):Prop:=0≤n∧n≤18446744073709551615
def Ao3 (n:Int):Bool:=decide (-9223372036854775808≤n)&&decide (n≤9223372036854775807)
theorem BR2 {n:Int}(h : -9223372036854775808≤n∧n≤9223372036854775807):Ao3 n=true:=by simp[Ao3];omega
theorem CG5 {n:Int}(h:¬(-9223372036854775808≤n∧n≤9223372036854775807)):Ao3 n=false:=by
 unfold Ao3;by_cases h1 : -9223372036854775808≤n
 ·have h2:¬n≤9223372036854775807:=fun h'=>h ⟨h1,h'⟩
  simp only[h1,h2,decide_true,decide_false,Bool.and_false]
 ·simp only[h1,decide_false,Bool.false_and]
theorem U3 (n:Int):IntKind.u64.wrap n=n % 18446744073709551616:=by simp[IntKind.wrap,IntKind.bits,FX1]
def K1 (a b:Int):Int:=if a<b then -1 else if a=b then 0 else 1
theorem ET7 {a b:Int}(h:a<b):K1 a b = -1:=by rw[K1,if_pos h]
theorem ET8 {a b:Int}(h:a=b):K1 a b=0:=by rw[K1,if_neg (by omega),if_pos h]
theorem BR3 {a b:Int}(h:b<a):K1 a b=1:=by rw[K1,if_neg (by omega),if_neg (by omega)]
theorem BR4 (a b:Int):K1 a b<0↔a<b:=by unfold K1;split <;> (try split) <;> omega
theorem CG6 (a b:Int):0<K1 a b↔b<a:=by unfold K1;split <;> (try split) <;> omega
def vU (h l:Int):Int:=h*18446744073709551616+l
def hiU (x:Int):Int:=x/18446744073709551616
def loU (x:Int):Int:=x % 18446744073709551616
def AP4 (x:Int):Prop:=0≤x∧x≤340282366920938463463374607431768211455
theorem Az5 (a:Int)(h1:0≤a)(h2:a≤18446744073709551615):bits .and .u64 a 4294967295=a % 4294967296:=by
 rw[u64_and a 4294967295 h1 (by omega) (by omega) (by omega)]
 have h:a.toNat &&& 4294967295=a.toNat % 4294967296:=Nat.and_two_pow_sub_one_eq_mod a.toNat 32;show ((a.toNat &&& 4294967295:Nat):Int)=_;rw[h];omega
theorem Ag0 (x y:Int)(i:Nat)(hx0:0≤x)(hx:x≤18446744073709551615)(hm:x % 2 ^ i=0)(hy0:0≤y)(hy:y≤18446744073709551615)(hyi:y<2 ^ i):bits .or .u64 x y=x+y:=by
 rw[u64_or x y hx0 (by omega) hy0 (by omega)]
 obtain⟨x,rfl⟩:=FW3 hx0;obtain⟨y,rfl⟩:=FW3 hy0;rw[Int.toNat_natCast,Int.toNat_natCast,nat_join i x y (by exact_mod_cast hm) (by exact_mod_cast hyi)]
 rfl
theorem Ao4 (x:Int):vU (hiU x) (loU x)=x:=by unfold vU hiU loU;omega
theorem CG7 {h l:Int}(hl:U64 l):hiU (vU h l)=h:=by obtain⟨a,b⟩:=hl;unfold vU hiU;omega
theorem CG8 {h l:Int}(hl:U64 l):loU (vU h l)=l:=by obtain⟨a,b⟩:=hl;unfold vU loU;omega
theorem Ao5 {x:Int}(h:AP4 x):U64 (hiU x):=by obtain⟨a,b⟩:=h;exact⟨by unfold hiU;omega,by unfold hiU;omega⟩
theorem AF2 (x:Int):U64 (loU x):=⟨by unfold loU;omega,by unfold loU;omega⟩
theorem CG9 {h l:Int}(hh:U64 h)(hl:U64 l):AP4 (vU h l):=by obtain⟨a,b⟩:=hl;obtain⟨c,d⟩:=hh;exact⟨by unfold vU;omega,by unfold vU;omega⟩

theorem CH0 (n:Nat)(hn:n≤64):((2:Int) ^ n)*2 ^ (64-n)=18446744073709551616:=by rw[← FW2,show n+(64-n)=64 by omega];rfl
theorem p9 (n:Nat):0<(2:Int) ^ n:=Int.pow_pos (by omega)
theorem ET9 (h l:Int)(n:Nat)(h0:0<n)(hn:n<64)(hh:U64 h)(hl:U64 l):
  bits .or .u64 (l/2 ^ n) (IntKind.u64.wrap (h*2 ^ (64-n)))=loU (vU h l/2 ^ n):=by
 obtain⟨h1,h2⟩:=hh;obtain⟨h3,h4⟩:=hl;have hs:=CH0 n (by omega)
 have hp:=p9 n;have hq:=p9 (64-n);rw[U3,loU,vU];generalize hP:(2:Int) ^ n=P at*;generalize hQ:(2:Int) ^ (64-n)=Q at*;have e1:h*Q % 18446744073709551616=(h % P)*Q:=by rw[← hs,FV4 h Q,FV4 P Q,FW4 _ _ hq,FV4]
 have e2:(h*18446744073709551616+l)/P=h*Q+l/P:=by rw[← hs,show h*(P*Q)+l=P*(h*Q)+l by rw[FV7],FW8,Int.add_mul_ediv_left _ _ (by omega),FW8]
 have hr:=FW9 h hp;have hr0:=Int.emod_nonneg h (show P≠0 by omega)
 have hld:l/P<Q:=by apply FW7 hp;rw[FV4,hs];omega
 have hl0:0≤l/P:=FW5 h3 (by omega)
 have hhq:(h % P)*Q≤18446744073709551616-Q:=by
  have:(h % P+1)*Q≤P*Q:=FW0 (by omega) (by omega)
  rw[FV9] at this;omega
 have hhq0:0≤(h % P)*Q:=FW1 hr0 (by omega)
 have hcomm:bits .or .u64 (l/P) (h*Q % 18446744073709551616)=bits .or .u64 (h*Q % 18446744073709551616) (l/P):=by rw[u64_or _ _ hl0 (by omega) (by omega) (by omega),u64_or _ _ (by omega) (by omega) hl0 (by omega),Nat.or_comm]
 rw[hcomm,Ag0 _ _ (64-n) (by omega) (by omega) (by rw[hQ,e1];exact FV8 _ _) hl0 (by omega) (by rw[hQ];exact hld),e1,e2]
 have e3:(h*Q+l/P) % 18446744073709551616=h*Q % 18446744073709551616+l/P:=by rw[Int.add_emod,e1,Int.emod_eq_of_lt hl0 (by omega),Int.emod_eq_of_lt (by omega) (by omega)]
 rw[e3,e1]
theorem EU0 (h l:Int)(n:Nat)(hn:n≤64)(hl:U64 l):h/2 ^ n=hiU (vU h l/2 ^ n):=by
 obtain⟨h3,h4⟩:=hl;have hp:=p9 n;rw[hiU,vU,FV6 (by omega),FV4 ((2:Int) ^ n),← FV6 (by omega)]
 congr 1;omega
theorem EU1 (h l:Int)(n:Nat)(h0:0<n)(hn:n<64)(hh:U64 h)(hl:U64 l):
  bits .or .u64 (IntKind.u64.wrap (h*2 ^ n)) (l/2 ^ (64-n))=hiU (vU h l*2 ^ n % 340282366920938463463374607431768211456):=by
 obtain⟨h1,h2⟩:=hh;obtain⟨h3,h4⟩:=hl;have hs:=CH0 n (by omega)
 have hp:=p9 n;have hq:=p9 (64-n);rw[U3,hiU,vU];generalize hP:(2:Int) ^ n=P at*;generalize hQ:(2:Int) ^ (64-n)=Q at*;have e1:h*P % 18446744073709551616=(h % Q)*P:=by rw[← hs,FV4 h P,FW4 _ _ hp,FV4]
 have hr:=FW9 h hq;have hr0:=Int.emod_nonneg h (show Q≠0 by omega)
 have hld:l/Q<P:=by apply FW7 hq;rw[hs];omega
 have hl0:0≤l/Q:=FW5 h3 (by omega)
 have hhq:(h % Q)*P≤18446744073709551616-P:=by
  have:(h % Q+1)*P≤Q*P:=FW0 (by omega) (by omega)
  rw[FV9,FV4 Q P,hs] at this;omega
 have hhq0:0≤(h % Q)*P:=FW1 hr0 (by omega)
 rw[Ag0 _ _ n (by omega) (by omega) (by rw[hP,e1];exact FV8 _ _) hl0 (by omega) (by rw[hP];exact hld),e1]
 have e2:(h*18446744073709551616+l)*P=h*P*18446744073709551616+l*P:=by rw[FV9,FX0]
 have e3:l*P/18446744073709551616=l/Q:=by rw[← hs,FV4 l P,Int.mul_ediv_mul_of_pos _ _ hp]
 have e4:0≤l*P:=FW1 h3 (by omega)
 have e5:h*P=18446744073709551616*(h*P/18446744073709551616)+h % Q*P:=by rw[← e1];omega
 rw[e2];generalize l*P=A at*;generalize h % Q*P=B at*;generalize l/Q=D at*;generalize h*P=C at*;omega
theorem EU2 (h l:Int)(n:Nat):IntKind.u64.wrap (l*2 ^ n)=loU (vU h l*2 ^ n % 340282366920938463463374607431768211456):=by rw[U3,loU,vU,Int.emod_emod_of_dvd _ (by decide),FV9,FX0,FW8,Int.add_mul_emod_self_right]
theorem CH1 (h l:Int)(n:Nat)(hn:64≤n):
  IntKind.u64.wrap (l*2 ^ min (n-64) 64)=hiU (vU h l*2 ^ n % 340282366920938463463374607431768211456)∧loU (vU h l*2 ^ n % 340282366920938463463374607431768211456)=0:=by
 have hn':(2:Int) ^ n=2 ^ (n-64)*18446744073709551616:=by rw[show (18446744073709551616:Int)=2 ^ 64 by rfl,← FW2,show n-64+64=n by omega]
 have hm:l*2 ^ min (n-64) 64 % 18446744073709551616=l*2 ^ (n-64) % 18446744073709551616:=by
  by_cases hk:n-64≤64
  ·rw[Nat.min_eq_left hk]
  ·rw[Nat.min_eq_right (by omega)]
   have:(2:Int) ^ (n-64)=2 ^ (n-64-64)*18446744073709551616:=by rw[show (18446744073709551616:Int)=2 ^ 64 by rfl,← FW2,show n-64-64+64=n-64 by omega]
   rw[this,← FV5,FV8];exact FV8 l 18446744073709551616
 rw[U3,hm,hiU,loU,vU,hn'];have e:(h*18446744073709551616+l)*(2 ^ (n-64)*18446744073709551616)=(h*2 ^ (n-64))*340282366920938463463374607431768211456+(l*2 ^ (n-64))*18446744073709551616:=by rw[FV9,← FV5 l,FV4 h 18446744073709551616,FV4 (2 ^ (n-64)) 18446744073709551616,FV5,FV7 h,← FV5,FV4 _ (h*_)];rfl
 rw[e];generalize h*2 ^ (n-64)=A;generalize l*2 ^ (n-64)=B;omega
theorem CH2 (h l:Int)(n:Nat)(hn:64≤n)(hh:U64 h)(hl:U64 l):
  h/2 ^ min (n-64) 64=loU (vU h l/2 ^ n)∧hiU (vU h l/2 ^ n)=0:=by
 obtain⟨h1,h2⟩:=hh;obtain⟨h3,h4⟩:=hl;have hn':(2:Int) ^ n=18446744073709551616*2 ^ (n-64):=by rw[show (18446744073709551616:Int)=2 ^ 64 by rfl,← FW2,show 64+(n-64)=n by omega]
 have e:vU h l/2 ^ n=h/2 ^ (n-64):=by
  rw[hn',← FV6 (by omega),vU]
  congr 1;omega
 have hp:=p9 (n-64);have hb:0≤h/2 ^ (n-64):=FW5 h1 (by omega)
 have hb':h/2 ^ (n-64)≤h:=Int.ediv_le_self _ h1;have hm:h/2 ^ min (n-64) 64=h/2 ^ (n-64):=by
  by_cases hk:n-64≤64
  ·rw[Nat.min_eq_left hk]
  ·rw[Nat.min_eq_right (by omega)]
   have h64:h/2 ^ 64=0:=FW6 h1 (by omega)
   rw[h64];have hp2:(2:Int) ^ (n-64)=18446744073709551616*2 ^ (n-64-64):=by rw[show (18446744073709551616:Int)=2 ^ 64 by rfl,← FW2,show 64+(n-64-64)=n-64 by omega]
   have hp3:=p9 (n-64-64);exact (FW6 h1 (by omega)).symm
 rw[e,hm,loU,hiU];omega
theorem Az6 {x y:Int}(h1:0≤x)(h2:x≤4294967295)(h3:0≤y)(h4:y≤4294967295):0≤x*y∧x*y≤18446744065119617025:=by
 refine⟨FW1 h1 h3,?_⟩;have:=Int.mul_le_mul h2 h4 h3 (by omega)
 omega
theorem EU3 (a b:Int):a*b=(a/4294967296*(b/4294967296))*18446744073709551616+((a/4294967296*(b % 4294967296))+(a % 4294967296*(b/4294967296)))*4294967296+a % 4294967296*(b % 4294967296):=by
 have ha:a=4294967296*(a/4294967296)+a % 4294967296:=by omega
 have hb:b=4294967296*(b/4294967296)+b % 4294967296:=by omega
 generalize a/4294967296=a1 at*;generalize b/4294967296=b1 at*;generalize a % 4294967296=a0 at*;generalize b % 4294967296=b0 at*;subst ha hb;have e1:4294967296*a1*(4294967296*b1)=18446744073709551616*(a1*b1):=by rw[FV5,FV7 a1,← FV5];rfl
 have e2:4294967296*a1*b0=4294967296*(a1*b0):=FV5 _ _ _;have e3:a0*(4294967296*b1)=4294967296*(a0*b1):=FV7 _ _ _;rw[FV9,Int.mul_add,Int.mul_add,e1,e2,e3];omega
theorem EU4 (a b:Int)(ha:0≤a∧a≤18446744073709551615)(hb:0≤b∧b≤18446744073709551615):
  let a1:=a/4294967296;let b1:=b/4294967296
  let a0:=bits .and .u64 a 4294967295;let b0:=bits .and .u64 b 4294967295
  let p:=IntKind.u64.wrap (a0*b0)
  let m:=IntKind.u64.wrap (IntKind.u64.wrap (a1*b0)+p/4294967296)
  let n:=IntKind.u64.wrap (IntKind.u64.wrap (a0*b1)+bits .and .u64 m 4294967295)
  IntKind.u64.wrap (IntKind.u64.wrap (IntKind.u64.wrap (a1*b1)+m/4294967296)+n/4294967296)=a*b/18446744073709551616∧
  bits .or .u64 (IntKind.u64.wrap (n*4294967296)) (bits .and .u64 p 4294967295)=a*b % 18446744073709551616:=by
 intro a1 b1 a0 b0 p m n;have hw:∀n:Int,IntKind.u64.wrap n=n % 18446744073709551616:=fun n=>by simp[IntKind.wrap,IntKind.bits,FX1]
 have ha0:a0=a % 4294967296:=Az5 a ha.1 ha.2;have hb0:b0=b % 4294967296:=Az5 b hb.1 hb.2;have hab:=EU3 a b;have k1:=Az6 (x:=a1) (y:=b1) (by omega) (by omega) (by omega) (by omega)
 have k2:=Az6 (x:=a1) (y:=b0) (by omega) (by omega) (by omega) (by omega)
 have k3:=Az6 (x:=a0) (y:=b1) (by omega) (by omega) (by omega) (by omega)
 have k4:=Az6 (x:=a0) (y:=b0) (by omega) (by omega) (by omega) (by omega)
 rw[← ha0,← hb0] at hab;change a*b=a1*b1*_+(a1*b0+a0*b1)*_+a0*b0 at hab;have hp:p=a0*b0:=by show IntKind.u64.wrap _=_;rw[hw];omega
 have hm:m=a1*b0+p/4294967296:=by show IntKind.u64.wrap (IntKind.u64.wrap _+_)=_;rw[hw,hw];omega
 have hma:bits .and .u64 m 4294967295=m % 4294967296:=Az5 m (by omega) (by omega)
 have hn:n=a0*b1+m % 4294967296:=by show IntKind.u64.wrap (IntKind.u64.wrap _+bits .and .u64 m _)=_;rw[hma,hw,hw];omega
 have hpa:bits .and .u64 p 4294967295=p % 4294967296:=Az5 p (by omega) (by omega)
 clear_value p m n a0 b0
 generalize a1*b1=X at*;generalize a1*b0=Y at*;generalize a0*b1=Z at*;generalize a0*b0=T at*;generalize a*b=Q at*;constructor
 ·rw[hw,hw,hw];omega
 ·rw[hpa,hw,Ag0 _ _ 32 (by omega) (by omega) (by omega) (by omega) (by omega) (by omega)]
  omega
end Go.Proofs.YthfjpkdadjemcaaGreat
