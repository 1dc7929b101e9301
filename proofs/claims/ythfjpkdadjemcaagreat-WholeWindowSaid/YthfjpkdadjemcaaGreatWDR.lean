/- What the readings of the packages num and wide say, in plain numbers. -/
import Derived.Test.YthfjpkdadjemcaaGreatFnsF3
import Derived.Test.YthfjpkdadjemcaaGreatPlain
import Derived.Test.YthfjpkdadjemcaaGreatLoopF
import Derived.Test.YthfjpkdadjemcaaGreatTrM
set_option linter.unusedSimpArgs false
set_option linter.unusedVariables false
namespace Go.Proofs.YthfjpkdadjemcaaGreat
open _root_.Option renaming bind_some → Fm6
open Go.IntKind renaming wrap_i64 → Fm7
open _root_.Int renaming emod_nonneg → Fm8, emod_lt_of_pos → Fm9, ediv_eq_zero_of_lt → Fn0, emod_add_ediv_mul → Fn1, ediv_nonneg → Fn2, emod_eq_of_lt → Fn3, add_mul → Fn4, ediv_lt_iff_lt_mul → Fn5, ediv_le_self → Fn7, add_mul_emod_self_left → Fn9, toNat_natCast → Fo1, ediv_ediv_of_nonneg → Fo2, add_mul_ediv_right → Fo4, le_ediv_iff_mul_le → Fo5, add_mul_ediv_left → Fo6, le_of_lt → Fo7, pow_zero → Fo8, neg_mul → Fo9
open _root_.Bool renaming and_eq_true → Fn6, false_eq_true → Fn8, and_self → Fo0, or_eq_true → Fo3
theorem Ah2 (k:IntKind)(op:BinOp)(x y:Int)(h:op = .and∨op = .or∨op = .xor):bits k op x y=Go.bits op k x y:=by
 rcases h with rfl | rfl | rfl <;> rfl
theorem fdiv_pow (x:Int)(n:Nat):x.fdiv (2 ^ n)=x/2 ^ n:=Int.fdiv_eq_ediv_of_nonneg x (Fo7 (p9 n))
theorem AP7 {ρ:Type}{c:Bool}{k:Option ρ}(h:c=true):chk none c k=k:=by subst h;rfl
theorem BU8 (a:Int)(ha:I64 a):Z4 a=some (if a<0 then -a else a):=by
 obtain⟨h1,h2⟩:=ha;unfold Z4;simp only[cond_eq_ite,decide_eq_true_eq,U3,Fm7]
 repeat' split
 all_goals first | (exfalso;omega) | (congr 1;omega)
theorem Ei8 (k:IntKind)(a b:Int):eqT (.int k) a b=decide (a=b):=rfl
theorem Ei9 (a b:Ty)(x y:(Ty.pair a b).den):eqT (.pair a b) x y=(eqT a x.1 y.1&&eqT b x.2 y.2):=rfl
theorem Ej0 (a:Ty)(x y:(Ty.agg a).den):eqT (.agg a) x y=eqT a x y:=rfl
theorem Ej1 (a b:Int)(ha:U64 a)(hb:U64 b):AH7 a b=some (hiU (a*b),loU (a*b)):=by obtain⟨h1,h2⟩:=EU4 a b ha hb;have e:(2:Int) ^ 32=4294967296:=rfl;unfold AH7;simp only[Ah2 _ _ _ _ (.inl rfl),Ah2 _ _ _ _ (.inr (.inl rfl)),fdiv_pow];simp only[e,hiU,loU];exact congrArg some (Prod.ext h1 h2)
theorem CP3 (xh xl yh yl:Int)(h1:U64 xh)(h2:U64 xl)(h3:U64 yh)(h4:U64 yl):Z5 (xh,xl) (yh,yl)=some (K1 (vU xh xl) (vU yh yl)):=by
 obtain⟨h11,h12⟩:=h1;obtain⟨h21,h22⟩:=h2;obtain⟨h31,h32⟩:=h3;obtain⟨h41,h42⟩:=h4;unfold Z5 K1 vU;simp only[Ej0,Ei9,Ei8,cond_eq_ite,Fo3,Fn6,beq_iff_eq,decide_eq_true_eq,Bool.ite_eq_true_distrib,Bool.true_eq_false,Fn8,if_true_left,if_false_right,if_true,if_false]
 repeat' split
 all_goals first | rfl | (exfalso;omega)
theorem Ej2 (xh xl yh yl:Int)(h1:U64 xh)(h2:U64 xl)(h3:U64 yh)(h4:U64 yl):AL8 (xh,xl) (yh,yl)=
  some ((hiU ((vU xh xl+vU yh yl) % 340282366920938463463374607431768211456),loU ((vU xh xl+vU yh yl) % 340282366920938463463374607431768211456)),decide (340282366920938463463374607431768211456≤vU xh xl+vU yh yl)):=by
 obtain⟨h11,h12⟩:=h1;obtain⟨h21,h22⟩:=h2;obtain⟨h31,h32⟩:=h3;obtain⟨h41,h42⟩:=h4;unfold AL8;simp only[Bool.cond_true_left,Bool.cond_false_right,U3,cond_eq_ite,Fm6,decide_eq_true_eq,hiU,loU]
 repeat' split
 all_goals
  simp only[Option.some.injEq,Prod.mk.injEq,Fm6];refine⟨⟨?_,?_⟩,?_⟩
  all_goals first | (unfold vU;omega) | (rw[Bool.eq_iff_iff];simp only[decide_eq_true_eq,Fo3,Fn6,beq_iff_eq,true_iff];unfold vU;omega)
theorem Ej3 (xh xl yh yl:Int)(h1:U64 xh)(h2:U64 xl)(h3:U64 yh)(h4:U64 yl):AL7 (xh,xl) (yh,yl)=
  some ((hiU ((vU xh xl-vU yh yl) % 340282366920938463463374607431768211456),loU ((vU xh xl-vU yh yl) % 340282366920938463463374607431768211456)),decide (vU xh xl<vU yh yl)):=by
 have hc:=CP3 xh xl yh yl h1 h2 h3 h4;obtain⟨h11,h12⟩:=h1;obtain⟨h21,h22⟩:=h2;obtain⟨h31,h32⟩:=h3;obtain⟨h41,h42⟩:=h4;unfold AL7;simp only[hc,U3,cond_eq_ite,Fm6,decide_eq_true_eq,BR4];simp only[hiU,loU,vU]
 repeat' split
 all_goals
  simp only[Option.some.injEq,Prod.mk.injEq,Fm6];refine⟨⟨?_,?_⟩,?_⟩
  all_goals first | omega | trivial
theorem Ej4 (h l n:Int)(hh:U64 h)(hl:U64 l)(hn:I64 n):AT4 (h,l) n=some (hiU (vU h l/2 ^ n.toNat),loU (vU h l/2 ^ n.toNat)):=by
 obtain⟨h5,h6⟩:=hn;unfold AT4;simp only[cond_eq_ite,decide_eq_true_eq,Fm6];split
 ·rw[show n.toNat=0 by omega,Fo8,Int.ediv_one,CG7 hl,CG8 hl]
 ·have hw:IntKind.u64.wrap n=n:=by rw[U3];omega
  split
  ·have hw2:IntKind.u64.wrap (IntKind.i64.wrap (n-64))=n-64:=by rw[U3,Fm7];omega
   simp only[hw2,fdiv_pow];rw[AP7 (by simp;omega),show min (n-64).toNat 64=min (n.toNat-64) 64 by omega,(CH2 h l n.toNat (by omega) hh hl).1,(CH2 h l n.toNat (by omega) hh hl).2]
  ·have hw2:IntKind.u64.wrap (IntKind.i64.wrap (64-n))=64-n:=by rw[U3,Fm7];omega
   simp only[hw2,hw,fdiv_pow,Ah2 _ _ _ _ (.inr (.inl rfl))];rw[AP7 (by simp;omega),AP7 (by simp;omega),AP7 (by simp;omega),show min (64-n).toNat 64=64-n.toNat by omega,show min n.toNat 64=n.toNat by omega,ET9 h l n.toNat (by omega) (by omega) hh hl,EU0 h l n.toNat (by omega) hl]
theorem Ej5 (h l n:Int)(hh:U64 h)(hl:U64 l)(hn:I64 n):AH8 (h,l) n=some (hiU (vU h l*2 ^ n.toNat % 340282366920938463463374607431768211456),loU (vU h l*2 ^ n.toNat % 340282366920938463463374607431768211456)):=by
 obtain⟨h5,h6⟩:=hn;have h128:=CG9 hh hl;unfold AH8;simp only[cond_eq_ite,decide_eq_true_eq,Fm6];split
 ·rw[show n.toNat=0 by omega,Fo8,Int.mul_one,Fn3 h128.1 (by have:=h128.2;omega),CG7 hl,CG8 hl]
 ·have hw:IntKind.u64.wrap n=n:=by rw[U3];omega
  split
  ·have hw2:IntKind.u64.wrap (IntKind.i64.wrap (n-64))=n-64:=by rw[U3,Fm7];omega
   simp only[hw2];rw[AP7 (by simp;omega),show min (n-64).toNat 64=min (n.toNat-64) 64 by omega,(CH1 h l n.toNat (by omega)).1,(CH1 h l n.toNat (by omega)).2]
  ·have hw2:IntKind.u64.wrap (IntKind.i64.wrap (64-n))=64-n:=by rw[U3,Fm7];omega
   simp only[hw2,hw,fdiv_pow,Ah2 _ _ _ _ (.inr (.inl rfl))];rw[AP7 (by simp;omega),AP7 (by simp;omega),AP7 (by simp;omega),show min (64-n).toNat 64=64-n.toNat by omega,show min n.toNat 64=n.toNat by omega,EU1 h l n.toNat (by omega) (by omega) hh hl,EU2 h l n.toNat]

/- The division of the reading. -/
theorem Ej6 (q:Int):Go.bits .or .u64 (loU (2*q)) 1=loU (2*q+1):=by
 rw[Ag0 (loU (2*q)) 1 1 (AF2 _).1 (AF2 _).2 (by unfold loU;omega) (by omega) (by omega) (by omega)]
 unfold loU;omega
theorem Ej7 (x:Int)(h:U64 x):Go.bits .and .u64 x 1=x % 2:=by
 rw[u64_and x 1 h.1 (by have:=h.2;omega) (by omega) (by omega)]
 show ((x.toNat &&& 1:Nat):Int)=_;rw[nat_mask1];have:=h.1;omega
theorem Ej8 (r b:Int)(hb:b=0∨b=1):Go.bits .or .u64 (loU (2*r)) b=loU (2*r+b):=by
 rw[Ag0 (loU (2*r)) b 1 (AF2 _).1 (AF2 _).2 (by unfold loU;omega) (by omega) (by omega) (by omega)]
 unfold loU;omega
theorem Ej9 (r b:Int)(hb:b=0∨b=1):hiU (2*r)=hiU (2*r+b):=by unfold hiU;omega
theorem Ek0 (X d:Int)(k:Nat)(hd:0<d):
  (2*(X/2 ^ (k+1) % d)+X/2 ^ k % 2<d→X/2 ^ k % d=2*(X/2 ^ (k+1) % d)+X/2 ^ k % 2∧X/2 ^ k/d=2*(X/2 ^ (k+1)/d))∧
  (d≤2*(X/2 ^ (k+1) % d)+X/2 ^ k % 2→X/2 ^ k % d=2*(X/2 ^ (k+1) % d)+X/2 ^ k % 2-d∧X/2 ^ k/d=2*(X/2 ^ (k+1)/d)+1):=by
 have e:X/2 ^ (k+1)=X/2 ^ k/2:=by rw[Int.pow_succ,Fo2 (Fo7 (p9 k))]
 rw[e];generalize X/2 ^ k=Y;have h1:=Fn1 (Y/2) d;have h2:=Fm8 (Y/2) (show d≠0 by omega)
 have h3:=Fm9 (Y/2) hd;have hY:Y=2*(Y/2)+Y % 2:=by omega
 generalize Y/2 % d=r at*;generalize hq:Y/2/d=q at*;have hb:Y % 2=0∨Y % 2=1:=by omega
 have hYq:Y=(2*r+Y % 2)+d*(2*q):=by
  have:d*(2*q)=2*(q*d):=by rw[Int.mul_left_comm,Int.mul_comm d q]
  omega
 constructor
 ·intro h
  constructor
  ·conv=>lhs;rw[hYq]
   rw[Fn9,Fn3 (by omega) h]
  ·conv=>lhs;rw[hYq]
   rw[Fo6 _ _ (by omega),Fn0 (by omega) h];omega
 ·intro h
  have hYq':Y=(2*r+Y % 2-d)+d*(2*q+1):=by rw[Int.mul_add];omega
  constructor
  ·conv=>lhs;rw[hYq']
   rw[Fn9,Fn3 (by omega) (by omega)]
  ·conv=>lhs;rw[hYq']
   rw[Fo6 _ _ (by omega),Fn0 (by omega) (by omega)];omega
theorem Ek1 (X d:Int)(j:Nat)(hX:AP4 X)(hd:0<d):0≤X/2 ^ (j+1)/d∧X/2 ^ (j+1)/d≤170141183460469231731687303715884105727:=by
 obtain⟨h1,h2⟩:=hX;have hp:=p9 j;have h3:0≤X/2 ^ (j+1):=Fn2 h1 (Fo7 (p9 (j+1)));have h4:X/2 ^ (j+1)=X/2/2 ^ j:=by rw[Int.pow_succ,Int.mul_comm,← Fo2 (by omega)]
 have h5:X/2/2 ^ j≤X/2:=Fn7 _ (by omega)
 have h6:X/2 ^ (j+1)/d≤X/2 ^ (j+1):=Fn7 _ h3;exact⟨Fn2 h3 (by omega),by omega⟩
theorem Ek2 (X:Int)(j:Nat)(hX:AP4 X):AP4 (X/2 ^ j):=by obtain⟨h1,h2⟩:=hX;have hp:=p9 j;have:=Fn7 (2 ^ j) h1;exact⟨Fn2 h1 (by omega),by omega⟩

theorem CP4 (r:Int)(h:0≤r∧r≤170141183460469231731687303715884105727):AH8 (hiU r,loU r) 1=some (hiU (2*r),loU (2*r)):=by
 have hc:=Ej5 (hiU r) (loU r) 1 (Ao5 ⟨h.1,by omega⟩) (AF2 r) ⟨by omega,by omega⟩
 rw[Ao4,show r*2 ^ (1:Int).toNat % 340282366920938463463374607431768211456=2*r by
  rw[show (2:Int) ^ (1:Int).toNat=2 from rfl];omega] at hc
 exact hc
theorem CP5 (r d:Int)(h:AP4 r)(hd:U64 d):Z5 (hiU r,loU r) (0,d)=some (K1 r d):=by
 have hc:=CP3 (hiU r) (loU r) 0 d (Ao5 h) (AF2 r) ⟨by omega,by omega⟩ hd
 rw[Ao4,show vU 0 d=d by unfold vU;omega] at hc
 exact hc
theorem Ek3 (r d:Int)(h:AP4 r)(hd:U64 d)(hdr:d≤r):AL7 (hiU r,loU r) (0,d)=some ((hiU (r-d),loU (r-d)),false):=by
 have hc:=Ej3 (hiU r) (loU r) 0 d (Ao5 h) (AF2 r) ⟨by omega,by omega⟩ hd
 have h1:=h.1;have h2:=h.2;have h3:=hd.1;rw[Ao4,show vU 0 d=d by unfold vU;omega,show (r-d) % 340282366920938463463374607431768211456=r-d by omega,show decide (r<d)=false by simp;omega] at hc
 exact hc
theorem Ek4 (h l d:Int)(hh:U64 h)(hl:U64 l)(hd:U64 d)(hd0:0<d):AD8 (h,l) d=some ((hiU (vU h l/d),loU (vU h l/d)),vU h l % d,0):=by
 have hX:=CG9 hh hl;obtain⟨hd1,hd2⟩:=hd;have hne:(d==0)=false:=by simp;omega
 unfold AD8;simp only[hne,cond_false];refine EM1
  (fun s=>∃k:Nat,k≤128∧s=(hiU (vU h l/2 ^ k % d),loU (vU h l/2 ^ k/d),hiU (vU h l/2 ^ k/d),loU (vU h l/2 ^ k % d),(k:Int)-1))
  (fun s=>(s.2.2.2.2+1).toNat) (fun x=>x=(hiU (vU h l % d),loU (vU h l/d),hiU (vU h l/d),loU (vU h l % d))) ⟨128,by omega,?_⟩ ?_ ?_
 ·have h0:vU h l/2 ^ 128=0:=Fn0 hX.1 (by have:=hX.2;rw[show (2:Int) ^ 128=340282366920938463463374607431768211456 from rfl];omega)
  rw[h0,Int.zero_emod,Int.zero_ediv];rfl
 ·rintro s ⟨k,hk,rfl⟩
  cases k with
  |zero=>
   left
   refine⟨_,?_,rfl⟩;rw[show decide ((0:Int)≤((0:Nat):Int)-1)=false from rfl,cond_false,Fo8,Int.ediv_one]
  |succ j=>
   right
   have hq:=Ek1 (vU h l) d j hX hd0;have hr1:=Fm8 (vU h l/2 ^ (j+1)) (show d≠0 by omega)
   have hr2:=Fm9 (vU h l/2 ^ (j+1)) hd0;have hst:=Ek0 (vU h l) d j hd0;have hy:=Ek2 (vU h l) j hX;rw[show (((j+1:Nat):Int)-1)=(j:Int) by omega]
   simp only[];rw[show decide ((0:Int)≤(j:Int))=true by simp,cond_true,CP4 _ ⟨hr1,by omega⟩,Fm6,Ej4 h l j hh hl ⟨by omega,by omega⟩,Fm6,CP4 _ ⟨hq.1,hq.2⟩,Fm6,Fo1]
   simp only[Ah2 _ _ _ _ (.inl rfl),Ah2 _ _ _ _ (.inr (.inl rfl))];rw[Ej7 _ (AF2 _)];generalize vU h l/2 ^ (j+1) % d=R at*;generalize vU h l/2 ^ (j+1)/d=Q at*;generalize hY:vU h l/2 ^ j=Y at*;have hb:loU Y % 2=Y % 2:=by unfold loU;omega
   rw[hb];have hb01:Y % 2=0∨Y % 2=1:=by omega
   rw[Ej8 R (Y % 2) hb01,Ej9 R (Y % 2) hb01];rw[CP5 _ d ⟨by omega,by omega⟩ ⟨hd1,hd2⟩,Fm6]
   have hw:IntKind.i64.wrap ((j:Int)-1)=(j:Int)-1:=by rw[Fm7];omega
   rw[hw];by_cases hlt:2*R+Y % 2<d
   ·obtain⟨e1,e2⟩:=hst.1 hlt
    rw[ET7 hlt];refine⟨_,rfl,⟨j,by omega,?_⟩,?_⟩
    ·rw[hY,e1,e2]
    ·simp only[];omega
   ·obtain⟨e1,e2⟩:=hst.2 (by omega)
    have hc:decide (0≤K1 (2*R+Y % 2) d)=true:=by have:=BR4 (2*R+Y % 2) d;simp;omega
    rw[hc,cond_true,Ek3 _ d ⟨by omega,by omega⟩ ⟨hd1,hd2⟩ (by omega),Ej6]
    refine⟨_,rfl,⟨j,by omega,?_⟩,?_⟩
    ·rw[hY,e1,e2]
     have:hiU (2*Q)=hiU (2*Q+1):=by unfold hiU;omega
     simp only[this]
    ·simp only[];omega
 ·rintro x rfl
  have hr1:=Fm8 (vU h l) (show d≠0 by omega)
  have hr2:=Fm9 (vU h l) hd0;have:loU (vU h l % d)=vU h l % d:=by unfold loU;omega
  simp only[this]

/- What the reading of the package ratio says. -/
def szI (a:Int):Int:=if a<0 then -a else a
theorem BU9 {a:Int}(h:I64 a):0≤szI a∧szI a≤9223372036854775808:=by obtain⟨h1,h2⟩:=h;unfold szI;split <;> omega
theorem Ek5 (a b:Int):szI a*szI b=if (decide (a<0)==decide (b<0))=true then a*b else -(a*b):=by unfold szI;by_cases h1:a<0 <;> by_cases h2:b<0 <;> simp[h1,h2,Fo9,Int.mul_neg]
def Aq3 (n:Int):Int×Int:=if Ao3 n=true then (n,0) else (0,20)
theorem Aq4 (X:Int)(hX:AP4 X)(below:Bool):AT5 (hiU X,loU X) below=some (Aq3 (if below=true then -X else X)):=by
 obtain⟨h1,h2⟩:=hX;have hc:∀t:Int,U64 t→Z5 (hiU X,loU X) (0,t)=some (K1 X t):=fun t ht=>CP5 X t ⟨h1,h2⟩ ht
 unfold AT5 Aq3;cases below with
 |true=>
  have e:IntKind.u64.wrap (9223372036854775807+1)=9223372036854775808:=rfl;simp only[cond_true,Fm6,e,if_true];rw[hc _ ⟨by omega,by omega⟩,Fm6]
  by_cases h:9223372036854775808<X
  ·rw[BR3 h,CG5 (by omega)]
   rfl
  ·have hn:decide (0<K1 X 9223372036854775808)=false:=by
    have:=CG6 X 9223372036854775808;simp;omega
   rw[hn,cond_false,BR2 (by omega),if_pos rfl,U3,Fm7]
   have:loU X=X:=by unfold loU;omega
   rw[this];congr 2;omega
 |false=>
  simp only[cond_false,Fm6,Fn8,if_false];rw[hc _ ⟨by omega,by omega⟩,Fm6]
  by_cases h:9223372036854775807<X
  ·rw[BR3 h,CG5 (by omega)]
   rfl
  ·have hn:decide (0<K1 X 9223372036854775807)=false:=by
    have:=CG6 X 9223372036854775807;simp;omega
   rw[hn,cond_false,BR2 (by omega),if_pos rfl,Fm7]
   have:loU X=X:=by unfold loU;omega
   rw[this];congr 2;omega
def AY4 (n c:Int)(up:Bool):Int:=
 let m:=if c<0 then -n else n
 if up=true then -((-m)/szI c) else m/szI c
theorem CP6 (X D:Int)(hD:0<D):(-X)/D=if 0<X % D then -(X/D+1) else -(X/D):=by
 have h1:=Fn1 X D;have h2:=Fm8 X (show D≠0 by omega)
 have h3:=Fm9 X hD;split
 ·rename_i h
  have e : -X=(D-X % D)+(-(X/D+1))*D:=by rw[Fo9,Fn4];omega
  rw[e,Fo4 _ _ (by omega),Fn0 (by omega) (by omega)]
  omega
 ·have e : -X=0+(-(X/D))*D:=by
   rw[Fo9];omega
  rw[e,Fo4 _ _ (by omega)]
  simp
theorem Ek6 (a b c:Int)(up:Bool)(ha:I64 a)(hb:I64 b)(hc:I64 c):AB1 a b c up=some (if c=0 then (0,21) else Aq3 (AY4 (a*b) c up)):=by
 unfold AB1;by_cases h0:c=0
 ·subst h0
  rfl
 ·have hne:(c==0)=false:=by simp;omega
  rw[hne,cond_false,if_neg h0];have hA:=BU9 ha;have hB:=BU9 hb;have hC:=BU9 hc;have hC0:0<szI c:=by unfold szI;split <;> omega
  have hm:0≤szI a*szI b:=Int.mul_nonneg hA.1 hB.1;have hm2:szI a*szI b≤9223372036854775808*9223372036854775808:=Int.mul_le_mul hA.2 hB.2 hB.1 (by omega)
  have hsz:=Ek5 a b;have e1:Z4 a=some (szI a):=BU8 a ha;have e2:Z4 b=some (szI b):=BU8 b hb;have e3:Z4 c=some (szI c):=BU8 c hc;simp only[e1,e2,e3,Fm6];rw[Ej1 _ _ ⟨hA.1,by omega⟩ ⟨hB.1,by omega⟩,Fm6]
  have hD:=Ek4 (hiU (szI a*szI b)) (loU (szI a*szI b)) (szI c) (Ao5 ⟨hm,by omega⟩) (AF2 _) ⟨hC.1,by omega⟩ hC0
  rw[Ao4] at hD;rw[hD,Fm6];simp only[];generalize hX:szI a*szI b=X at*;generalize hE:szI c=D at*;have hq0:=Fn2 hm (show 0≤D by omega)
  have hq1:=Fn7 D hm;have hr1:=Fm8 X (show D≠0 by omega)
  have hsign:AY4 (a*b) c up=if (!((!(decide (a<0)==decide (b<0)))==decide (c<0)))=true then (if up=true then -(X/D) else (-X)/D) else (if up=true then -((-X)/D) else X/D):=by
   unfold AY4;rw[hE];by_cases g1:(decide (a<0)==decide (b<0))=true <;> by_cases g2:c<0
   ·rw[if_pos g1] at hsz;rw[← hsz];simp[g1,g2]
   ·rw[if_pos g1] at hsz;rw[← hsz];simp[g1,g2]
   ·have g1':(decide (a<0)==decide (b<0))=false:=by simpa using g1
    rw[if_neg g1] at hsz;have:a*b = -X:=by omega
    rw[this];simp[g1',g2]
   ·have g1':(decide (a<0)==decide (b<0))=false:=by simpa using g1
    rw[if_neg g1] at hsz;have:a*b = -X:=by omega
    rw[this];simp[g1',g2]
  rw[hsign];generalize (!((!(decide (a<0)==decide (b<0)))==decide (c<0)))=below;have hneg:=CP6 X D hC0;have hadd:AL8 (hiU (X/D),loU (X/D)) (0,1)=some ((hiU (X/D+1),loU (X/D+1)),false):=by
   rw[Ej2 _ _ 0 1 (Ao5 ⟨hq0,by omega⟩) (AF2 _) ⟨by omega,by omega⟩ ⟨by omega,by omega⟩,Ao4,show vU 0 1=1 from rfl,Fn3 (by omega) (by omega)]
   congr 2;simp;omega
  by_cases hr:0<X % D
  ·rw[if_pos hr] at hneg
   simp only[hr,decide_true,cond_true];cases up <;> cases below <;> simp only[Bool.not_true,Bool.not_false,beq_self_eq_true,cond_true,cond_false,Fm6,hadd,if_true,if_false,Fn8,
    show (true==false)=false from rfl,show (false==true)=false from rfl]
   ·rw[Aq4 _ ⟨hq0,by omega⟩];rfl
   ·rw[Aq4 _ ⟨by omega,by omega⟩,hneg];rfl
   ·rw[Aq4 _ ⟨by omega,by omega⟩,hneg];simp
   ·rw[Aq4 _ ⟨hq0,by omega⟩];rfl
  ·rw[if_neg hr] at hneg
   have hr':decide (0<X % D)=false:=by simpa using hr
   simp only[hr',cond_false,Fm6];rw[Aq4 _ ⟨hq0,by omega⟩]
   simp only[Fm6];have e:(if below=true then (if up=true then -(X/D) else (-X)/D) else (if up=true then -((-X)/D) else X/D))=if below=true then -(X/D) else X/D:=by cases up <;> cases below <;> simp[hneg]
   rw[e]
theorem Ek7 (a b c:Int)(ha:I64 a)(hb:I64 b)(hc:I64 c):Z6 a b c=some (if c=0 then (0,21) else Aq3 (AY4 (a*b) c true)):=by unfold Z6;rw[Ek6 a b c true ha hb hc];rfl

/- May a configuration be, and does a track fit it: the program says what the document says. -/
open Go.RowKit
theorem Ek8 {n c:Int}(hc:0<c):AY4 n c true=if n-n/c*c=0 then n/c else n/c+1:=by
 have e:szI c=c:=by unfold szI;rw[if_neg (by omega)]
 unfold AY4;simp only[if_neg (show ¬c<0 by omega),e,if_true]
 rw[CP6 n c hc];have h1:=Fn1 n c;have h2:=Fm8 n (show c≠0 by omega)
 split <;> split <;> omega
theorem Ek9 {a b:Int}(hb:0<b):AY4 a b true=upP a b:=by
 rw[Ek8 hb];unfold upP;have h1:=Fn1 a b;have h2:=Fm8 a (show b≠0 by omega)
 have h3:=Fm9 a hb;generalize a % b=r at*;generalize a/b=q at*;subst h1;split
 ·have hr:r=0:=by omega
  subst hr;apply Int.le_antisymm
  ·rw[Fo5 hb];omega
  ·have:(0+q*b+b-1)/b<q+1:=by
    rw[Fn5 hb,Fn4];omega
   omega
 ·apply Int.le_antisymm
  ·rw[Fo5 hb,Fn4];omega
  ·have:(r+q*b+b-1)/b<q+1+1:=by
    rw[Fn5 hb,Fn4,Fn4];omega
   omega
theorem El0 {a b:Int}(ha:0≤a)(hb:0<b):0≤upP a b∧upP a b≤a:=by
 unfold upP;have h0:0≤a+b-1:=by omega
 refine⟨Fn2 h0 (by omega),?_⟩
 have:(a+b-1)/b<a+1:=by
  rw[Fn5 hb,Fn4];have:=Int.mul_le_mul_of_nonneg_left (show 1≤b by omega) ha
  omega
 omega
theorem El1 (c:Cf)(h1:0<c.1)(h2:c.1≤1024)(h3:0≤c.2.2.1)(h4:c.2.2.1≤8388608):AD9 c=some (upP c.2.2.1 c.1):=by
 unfold AD9;have:=El0 h3 h1;rw[Ek7 _ _ _ ⟨by omega,by omega⟩ ⟨by omega,by omega⟩ ⟨by omega,by omega⟩,if_neg (by omega),Fm6,Ek9 h1,Int.mul_one]
 unfold Aq3;rw[if_pos (BR2 (by omega))]
theorem W1 {x lo hi:Int}(h:lo≤x∧x≤hi):M6 x lo hi=some true:=by unfold M6;rw[decide_eq_true h.1,decide_eq_true h.2];rfl
theorem El2 (c:Cf)(h:r6 c=0):AI0 c=some (0,0):=by
 obtain⟨p,lo,hi,rb,rp,ae,ms,ma,an,st,ss,ro,ti,br⟩:=c;have R:=Az7.1 h;have h1:=R.hp;have h2:=R.hlo;have h3:=R.hhi;have h4:=R.EV6;have h5:=R.hrb;have h6:=R.hms;have h7:=R.hss;have w1:=W1 R.hp;have w2:=W1 R.hlo;have w3:=W1 R.hhi;have w4:=W1 R.hrb;have w5:=W1 R.hrp;have w6:=W1 R.hae;have w7:=W1 R.hms;have w8:=W1 R.hma;have w9:=W1 R.han
 have w10:=W1 R.hst;have w11:=W1 R.hti;have w12:=W1 R.hro;have w13:=W1 R.hbr;have hw3:IntKind.i64.wrap (3*rb)=3*rb:=A5 (by omega)
 have wss:M6 ss (if IntKind.i64.wrap (3*rb)>upP hi p then IntKind.i64.wrap (3*rb) else upP hi p) 16777216=some true:=W1 (by
  rw[hw3];split <;> omega)
 have e1:decide (IntKind.i64.wrap (16*IntKind.i64.wrap (hi-lo))≤lo)=true:=by
  rw[A5 (n:=hi-lo) (by omega),A5 (n:=16*(hi-lo)) (by omega),decide_eq_true_eq]
  omega
 have hm:ms*p≤16777216*1024:=Int.mul_le_mul h6.2 h1.2 (by omega) (by omega)
 have hm0:0≤ms*p:=Int.mul_nonneg (by omega) (by omega)
 have hf:=R.EV7;have e2:decide (IntKind.i64.wrap (ms*p)≤IntKind.i64.wrap (32000*lo))=true:=by
  generalize ms*p=u at hm hm0 hf;rw[A5 (n:=u) (by omega),A5 (n:=32000*lo) (by omega),decide_eq_true_eq]
  exact hf
 have e3:=El1 (p,lo,hi,rb,rp,ae,ms,ma,an,st,ss,ro,ti,br) (show 0<p by omega) h1.2 (show 0≤hi by omega) h3.2
 unfold AI0 Ac5 Ac6 Ac7 Ac8 Ac9 Ad0 Ad1 Ad2 Ad3 Ad4 AH9 Ad5 Ad6;simp only[Fm6,w1,w2,w3,w4,w5,w6,w7,w8,w9,w10,w11,w12,w13,wss,e1,e2,e3,cond_true,cond_false,Bool.not_true]
def AY5 (c:Cf)(t:Tk)(i:Nat):Bool:=
 decide ((t.2.getD i gp0).2.2.1<(t.2.getD i gp0).2.2.2.1+c.2.2.2.2.2.2.2.2.1+c.2.2.2.2.2.2.1)||decide ((t.1.getD (t.2.getD i gp0).2.1.toNat sg0).1-(t.2.getD i gp0).2.2.1<(t.2.getD i gp0).2.2.2.1+c.2.2.2.2.2.2.2.2.1+c.2.2.2.2.2.2.1)
def AJ7 (c:Cf)(t:Tk):Int×Int:=if r6 c≠0 then (50,0) else if (G7 t).1≠0 then (51,0) else
 match (List.range t.2.length).findSome? fun i=>bif !AY5 c t i then none else some i with
 |some i=>(11,(i:Int))
 |none=>(0,0)
theorem CP7 {t:Tk}{i:Nat}(h1:t.1.length≤200)(h4:∀i,i<t.1.length→L6 t.1.length (t.1.getD i sg0)=true)(h5:K5 t i (t.2.getD i gp0)=true):
  0≤(t.2.getD i gp0).2.1∧(t.2.getD i gp0).2.1<t.1.length∧0≤(t.2.getD i gp0).2.2.1∧(t.2.getD i gp0).2.2.1≤(t.1.getD (t.2.getD i gp0).2.1.toNat sg0).1∧(t.1.getD (t.2.getD i gp0).2.1.toNat sg0).1≤1099511627776∧
   0≤(t.2.getD i gp0).2.2.2.1∧(t.2.getD i gp0).2.2.2.1≤1048576∧0≤(t.2.getD i gp0).2.2.2.2∧(t.2.getD i gp0).2.2.2.2≤16777216∧1≤(t.2.getD i gp0).1∧(t.2.getD i gp0).1≤65535:=by
 unfold K5 at h5;simp only[Fn6,Fo3,decide_eq_true_eq] at h5;have hs:=h4 (t.2.getD i gp0).2.1.toNat (by omega)
 unfold L6 at hs;simp only[Fn6,decide_eq_true_eq] at hs;omega
theorem CP8 {t:Tk}(h:(G7 t).1=0):1≤t.1.length∧t.1.length≤200∧t.2.length≤400∧(∀i,i<t.1.length→L6 t.1.length (t.1.getD i sg0)=true)∧∀i,i<t.2.length→K5 t i (t.2.getD i gp0)=true:=by
 unfold G7 at h;by_cases h1:t.1.length=0∨200<t.1.length∨400<t.2.length
 ·rw[if_pos h1] at h;exact absurd h (by decide)
 ·rw[if_neg h1] at h
  cases h2:O6 (fun i=>L6 t.1.length (t.1.getD i sg0)) t.1.length with
  |some i=>rw [h2] at h;have h':(11:Int)=0:=h;omega
  |none=>
   rw[h2] at h;cases h3:O6 (fun i=>K5 t i (t.2.getD i gp0)) t.2.length with
   |some i=>rw [h3] at h;have h':(16:Int)=0:=h;omega
   |none=>exact ⟨by omega,by omega,by omega,Az9.1 h2,Az9.1 h3⟩
theorem El3 (c:Cf)(t:Tk)(hs:t.1.length≤200→∀s∈t.1,s.2.1.length≤big∧s.2.2.length≤big)(hw:r6 c=0):Z7 c t=some (AJ7 c t):=by
 unfold Z7 AJ7;rw[El2 c hw,Fm6]
 ·have e0:(((0:Int),(0:Int)).1 != 0)=false:=rfl
  rw[e0,if_neg (by simp[hw]),BR8 t hs]
  simp only[cond_false,Fm6];by_cases hc:(G7 t).1=0
  ·obtain⟨k1,k2,k3,k4,k5⟩:=CP8 hc
   have e1:((G7 t).1 != 0)=false:=by simp[hc]
   rw[e1,if_neg (by simp[hc])]
   simp only[cond_false];rw[AJ1 t.2.length (fun i=>bif !AY5 c t i then none else some (.inl ((i:Int),11))) (.inr ())]
   ·rw[Ag4 (α:=Unit)]
    cases h6:O6 (fun i=> !AY5 c t i) t.2.length with
    |none=>unfold O6 at h6;rw[h6];rfl
    |some i=>unfold O6 at h6;rw[h6];rfl
   ·intro i hi
    rw[decide_eq_true (show (i:Int)<t.2.length by omega),decide_eq_true (show (0:Int)≤i by omega),Fo1,A5 (n:=(i:Int)+1) (by omega)]
    have hdef:t.2.getD i ((0:Int),((0:Int),((0:Int),((0:Int),(0:Int)))))=t.2.getD i gp0:=rfl;have hseg:∀s,t.1.getD s ((0:Int),([],[]))=t.1.getD s sg0:=fun _=>rfl
    rw[hdef,hseg];obtain⟨g1,g2,g3,g4,g5,g6,g7,g8,g9,_⟩:=CP7 k2 k4 (k5 i hi);obtain⟨p,lo,hi',rb,rp,ae,ms,ma,an,st,ss,ro,ti,br⟩:=c;have R:=Az7.1 hw;have ha:=R.han;have hm:=R.hms;unfold AY5 Ad7;simp only[cond_true,Fo0,C7];rw[decide_eq_true g1,decide_eq_true g2];generalize (t.2.getD i gp0)=g at*;generalize (t.1.getD g.2.1.toNat sg0).1=len at*;simp only[Fo0,C7]
    rw[A5 (n:=len-g.2.2.1) (by omega),A5 (n:=g.2.2.2.1+an) (by omega),A5 (n:=g.2.2.2.1+an+ms) (by omega),Fm6]
    cases decide (g.2.2.1<g.2.2.2.1+an+ms) <;> cases decide (len-g.2.2.1<g.2.2.2.1+an+ms) <;> rfl
   ·simp
  ·have e1:((G7 t).1 != 0)=true:=by simp[hc]
   rw[e1,if_pos hc];rfl
theorem El4 (c:Cf)(t:Tk)(hs:t.1.length≤200→∀s∈t.1,s.2.1.length≤big∧s.2.2.length≤big):AL2 c t=some (AJ7 c t):=by
 unfold AL2 AJ7;rw[EV4,Fm6];by_cases hw:r6 c=0
 ·have e0:(r6 c != 0)=false:=by simp[hw]
  rw[e0,if_neg (by simp[hw]),EW5 t hs]
  simp only[cond_false,Fm6];by_cases hc:(G7 t).1=0
  ·obtain⟨k1,k2,k3,k4,k5⟩:=CP8 hc
   have e1:((G7 t).1 != 0)=false:=by simp[hc]
   rw[e1,if_neg (by simp[hc])]
   simp only[cond_false];rw[AJ1 t.2.length (fun i=>bif !AY5 c t i then none else some (.inl ((i:Int),11))) (.inr ())]
   ·rw[Ag4 (α:=Unit)]
    cases h6:O6 (fun i=> !AY5 c t i) t.2.length with
    |none=>unfold O6 at h6;rw[h6];rfl
    |some i=>unfold O6 at h6;rw[h6];rfl
   ·intro i hi
    rw[decide_eq_true (show (i:Int)<t.2.length by omega),decide_eq_true (show (0:Int)≤i by omega),Fo1,A5 (n:=(i:Int)+1) (by omega)]
    have hdef:t.2.getD i ((0:Int),((0:Int),((0:Int),((0:Int),(0:Int)))))=t.2.getD i gp0:=rfl;have hseg:∀s,t.1.getD s ((0:Int),([],[]))=t.1.getD s sg0:=fun _=>rfl
    rw[hdef,hseg];obtain⟨g1,g2,g3,g4,g5,g6,g7,g8,g9,_⟩:=CP7 k2 k4 (k5 i hi);obtain⟨p,lo,hi',rb,rp,ae,ms,ma,an,st,ss,ro,ti,br⟩:=c;have R:=Az7.1 hw;have ha:=R.han;have hm:=R.hms;unfold AY5;simp only[cond_true,Fo0,C7];rw[decide_eq_true g1,decide_eq_true g2];generalize (t.2.getD i gp0)=g at*;generalize (t.1.getD g.2.1.toNat sg0).1=len at*;simp only[Fo0,Bool.true_or,C7]
    rw[A5 (n:=len-g.2.2.1) (by omega),A5 (n:=g.2.2.2.1+an) (by omega),A5 (n:=g.2.2.2.1+an+ms) (by omega)]
    cases decide (g.2.2.1<g.2.2.2.1+an+ms) <;> cases decide (len-g.2.2.1<g.2.2.2.1+an+ms) <;> rfl
   ·simp
  ·have e1:((G7 t).1 != 0)=true:=by simp[hc]
   rw[e1,if_pos hc];rfl
 ·have e0:(r6 c != 0)=true:=by simp[hw]
  rw[e0,if_pos hw];rfl
end Go.Proofs.YthfjpkdadjemcaaGreat
