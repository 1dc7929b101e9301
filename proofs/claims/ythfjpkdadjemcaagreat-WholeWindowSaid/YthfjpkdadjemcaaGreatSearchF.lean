/- Searching by halves, and what the readings of it say. -/
import Derived.Test.YthfjpkdadjemcaaGreatTrM
set_option linter.unusedSimpArgs false
set_option linter.unusedVariables false
namespace Go.Proofs.YthfjpkdadjemcaaGreat
open Go.RowKit
open _root_.Option renaming bind_some → Fp0
open Go.IntKind renaming wrap → Fp1
theorem El5 {f:Int×Int→Option ((Int×Int) ⊕ Int)}(n:Nat)(lt:Nat→Bool)
  (h1:∀i j:Nat,i<j→j≤n→f ((j:Int),(i:Int))=some (.inl (bif lt ((i+j)/2) then ((j:Int),(((i+j)/2:Nat):Int)+1) else ((((i+j)/2:Nat):Int),(i:Int)))))
  (h2:∀i j:Nat,¬i<j→f ((j:Int),(i:Int))=some (.inr (i:Int))) (mono:∀a b,a≤b→b<n→lt b=true→lt a=true):
  ∃r:Nat,LP.lp f ((n:Int),(0:Int))=some (r:Int)∧r≤n∧(∀k,k<r→lt k=true)∧∀k,r≤k→k<n→lt k=false:=by
 have:=BP8 (f:=f) (fun s=>∃i j:Nat,s=((j:Int),(i:Int))∧i≤j∧j≤n∧(∀k,k<i→lt k=true)∧∀k,j≤k→k<n→lt k=false) (fun s=>(s.1-s.2).toNat)
  (fun x=>∃r:Nat,x=(r:Int)∧r≤n∧(∀k,k<r→lt k=true)∧∀k,r≤k→k<n→lt k=false) ?_ ((n:Int),(0:Int)) ⟨0,n,rfl,by omega,by omega,fun k hk=>by omega,fun k h1 h2=>by omega⟩
 ·obtain⟨x,e,r,rfl,h⟩:=this
  exact⟨r,e,h⟩
 ·rintro _ ⟨i,j,rfl,k1,k2,k3,k4⟩
  by_cases hij:i<j
  ·right
   refine⟨_,h1 i j hij k2,?_,?_⟩
   ·cases hl:lt ((i+j)/2) with
    |true=>
     refine⟨(i+j)/2+1,j,rfl,by omega,k2,fun k hk=>mono k _ (by omega) (by omega) hl,k4⟩
    |false=>
     refine⟨i,(i+j)/2,rfl,by omega,by omega,k3,fun k q1 q2=> ?_⟩
     cases hk:lt k with
     |false=>rfl
     |true=>rw [mono _ k q1 q2 hk] at hl;cases hl
   ·cases lt ((i+j)/2)
    ·simp only[cond_false];omega
    ·simp only[cond_true];omega
  ·left
   exact⟨_,h2 i j hij,i,rfl,by omega,k3,fun k q1 q2=>k4 k (by omega) q2⟩
theorem El6 (i j:Nat)(h:i+j≤9223372036854775806):IntKind.i64.wrap ((IntKind.u64.wrap (IntKind.i64.wrap ((i:Int)+(j:Int)))).fdiv (2 ^ 1))=(((i+j)/2:Nat):Int):=by
 rw[A5 (n:=(i:Int)+j) (by omega),U3,Int.emod_eq_of_lt (by omega) (by omega),Int.fdiv_eq_ediv_of_nonneg _ (by decide)]
 rw[A5 (by omega)]
 omega
theorem El7 (a b:Int):AV9 a b=some (K1 a b):=by
 unfold AV9 AV8 K1;by_cases h1:a<b
 ·simp[h1]
 ·by_cases h2:b<a
  ·have:a≠b:=by omega
   simp[h1,h2,this]
  ·have:a=b:=by omega
   subst this;simp
theorem El8 (l:List Gp)(id:Int)(hl:l.length≤4611686018427387903)(hs:∀a b:Nat,a≤b→b<l.length→(l.getD a gp0).1≤(l.getD b gp0).1):
  ∃r:Nat,AO2 l id=some ((r:Int),decide (r<l.length)&&decide ((l.getD r gp0).1=id))∧r≤l.length∧
   (∀k,k<r→(l.getD k gp0).1<id)∧∀k,r≤k→k<l.length→id≤(l.getD k gp0).1:=by
 have hc:∀g:Gp,AJ0 g id=some (K1 g.1 id):=by intro g;unfold AJ0;rw[El7];rfl
 have hb:=El5 (f:=fun (s_3:(Int×Int))=>
   let j_4:Int:=s_3.1
   let i_5:Int:=s_3.2
   (bif (decide (i_5<j_4)) then
    let t20_6:Int:=(Fp1 .i64 (i_5+j_4))
    let t21_7:Int:=(Fp1 .u64 t20_6)
    let t23_8:Int:=(Fp1 .i64 (t21_7.fdiv (2 ^ 1)))
    chk none ((decide ((0:Int)≤t23_8))&&(decide (t23_8<(l.length:Int))))<|
    let t28_9:(Int×(Int×(Int×(Int×Int)))):=(l.getD t23_8.toNat ((0:Int),((0:Int),((0:Int),((0:Int),(0:Int))))))
    (AJ0 t28_9 id).bind fun t30_10=>
    let t31_11:Bool:=(decide (t30_10<(0:Int)))
    Option.bind (
     (bif t31_11 then
      let t33_12:Int:=(Fp1 .i64 (t23_8+(1:Int)))
      some (t33_12,j_4)
     else
      some (i_5,t23_8))) fun r_13=>
    let i_14:Int:=r_13.1
    let j_15:Int:=r_13.2
    some (.inl (j_15,i_14))
   else
    some (.inr i_5))) l.length (fun k=>decide ((l.getD k gp0).1<id)) ?_ ?_ ?_
 ·obtain⟨r,e,h1,h2,h3⟩:=hb
  refine⟨r,?_,h1,fun k hk=>of_decide_eq_true (h2 k hk),fun k q1 q2=> ?_⟩
  ·unfold AO2
   rw[e,Fp0];by_cases hr:r<l.length
   ·have e1:decide ((r:Int)<l.length)=true:=by simp;omega
    have e2:decide ((0:Int)≤r)=true:=by simp
    have e3:decide (r<l.length)=true:=by simp;omega
    have hge:=h3 r (by omega) hr
    rw[decide_eq_false_iff_not] at hge;simp only[e1,e2,e3,Bool.and_self,Bool.true_or,C7,cond_true,Int.toNat_natCast,hc,Fp0,Bool.true_and];refine congrArg some (Prod.ext rfl ?_);show (K1 (l.getD r gp0).1 id==0)=decide ((l.getD r gp0).1=id);generalize (l.getD r gp0).1=x at*;by_cases hx:x=id
    ·rw[ET8 hx,decide_eq_true hx];rfl
    ·rw[BR3 (show id<x by omega),decide_eq_false hx];rfl
   ·have e1:decide ((r:Int)<l.length)=false:=by simp;omega
    have e3:decide (r<l.length)=false:=by simp;omega
    simp only[e1,e3,Bool.and_false,Bool.not_false,Bool.or_true,C7,cond_false,Fp0,Bool.false_and]
  ·have:=h3 k q1 q2
   rw[decide_eq_false_iff_not] at this;omega
 ·intro i j hij hj
  have e0:decide ((i:Int)<j)=true:=by simp;omega
  simp only[e0,cond_true,El6 i j (by omega)]
  have e1:decide ((0:Int)≤(((i+j)/2:Nat):Int))=true:=decide_eq_true (Int.natCast_nonneg _);have e2:decide ((((i+j)/2:Nat):Int)<l.length)=true:=by simp;omega
  simp only[e1,e2,Bool.and_self,C7,Int.toNat_natCast,hc,Fp0];show Option.bind (bif decide (K1 (l.getD ((i+j)/2) gp0).1 id<0) then _ else _) _=_;have e3:decide (K1 (l.getD ((i+j)/2) gp0).1 id<0)=decide ((l.getD ((i+j)/2) gp0).1<id):=by rw[Bool.eq_iff_iff,decide_eq_true_eq,decide_eq_true_eq,BR4]
  rw[e3];cases decide ((l.getD ((i+j)/2) gp0).1<id)
  ·rfl
  ·simp only[cond_true,Fp0]
   rw[A5 (by omega)]
 ·intro i j hij
  have e0:decide ((i:Int)<j)=false:=by simp;omega
  simp only[e0,cond_false]
 ·intro a b hab hb h
  rw[decide_eq_true_eq] at h ⊢;have:=hs a b hab hb;omega
theorem El9 (t:Tk)(id:Int)(hl:t.2.length≤4611686018427387903)(hs:∀a b:Nat,a≤b→b<t.2.length→(t.2.getD a gp0).1≤(t.2.getD b gp0).1):
  ∃r:Nat,V7 t id=some ((r:Int),decide (r<t.2.length)&&decide ((t.2.getD r gp0).1=id))∧r≤t.2.length∧
   (∀k,k<r→(t.2.getD k gp0).1<id)∧∀k,r≤k→k<t.2.length→id≤(t.2.getD k gp0).1:=by
 obtain⟨r,e,h⟩:=El8 t.2 id hl hs;refine⟨r,?_,h⟩;unfold V7;rw[e];rfl
end Go.Proofs.YthfjpkdadjemcaaGreat
