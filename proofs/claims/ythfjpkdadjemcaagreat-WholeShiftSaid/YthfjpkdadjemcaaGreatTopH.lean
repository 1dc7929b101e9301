/- What is told of a cycle doesn't depend on what comes behind it. -/
import Derived.Test.YthfjpkdadjemcaaGreatTopG
import Derived.Test.YthfjpkdadjemcaaGreatTopK
set_option linter.unusedSimpArgs false
set_option linter.unusedVariables false
namespace Go.Proofs.YthfjpkdadjemcaaGreat
open Go Go.RowKit
def AE1 (r:E3)(q:Int×(Int×(Int×Int))):E3:=(r.1,r.2.1,r.2.2.1,r.2.2.2.1,r.2.2.2.2.1,r.2.2.2.2.2.1,r.2.2.2.2.2.2.1,r.2.2.2.2.2.2.2.1,r.2.2.2.2.2.2.2.2.1,r.2.2.2.2.2.2.2.2.2.1,r.2.2.2.2.2.2.2.2.2.2.1,r.2.2.2.2.2.2.2.2.2.2.2.1,r.2.2.2.2.2.2.2.2.2.2.2.2.1,r.2.2.2.2.2.2.2.2.2.2.2.2.2.1,r.2.2.2.2.2.2.2.2.2.2.2.2.2.2.1,r.2.2.2.2.2.2.2.2.2.2.2.2.2.2.2.1,r.2.2.2.2.2.2.2.2.2.2.2.2.2.2.2.2.1,r.2.2.2.2.2.2.2.2.2.2.2.2.2.2.2.2.2.1,r.2.2.2.2.2.2.2.2.2.2.2.2.2.2.2.2.2.2.1,r.2.2.2.2.2.2.2.2.2.2.2.2.2.2.2.2.2.2.2.1,r.2.2.2.2.2.2.2.2.2.2.2.2.2.2.2.2.2.2.2.2.1,q)
theorem BV2 (a:Int):(a != a)=false:=by simp
theorem Ee5 (x:Int×Int):eqT (.agg (.pair (.int .i64) (.int .i64))) x x=true:=by show (decide (x.1=x.1)&&decide (x.2=x.2))=true;simp
theorem Ee6 (x:(Int×Int)×(Int×Int)):eqT (.agg (.pair (.agg (.pair (.int .i64) (.int .i64))) (.agg (.pair (.int .i64) (.int .i64))))) x x=true:=by show ((decide (x.1.1=x.1.1)&&decide (x.1.2=x.1.2))&&(decide (x.2.1=x.2.1)&&decide (x.2.2=x.2.2)))=true;simp
set_option maxRecDepth 10000 in
theorem CI3 (a:E3)(q:Int×(Int×(Int×Int)))(h:AH7 a):Am1 a (AE1 a q)=some true:=by
 unfold Am1 AE1;simp only[BV2,Ee5,cond_false,cond_true,Bool.not_true,beq_self_eq_true];obtain⟨h1,h2⟩:=h;refine AI2 a.2.2.2.2.2.2.2.2.1.length (fun i=>(i:Int)) (.inr ()) rfl ?_ ?_ ?_
 ·intro i hi
  have e1:(decide ((i:Int)<(a.2.2.2.2.2.2.2.2.1.length:Int)))=true:=by simpa using hi
  have e2:(decide ((0:Int)≤(i:Int)))=true:=by simp
  have hm:=h2 _ (T0 (l:=a.2.2.2.2.2.2.2.2.1) (i:=(i:Int)) (d:=[]) (by omega) (by omega))
  rw[Int.toNat_natCast] at hm;simp only[e1,e2,cond_true,Bool.and_self,P6,Int.toNat_natCast,BV2,cond_false];refine AI2 (a.2.2.2.2.2.2.2.2.1.getD i []).length (fun i=>(i:Int)) (.inr ()) rfl ?_ ?_ ?_
  ·intro k hk
   have e3:(decide ((k:Int)<((a.2.2.2.2.2.2.2.2.1.getD i []).length:Int)))=true:=by simpa using hk
   have e4:(decide ((0:Int)≤(k:Int)))=true:=by simp
   have e5:=q9 k (by omega)
   simp only[e3,e4,cond_true,Bool.and_self,P6,BV2,cond_false,e5]
  ·have e3:(decide (((a.2.2.2.2.2.2.2.2.1.getD i []).length:Int)<((a.2.2.2.2.2.2.2.2.1.getD i []).length:Int)))=false:=by simp
   simp only[e3,cond_false]
  ·have e5:=q9 i (by omega)
   simp only[e5]
 ·have e1:(decide ((a.2.2.2.2.2.2.2.2.1.length:Int)<(a.2.2.2.2.2.2.2.2.1.length:Int)))=false:=by simp
  simp only[e1,cond_false]
 ·have e6:=Ee6 a.2.2.2.2.2.2.2.2.2.2.2.2.2.2.2.2.2.2.2.2.1
  simp only[cond_true]
  first
   |rfl
   |exact congrArg some e6
   | (rw[show eqT _ _ _=true from e6])
theorem CI4 {a b:List E3}(hl:a.length=b.length)(hn:a.length≤1000)(h:∀(i:Nat) (x y:E3),a[i]? = some x→b[i]? = some y→Am1 x y=some true):Y3 a b=some true:=by
 unfold Y3;have e0:((a.length:Int)!=(b.length:Int))=false:=by simp[hl]
 simp only[e0,cond_false];refine AI2 a.length (fun i=>(i:Int)) (.inr ()) rfl ?_ ?_ rfl
 ·intro i hi
  have e1:(decide ((i:Int)<(a.length:Int)))=true:=by simpa using hi
  have e2:(decide ((0:Int)≤(i:Int)))=true:=by simp
  have e3:(decide ((i:Int)<(b.length:Int)))=true:=by simp;omega
  have hb:i<b.length:=by omega
  simp only[e1,e2,e3,cond_true,Bool.and_self,P6,Int.toNat_natCast];have h1:=h i a[i] b[i] (List.getElem?_eq_getElem hi) (List.getElem?_eq_getElem hb);have e5:=q9 i (by omega)
  rw[P7 hi,P7 hb,h1];simp only[Option.bind_some,Bool.not_true,cond_false,e5]
 ·have e1:(decide ((a.length:Int)<(a.length:Int)))=false:=by simp
  simp only[e1,cond_false]
theorem BD5 {a:List E3}(hn:a.length≤1000)(h:∀r∈a,AH7 r):Y3 a a=some true:=by
 refine CI4 rfl hn fun i x y hx hy=> ?_
 rw[hx] at hy;obtain rfl:=Option.some.inj hy;exact CI3 x x.2.2.2.2.2.2.2.2.2.2.2.2.2.2.2.2.2.2.2.2.2 (h x (List.mem_of_getElem? hx))
theorem CI5 (t:TkD)(l:List Cyc):Wp (AK2 t l) fun b=>b=true→l.length≤120:=by
 unfold AK2;refine Wp.cnd (fun _=>Wp.some fun h=>by cases h) fun hc=> ?_
 have hl:t.1.length≤50∧l.length≤120:=by simp at hc;omega
 refine Wp.bnd (Q:=fun _=>True) ?_ fun z _=> ?_
 ·refine Wp.loop (fun i=>0≤i∧i≤(t.1.length:Int)) (fun i=>((t.1.length:Int)-i).toNat) ?_ ⟨by simp,by simp⟩
  rintro i ⟨h0,h1⟩
  refine Wp.cnd (fun hc=> ?_) fun _=>Wp.some trivial
  have hi:i<(t.1.length:Int):=by simpa using hc
  have hw:=J7 h0 hi (by omega)
  refine Wp.chk (by simp only[Bool.and_eq_true,decide_eq_true_eq];exact⟨h0,hi⟩) (Wp.chk (by simp only[Bool.or_eq_true,Bool.and_eq_true,decide_eq_true_eq];exact .inl ⟨h0,hi⟩) (Wp.cnd (fun _=>Wp.some trivial) fun _=>Wp.some ?_))
  simp only[hw];exact⟨⟨by omega,by omega⟩,by omega⟩
 ·rcases z with z | z
  ·exact Wp.some fun _=>hl.2
  ·refine Wp.bnd (Q:=fun _=>True) ?_ fun z _=> ?_
   ·refine Wp.loop (fun i=>0≤i∧i≤(l.length:Int)) (fun i=>((l.length:Int)-i).toNat) ?_ ⟨by simp,by simp⟩
    rintro i ⟨h0,h1⟩
    refine Wp.cnd (fun hc=> ?_) fun _=>Wp.some trivial
    have hi:i<(l.length:Int):=by simpa using hc
    have hw:=J7 h0 hi (by omega)
    refine Wp.chk (by simp only[Bool.and_eq_true,decide_eq_true_eq];exact⟨h0,hi⟩) (Wp.cnd (fun _=>Wp.some trivial) fun hc2=>Wp.chk (by simp only[Bool.and_eq_true,decide_eq_true_eq];exact⟨h0,hi⟩) (Wp.bnd (Q:=fun _=>True) ?_ fun z _=> ?_))
    ·have h40:(l.getD i.toNat ([],false)).1.length≤40:=by
      simp only[decide_eq_false_iff_not] at hc2;omega
     generalize (l.getD i.toNat ([],false)).1=y at h40;refine Wp.loop (fun i=>0≤i∧i≤(y.length:Int)) (fun i=>((y.length:Int)-i).toNat) ?_ ⟨by simp,by simp⟩
     rintro k ⟨k0,k1⟩
     refine Wp.cnd (fun hc=> ?_) fun _=>Wp.some trivial
     have hk:k<(y.length:Int):=by simpa using hc
     have hw:=J7 k0 hk (by omega)
     refine Wp.chk (by simp only[Bool.and_eq_true,decide_eq_true_eq];exact⟨k0,hk⟩) (Wp.cnd (fun _=>Wp.some trivial) fun _=>Wp.some ?_)
     simp only[hw];exact⟨⟨by omega,by omega⟩,by omega⟩
    ·rcases z with z | z
     ·exact Wp.some trivial
     ·refine Wp.some ?_
      simp only[hw];exact⟨⟨by omega,by omega⟩,by omega⟩
   ·rcases z with z | z
    ·exact Wp.some fun _=>hl.2
    ·exact Wp.some fun _=>hl.2
end Go.Proofs.YthfjpkdadjemcaaGreat
