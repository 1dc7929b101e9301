/- What is told of a cycle doesn't depend on what comes behind it. -/
import Derived.Test.YthfjpkdadjemcaaGreatTopG
import Derived.Test.YthfjpkdadjemcaaGreatTopK
set_option linter.unusedSimpArgs false
set_option linter.unusedVariables false
namespace Go.Proofs.YthfjpkdadjemcaaGreat
open Go Go.RowKit
def CA2 (r:H2)(q:Int×(Int×(Int×Int))):H2:=(r.1,r.2.1,r.2.2.1,r.2.2.2.1,r.2.2.2.2.1,r.2.2.2.2.2.1,r.2.2.2.2.2.2.1,r.2.2.2.2.2.2.2.1,r.2.2.2.2.2.2.2.2.1,r.2.2.2.2.2.2.2.2.2.1,r.2.2.2.2.2.2.2.2.2.2.1,r.2.2.2.2.2.2.2.2.2.2.2.1,r.2.2.2.2.2.2.2.2.2.2.2.2.1,r.2.2.2.2.2.2.2.2.2.2.2.2.2.1,r.2.2.2.2.2.2.2.2.2.2.2.2.2.2.1,r.2.2.2.2.2.2.2.2.2.2.2.2.2.2.2.1,r.2.2.2.2.2.2.2.2.2.2.2.2.2.2.2.2.1,r.2.2.2.2.2.2.2.2.2.2.2.2.2.2.2.2.2.1,r.2.2.2.2.2.2.2.2.2.2.2.2.2.2.2.2.2.2.1,r.2.2.2.2.2.2.2.2.2.2.2.2.2.2.2.2.2.2.2.1,r.2.2.2.2.2.2.2.2.2.2.2.2.2.2.2.2.2.2.2.2.1,q)
theorem BN3 (a:Int):(a != a)=false:=by simp
theorem ET4 (x:Int×Int):eqT (.agg (.pair (.int .i64) (.int .i64))) x x=true:=by show (decide (x.1=x.1)&&decide (x.2=x.2))=true;simp
theorem ET5 (x:(Int×Int)×(Int×Int)):eqT (.agg (.pair (.agg (.pair (.int .i64) (.int .i64))) (.agg (.pair (.int .i64) (.int .i64))))) x x=true:=by show ((decide (x.1.1=x.1.1)&&decide (x.1.2=x.1.2))&&(decide (x.2.1=x.2.1)&&decide (x.2.2=x.2.2)))=true;simp
set_option maxRecDepth 10000 in
theorem ET6 (a:H2)(q:Int×(Int×(Int×Int)))(h:AR6 a):Ag6 a (CA2 a q)=some true:=by
 unfold Ag6 CA2;simp only[BN3,ET4,cond_false,cond_true,Bool.not_true,beq_self_eq_true];obtain⟨h1,h2⟩:=h;refine Ax3 a.2.2.2.2.2.2.2.2.1.length (fun i=>(i:Int)) (.inr ()) rfl ?_ ?_ ?_
 ·intro i hi
  have e1:(decide ((i:Int)<(a.2.2.2.2.2.2.2.2.1.length:Int)))=true:=by simpa using hi
  have e2:(decide ((0:Int)≤(i:Int)))=true:=by simp
  have hm:=h2 _ (R6 (l:=a.2.2.2.2.2.2.2.2.1) (i:=(i:Int)) (d:=[]) (by omega) (by omega))
  rw[Int.toNat_natCast] at hm;simp only[e1,e2,cond_true,Bool.and_self,AD3,Int.toNat_natCast,BN3,cond_false];refine Ax3 (a.2.2.2.2.2.2.2.2.1.getD i []).length (fun i=>(i:Int)) (.inr ()) rfl ?_ ?_ ?_
  ·intro k hk
   have e3:(decide ((k:Int)<((a.2.2.2.2.2.2.2.2.1.getD i []).length:Int)))=true:=by simpa using hk
   have e4:(decide ((0:Int)≤(k:Int)))=true:=by simp
   have e5:=Ah9 k (by omega)
   simp only[e3,e4,cond_true,Bool.and_self,AD3,BN3,cond_false,e5]
  ·have e3:(decide (((a.2.2.2.2.2.2.2.2.1.getD i []).length:Int)<((a.2.2.2.2.2.2.2.2.1.getD i []).length:Int)))=false:=by simp
   simp only[e3,cond_false]
  ·have e5:=Ah9 i (by omega)
   simp only[e5]
 ·have e1:(decide ((a.2.2.2.2.2.2.2.2.1.length:Int)<(a.2.2.2.2.2.2.2.2.1.length:Int)))=false:=by simp
  simp only[e1,cond_false]
 ·have e6:=ET5 a.2.2.2.2.2.2.2.2.2.2.2.2.2.2.2.2.2.2.2.2.1
  simp only[cond_true]
  first
   |rfl
   |exact congrArg some e6
   | (rw[show eqT _ _ _=true from e6])
theorem ET7 {a b:List H2}(hl:a.length=b.length)(hn:a.length≤1000)(h:∀(i:Nat) (x y:H2),a[i]? = some x→b[i]? = some y→Ag6 x y=some true):AR1 a b=some true:=by
 unfold AR1;have e0:((a.length:Int)!=(b.length:Int))=false:=by simp[hl]
 simp only[e0,cond_false];refine Ax3 a.length (fun i=>(i:Int)) (.inr ()) rfl ?_ ?_ rfl
 ·intro i hi
  have e1:(decide ((i:Int)<(a.length:Int)))=true:=by simpa using hi
  have e2:(decide ((0:Int)≤(i:Int)))=true:=by simp
  have e3:(decide ((i:Int)<(b.length:Int)))=true:=by simp;omega
  have hb:i<b.length:=by omega
  simp only[e1,e2,e3,cond_true,Bool.and_self,AD3,Int.toNat_natCast];have h1:=h i a[i] b[i] (List.getElem?_eq_getElem hi) (List.getElem?_eq_getElem hb);have e5:=Ah9 i (by omega)
  rw[Y1 hi,Y1 hb,h1];simp only[Option.bind_some,Bool.not_true,cond_false,e5]
 ·have e1:(decide ((a.length:Int)<(a.length:Int)))=false:=by simp
  simp only[e1,cond_false]
theorem CA3 {a:List H2}(hn:a.length≤1000)(h:∀r∈a,AR6 r):AR1 a a=some true:=by
 refine ET7 rfl hn fun i x y hx hy=> ?_
 rw[hx] at hy;obtain rfl:=Option.some.inj hy;exact ET6 x x.2.2.2.2.2.2.2.2.2.2.2.2.2.2.2.2.2.2.2.2.2 (h x (List.mem_of_getElem? hx))
theorem ET8 (t:TkD)(l:List Cyc):Wp (Ap3 t l) fun b=>b=true→l.length≤120:=by
 unfold Ap3;refine Wp.cnd (fun _=>Wp.some fun h=>by cases h) fun hc=> ?_
 have hl:t.1.length≤50∧l.length≤120:=by simp at hc;omega
 refine Wp.bnd (Q:=fun _=>True) ?_ fun z _=> ?_
 ·refine Wp.loop (fun i=>0≤i∧i≤(t.1.length:Int)) (fun i=>((t.1.length:Int)-i).toNat) ?_ ⟨by simp,by simp⟩
  rintro i ⟨h0,h1⟩
  refine Wp.cnd (fun hc=> ?_) fun _=>Wp.some trivial
  have hi:i<(t.1.length:Int):=by simpa using hc
  have hw:=L2 h0 hi (by omega)
  refine Wp.chk (by simp only[Bool.and_eq_true,decide_eq_true_eq];exact⟨h0,hi⟩) (Wp.chk (by simp only[Bool.or_eq_true,Bool.and_eq_true,decide_eq_true_eq];exact .inl ⟨h0,hi⟩) (Wp.cnd (fun _=>Wp.some trivial) fun _=>Wp.some ?_))
  simp only[hw];exact⟨⟨by omega,by omega⟩,by omega⟩
 ·rcases z with z | z
  ·exact Wp.some fun _=>hl.2
  ·refine Wp.bnd (Q:=fun _=>True) ?_ fun z _=> ?_
   ·refine Wp.loop (fun i=>0≤i∧i≤(l.length:Int)) (fun i=>((l.length:Int)-i).toNat) ?_ ⟨by simp,by simp⟩
    rintro i ⟨h0,h1⟩
    refine Wp.cnd (fun hc=> ?_) fun _=>Wp.some trivial
    have hi:i<(l.length:Int):=by simpa using hc
    have hw:=L2 h0 hi (by omega)
    refine Wp.chk (by simp only[Bool.and_eq_true,decide_eq_true_eq];exact⟨h0,hi⟩) (Wp.cnd (fun _=>Wp.some trivial) fun hc2=>Wp.chk (by simp only[Bool.and_eq_true,decide_eq_true_eq];exact⟨h0,hi⟩) (Wp.bnd (Q:=fun _=>True) ?_ fun z _=> ?_))
    ·have h40:(l.getD i.toNat ([],false)).1.length≤40:=by
      simp only[decide_eq_false_iff_not] at hc2;omega
     generalize (l.getD i.toNat ([],false)).1=y at h40;refine Wp.loop (fun i=>0≤i∧i≤(y.length:Int)) (fun i=>((y.length:Int)-i).toNat) ?_ ⟨by simp,by simp⟩
     rintro k ⟨k0,k1⟩
     refine Wp.cnd (fun hc=> ?_) fun _=>Wp.some trivial
     have hk:k<(y.length:Int):=by simpa using hc
     have hw:=L2 k0 hk (by omega)
     refine Wp.chk (by simp only[Bool.and_eq_true,decide_eq_true_eq];exact⟨k0,hk⟩) (Wp.cnd (fun _=>Wp.some trivial) fun _=>Wp.some ?_)
     simp only[hw];exact⟨⟨by omega,by omega⟩,by omega⟩
    ·rcases z with z | z
     ·exact Wp.some trivial
     ·refine Wp.some ?_
      simp only[hw];exact⟨⟨by omega,by omega⟩,by omega⟩
   ·rcases z with z | z
    ·exact Wp.some fun _=>hl.2
    ·exact Wp.some fun _=>hl.2
theorem ET9 (c:Cfg)(t:TkD)(l:List Cyc)(n:Int)(hs:t.1.length≤200→∀s∈t.1,s.2.1.length≤big∧s.2.2.length≤big)(hN:Ax2 t)(hF:∀x∈l,FOK x.1):Au5 c t l n=some true:=by
 unfold Au5;obtain⟨b,hb,hq⟩:=ET8 t l;rw[hb];simp only[Option.bind_some,ET3];cases b with
 |false=>rfl
 |true=>
  have hl:=hq rfl;simp only[Bool.not_true,cond_false];by_cases h0:n<0
  ·rw[decide_eq_true h0]
   rfl
  ·rw[decide_eq_false h0]
   by_cases h1:(l.length:Int)<n
   ·rw[decide_eq_true h1]
    rfl
   ·rw[decide_eq_false h1]
    simp only[cond_false];have e1:(true&&(decide ((0:Int)≤n))&&(decide (n≤(l.length:Int))))=true:=by simp only[Bool.true_and,Bool.and_eq_true,decide_eq_true_eq];omega
    have e2:((l.take n.toNat).drop (0:Int).toNat)=l.take n.toNat:=rfl;rcases EM1 c t hs hN with h |⟨s,hsok,_,_,_,h⟩
    ·simp only[h,Option.bind_some,e1,AD3,e2]
     have e3:(if (([]:List H2).length:Int)<n then (([]:List H2).length:Int) else n)=0:=by
      simp
      omega
     rw[e3];have e4:AR1 ((([]:List H2).take (([]:List H2).length:Int).toNat).drop (0:Int).toNat) []=some true:=CA3 (by simp) (by simp)
     rw[e4];rfl
    ·obtain⟨rs,hr,hlen,hok⟩:=Bz4 l s hsok hF
     have hr2:=Bz5 l s rs n.toNat hr;have hlt:(l.take n.toNat).length≤1000:=by rw[List.length_take];omega
     rw[h l rs (by omega) hr]
     simp only[Option.bind_some,e1,AD3,e2];rw[h _ _ hlt hr2];simp only[Option.bind_some];have e5:(rs.take n.toNat).length=n.toNat:=by rw[List.length_take];omega
     have e6:(if (rs.length:Int)<n then (rs.length:Int) else n)=n:=by rw[if_neg (by omega)]
     have e7:((rs.take n.toNat).length:Int)=n:=by rw[e5];omega
     have e8:(((rs.take n.toNat).length:Int)==n)=true:=by rw[e7];simp
     have e9:(((true&&(decide ((0:Int)≤((rs.take n.toNat).length:Int)))&&(decide (((rs.take n.toNat).length:Int)≤(rs.length:Int))))|| !true))=true:=by simp only[Bool.true_and,Bool.not_true,Bool.or_false,Bool.and_eq_true,decide_eq_true_eq];rw[e7];omega
     have e10:((rs.take ((rs.take n.toNat).length:Int).toNat).drop (0:Int).toNat)=rs.take n.toNat:=by rw[e7];rfl
     have e11:AR1 (rs.take n.toNat) (rs.take n.toNat)=some true:=CA3 (by omega) fun r hr=>hok r (List.mem_of_mem_take hr)
     simp only[e6,e8,e9,AD3,e10,cond_true,e11,Option.bind_some]
end Go.Proofs.YthfjpkdadjemcaaGreat
