/- A frame of another cycle that comes ahead of all others changes nothing. -/
import Derived.Test.YthfjpkdadjemcaaGreatTIJ
set_option linter.unusedSimpArgs false
set_option linter.unusedVariables false
namespace Go.Proofs.YthfjpkdadjemcaaGreat
open Go Go.RowKit
theorem CK1 {k q v:Int}(h:(T3 k q v).2=0):G0 k≠0∧(0≤q∧q≤255)∧(loF k≤v∧v≤hiF k):=by
 unfold T3 at h;split at h
 ·exact absurd h (by decide)
 ·rename_i h0
  split at h
  ·exact absurd h (by decide)
  ·rename_i h1
   exact⟨h0,by omega,by omega⟩
def Q0 (l:List Cyc)(kind value off:Int)(k:Nat):Cyc:=(((T3 kind (((k:Int)+off) % 256) value).1::(l.getD k ([],false)).1),(l.getD k ([],false)).2)
def AE2 (l:List Cyc)(kind value off:Int)(k:Nat):Prop:=(T3 kind (((k:Int)+off) % 256) value).2=0∧(l.getD k ([],false)).1.length≤31
instance (l:List Cyc)(kind value off:Int)(k:Nat):Decidable (AE2 l kind value off k):=inferInstanceAs (Decidable (_∧_))
theorem Ei0 {b:List Int}{q:Int}{k:Nat}{L:List (List Int)}(hk:k≤1000000)(hL:L.length≤31)(hb:(F5 b).2=0→(F5 b).1.2.1=q)(hq:q≠((k % 256:Nat):Int)):J8 (P1 (k:Int) L) (P1 (k:Int) (b::L)):=by
 unfold P1;rw[CI9 k hk,List.take_of_length_le (by omega),List.take_of_length_le (by simp;omega),List.foldl_cons]
 refine BE3 _ _ ?_;unfold A6;split
 ·exact⟨rfl,rfl⟩
 ·rename_i h1
  have h2:=hb (by simpa using h1)
  rw[if_pos (by rw[h2];exact hq)]
  exact⟨rfl,rfl⟩
theorem Ei1 (l:List Cyc)(kind value off:Int)(ho:1≤off∧off≤255)(hl:l.length≤999)(hF:∀x∈l,FOK x.1)(hg:∀k,k<l.length→AE2 l kind value off k)(s:A7)(hs:SOK s)(hc:s.C5=0):
  ∃rs rs',goN s l=some rs∧goN s ((List.range l.length).map (Q0 l kind value off))=some rs'∧rs.length=l.length∧Y3 rs rs'=some true:=by
 obtain⟨rs,hr,hlen,hok⟩:=BD4 l s hs hF;have hF':∀x∈(List.range l.length).map (Q0 l kind value off),FOK x.1:=by
  intro x hx;obtain⟨k,hk,rfl⟩:=List.mem_map.1 hx;have hk2:=List.mem_range.1 hk;obtain⟨g1,g2⟩:=hg k hk2;obtain⟨p1,p2,p3⟩:=CK1 g1;intro b hb;rcases List.mem_cons.1 hb with rfl | hb
  ·rw[AW6 p1 p2 p3]
   exact CJ1 p1 p2 p3
  ·exact hF (l.getD k ([],false)) (by simp[List.getD,hk2]) b hb
 obtain⟨rs',h1,h2,h3⟩:=CJ6 (fun _=>True) l ((List.range l.length).map (Q0 l kind value off)) hl (by simp) hF hF' s hs hc rs (fun _ _=>trivial) hr (fun i x x' hx hx' hi=>by
  obtain⟨hlt,rfl⟩:=List.getElem?_eq_some_iff.1 hx;rw[List.getElem?_map,List.getElem?_range hlt] at hx';obtain rfl:=Option.some.inj hx';have e:l.getD i ([],false)=l[i]:=P7 hlt;obtain⟨g1,g2⟩:=hg i hlt;obtain⟨p1,p2,p3⟩:=CK1 g1;unfold Q0;rw[e] at g2 ⊢;refine⟨rfl,fun _ _ _ _ _=>Ei0 (q:=((i:Int)+off) % 256) (by omega) g2 (fun _=> ?_) (by omega)⟩
  rw[AW6 p1 p2 p3];simp only;rw[CI7 p1 p2 p3])
 exact⟨rs,rs',hr,h1,hlen,CJ5 h2 (by omega) hok h3⟩
theorem Ei2 (c:Cfg)(t:TkD)(l:List Cyc)(kind value off:Int)(hv : -9223372036854775808≤value∧value≤9223372036854775807)(hs:t.1.length≤200→∀s∈t.1,s.2.1.length≤big∧s.2.2.length≤big)(hN:Af0 t)(hF:∀x∈l,FOK x.1):BA5 c t l kind value off=some true:=by
 unfold BA5;obtain⟨b,hb,hq⟩:=CI5 t l;rw[hb];simp only[Option.bind_some,BV1];cases b with
 |false=>rfl
 |true=>
  have hl:=hq rfl;simp only[Bool.not_true,cond_false];by_cases h0:off<1
  ·rw[decide_eq_true h0]
   rfl
  rw[decide_eq_false h0];by_cases h1:255<off
  ·rw[decide_eq_true h1]
   rfl
  rw[decide_eq_false h1];simp only[cond_false];have key:∀{f:(List Cyc×Int)→Option ((List Cyc×Int) ⊕ (Bool ⊕ List Cyc))},
    (∀n:Nat,n<l.length→f ((List.range n).map (Q0 l kind value off),(n:Int))=if AE2 l kind value off n then some (.inl ((List.range (n+1)).map (Q0 l kind value off),((n+1:Nat):Int))) else some (.inr (.inl true)))→
    f ((List.range l.length).map (Q0 l kind value off),(l.length:Int))=some (.inr (.inr ((List.range l.length).map (Q0 l kind value off))))→
    LP.lp f ([],(0:Int))=some (.inl true)∨(LP.lp f ([],(0:Int))=some (.inr ((List.range l.length).map (Q0 l kind value off)))∧∀k,k<l.length→AE2 l kind value off k):=by
   intro f h2 h3;have:=Wp.loop (f:=f) (Q:=fun z=>z = .inl true∨(z = .inr ((List.range l.length).map (Q0 l kind value off))∧∀k,k<l.length→AE2 l kind value off k)) (fun s=>∃n:Nat,n≤l.length∧s=((List.range n).map (Q0 l kind value off),(n:Int))∧∀k,k<n→AE2 l kind value off k) (fun s=>((l.length:Int)-s.2).toNat) (s:=([],0)) (by
    rintro s ⟨n,hn,rfl,hk⟩
    by_cases hlt:n<l.length
    ·rw[h2 n hlt]
     by_cases hS:AE2 l kind value off n
     ·rw[if_pos hS]
      refine Wp.some ⟨⟨n+1,by omega,rfl,fun k hk2=> ?_⟩,?_⟩
      ·rcases Nat.lt_succ_iff_lt_or_eq.1 hk2 with h | rfl
       ·exact hk k h
       ·exact hS
      ·simp only;omega
     ·rw[if_neg hS]
      exact Wp.some (.inl rfl)
    ·have:n=l.length:=by omega
     subst this;rw[h3];exact Wp.some (.inr ⟨rfl,hk⟩)) ⟨0,by omega,rfl,fun k hk=>absurd hk (by omega)⟩
   obtain⟨z,hz,h⟩:=this;rcases h with rfl |⟨rfl,h⟩
   ·exact .inl hz
   ·exact .inr ⟨hz,h⟩
  have fin:∀{f:(List Cyc×Int)→Option ((List Cyc×Int) ⊕ (Bool ⊕ List Cyc))} {K:(Bool ⊕ List Cyc)→Option Bool},
    (∀n:Nat,n<l.length→f ((List.range n).map (Q0 l kind value off),(n:Int))=if AE2 l kind value off n then some (.inl ((List.range (n+1)).map (Q0 l kind value off),((n+1:Nat):Int))) else some (.inr (.inl true)))→
    f ((List.range l.length).map (Q0 l kind value off),(l.length:Int))=some (.inr (.inr ((List.range l.length).map (Q0 l kind value off))))→
    K (.inl true)=some true→((∀k,k<l.length→AE2 l kind value off k)→K (.inr ((List.range l.length).map (Q0 l kind value off)))=some true)→Option.bind (LP.lp f ([],(0:Int))) K=some true:=by
   intro f K a1 a2 a3 a4;rcases key a1 a2 with h |⟨h,h'⟩
   ·rw[h];exact a3
   ·rw[h];exact a4 h'
  refine fin ?_ ?_ rfl ?_
  ·intro n hn
   have e1:(decide ((n:Int)<(l.length:Int)))=true:=by simpa using hn
   have e2:(decide ((0:Int)≤(n:Int)))=true:=by simp
   have e3:IntKind.wrap .i64 ((n:Int)+off)=(n:Int)+off:=B0 (by omega)
   have e4:((n:Int)+off).tmod 256=((n:Int)+off) % 256:=AW5 _ (by omega)
   have e5:=q9 n (by omega)
   simp only[e1,e2,cond_true,Bool.and_self,P6,Int.toNat_natCast,e3,e4,e5];rw[Af1 kind _ value hv];simp only[Option.bind_some];have hA:Q0 l kind value off n=(((T3 kind (((n:Int)+off) % 256) value).1::(l.getD n ([],false)).1),(l.getD n ([],false)).2):=rfl;by_cases hS:AE2 l kind value off n
   ·rw[if_pos hS]
    obtain⟨g1,g2⟩:=hS;have e6:((T3 kind (((n:Int)+off) % 256) value).2 != (0:Int))=false:=by rw[g1];rfl
    have e7:(decide ((31:Int)<((l.getD n ([],false)).1.length:Int)))=false:=decide_eq_false (by omega)
    have e8:decide ((([(T3 kind (((n:Int)+off) % 256) value).1]:List (List Int)).length+(l.getD n ([],false)).1.length)*24≤140737488355328)=true:=by simp only[List.length_cons,List.length_nil,decide_eq_true_eq];omega
    have e9:decide ((((List.range n).map (Q0 l kind value off)).length+([(([(T3 kind (((n:Int)+off) % 256) value).1]:List (List Int))++(l.getD n ([],false)).1,(l.getD n ([],false)).2)]:List Cyc).length)*32≤140737488355328)=true:=by simp only[List.length_map,List.length_range,List.length_cons,List.length_nil,decide_eq_true_eq];omega
    simp only[e6,e7,cond_false,e8,P6,e9,List.range_succ,List.map_append,List.map_cons,List.map_nil,hA];rfl
   ·rw[if_neg hS]
    have e6:(bif (T3 kind (((n:Int)+off) % 256) value).2 != (0:Int) then true else decide ((31:Int)<((l.getD n ([],false)).1.length:Int)))=true:=by
     by_cases g1:(T3 kind (((n:Int)+off) % 256) value).2=0
     ·have g2:¬(l.getD n ([],false)).1.length≤31:=fun h=>hS ⟨g1,h⟩
      rw[decide_eq_true (by omega)]
      cases ((T3 kind (((n:Int)+off) % 256) value).2 != (0:Int)) <;> rfl
     ·have:((T3 kind (((n:Int)+off) % 256) value).2 != (0:Int))=true:=by simpa using g1
      rw[this];rfl
    simp only[e6,cond_true]
  ·have e1:(decide ((l.length:Int)<(l.length:Int)))=false:=by simp
   simp only[e1,cond_false]
  ·intro hg
   simp only;rcases BU7 c t hs hN with h |⟨s,hsok,h0',h1',h2',h⟩
   ·simp only[h,Option.bind_some]
    have e4:Y3 [] []=some true:=BD5 (by simp) (by simp)
    rw[e4];rfl
   ·obtain⟨rs,rs',r1,r2,r3,r4⟩:=Ei1 l kind value off (by omega) (by omega) hF hg s hsok h0'
    rw[h _ rs (by omega) r1,h _ rs' (by rw[List.length_map,List.length_range];omega) r2]
    simp only[Option.bind_some];rw[r4];rfl
end Go.Proofs.YthfjpkdadjemcaaGreat
