/- What came in a cycle, sorted. -/
import Derived.Test.YthfjpkdadjemcaaGreatTDE
import Derived.Test.YthfjpkdadjemcaaGreatCrcM
import Derived.Test.YthfjpkdadjemcaaGreatImM
set_option linter.unusedSimpArgs false
set_option linter.unusedVariables false
namespace Go.Proofs.YthfjpkdadjemcaaGreat
open Go Go.RowKit
def P9 (m:Mal)(k:Int):Bool:=if k=1 then m.1.2.1 else if k=2 then m.1.2.2.1 else if k=3 then m.1.2.2.2.1 else if k=4 then m.1.2.2.2.2.1 else m.1.2.2.2.2.2
def AB3 (m:Mal)(k v:Int):Mal:=
 if k=1 then ((m.1.1,true,m.1.2.2),(m.2.1.1,v,m.2.1.2.2),m.2.2)
 else if k=2 then ((m.1.1,m.1.2.1,true,m.1.2.2.2),(m.2.1.1,m.2.1.2.1,v,m.2.1.2.2.2),m.2.2)
 else if k=3 then ((m.1.1,m.1.2.1,m.1.2.2.1,true,m.1.2.2.2.2),(m.2.1.1,m.2.1.2.1,m.2.1.2.2.1,v,m.2.1.2.2.2.2),m.2.2)
 else if k=4 then ((m.1.1,m.1.2.1,m.1.2.2.1,m.1.2.2.2.1,true,m.1.2.2.2.2.2),(m.2.1.1,m.2.1.2.1,m.2.1.2.2.1,m.2.1.2.2.2.1,v,m.2.1.2.2.2.2.2),m.2.2)
 else ((m.1.1,m.1.2.1,m.1.2.2.1,m.1.2.2.2.1,m.1.2.2.2.2.1,true),(m.2.1.1,m.2.1.2.1,m.2.1.2.2.1,m.2.1.2.2.2.1,m.2.1.2.2.2.2.1,v),m.2.2)
def A6 (seq:Int)(m:Mal)(b:List Int):Mal:=
 if (F5 b).2≠0 then (m.1,m.2.1,IntKind.wrap .i64 (m.2.2.1+1),m.2.2.2)
 else if (F5 b).1.2.1≠seq then (m.1,m.2.1,m.2.2.1,IntKind.wrap .i64 (m.2.2.2.1+1),m.2.2.2.2)
 else if P9 m (F5 b).1.1=true then (m.1,m.2.1,m.2.2.1,m.2.2.2.1,IntKind.wrap .i64 (m.2.2.2.2.1+1),m.2.2.2.2.2)
 else AB3 m (F5 b).1.1 (F5 b).1.2.2
theorem CH4 (b:List Int)(h:(F5 b).2=0):(F5 b).1.1=1∨(F5 b).1.1=2∨(F5 b).1.1=3∨(F5 b).1.1=4∨(F5 b).1.1=5:=by
 unfold F5 at h ⊢;split at h
 ·exact absurd h (by decide)
 ·rename_i h1
  rw[if_neg h1];split at h
  ·exact absurd h (by decide)
  ·rename_i h2
   rw[if_neg h2];split at h
   ·exact absurd h (by decide)
   ·rename_i h3
    rw[if_neg h3];split at h
    ·exact absurd h (by decide)
    ·rename_i h4
     rw[if_neg h4];have:=An2 (b.getD 0 0);show b.getD 0 0=1∨_;simp only;omega
set_option maxRecDepth 10000 in
theorem EW5 (seq:Int)(b:List Int)(hb:Bytes b)(hl:b.length≤140737488355328)(m:Mal):AT2 seq b m.1.1 m.1.2.1 m.1.2.2.1 m.1.2.2.2.1 m.1.2.2.2.2.1 m.1.2.2.2.2.2 m.2.1.1 m.2.1.2.1 m.2.1.2.2.1 m.2.1.2.2.2.1 m.2.1.2.2.2.2.1 m.2.1.2.2.2.2.2 m.2.2.1 m.2.2.2.1 m.2.2.2.2.1 m.2.2.2.2.2=some ((A6 seq m b).1.1,(A6 seq m b).1.2.1,(A6 seq m b).1.2.2.1,(A6 seq m b).1.2.2.2.1,(A6 seq m b).1.2.2.2.2.1,(A6 seq m b).1.2.2.2.2.2,(A6 seq m b).2.1.1,(A6 seq m b).2.1.2.1,(A6 seq m b).2.1.2.2.1,(A6 seq m b).2.1.2.2.2.1,(A6 seq m b).2.1.2.2.2.2.1,(A6 seq m b).2.1.2.2.2.2.2,(A6 seq m b).2.2.1,(A6 seq m b).2.2.2.1,(A6 seq m b).2.2.2.2.1,(A6 seq m b).2.2.2.2.2):=by
 unfold AT2;rw[ET5 b hb hl];simp only[Option.bind_some];generalize hT:A6 seq m b=T;unfold A6 at hT;by_cases h1:(F5 b).2=0
 ·rw[if_neg (by simpa using h1)] at hT
  have hk:=CH4 b h1;have e1:((F5 b).2 != (0:Int))=false:=by simp[h1]
  rw[e1];generalize (F5 b).1=f at hT hk;obtain⟨k,sq,v⟩:=f;simp only at hT hk;by_cases h2:sq=seq
  ·rw[if_neg (by simpa using h2)] at hT
   have e2:(sq != seq)=false:=by simp[h2]
   simp only[cond_false,e2];obtain⟨⟨a0,a1,a2,a3,a4,a5⟩,⟨v0,v1,v2,v3,v4,v5⟩,⟨q0,q1,q2,q3⟩⟩:=m;rcases hk with rfl | rfl | rfl | rfl | rfl
   ·cases a1 <;> (subst hT;rfl)
   ·cases a2 <;> (subst hT;rfl)
   ·cases a3 <;> (subst hT;rfl)
   ·cases a4 <;> (subst hT;rfl)
   ·cases a5 <;> (subst hT;rfl)
  ·rw[if_pos (by simpa using h2)] at hT
   subst hT;have e2:(sq != seq)=true:=by simp[h2]
   simp only[cond_false,e2,cond_true,Option.bind_some]
 ·rw[if_pos (by simpa using h1)] at hT
  subst hT;have e1:((F5 b).2 != (0:Int))=true:=by simp[h1]
  simp only[e1,cond_true,Option.bind_some]
theorem AI2 {S X Y:Type}{f:S→Option (S ⊕ X)}{init:S}{k:X→Option Y}{y:Y}(n:Nat)(st:Nat→S)(x:X)(hi:init=st 0)(h:∀i,i<n→f (st i)=some (.inl (st (i+1))))(he:f (st n)=some (.inr x))(hk:k x=some y):Option.bind (LP.lp f init) k=some y:=by rw[hi,Q9 n st x h he];exact hk
def D8 (n:Int):Mal:=((false,false,false,false,false,false),(0,0,0,0,0,0),(0,0,0,n))
def D5 (list:List (List Int)):Int:=IntKind.wrap .i64 ((list.length:Int)-(if (32:Int)<(list.length:Int) then (32:Int) else (list.length:Int)))
def P1 (cy:Int)(list:List (List Int)):Mal:=(list.take 32).foldl (A6 (bits .i64 .and cy 255)) (D8 (D5 list))
theorem EW6 {α β:Type}(f:β→α→β){l:List α}{k:Nat}(d:α)(b:β)(h:k<l.length):(l.take (k+1)).foldl f b=f ((l.take k).foldl f b) (l.getD k d):=by rw[← Ae6 (d:=d) h,List.foldl_append];rfl
set_option maxRecDepth 10000 in
theorem CH5 (cy:Int)(list:List (List Int))(hb:∀b∈list,Bytes b∧b.length≤140737488355328):AM3 cy list=some (P1 cy list):=by
 unfold AM3;have hn:((list.take (if (32:Int)<(list.length:Int) then (32:Int) else (list.length:Int)).toNat).drop (0:Int).toNat)=list.take 32:=by
  by_cases h:(32:Int)<(list.length:Int)
  ·rw[if_pos h];rfl
  ·rw[if_neg h,Int.toNat_natCast,List.take_of_length_le (Nat.le_refl _),List.take_of_length_le (by omega)];rfl
 have hc:(true&&(decide ((0:Int)≤(if (32:Int)<(list.length:Int) then (32:Int) else (list.length:Int))))&&(decide ((if (32:Int)<(list.length:Int) then (32:Int) else (list.length:Int))≤(list.length:Int))))=true:=by simp only[Bool.true_and,Bool.and_eq_true,decide_eq_true_eq];split <;> omega
 simp only[hn,hc,P6];generalize hL:list.take 32=L;have hbL:∀b∈L,Bytes b∧b.length≤140737488355328:=fun b h=>hb b (by rw[← hL] at h;exact List.mem_of_mem_take h)
 have hlen:L.length≤32:=by rw[← hL,List.length_take];omega
 refine AI2 L.length (fun i=>(((L.take i).foldl (A6 (bits .i64 .and cy 255)) (D8 (D5 list))).1.2.2.2.2.1,((L.take i).foldl (A6 (bits .i64 .and cy 255)) (D8 (D5 list))).1.2.1,((L.take i).foldl (A6 (bits .i64 .and cy 255)) (D8 (D5 list))).2.1.2.1,((L.take i).foldl (A6 (bits .i64 .and cy 255)) (D8 (D5 list))).2.2.2.2.2,((L.take i).foldl (A6 (bits .i64 .and cy 255)) (D8 (D5 list))).2.1.2.2.2.2.1,((L.take i).foldl (A6 (bits .i64 .and cy 255)) (D8 (D5 list))).2.2.2.1,((L.take i).foldl (A6 (bits .i64 .and cy 255)) (D8 (D5 list))).1.2.2.1,((L.take i).foldl (A6 (bits .i64 .and cy 255)) (D8 (D5 list))).1.2.2.2.2.2,((L.take i).foldl (A6 (bits .i64 .and cy 255)) (D8 (D5 list))).2.1.2.2.2.2.2,((L.take i).foldl (A6 (bits .i64 .and cy 255)) (D8 (D5 list))).2.1.2.2.1,((L.take i).foldl (A6 (bits .i64 .and cy 255)) (D8 (D5 list))).2.2.2.2.1,((L.take i).foldl (A6 (bits .i64 .and cy 255)) (D8 (D5 list))).1.1,((L.take i).foldl (A6 (bits .i64 .and cy 255)) (D8 (D5 list))).1.2.2.2.1,((L.take i).foldl (A6 (bits .i64 .and cy 255)) (D8 (D5 list))).2.1.2.2.2.1,((L.take i).foldl (A6 (bits .i64 .and cy 255)) (D8 (D5 list))).2.1.1,((L.take i).foldl (A6 (bits .i64 .and cy 255)) (D8 (D5 list))).2.2.1,(i:Int))) (((L.take L.length).foldl (A6 (bits .i64 .and cy 255)) (D8 (D5 list))).1.2.2.2.2.1,((L.take L.length).foldl (A6 (bits .i64 .and cy 255)) (D8 (D5 list))).1.2.1,((L.take L.length).foldl (A6 (bits .i64 .and cy 255)) (D8 (D5 list))).2.1.2.1,((L.take L.length).foldl (A6 (bits .i64 .and cy 255)) (D8 (D5 list))).2.2.2.2.2,((L.take L.length).foldl (A6 (bits .i64 .and cy 255)) (D8 (D5 list))).2.1.2.2.2.2.1,((L.take L.length).foldl (A6 (bits .i64 .and cy 255)) (D8 (D5 list))).2.2.2.1,((L.take L.length).foldl (A6 (bits .i64 .and cy 255)) (D8 (D5 list))).1.2.2.1,((L.take L.length).foldl (A6 (bits .i64 .and cy 255)) (D8 (D5 list))).1.2.2.2.2.2,((L.take L.length).foldl (A6 (bits .i64 .and cy 255)) (D8 (D5 list))).2.1.2.2.2.2.2,((L.take L.length).foldl (A6 (bits .i64 .and cy 255)) (D8 (D5 list))).2.1.2.2.1,((L.take L.length).foldl (A6 (bits .i64 .and cy 255)) (D8 (D5 list))).2.2.2.2.1,((L.take L.length).foldl (A6 (bits .i64 .and cy 255)) (D8 (D5 list))).1.1,((L.take L.length).foldl (A6 (bits .i64 .and cy 255)) (D8 (D5 list))).1.2.2.2.1,((L.take L.length).foldl (A6 (bits .i64 .and cy 255)) (D8 (D5 list))).2.1.2.2.2.1,((L.take L.length).foldl (A6 (bits .i64 .and cy 255)) (D8 (D5 list))).2.1.1,((L.take L.length).foldl (A6 (bits .i64 .and cy 255)) (D8 (D5 list))).2.2.1) rfl ?_ ?_ ?_
 ·intro i hi
  have e1:(decide ((i:Int)<(L.length:Int)))=true:=by simpa using hi
  have e2:(decide ((0:Int)≤(i:Int)))=true:=by simp
  have hm:L.getD i []∈L:=by simp[List.getD,hi]
  have e3:=EW5 (bits .i64 .and cy 255) (L.getD i []) (hbL _ hm).1 (hbL _ hm).2 ((L.take i).foldl (A6 (bits .i64 .and cy 255)) (D8 (D5 list)));have e4:=q9 i (by omega)
  have e5:=EW6 (A6 (bits .i64 .and cy 255)) [] (D8 (D5 list)) hi;simp only[e1,e2,cond_true,Bool.and_self,P6,Int.toNat_natCast,e3,Option.bind_some,e4,e5]
 ·have e1:(decide ((L.length:Int)<(L.length:Int)))=false:=by simp
  simp only[e1,cond_false]
 ·unfold P1
  rw[hL,List.take_of_length_le (Nat.le_refl _)]
end Go.Proofs.YthfjpkdadjemcaaGreat
