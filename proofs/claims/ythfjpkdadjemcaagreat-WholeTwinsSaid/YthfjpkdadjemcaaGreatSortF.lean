/- Ways in their order: slices.SortFunc at routes. -/
import Derived.Shelf.SlSortCmp.WholeK
import Derived.Shelf.Lay
import Derived.Ground.SlsfProg
import Derived.Ground.NamesProg
import Derived.Test.YthfjpkdadjemcaaGreatMapF
set_option linter.unusedSimpArgs false
set_option linter.unusedVariables false
namespace Go.Proofs
open Go.Shelf Go.RowKit Go.Lib Go.Sort
shelf_lay_g SlLaysF0.n6 Slsf 6 at Tryz 158 as Tryz.Bs2
end Go.Proofs
namespace Go.Proofs.YthfjpkdadjemcaaGreat
open Go.Shelf Go.RowKit Go.Lib Go.Sort
theorem Du3 (l:List Int):C0 l l=0:=by
 induction l with
 |nil=>rfl
 |cons x l ih=>simp [C0,ih]
theorem lex_trans:∀(a b c:List Int),C0 a b<0→C0 b c<0→C0 a c<0
 | [],[],_,h,_=>by simp[C0] at h
 | [],_::_,[],_,h=>by simp[C0] at h
 | [],_::_,_::_,_,_=>by simp[C0]
 |_::_,[],_,h,_=>by simp[C0] at h
 |_::_,_::_,[],_,h=>by simp[C0] at h
 |x::a,y::b,z::c,h1,h2=>by
  have ih:=lex_trans a b c;simp only[C0] at*;by_cases p1:x<y
  ·by_cases p2:y<z
   ·rw[if_pos (by omega)];decide
   ·rw[if_neg p2] at h2
    by_cases p3:z<y
    ·rw[if_pos p3] at h2;omega
    ·rw[if_pos (by omega)];decide
  ·rw[if_neg p1] at h1
   by_cases p4:y<x
   ·rw[if_pos p4] at h1;omega
   ·rw[if_neg p4] at h1
    by_cases p2:y<z
    ·rw[if_pos (by omega)];decide
    ·rw[if_neg p2] at h2
     by_cases p3:z<y
     ·rw[if_pos p3] at h2;omega
     ·rw[if_neg p3] at h2
      rw[if_neg (by omega),if_neg (by omega)]
      exact ih h1 h2
theorem Bs3:∀(a b c:List Int),0≤C0 a b→0≤C0 b c→0≤C0 a c
 | [],[],[],_,_=>by simp[C0]
 | [],[],_::_,_,h=>by simp[C0] at h
 | [],_::_,_,h,_=>by simp[C0] at h
 |_::_,_,[],_,_=>by simp[C0]
 |_::_,[],_::_,_,h=>by simp[C0] at h
 |x::a,y::b,z::c,h1,h2=>by
  have ih:=Bs3 a b c;simp only[C0] at*;by_cases p1:x<y
  ·rw[if_pos p1] at h1;omega
  ·rw[if_neg p1] at h1
   by_cases p2:y<z
   ·rw[if_pos p2] at h2;omega
   ·rw[if_neg p2] at h2
    rw[if_neg (by omega)]
    by_cases p3:z<x
    ·rw[if_pos p3];decide
    ·rw[if_neg (by omega)] at h1
     rw[if_neg (by omega)] at h2
     rw[if_neg p3];exact ih h1 h2
def AN1 (r:RtD):List Int:=match r with
 | (_,s0,s1,s2,s3,s4,s5,s6,s7,s8,s9,s10,s11)=>[s0,s1,s2,s3,s4,s5,s6,s7,s8,s9,s10,s11]
def cfR (a b:RtD):Int:=if C0 (AN1 a) (AN1 b)≠0 then C0 (AN1 a) (AN1 b) else AA6 a.1 b.1
theorem Bs4:∀(xs ys:List Int) (n m:Int),xs.length=ys.length→C0 (xs++[n]) (ys++[m])=if C0 xs ys≠0 then C0 xs ys else AA6 n m
 | [],[],n,m,_=>by simp[C0,AA6]
 | [],_::_,_,_,h=>by simp at h
 |_::_,[],_,_,h=>by simp at h
 |x::xs,y::ys,n,m,h=>by
  have ih:=Bs4 xs ys n m (by simpa using h)
  simp only[List.cons_append,C0];by_cases p1:x<y
  ·simp only[if_pos p1]
   rw[if_pos (by decide)]
  ·simp only[if_neg p1]
   by_cases p2:y<x
   ·simp only[if_pos p2]
    rw[if_pos (by decide)]
   ·simp only[if_neg p2]
    exact ih
def Ab6 (r:RtD):List Int:=AN1 r++[r.1]
theorem Ay2 (a b:RtD):cfR a b=C0 (Ab6 a) (Ab6 b):=by unfold cfR Ab6;rw[Bs4 (AN1 a) (AN1 b) _ _ rfl]
theorem AT9:SWO (ltOf cfR) where
 irrefl x:=by unfold ltOf;rw[Ay2,Du3];rfl
 trans x y z h1 h2:=by unfold ltOf at*;rw[Ay2,decide_eq_true_eq] at*;exact lex_trans _ _ _ h1 h2
 ntrans x y z h1 h2:=by unfold ltOf at*;rw[Ay2,decide_eq_false_iff_not,Int.not_lt] at*;exact Bs3 _ _ _ h1 h2
def E6 (r:RtD):List Value:=(E2 r).toList
theorem Du4 (blk off size:Nat)(w:World):CmpLays Tryz.prog 159 #[] E6 13 cfR blk off size w:=by intro m os dk _ x y;obtain⟨n,s0,s1,s2,s3,s4,s5,s6,s7,s8,s9,s10,s11⟩:=x;obtain⟨q,t0,t1,t2,t3,t4,t5,t6,t7,t8,t9,t10,t11⟩:=y;exact Ds9 n q s0 s1 s2 s3 s4 s5 s6 s7 s8 s9 s10 s11 t0 t1 t2 t3 t4 t5 t6 t7 t8 t9 t10 t11 _
end Go.Proofs.YthfjpkdadjemcaaGreat
