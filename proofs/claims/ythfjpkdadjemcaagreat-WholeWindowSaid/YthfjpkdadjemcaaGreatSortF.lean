/- Ways in their order: slices.SortFunc at routes. -/
import Derived.Shelf.SlSortCmp.WholeK
import Derived.Ground.SlsfProg
import Derived.Ground.NamesProg
import Derived.Test.YthfjpkdadjemcaaGreatMapF
set_option linter.unusedSimpArgs false
set_option linter.unusedVariables false
namespace Go.Proofs
open Go.Shelf Go.RowKit Go.Lib Go.Sort Tryz
def Tryz.Br9_ren:Ren:=⟨fun|6=>158|15=>172|14=>171|28=>188|29=>189|20=>180|21=>181|22=>182|23=>183|24=>184|25=>185|26=>186|27=>187|46=>195|47=>196|48=>197|49=>198|50=>199|57=>212|n=>n,fun|22=>109|24=>195|25=>262|3=>3|39=>93|0=>0|53=>247|55=>73|4=>4|46=>284|45=>283|50=>184|5=>5|9=>9|66=>298|70=>301|76=>310|77=>78|n=>n,fun|n=>n⟩
theorem Tryz.Br9:SlLaysF0.n6 Tryz.prog Tryz.Br9_ren:={
 mixed:=by kernel_rfl
 f6:=⟨f158.name,by decide,func158.trans (by kernel_rfl)⟩
 f14:=⟨f171.name,by decide,func171.trans (by kernel_rfl)⟩
 f15:=func172.trans (by kernel_rfl)
 f20:=⟨f180.name,by decide,func180.trans (by kernel_rfl)⟩
 f21:=⟨f181.name,by decide,func181.trans (by kernel_rfl)⟩
 f22:=⟨f182.name,by decide,func182.trans (by kernel_rfl)⟩
 f23:=⟨f183.name,by decide,func183.trans (by kernel_rfl)⟩
 f24:=⟨f184.name,by decide,func184.trans (by kernel_rfl)⟩
 f25:=⟨f185.name,by decide,func185.trans (by kernel_rfl)⟩
 f26:=⟨f186.name,by decide,func186.trans (by kernel_rfl)⟩
 f27:=⟨f187.name,by decide,func187.trans (by kernel_rfl)⟩
 f28:=func188.trans (by kernel_rfl)
 f29:=func189.trans (by kernel_rfl)
 f46:=⟨f195.name,by decide,func195.trans (by kernel_rfl)⟩
 f47:=func196.trans (by kernel_rfl)
 f48:=func197.trans (by kernel_rfl)
 f49:=⟨f198.name,by decide,func198.trans (by kernel_rfl)⟩
 f50:=⟨f199.name,by decide,func199.trans (by kernel_rfl)⟩
 f57:=⟨f212.name,by decide,func212.trans (by kernel_rfl)⟩
 t0:=underlying0
 a0:=isAgg0
 z0:=sizeOf0
 v0:=zeroValue0
 t3:=underlying3
 a3:=isAgg3
 z3:=sizeOf3
 v3:=zeroValue3
 t4:=underlying4
 a4:=isAgg4
 z4:=sizeOf4
 v4:=zeroValue4
 t5:=underlying5
 a5:=isAgg5
 z5:=sizeOf5
 v5:=zeroValue5
 t9:=underlying9
 a9:=isAgg9
 z9:=sizeOf9
 v9:=zeroValue9
 t22:=underlying109
 a22:=isAgg109
 z22:=sizeOf109
 v22:=zeroValue109
 t25:=underlying262
 a25:=isAgg262
 z25:=sizeOf262
 v25:=zeroValue262
 t39:=underlying93
 a39:=isAgg93
 z39:=sizeOf93
 v39:=zeroValue93
 t45:=underlying283
 a45:=isAgg283
 z45:=sizeOf283
 v45:=zeroValue283
 t46:=underlying284
 a46:=isAgg284
 z46:=sizeOf284
 v46:=zeroValue284
 t50:=underlying184
 a50:=isAgg184
 z50:=sizeOf184
 v50:=zeroValue184
 t53:=underlying247
 a53:=isAgg247
 z53:=sizeOf247
 v53:=zeroValue247
 t55:=underlying73
 a55:=isAgg73
 z55:=sizeOf73
 v55:=zeroValue73
 t66:=underlying298
 a66:=isAgg298
 z66:=sizeOf298
 v66:=zeroValue298
 t70:=underlying301
 a70:=isAgg301
 z70:=sizeOf301
 v70:=zeroValue301
 t76:=underlying310
 a76:=isAgg310
 z76:=sizeOf310
 v76:=zeroValue310
 t77:=underlying78
 a77:=isAgg78
 z77:=sizeOf78
 v77:=zeroValue78 }
end Go.Proofs
namespace Go.Proofs.YthfjpkdadjemcaaGreat
open Go.Shelf Go.RowKit Go.Lib Go.Sort
theorem Dy3 (l:List Int):B9 l l=0:=by
 induction l with
 |nil=>rfl
 |cons x l ih=>simp [B9,ih]
theorem lex_trans:∀(a b c:List Int),B9 a b<0→B9 b c<0→B9 a c<0
 | [],[],_,h,_=>by simp[B9] at h
 | [],_::_,[],_,h=>by simp[B9] at h
 | [],_::_,_::_,_,_=>by simp[B9]
 |_::_,[],_,h,_=>by simp[B9] at h
 |_::_,_::_,[],_,h=>by simp[B9] at h
 |x::a,y::b,z::c,h1,h2=>by
  have ih:=lex_trans a b c;simp only[B9] at*;by_cases p1:x<y
  ·by_cases p2:y<z
   ·rw[if_pos (by omega)];decide
   ·rw[if_neg p2] at h2
    by_cases p3:z<y
    ·rw[if_pos p3] at h2;omega
    ·rw[if_pos (by omega)];decide
  ·rw[if_neg p1] at h1
   by_cases p4:y<x
   ·rw[if_pos p4] at h1;omega
   ·rw[if_neg p4] at h1
    by_cases p2:y<z
    ·rw[if_pos (by omega)];decide
    ·rw[if_neg p2] at h2
     by_cases p3:z<y
     ·rw[if_pos p3] at h2;omega
     ·rw[if_neg p3] at h2
      rw[if_neg (by omega),if_neg (by omega)]
      exact ih h1 h2
theorem Bs0:∀(a b c:List Int),0≤B9 a b→0≤B9 b c→0≤B9 a c
 | [],[],[],_,_=>by simp[B9]
 | [],[],_::_,_,h=>by simp[B9] at h
 | [],_::_,_,h,_=>by simp[B9] at h
 |_::_,_,[],_,_=>by simp[B9]
 |_::_,[],_::_,_,h=>by simp[B9] at h
 |x::a,y::b,z::c,h1,h2=>by
  have ih:=Bs0 a b c;simp only[B9] at*;by_cases p1:x<y
  ·rw[if_pos p1] at h1;omega
  ·rw[if_neg p1] at h1
   by_cases p2:y<z
   ·rw[if_pos p2] at h2;omega
   ·rw[if_neg p2] at h2
    rw[if_neg (by omega)]
    by_cases p3:z<x
    ·rw[if_pos p3];decide
    ·rw[if_neg (by omega)] at h1
     rw[if_neg (by omega)] at h2
     rw[if_neg p3];exact ih h1 h2
def AM9 (r:RtD):List Int:=match r with
 | (_,s0,s1,s2,s3,s4,s5,s6,s7,s8,s9,s10,s11)=>[s0,s1,s2,s3,s4,s5,s6,s7,s8,s9,s10,s11]
def cfR (a b:RtD):Int:=if B9 (AM9 a) (AM9 b)≠0 then B9 (AM9 a) (AM9 b) else AB2 a.1 b.1
theorem Bs1:∀(xs ys:List Int) (n m:Int),xs.length=ys.length→B9 (xs++[n]) (ys++[m])=if B9 xs ys≠0 then B9 xs ys else AB2 n m
 | [],[],n,m,_=>by simp[B9,AB2]
 | [],_::_,_,_,h=>by simp at h
 |_::_,[],_,_,h=>by simp at h
 |x::xs,y::ys,n,m,h=>by
  have ih:=Bs1 xs ys n m (by simpa using h)
  simp only[List.cons_append,B9];by_cases p1:x<y
  ·simp only[if_pos p1]
   rw[if_pos (by decide)]
  ·simp only[if_neg p1]
   by_cases p2:y<x
   ·simp only[if_pos p2]
    rw[if_pos (by decide)]
   ·simp only[if_neg p2]
    exact ih
def Ae4 (r:RtD):List Int:=AM9 r++[r.1]
theorem Ax5 (a b:RtD):cfR a b=B9 (Ae4 a) (Ae4 b):=by unfold cfR Ae4;rw[Bs1 (AM9 a) (AM9 b) _ _ rfl]
theorem AT9:SWO (ltOf cfR) where
 irrefl x:=by unfold ltOf;rw[Ax5,Dy3];rfl
 trans x y z h1 h2:=by unfold ltOf at*;rw[Ax5,decide_eq_true_eq] at*;exact lex_trans _ _ _ h1 h2
 ntrans x y z h1 h2:=by unfold ltOf at*;rw[Ax5,decide_eq_false_iff_not,Int.not_lt] at*;exact Bs0 _ _ _ h1 h2
def E4 (r:RtD):List Value:=(D8 r).toList
theorem Dy4 (blk off size:Nat)(w:World):CmpLays Tryz.prog 159 #[] E4 13 cfR blk off size w:=by intro m os dk _ x y;obtain⟨n,s0,s1,s2,s3,s4,s5,s6,s7,s8,s9,s10,s11⟩:=x;obtain⟨q,t0,t1,t2,t3,t4,t5,t6,t7,t8,t9,t10,t11⟩:=y;exact Dw9 n q s0 s1 s2 s3 s4 s5 s6 s7 s8 s9 s10 s11 t0 t1 t2 t3 t4 t5 t6 t7 t8 t9 t10 t11 _
end Go.Proofs.YthfjpkdadjemcaaGreat
