/- Which of two routes comes first: the comparisons. -/
import Derived.Test.YthfjpkdadjemcaaGreatProg
import Derived.Test.YthfjpkdadjemcaaGreatMore
import Derived.Sort.Grow
import Derived.Handy
import Derived.Deep.Cut
import Derived.Deep.RegionWith
set_option linter.unusedSimpArgs false
set_option linter.unusedVariables false
namespace Go.Proofs.YthfjpkdadjemcaaGreat
open Go.RowKit
open _root_.List renaming drop_of_length_le → FE6
def AA6 (x y:Int):Int:=if x<y then -1 else if y<x then 1 else 0
def C0:List Int→List Int→Int
 | [],[]=>0
 | [],_::_ => -1
 |_::_,[]=>1
 |x::xs,y::ys=>if x<y then -1 else if y<x then 1 else C0 xs ys
theorem Bq4 (x:Int)(w:World):Calls Tryz.prog 161 #[.int .i64 x] w fun e w'=>e = .returned (.bool false)∧w'=w:=by
 go_enter Tryz.func161,Tryz.ntmps161
 go_wp2
 go_ret
 simp
set_option maxRecDepth 100000 in
theorem Bq5 (x y:Int)(w:World):Calls Tryz.prog 120 #[.int .i64 x,.int .i64 y] w fun e w'=>e = .returned (.int .i64 (AA6 x y))∧w'=w:=by
 have h1:=fun w=>Bq4 x w
 have h2:=fun w=>Bq4 y w
 unfold AA6
 go_enter Tryz.func120,Tryz.ntmps120
 go_wp2_with (first | (go_at_call 161;refine (h1 _).mono ?_;rintro e w' ⟨rfl,rfl⟩) | (go_at_call 161;refine (h2 _).mono ?_;rintro e w' ⟨rfl,rfl⟩))
 all_goals go_ret
 all_goals exact⟨rfl,rfl⟩
theorem drop_cons {l:List Int}{k:Nat}(h:k<l.length):l.drop k=l.getD k 0::l.drop (k+1):=by rw[List.drop_eq_getElem_cons h];simp[List.getD,h]
theorem Ds5 {xs ys:List Int}{k:Nat}(h1:k<xs.length)(h2:k<ys.length):C0 (xs.drop k) (ys.drop k)=if AA6 (xs.getD k 0) (ys.getD k 0)≠0 then AA6 (xs.getD k 0) (ys.getD k 0) else C0 (xs.drop (k+1)) (ys.drop (k+1)):=by
 rw[drop_cons h1,drop_cons h2];simp only[C0,AA6];split
 ·rw[if_pos (by decide)]
 ·split
  ·rw[if_pos (by decide)]
  ·rw[if_neg (by decide)]
set_option maxRecDepth 100000 in
set_option maxHeartbeats 1000000 in
theorem Ds6 (xs ys:List Int)(b1 o1 c1 b2 o2 c2:Nat)(w:World)(hl1:xs.length≤4611686018427387903)(hl2:ys.length≤4611686018427387903)
  (hx:∀j,j<xs.length→w.cell? ⟨b1,o1+j,none⟩=some (.int .i64 (xs.getD j 0))) (hy:∀j,j<ys.length→w.cell? ⟨b2,o2+j,none⟩=some (.int .i64 (ys.getD j 0))):
  Calls Tryz.prog 174 #[.slice (some ⟨b1,o1,none⟩) xs.length c1,.slice (some ⟨b2,o2,none⟩) ys.length c2] w fun e w'=>e = .returned (.int .i64 (C0 xs ys))∧w'=w:=by
 have hc:=fun x y w=>Bq5 x y w
 have Hx:=(show Hid _ from hx);have Hy:=(show Hid _ from hy);clear hx hy
 go_enter Tryz.func174,Tryz.ntmps174
 go_wp2
 go_loopw [11] (fun i wr=>∃k:Nat,k≤xs.length∧i = .int .i64 (k:Int)∧C0 (xs.drop k) (ys.drop k)=C0 xs ys∧wr=w) (fun i _=>(xs.length-Go.RowKit.intOf i).toNat)
 case atStart=>exact ⟨0,by omega,by go_num,rfl,rfl⟩
 case round=>
  obtain⟨k,hk,rfl,hL,rfl⟩:=hrel;by_cases hlt:k<xs.length
  ·have q1:=Hx.out k hlt
   have i1:(k:Int)<(xs.length:Int):=by omega
   by_cases h2:k<ys.length
   ·have q2:=Hy.out k h2
    have i2:¬(ys.length:Int)≤(k:Int):=by omega
    have i3:(k:Int)<(ys.length:Int):=by omega
    have hS:Hid _:=Ds5 hlt h2;have hc':=hc (xs.getD k 0) (ys.getD k 0);clear hc;clear Hx Hy;generalize xs.getD k 0=x at q1 hS hc';generalize ys.getD k 0=y at q2 hS hc';generalize AA6 x y=c at hc' hS;by_cases hc0:c=0
    ·subst hc0
     have h5:Hid (C0 (xs.drop (k+1)) (ys.drop (k+1))=C0 xs ys):=by
      have h5:C0 (xs.drop k) (ys.drop k)=if (0:Int)≠0 then 0 else C0 (xs.drop (k+1)) (ys.drop (k+1)):=hS
      rw[if_neg (by decide),hL] at h5
      exact h5.symm
     clear hS
     go_wp2_with (go_at_call 120;refine (hc' _).mono ?_;rintro e w' ⟨rfl,rfl⟩)
     exact⟨⟨k+1,by omega,by go_num,h5,trivial⟩,by simp only[Go.RowKit.intOf];omega⟩
    ·have h5:Hid (C0 xs ys=c):=by
      have h5:C0 (xs.drop k) (ys.drop k)=if c≠0 then c else C0 (xs.drop (k+1)) (ys.drop (k+1)):=hS
      rw[if_pos hc0,hL] at h5;exact h5
     clear hS
     go_wp2_with (go_at_call 120;refine (hc' _).mono ?_;rintro e w' ⟨rfl,rfl⟩)
     go_ret
     exact⟨by rw[show C0 xs ys=c from h5];rfl,rfl⟩
   ·have i2:(ys.length:Int)≤(k:Int):=by omega
    have hS:Hid (C0 xs ys=1):=by
     show C0 xs ys=1;rw[← hL,drop_cons hlt,FE6 (show ys.length≤k by omega)]
     rfl
    clear Hx Hy hc;generalize xs.getD k 0=x at q1
    go_wp2
    go_ret
    exact⟨by rw[show C0 xs ys=1 from hS];rfl,rfl⟩
  ·have i1:¬(k:Int)<(xs.length:Int):=by omega
   have hS:Hid (C0 [] (ys.drop xs.length)=C0 xs ys):=by show C0 [] (ys.drop xs.length)=C0 xs ys;rw[← hL,show k=xs.length by omega,List.drop_length]
   clear Hx Hy hc;by_cases h2:xs.length<ys.length
   ·have i3:(xs.length:Int)<(ys.length:Int):=by omega
    have h6:Hid (C0 xs ys = -1):=by have h5:C0 [] (ys.drop xs.length)=C0 xs ys:=hS;show C0 xs ys = -1;rw[← h5,drop_cons h2];rfl
    clear hS
    go_wp2
    go_ret
    exact⟨by rw[show C0 xs ys = -1 from h6];rfl,rfl⟩
   ·have i3:¬(xs.length:Int)<(ys.length:Int):=by omega
    have h6:Hid (C0 xs ys=0):=by
     have h5:C0 [] (ys.drop xs.length)=C0 xs ys:=hS;show C0 xs ys=0;rw[← h5,FE6 (by omega)]
     rfl
    clear hS
    go_wp2
    go_ret
    exact⟨by rw[show C0 xs ys=0 from h6];rfl,rfl⟩

/- Which of two routes comes first. -/
open Go.Sort
set_option maxRecDepth 100000 in
set_option maxHeartbeats 1000000 in
theorem Ds7 (b o c:Nat)(x y:Int)(w:World)(h0:w.cell? ⟨b,o,none⟩=some (.int .i64 x))(h1:w.cell? ⟨b,o+1,none⟩=some (.int .i64 y)):
  Calls Tryz.prog 173 #[.slice (some ⟨b,o,none⟩) 2 c] w fun e w'=>e = .returned (.int .i64 (if x≠0 then x else y))∧w'=w:=by
 go_enter Tryz.func173,Tryz.ntmps173
 go_wp2
 refine wp_loop_rounds 3 ?_;rw[rounds_succ];by_cases hx:x=0
 ·subst hx
  go_wp2
  rw[rounds_succ];by_cases hy:y=0
  ·subst hy
   go_wp2
   rw[rounds_succ]
   go_wp2
   go_ret
   exact⟨rfl,rfl⟩
  ·go_wp2
   go_ret
   exact⟨rfl,rfl⟩
 ·go_wp2
  go_ret
  exact⟨rfl,rfl⟩
theorem Bq6 (a:Addr)(w:World):(Instr.sliceAt 193 (.pointer (some a)) none none none).run Tryz.prog w = .ok (.slice (some a) 12 12) w:=by
 have und:Tryz.prog.underlying 193=some (.array 12 3):=by kernel_rfl
 have size:(sizeOf 3).run Tryz.prog w = .ok 1 w:=by kernel_rfl
 simp[Instr.sliceAt,Instr.sureAddr,underlying,und,Instr.sliceBounds,Instr.sliceBound,asIntOf,size,go_sem]
theorem AT8 (w:World)(cs:Array Value)(T k:Nat):(w.alloc (.cells cs T (0,0))).cell? ⟨w.heap.size,k,none⟩=cs[k]? := by
 show (match (w.heap.push (.cells cs T (0,0)))[w.heap.size]? with
  |some (.cells c _ _)=>if (none:Option _).isSome then none else c[k]?
  |_=>none)=_
 rw[Array.getElem?_push_size];rfl
theorem A4 (w:World)(o:Obj):(w.alloc o).heap.size=w.heap.size+1:=by show (w.heap.push o).size=_;rw[Array.size_push]
theorem Bq7 {l:List Int}{j:Nat}(h:j<l.length):(l.map (Value.int .i64))[j]? = some (.int .i64 (l.getD j 0)):=by simp[h,List.getD]
theorem Ds8 {w w':World}(hb:Below w.heap.size w w')(hd:w.drawn≤w'.drawn):∃q os,w'=grow (w.drewN q) os:=by obtain⟨x,rfl⟩:=T9 hb;have hd':w.drawn≤x.drawn:=hd;refine⟨x.drawn-w.drawn,x.B9,?_⟩;show ({w with heap:=w.heap++x.B9,drawn:=x.drawn}:World)={w with drawn:=w.drawn+(x.drawn-w.drawn),heap:=w.heap++x.B9};rw[Nat.add_sub_cancel' hd']
set_option maxRecDepth 100000 in
set_option maxHeartbeats 4000000 in
theorem Ds9 (n m x0 x1 x2 x3 x4 x5 x6 x7 x8 x9 x10 x11 y0 y1 y2 y3 y4 y5 y6 y7 y8 y9 y10 y11:Int)(w:World):
  Calls Tryz.prog 159 #[.agg #[.int .i64 n,.int .i64 x0,.int .i64 x1,.int .i64 x2,.int .i64 x3,.int .i64 x4,.int .i64 x5,.int .i64 x6,.int .i64 x7,.int .i64 x8,.int .i64 x9,.int .i64 x10,.int .i64 x11],.agg #[.int .i64 m,.int .i64 y0,.int .i64 y1,.int .i64 y2,.int .i64 y3,.int .i64 y4,.int .i64 y5,.int .i64 y6,.int .i64 y7,.int .i64 y8,.int .i64 y9,.int .i64 y10,.int .i64 y11]] w fun e w'=>e = .returned (.int .i64 (if C0 [x0,x1,x2,x3,x4,x5,x6,x7,x8,x9,x10,x11] [y0,y1,y2,y3,y4,y5,y6,y7,y8,y9,y10,y11]≠0 then C0 [x0,x1,x2,x3,x4,x5,x6,x7,x8,x9,x10,x11] [y0,y1,y2,y3,y4,y5,y6,y7,y8,y9,y10,y11] else AA6 n m))∧∃q os,w'=grow (w.drewN q) os:=by
 have hs1:=fun w1=>Bq6 ⟨w.heap.size,1,none⟩ w1
 have hs2:=fun w1=>Bq6 ⟨w.heap.size+1,1,none⟩ w1
 have hcm:=fun (w1:World) (hh:w1.heap=((w.alloc (.cells #[.int .i64 n,.int .i64 x0,.int .i64 x1,.int .i64 x2,.int .i64 x3,.int .i64 x4,.int .i64 x5,.int .i64 x6,.int .i64 x7,.int .i64 x8,.int .i64 x9,.int .i64 x10,.int .i64 x11] 195 (0,0))).alloc (.cells #[.int .i64 m,.int .i64 y0,.int .i64 y1,.int .i64 y2,.int .i64 y3,.int .i64 y4,.int .i64 y5,.int .i64 y6,.int .i64 y7,.int .i64 y8,.int .i64 y9,.int .i64 y10,.int .i64 y11] 195 (0,0))).heap)=>Ds6 [x0,x1,x2,x3,x4,x5,x6,x7,x8,x9,x10,x11] [y0,y1,y2,y3,y4,y5,y6,y7,y8,y9,y10,y11] w.heap.size 1 12 (w.heap.size+1) 1 12 w1 (by simp) (by simp)
  (fun j hj=>by
   rw[World.cell?_of_block (w:=w.alloc (.cells #[.int .i64 n,.int .i64 x0,.int .i64 x1,.int .i64 x2,.int .i64 x3,.int .i64 x4,.int .i64 x5,.int .i64 x6,.int .i64 x7,.int .i64 x8,.int .i64 x9,.int .i64 x10,.int .i64 x11] 195 (0,0))) (by rw[hh];exact Below.heap_alloc _ _ _ (by rw[A4];exact Nat.lt_succ_self _)),AT8,Nat.add_comm,← Bq7 hj]
   simp)
  (fun j hj=>by
   have e:w.heap.size+1=(w.alloc (.cells #[.int .i64 n,.int .i64 x0,.int .i64 x1,.int .i64 x2,.int .i64 x3,.int .i64 x4,.int .i64 x5,.int .i64 x6,.int .i64 x7,.int .i64 x8,.int .i64 x9,.int .i64 x10,.int .i64 x11] 195 (0,0))).heap.size:=(A4 _ _).symm;rw[World.cell?_of_block (w:=(w.alloc (.cells #[.int .i64 n,.int .i64 x0,.int .i64 x1,.int .i64 x2,.int .i64 x3,.int .i64 x4,.int .i64 x5,.int .i64 x6,.int .i64 x7,.int .i64 x8,.int .i64 x9,.int .i64 x10,.int .i64 x11] 195 (0,0))).alloc (.cells #[.int .i64 m,.int .i64 y0,.int .i64 y1,.int .i64 y2,.int .i64 y3,.int .i64 y4,.int .i64 y5,.int .i64 y6,.int .i64 y7,.int .i64 y8,.int .i64 y9,.int .i64 y10,.int .i64 y11] 195 (0,0))) (by rw[hh]),e,AT8,Nat.add_comm,← Bq7 hj]
   simp)
 generalize C0 [x0,x1,x2,x3,x4,x5,x6,x7,x8,x9,x10,x11] [y0,y1,y2,y3,y4,y5,y6,y7,y8,y9,y10,y11]=r at hcm ⊢;have hcj:=fun w1=>Bq5 n m w1
 generalize AA6 n m=z at hcj ⊢;have hor:=fun (w1:World) (hh:w1.heap=(((w.alloc (.cells #[.int .i64 n,.int .i64 x0,.int .i64 x1,.int .i64 x2,.int .i64 x3,.int .i64 x4,.int .i64 x5,.int .i64 x6,.int .i64 x7,.int .i64 x8,.int .i64 x9,.int .i64 x10,.int .i64 x11] 195 (0,0))).alloc (.cells #[.int .i64 m,.int .i64 y0,.int .i64 y1,.int .i64 y2,.int .i64 y3,.int .i64 y4,.int .i64 y5,.int .i64 y6,.int .i64 y7,.int .i64 y8,.int .i64 y9,.int .i64 y10,.int .i64 y11] 195 (0,0))).alloc (.cells #[.int .i64 r,.int .i64 z] 3 (0,0))).heap)=>Ds7 (w.heap.size+1+1) 0 2 r z w1 (by
   have e:w.heap.size+1+1=((w.alloc (.cells #[.int .i64 n,.int .i64 x0,.int .i64 x1,.int .i64 x2,.int .i64 x3,.int .i64 x4,.int .i64 x5,.int .i64 x6,.int .i64 x7,.int .i64 x8,.int .i64 x9,.int .i64 x10,.int .i64 x11] 195 (0,0))).alloc (.cells #[.int .i64 m,.int .i64 y0,.int .i64 y1,.int .i64 y2,.int .i64 y3,.int .i64 y4,.int .i64 y5,.int .i64 y6,.int .i64 y7,.int .i64 y8,.int .i64 y9,.int .i64 y10,.int .i64 y11] 195 (0,0))).heap.size:=by rw[A4,A4]
   rw[World.cell?_of_block (w:=((w.alloc (.cells #[.int .i64 n,.int .i64 x0,.int .i64 x1,.int .i64 x2,.int .i64 x3,.int .i64 x4,.int .i64 x5,.int .i64 x6,.int .i64 x7,.int .i64 x8,.int .i64 x9,.int .i64 x10,.int .i64 x11] 195 (0,0))).alloc (.cells #[.int .i64 m,.int .i64 y0,.int .i64 y1,.int .i64 y2,.int .i64 y3,.int .i64 y4,.int .i64 y5,.int .i64 y6,.int .i64 y7,.int .i64 y8,.int .i64 y9,.int .i64 y10,.int .i64 y11] 195 (0,0))).alloc (.cells #[.int .i64 r,.int .i64 z] 3 (0,0))) (by rw[hh]),e,AT8]
   rfl)
  (by
   have e:w.heap.size+1+1=((w.alloc (.cells #[.int .i64 n,.int .i64 x0,.int .i64 x1,.int .i64 x2,.int .i64 x3,.int .i64 x4,.int .i64 x5,.int .i64 x6,.int .i64 x7,.int .i64 x8,.int .i64 x9,.int .i64 x10,.int .i64 x11] 195 (0,0))).alloc (.cells #[.int .i64 m,.int .i64 y0,.int .i64 y1,.int .i64 y2,.int .i64 y3,.int .i64 y4,.int .i64 y5,.int .i64 y6,.int .i64 y7,.int .i64 y8,.int .i64 y9,.int .i64 y10,.int .i64 y11] 195 (0,0))).heap.size:=by rw[A4,A4]
   rw[World.cell?_of_block (w:=((w.alloc (.cells #[.int .i64 n,.int .i64 x0,.int .i64 x1,.int .i64 x2,.int .i64 x3,.int .i64 x4,.int .i64 x5,.int .i64 x6,.int .i64 x7,.int .i64 x8,.int .i64 x9,.int .i64 x10,.int .i64 x11] 195 (0,0))).alloc (.cells #[.int .i64 m,.int .i64 y0,.int .i64 y1,.int .i64 y2,.int .i64 y3,.int .i64 y4,.int .i64 y5,.int .i64 y6,.int .i64 y7,.int .i64 y8,.int .i64 y9,.int .i64 y10,.int .i64 y11] 195 (0,0))).alloc (.cells #[.int .i64 r,.int .i64 z] 3 (0,0))) (by rw[hh]),e,AT8]
   rfl)
 generalize (if r≠0 then r else z)=u at hor ⊢
 go_enter Tryz.func159,Tryz.ntmps159
 go_upto_region 1 with fail
 go_region_with (first
  | (go_at_call 174;refine (hcm _ ?hh).mono ?_;(case hh=>rfl);rintro e w' ⟨rfl,rfl⟩)
  | (go_at_call 120;refine (hcj _).mono ?_;rintro e w' ⟨rfl,rfl⟩)
  | (go_at_call 173;refine (hor _ ?hh).mono ?_;(case hh=>rfl);rintro e w' ⟨rfl,rfl⟩))
 all_goals (clear hor hcm hcj hs1 hs2;go_wp2;go_ret;refine⟨rfl,Ds8 (by (repeat (first | exact Below.refl _ _ | assumption | refine Below.alloc ?_ (by (try simp[A9]) <;> omega) _ | refine Below.setCell ?_ (by (try simp[A9]) <;> omega) _ | refine S6 ?_ (by (try simp[A9]) <;> omega) _ | refine S7 ?_ (by (try simp[A9]) <;> omega) _ | refine Below.drew ?_))) ?_⟩;first | exact Nat.le_refl _ | exact Nat.le_add_right _ _)
end Go.Proofs.YthfjpkdadjemcaaGreat
