/- Ways that grow: one search behind another, whatever came between. -/
import Derived.Test.YthfjpkdadjemcaaGreatG1
import Derived.Test.YthfjpkdadjemcaaGreatSortF
import Derived.Test.YthfjpkdadjemcaaGreatTkRep
import Derived.Maps.RangeWalk
import Derived.Shelf.SlSortCmp.NoneTotal
set_option linter.unusedSimpArgs false
set_option linter.unusedVariables false
namespace Go.Proofs.YthfjpkdadjemcaaGreat
open Go.RowKit
theorem Ds1 {w:World}{G M:Nat}{l l':List RtD}{e e':Int}:grown (grown w G M l e) G M l' e'=grown w G M l' e':=by unfold grown;rw[Br6,Br7,Br8]
theorem Ac0 {w:World}{G M:Nat}{l:List RtD}{e:Int}:(grown w G M l e).heap.size=w.heap.size:=by unfold grown;rw[size_setCell,AG2]
theorem Ds2 {x y:World}{G M k:Nat}{l:List RtD}{e:Int}(h:x.heap[k]? = y.heap[k]?):(grown x G M l e).heap[k]? = (grown y G M l e).heap[k]? := by unfold grown World.setCell;simp only;rw[Array.getElem?_modify,Array.getElem?_modify,AL5,AL5,h]
theorem Ds3 {w W:World}{G M:Nat}{l l':List RtD}{e e':Int}{z:M6}(hb:Below (grown w G M l e).heap.size (grown w G M l e) W):∃z',more (grown W G M l' e') z=more (grown w G M l' e') z':=by
 refine U0 ⟨hb.os,hb.tape,hb.output,?_,?_⟩
 ·have h1:=hb.size
  rw[Ac0] at h1 ⊢;rw[B4,Ac0];omega
 ·intro k hk
  rw[Ac0] at hk;have h1:=hb.size;rw[Ac0] at h1;rw[AL4 (by rw[Ac0];omega)]
  have h2:=hb.block k (by rw[Ac0];exact hk)
  rw[Ds2 h2,Ds1]
end Go.Proofs.YthfjpkdadjemcaaGreat

/- Ways that grow: where a search begins. -/
set_option linter.unusedSimpArgs false
set_option linter.unusedVariables false
namespace Go.Proofs.YthfjpkdadjemcaaGreat
open Go.RowKit
theorem Ds4 {B:Nat}{a w:World}(h:Below B a w){M:Nat}(hM:B≤M)(l:List RtD):Below B a (B6 w M l):=by
 refine⟨h.os,h.tape,h.output,?_,fun k hk=> ?_⟩
 ·rw[AG2];exact h.size
 ·rw[AL5,if_neg (by omega)]
  exact h.block k hk
theorem Aj8 {B:Nat}{a w:World}(h:Below B a w)(hB:B≤w.heap.size)(x:M6):Below B a (more w x):=by
 refine⟨h.os,h.tape,h.output,?_,fun k hk=> ?_⟩
 ·rw[B4];have:=h.size;omega
 ·rw[AL4 (by omega)]
  exact h.block k hk
theorem Ds5 {W:World}{M:Nat}{l:List RtD}(h:L5 W M l):(Instr.range 257 (.map (some M))).run Tryz.prog W = .ok (.pointer (some ⟨W.heap.size,0,none⟩)) (W.alloc (.mapIter (some M) l.length #[] l.length)):=by have hb:W.heap[M]? = some (.map (mapOf l) l.length):=h;simp[Instr.range,run_underlying Ax7,MapKept.run_getObj_map hb,Result.andThen,go_sem]
theorem Ds6 {w:World}{xw:M6}{c1 c2 c3 c4:Array Value}{tv gv:Value}{lo hi:Int}{t:TkD}{bs os cs:Nat}{na:Nat→Nat×Nat}{nn:Nat→Option Addr}{nc:Nat→Nat}(htv:tv = .slice (some ⟨bs,os,none⟩) t.1.length cs)(hT:Y0 w w.heap.size t bs os na nn nc):
  O0 (((more ((((w.alloc (.cells c1 111)).alloc (.cells c2 100)).alloc (.cells c3 44)).alloc (.cells c4 111)) xw).alloc (.map #[] 0)).alloc (.cells #[tv,gv,.int .i64 lo,.int .i64 hi,.map (some (w.heap.size+1+1+1+1+xw.C2.size)),.int .i64 0] 259)) (w.heap.size+1+1+1+1+xw.C2.size+1) (w.heap.size+1+1+1+1+xw.C2.size) w.heap.size t (lo,hi) bs os cs na nn nc [] 0∧Below w.heap.size w (((more ((((w.alloc (.cells c1 111)).alloc (.cells c2 100)).alloc (.cells c3 44)).alloc (.cells c4 111)) xw).alloc (.map #[] 0)).alloc (.cells #[tv,gv,.int .i64 lo,.int .i64 hi,.map (some (w.heap.size+1+1+1+1+xw.C2.size)),.int .i64 0] 259))∧(((more ((((w.alloc (.cells c1 111)).alloc (.cells c2 100)).alloc (.cells c3 44)).alloc (.cells c4 111)) xw).alloc (.map #[] 0)).alloc (.cells #[tv,gv,.int .i64 lo,.int .i64 hi,.map (some (w.heap.size+1+1+1+1+xw.C2.size)),.int .i64 0] 259)).heap.size=(w.heap.size+1+1+1+1+xw.C2.size+1)+1:=by
 have hA:((((w.alloc (.cells c1 111)).alloc (.cells c2 100)).alloc (.cells c3 44)).alloc (.cells c4 111)).heap.size=w.heap.size+1+1+1+1:=by rw[A5,A5,A5,A5]
 have hbA:Below w.heap.size w ((((w.alloc (.cells c1 111)).alloc (.cells c2 100)).alloc (.cells c3 44)).alloc (.cells c4 111)):=by
  refine Below.alloc (Below.alloc (Below.alloc (Below.alloc (Below.refl _ _) (Nat.le_refl _) _) ?_ _) ?_ _) ?_ _
  ·rw[A5];omega
  ·rw[A5,A5];omega
  ·rw[A5,A5,A5];omega
 generalize ((((w.alloc (.cells c1 111)).alloc (.cells c2 100)).alloc (.cells c3 44)).alloc (.cells c4 111))=A at hA hbA;have h1:(more A xw).heap.size=(w.heap.size+1+1+1+1+xw.C2.size):=by rw[B4,hA]
 have hb1:Below w.heap.size w (more A xw):=Aj8 hbA (by omega) xw
 generalize more A xw=B1 at h1 hb1;have h2:(B1.alloc (.map #[] 0)).heap.size=(w.heap.size+1+1+1+1+xw.C2.size+1):=by rw[A5,h1]
 have hm:(B1.alloc (.map #[] 0)).heap[B1.heap.size]? = some (.map #[] 0):=by show (B1.heap.push (.map #[] 0))[B1.heap.size]? = _;rw[Array.getElem?_push_size]
 have hb2:Below w.heap.size w (B1.alloc (.map #[] 0)):=Below.alloc hb1 (by omega) _
 rw[h1] at hm;generalize B1.alloc (.map #[] 0)=B2 at h2 hm hb2;have hb3:Below w.heap.size w (B2.alloc (.cells #[tv,gv,.int .i64 lo,.int .i64 hi,.map (some (w.heap.size+1+1+1+1+xw.C2.size)),.int .i64 0] 259)):=Below.alloc hb2 (by omega) _
 have h3:(B2.alloc (.cells #[tv,gv,.int .i64 lo,.int .i64 hi,.map (some (w.heap.size+1+1+1+1+xw.C2.size)),.int .i64 0] 259)).heap.size=(w.heap.size+1+1+1+1+xw.C2.size+1)+1:=by rw[A5,h2]
 have hc:∀k,(B2.alloc (.cells #[tv,gv,.int .i64 lo,.int .i64 hi,.map (some (w.heap.size+1+1+1+1+xw.C2.size)),.int .i64 0] 259)).cell? ⟨(w.heap.size+1+1+1+1+xw.C2.size+1),k,none⟩=#[tv,gv,.int .i64 lo,.int .i64 hi,.map (some (w.heap.size+1+1+1+1+xw.C2.size)),.int .i64 0][k]? := by intro k;rw[← h2];exact AS6 _ _ _ _
 refine⟨⟨by omega,by rw[h3];omega,by rw[h3];omega,by rw[hc,← htv];rfl,by rw[hc];rfl,by rw[hc];rfl,by rw[hc];rfl,by rw[hc];rfl,?_,?_,hT.keep fun b i hlt=>World.cell?_of_block (w:=w) (hb3.block b hlt)⟩,hb3,h3⟩
 ·have hh:(B2.alloc (.cells #[tv,gv,.int .i64 lo,.int .i64 hi,.map (some (w.heap.size+1+1+1+1+xw.C2.size)),.int .i64 0] 259)).heap[(w.heap.size+1+1+1+1+xw.C2.size+1)]? = some (.cells #[tv,gv,.int .i64 lo,.int .i64 hi,.map (some (w.heap.size+1+1+1+1+xw.C2.size)),.int .i64 0] 259 (0,0)):=by
   rw[← h2];show (B2.heap.push _)[B2.heap.size]? = _;rw[Array.getElem?_push_size]
  unfold World.frozen?;simp only;rw[hh];rfl
 ·unfold L5
  rw[Below.heap_alloc B2 _ _ (by omega),hm]
  rfl
end Go.Proofs.YthfjpkdadjemcaaGreat

/- Ways that grow: the routes found, one behind the other, and in their order. -/
set_option linter.unusedSimpArgs false
set_option linter.unusedVariables false
namespace Go.Proofs.YthfjpkdadjemcaaGreat
open Go.Shelf Go.RowKit Go.Lib Go.Sort Go.ChangeMaps
theorem AS9 (r:RtD):(F0 r).length=13:=by obtain⟨n,s0,s1,s2,s3,s4,s5,s6,s7,s8,s9,s10,s11⟩:=r;rfl
theorem Bt1 (xs:List RtD):(xs.flatMap F0).length=xs.length*13:=by
 induction xs with
 |nil=>rfl
 |cons x xs ih=>rw [List.flatMap_cons,List.length_append,ih,AS9,List.length_cons];omega
theorem BO9:∀(xs:List RtD) (i j:Nat) (x:RtD),xs[i]? = some x→j<13→(xs.flatMap F0)[i*13+j]? = (F0 x)[j]?
 | [],i,j,x,h,_=>by simp at h
 |y::xs,0,j,x,h,hj=>by simp at h;subst h;rw[List.flatMap_cons,Nat.zero_mul,Nat.zero_add,List.getElem?_append_left (by rw[AS9];exact hj)]
 |y::xs,i+1,j,x,h,hj=>by
  rw[List.flatMap_cons,List.getElem?_append_right (by rw[AS9];omega),AS9]
  have e:(i+1)*13+j-13=i*13+j:=by omega
  rw[e];exact BO9 xs i j x (by simpa using h) hj
theorem Bt2 (xs:List RtD):(flatK F0 13 xs.toArray).toList=xs.flatMap F0:=by
 apply List.ext_getElem?;intro t;by_cases ht:t<xs.length*13
 ·have h1:(flatK F0 13 xs.toArray)[t]! = (F0 xs.toArray[t/13]!)[t % 13]! := get_flatK F0 13 xs.toArray t (by simpa using ht)
  have hd:t/13<xs.length:=by omega
  have e:t=t/13*13+t % 13:=by omega
  have h2:=BO9 xs (t/13) (t % 13) _ (List.getElem?_eq_getElem hd) (Nat.mod_lt _ (by decide))
  rw[← e] at h2;rw[h2,Array.getElem?_toList,getElem?_pos _ t (by simpa using ht)]
  have h3:(flatK F0 13 xs.toArray)[t]'(by simpa using ht)=(flatK F0 13 xs.toArray)[t]! := by rw[getElem!_pos]
  rw[h3,h1];have h4:xs.toArray[t/13]! = xs[t/13]:=by simp[getElem!_pos,hd]
  rw[h4];have h5:t % 13<(F0 xs[t/13]).length:=by rw[AS9];exact Nat.mod_lt _ (by decide)
  rw[List.getElem?_eq_getElem h5];simp[getElem!_pos,h5]
 ·rw[List.getElem?_eq_none (by simp;omega),List.getElem?_eq_none (by rw[Bt1];omega)]
theorem Bt3:∀(a b:List Int),0≤C3 a b→0≤C3 b a→a=b
 | [],[],_,_=>rfl
 | [],_::_,h,_=>by simp[C3] at h
 |_::_,[],_,h=>by simp[C3] at h
 |x::a,y::b,h1,h2=>by
  have ih:=Bt3 a b;simp only[C3] at h1 h2;by_cases p1:x<y
  ·rw[if_pos p1] at h1;omega
  ·rw[if_neg p1] at h1
   by_cases p2:y<x
   ·rw[if_pos p2] at h2;omega
   ·rw[if_neg p2] at h1 h2
    rw[if_neg p1] at h2;rw[ih h1 h2,show x=y by omega]
theorem key_inj (a b:RtD)(h:Ab9 a=Ab9 b):a=b:=by obtain⟨n,s0,s1,s2,s3,s4,s5,s6,s7,s8,s9,s10,s11⟩:=a;obtain⟨m,t0,t1,t2,t3,t4,t5,t6,t7,t8,t9,t10,t11⟩:=b;simp only[Ab9,AL9,List.cons_append,List.nil_append,List.cons.injEq] at h;obtain⟨rfl,rfl,rfl,rfl,rfl,rfl,rfl,rfl,rfl,rfl,rfl,rfl,rfl,_⟩:=h;rfl
theorem BP0 (x y:RtD)(h1:ltOf cfR x y=false)(h2:ltOf cfR y x=false):x=y:=by unfold ltOf at h1 h2;rw[Ay0,decide_eq_false_iff_not,Int.not_lt] at h1 h2;exact key_inj _ _ (Bt3 _ _ h1 h2)
def AT0 (x:RtD):List RtD→List RtD
 | []=>[x]
 |y::ys=>bif ltOf cfR y x then y::AT0 x ys else x::y::ys
def K1:List RtD→List RtD
 | []=>[]
 |x::xs=>AT0 x (K1 xs)
theorem BP1 (x:RtD):∀ys,(AT0 x ys).Perm (x::ys)
 | []=>List.Perm.refl _
 |y::ys=>by
  rw[AT0];cases ltOf cfR y x with
  |true=>exact ((BP1 x ys).cons y).trans (List.Perm.swap x y ys)
  |false=>exact List.Perm.refl _
theorem Ac1:∀xs,(K1 xs).Perm xs
 | []=>List.Perm.refl _
 |x::xs=>(BP1 x (K1 xs)).trans ((Ac1 xs).cons x)
theorem Bt4 (x:RtD):∀ys:List RtD,ys.Pairwise (fun a b=>ltOf cfR b a=false)→(AT0 x ys).Pairwise (fun a b=>ltOf cfR b a=false)
 | [],_=>by rw[AT0];exact List.pairwise_singleton _ _
 |y::ys,h=>by
  obtain⟨h1,h2⟩:=List.pairwise_cons.1 h;rw[AT0];cases hc:ltOf cfR y x with
  |true=>
   refine List.pairwise_cons.2 ⟨fun z hz=> ?_,Bt4 x ys h2⟩
   rcases List.mem_cons.1 ((BP1 x ys).mem_iff.1 hz) with rfl | hz
   ·cases h3:ltOf cfR z y with
    |false=>rfl
    |true=>
     have:=AS7.trans _ _ _ hc h3;rw[AS7.irrefl] at this;cases this
   ·exact h1 z hz
  |false=>
   refine List.pairwise_cons.2 ⟨fun z hz=> ?_,h⟩
   rcases List.mem_cons.1 hz with rfl | hz
   ·exact hc
   ·exact AS7.ntrans _ _ _ (h1 z hz) hc
theorem Ay1:∀xs:List RtD,(K1 xs).Pairwise (fun a b=>ltOf cfR b a=false)
 | []=>List.Pairwise.nil
 |x::xs=>Bt4 x _ (Ay1 xs)
theorem Ay2 (xs:List RtD):(K1 xs).length=xs.length:=(Ac1 xs).length_eq
theorem Bt5 {xs:List RtD}{x:RtD}:x∈K1 xs↔x∈xs:=(Ac1 xs).mem_iff
theorem Ds7 {xs ys:List RtD}(h:xs.Perm ys):K1 xs=K1 ys:=by have h1:(K1 xs).Perm (K1 ys):=((Ac1 xs).trans h).trans (Ac1 ys).symm;exact h1.eq_of_pairwise (fun a b _ _ h1 h2=>(BP0 b a h1 h2).symm) (Ay1 xs) (Ay1 ys)
theorem Ds8 (xs:List RtD):(xs.mergeSort fun x y=> !(ltOf cfR) y x)=K1 xs:=by
 have h0:=List.pairwise_mergeSort (le:=fun x y:RtD=> !(ltOf cfR) y x) (fun a b c h1 h2=>by
  simp only[Bool.not_eq_true'] at*;exact AS7.ntrans _ _ _ h2 h1) (fun a b=>by
  cases h:ltOf cfR b a with
  |false=>rfl
  |true=>
   simp only[Bool.not_true,Bool.false_or,Bool.not_eq_true'];cases h2:ltOf cfR a b with
   |false=>rfl
   |true=>
    have:=AS7.trans _ _ _ h h2;rw[AS7.irrefl] at this;cases this) xs
 exact ((List.mergeSort_perm xs _).trans (Ac1 xs).symm).eq_of_pairwise (fun a b _ _ h1 h2=>(BP0 b a h1 h2).symm) (h0.imp fun h=>by simpa using h) (Ay1 xs)
theorem heap_sorted (w:World)(blk off n:Nat)(d:Array RtD)(os:Array Obj){k:Nat}(hk:k<w.heap.size):(sortWorldK F0 13 w blk off n d os).heap[k]? = if blk=k then (w.heap[k]?).map (onCells (putCells id off (flatK F0 13 d))) else w.heap[k]? := by have h:(sortWorldK F0 13 w blk off n d os).heap=(w.heap.modify blk (onCells (putCells id off (flatK F0 13 d))))++os:=rfl;rw[h,Array.getElem?_append_left (by simpa using hk),Array.getElem?_modify]
theorem Ds9 {base:Nat}{w:World}{v:Value}{xs:List RtD}(hown:w.ownsRow base 195 13 v xs.length (xs.flatMap F0))(hsz:xs.length<4611686018427387904):
  Calls Tryz.prog 158 #[v,.func (.func 159) #[] #[]] w fun e w'=>e = .returned (.tuple #[])∧w'.ownsRow base 195 13 v xs.length ((K1 xs).flatMap F0)∧w.grownBy w' v.ownBlock:=by
 have hlen:(K1 xs).length=xs.length:=Ay2 xs;rcases hown.2 with⟨rfl,h0⟩|⟨g,cap,cur,rfl,hb,hg,hnc,hcm,hcs,htake⟩
 ·have h1:xs=[]:=List.eq_nil_of_length_eq_zero h0
  subst h1;refine (AnyF.slices_SortFunc_none Tryz.Bs6 none 0 _ w).mono ?_
  rintro e w' ⟨rfl,rfl⟩
  have e0:K1 []=[]:=by simp[K1]
  rw[e0];exact⟨rfl,hown,⟨rfl,rfl,rfl,Nat.le_refl _,fun _ _ _=>rfl⟩⟩
 ·have hgl:g<w.heap.size:=(Array.getElem?_eq_some_iff.1 hg).1
  have hflat:(flatK F0 13 xs.toArray).size=xs.length*13:=by simp
  have hH:HoldsK F0 13 w g 0 xs.toArray:=by
   intro j hj;rw[hflat] at hj;have h1:(flatK F0 13 xs.toArray)[j]! = (flatK F0 13 xs.toArray).toList[j]! := by rw[getElem!_pos _ j (by rw[hflat];exact hj),getElem!_pos _ j (by rw[Array.length_toList,hflat];exact hj),Array.getElem_toList]
   have h2:cur.toList[j]? = some ((flatK F0 13 xs.toArray)[j]!):=by
    rw[h1,Bt2,← htake];rw[getElem!_def,List.getElem?_take,if_pos hj];have:j<cur.toList.length:=by rw[Array.length_toList,hcs];exact Nat.lt_of_lt_of_le hj (Nat.mul_le_mul_right _ hnc)
    rw[List.getElem?_eq_getElem this]
   refine⟨?_,?_⟩
   ·rw[Nat.zero_add]
    exact cell_of hg h2
   ·unfold World.frozen?
    simp only;rw[hg];simp
  have eg:∀args w,(callFunc 159 args).run Tryz.prog w = .ok (.enter 159 args) w:=enters_of Tryz.func159 (by kernel_rfl) rfl
  have hs:xs.length=xs.toArray.size:=by simp
  rw[show Value.slice (some ⟨g,0,none⟩) xs.length cap=Value.slice (some ⟨g,0,none⟩) xs.toArray.size cap by rw[← hs]]
  refine (AnyQ.slices_SortFunc_total Tryz.Bs6 13 Tryz.isAgg195 Tryz.sizeOf195 F0 (fun x=>AS9 x) (fun x v hv=>by
   obtain⟨n,s0,s1,s2,s3,s4,s5,s6,s7,s8,s9,s10,s11⟩:=x;simp only[F0,E5,List.mem_cons,List.not_mem_nil,or_false] at hv;rcases hv with rfl | rfl | rfl | rfl | rfl | rfl | rfl | rfl | rfl | rfl | rfl | rfl | rfl <;> rfl) cfR AS7 159 #[] g 0 cap xs.toArray w eg (Dr9 g 0 xs.toArray.size w) hH hgl (by simpa using hsz) BP0).mono ?_
  rintro e w' ⟨rfl,n,os,rfl⟩
  have hd:(xs.toArray.toList.mergeSort fun x y=> !(ltOf cfR) y x)=K1 xs:=Ds8 xs
  rw[hd];have hfl:(flatK F0 13 (K1 xs).toArray).size=xs.length*13:=by simp[hlen]
  refine⟨rfl,⟨by rw[Bt1,hlen],.inr ⟨g,cap,putCells id 0 (flatK F0 13 (K1 xs).toArray) cur,by rw[← hs],hb,?_,hnc,hcm,?_,?_⟩⟩,?_⟩
  ·rw[heap_sorted w g 0 n _ os hgl,if_pos rfl,hg]
   rfl
  ·unfold putCells
   rw[Array.size_mapIdx,hcs]
  ·rw[← Bt2]
   apply List.ext_getElem?;intro t;by_cases ht:t<xs.length*13
   ·have hc:t<cur.size:=by rw[hcs];exact Nat.lt_of_lt_of_le ht (Nat.mul_le_mul_right _ hnc)
    rw[List.getElem?_take,if_pos ht,Array.getElem?_toList,Array.getElem?_toList];unfold putCells;rw[Array.getElem?_mapIdx,getElem?_pos cur t hc,getElem?_pos _ t (by rw[hfl];exact ht)]
    simp only[Option.map_some];rw[if_pos ⟨Nat.zero_le _,by rw[hfl];omega⟩,Nat.sub_zero,getElem!_pos _ t (by rw[hfl];exact ht)]
    rfl
   ·rw[List.getElem?_eq_none (by rw[List.length_take];omega),List.getElem?_eq_none (by rw[Array.length_toList,hfl];omega)]
  ·refine⟨rfl,rfl,rfl,size_sortWorldK_c F0 13 w g 0 n _ os,fun k hk hne=> ?_⟩
   rw[heap_sorted w g 0 n _ os hk,if_neg];intro h;exact hne (by rw[h];rfl)
end Go.Proofs.YthfjpkdadjemcaaGreat

/- Ways that grow: a round of the loop over what was found. -/
set_option linter.unusedSimpArgs false
set_option linter.unusedVariables false
namespace Go.Proofs.YthfjpkdadjemcaaGreat
open Go.Shelf Go.RowKit Go.Lib Go.ChangeMaps
theorem Bt6 {l:List RtD}{e:MapEntry}(h:e∈(mapOf l).toList):∃(i:Nat) (x:RtD),l[i]? = some x∧e=S7 x i:=by unfold mapOf at h;simp only[List.mem_map] at h;obtain⟨⟨x,i⟩,h1,rfl⟩:=h;exact⟨i,x,List.mk_mem_zipIdx_iff_getElem?.1 h1,rfl⟩
theorem Dt0 {l:List RtD}{i:Nat}{x:RtD}(h:l[i]? = some x):S7 x i∈(mapOf l).toList:=by unfold mapOf;simp only[List.mem_map];exact⟨(x,i),List.mk_mem_zipIdx_iff_getElem?.2 h,rfl⟩
theorem Dt1 (l:List RtD):((mapOf l).toList.map (·.born)).Nodup:=by
 unfold mapOf;rw[List.map_map];have h:((fun x:MapEntry=>x.born)∘fun p:RtD×Nat=>S7 p.1 p.2)=Prod.snd:=by funext p;rfl
 rw[h,List.zipIdx_map_snd];exact List.nodup_range' ..
theorem Dt2 {w:World}{M r:Nat}{l:List RtD}{seen:Array Nat}(hM:L5 w M l)(hr:w.heap[r]? = some (.mapIter (some M) l.length seen l.length)):M≠r:=by
 rintro rfl
 unfold L5 at hM;rw[hM] at hr;cases hr
theorem Dt3 {w:World}{ty:TypeId}{r M:Nat}{l:List RtD}{seen:Array Nat}(hM:L5 w M l)(hr:w.heap[r]? = some (.mapIter (some M) l.length seen l.length)):
  ((∀i,i<l.length→seen.contains i=true)∧(Instr.next (.pointer (some ⟨r,0,none⟩)) false ty).run Tryz.prog w = .ok (.tuple #[.bool false]) w)∨
  ∃(i:Nat) (x:RtD) (w':World),l[i]? = some x∧seen.contains i=false∧(Instr.next (.pointer (some ⟨r,0,none⟩)) false ty).run Tryz.prog w = .ok (.tuple #[.bool true,.agg (E5 x),.int .i64 x.1]) w'∧
   w.grownBy w' (some r)∧w'.heap.size=w.heap.size∧w'.heap[r]? = some (.mapIter (some M) l.length (seen.push i) l.length)∧(Instr.entry (.pointer (some ⟨r,0,none⟩))).run Tryz.prog w' = .ok (.tuple #[.agg (E5 x),.int .i64 x.1]) w':=by
 have hold:∀x∈(mapOf l).toList,x.born<l.length:=by intro x hx;obtain⟨i,y,h1,rfl⟩:=Bt6 hx;exact (List.getElem?_eq_some_iff.1 h1).1
 have hrl:r<w.heap.size:=(Array.getElem?_eq_some_iff.1 hr).1;rcases run_next_at (P:=Tryz.prog) w ty r M l.length l.length seen (mapOf l) l.length hr hM hold (Nat.le_refl _) with⟨h1,h2⟩|⟨e,he,w1,hw1,h2⟩
 ·refine .inl ⟨fun i hi=> ?_,h2⟩
  have hx:=List.getElem?_eq_getElem hi;have hm:=Dt0 hx;have h0:leftOf (mapOf l) seen=#[]:=Array.eq_empty_of_size_eq_zero h1;unfold leftOf at h0;rw[Array.filter_eq_empty_iff] at h0;have:=h0 (S7 l[i] i) (by simpa using hm)
  simpa[S7] using this
 ·obtain⟨he1,he2⟩:=mem_left he
  obtain⟨i,x,h3,rfl⟩:=Bt6 he1;have hne:=Dt2 hM hr;have hheap:w1.heap=w.heap:=by rcases hw1 with rfl | rfl <;> rfl
  have hr':(setBlock w1 r (.mapIter (some M) l.length (seen.push i) l.length)).heap[r]? = some (.mapIter (some M) l.length (seen.push i) l.length):=by unfold setBlock;simp only;rw[Array.getElem?_setIfInBounds,if_pos rfl,hheap,if_pos hrl]
  have hM':(setBlock w1 r (.mapIter (some M) l.length (seen.push i) l.length)).heap[M]? = some (.map (mapOf l) l.length):=by unfold setBlock;simp only;rw[Array.getElem?_setIfInBounds,if_neg (Ne.symm hne),hheap];exact hM
  refine .inr ⟨i,x,_,h3,he2,h2,?_,?_,hr',?_⟩
  ·refine⟨?_,?_,?_,?_,fun k hk hkn=> ?_⟩
   ·rcases hw1 with rfl | rfl <;> rfl
   ·rcases hw1 with rfl | rfl <;> rfl
   ·rcases hw1 with rfl | rfl <;> rfl
   ·unfold setBlock;simp[hheap]
   ·unfold setBlock
    simp only;rw[Array.getElem?_setIfInBounds,if_neg (fun h=>hkn (by rw[h])),hheap]
  ·unfold setBlock;simp[hheap]
  ·exact run_entry_at (P:=Tryz.prog) _ r M l.length seen (mapOf l) l.length (S7 x i) hr' hM' he1 (Dt1 l)
section
variable {w:World}{ops:Array Oper}{rest:List Oper}{o:Oper}{a:Act}{Q:Exit→Act→World→Prop}
theorem Dt4 (hg:o.guard=none)(it:Operand)(hop:o.op=Op.next it false)(r M:Nat)(l:List RtD)(seen:Array Nat)(hit:a.eval it = .pointer (some ⟨r,0,none⟩))(hM:L5 w M l)(hr:w.heap[r]? = some (.mapIter (some M) l.length seen l.length))
  (hDone:(∀i,i<l.length→seen.contains i=true)→wpList Tryz.prog ops Q rest (a.put o.dst (.tuple #[.bool false])) w)
  (hMore:∀(i:Nat) (x:RtD) (w':World),l[i]? = some x→seen.contains i=false→w.grownBy w' (some r)→w'.heap.size=w.heap.size→w'.heap[r]? = some (.mapIter (some M) l.length (seen.push i) l.length)→
   (Instr.entry (.pointer (some ⟨r,0,none⟩))).run Tryz.prog w' = .ok (.tuple #[.agg (E5 x),.int .i64 x.1]) w'→wpList Tryz.prog ops Q rest (a.put o.dst (.tuple #[.bool true,.agg (E5 x),.int .i64 x.1])) w'):
  wpList Tryz.prog ops Q (o::rest) a w:=by
 refine wpList_plain hg fun K' hK'=> ?_
 unfold Oper.wp;rcases Dt3 (ty:=o.type) hM hr with⟨h1,hrun⟩|⟨i,x,w',h1,h2,hrun,h3,h4,h5,h6⟩
 ·simp[execOp,hop,hit,hrun,Result.andThen]
  exact hK' _ _ (hDone h1)
 ·simp[execOp,hop,hit,hrun,Result.andThen]
  exact hK' _ _ (hMore i x w' h1 h2 h3 h4 h5 h6)
end
def taken (l:List RtD)(seen:Array Nat):List RtD:=seen.toList.map fun i=>l.getD i default
structure AM0 (w0:World)(M G O V R:Nat)(frm e:Int)(l:List RtD)(seen:Array Nat)(v:Value)(w:World):Prop where
 bel:Below w0.heap.size w0 w
 ord:w0.heap.size≤M∧w0.heap.size≤G∧w0.heap.size≤O∧w0.heap.size≤V∧M<R∧G<R∧O<R∧V<R∧R<w.heap.size∧O≠M∧O≠G∧O≠V∧V≠M∧V≠G
 map:L5 w M l
 it:w.heap[R]? = some (.mapIter (some M) l.length seen l.length)
 nod:seen.toList.Nodup
 inb:∀i∈seen.toList,i<l.length
 o:w.heap[O]? = some (.cells #[.int .i64 frm,v] 111 (0,0))
 res:w.heap[V]? = some (.cells #[.int .i64 0,.slice none 0 0] 111 (0,0))
 g5:w.cell? ⟨G,5,none⟩=some (.int .i64 e)
 own:w.ownsRow (R+1) 195 13 v seen.size ((taken l seen).flatMap F0)
theorem Dt5 (l:List RtD)(seen:Array Nat){i:Nat}{x:RtD}(h:l[i]? = some x):taken l (seen.push i)=taken l seen++[x]:=by unfold taken;rw[Array.toList_push,List.map_append];simp[List.getD,h]
theorem AT1 {w:World}{R:Nat}{v:Value}{n:Nat}{xs:List Value}(h:w.ownsRow (R+1) 195 13 v n xs){k:Nat}(hk:k≤R):some k≠v.ownBlock:=by intro h2;have:=(h.lt k h2.symm).1;omega
theorem Dt6 {w0 w w' w4:World}{M G O V R:Nat}{frm e:Int}{l:List RtD}{seen:Array Nat}{v v':Value}{A C:Obj}{i:Nat}{x:RtD}(h:AM0 w0 M G O V R frm e l seen v w)(hx:l[i]? = some x)(hn:seen.contains i=false)
  (h3:w.grownBy w' (some R)) (h4:w'.heap.size=w.heap.size) (h5:w'.heap[R]? = some (.mapIter (some M) l.length (seen.push i) l.length)) (hown:w4.ownsRow (R+1) 195 13 v' (seen.size+1) ((taken l seen).flatMap F0++(E5 x).toList)) (hg:((w'.alloc A).alloc C).grownBy w4 v.ownBlock):
  AM0 w0 M G O V R frm e l (seen.push i) v' (w4.setCell ⟨O,1,none⟩ v'):=by
 obtain⟨o1,o2,o3,o4,o5,o6,o7,o8,o9,o10,o11,o12,o13,o14⟩:=h.ord;have hsz0:=h.bel.size;have key:∀k,k≤R→k≠R→w4.heap[k]? = w.heap[k]? := by
  intro k hk hkR;have hk2:k<w.heap.size:=by omega
  rw[hg.block k (by rw[A5,A5,h4];omega) (AT1 h.own hk),Below.heap_alloc _ _ _ (by rw[A5,h4];omega),Below.heap_alloc _ _ _ (by rw[h4];exact hk2),h3.block k hk2 (by simp[hkR])]
 have hR4:w4.heap[R]? = some (.mapIter (some M) l.length (seen.push i) l.length):=by rw[hg.block R (by rw[A5,A5,h4];omega) (AT1 h.own (Nat.le_refl _)),Below.heap_alloc _ _ _ (by rw[A5,h4];omega),Below.heap_alloc _ _ _ (by rw[h4];omega),h5]
 have hset:∀k,k≠O→(w4.setCell ⟨O,1,none⟩ v').heap[k]? = w4.heap[k]? := by intro k hk;unfold World.setCell;simp only;rw[Array.getElem?_modify,if_neg (Ne.symm hk)]
 have hsz4:w.heap.size≤w4.heap.size:=by have:=hg.size;rw[A5,A5,h4] at this;omega
 have hO4:w4.heap[O]? = some (.cells #[.int .i64 frm,v] 111 (0,0)):=by rw[key O (by omega) (by omega)];exact h.o
 have hvO:v'.ownBlock≠some O:=fun h2=>by have:=(hown.lt O h2).1;omega
 refine⟨?_,?_,?_,?_,?_,?_,?_,?_,?_,?_⟩
 ·refine⟨?_,?_,?_,?_,fun k hk=> ?_⟩
  ·show w4.os=_;rw[hg.os];show w'.os=_;rw[h3.os];exact h.bel.os
  ·show w4.tape=_;rw[hg.tape];show w'.tape=_;rw[h3.tape];exact h.bel.tape
  ·show w4.output=_;rw[hg.output];show w'.output=_;rw[h3.output];exact h.bel.output
  ·rw[size_setCell];omega
  ·rw[hset k (by omega),key k (by omega) (by omega)]
   exact h.bel.block k hk
 ·rw[size_setCell]
  exact⟨o1,o2,o3,o4,o5,o6,o7,o8,by omega,o10,o11,o12,o13,o14⟩
 ·unfold L5
  rw[hset M (Ne.symm o10),key M (by omega) (by omega)]
  exact h.map
 ·rw[hset R (by omega)]
  exact hR4
 ·rw[Array.toList_push,List.nodup_append]
  refine⟨h.nod,by simp,?_⟩
  intro a ha b hb hab;simp at hb;subst hb;subst hab;simp at hn;exact hn (by simpa using ha)
 ·intro j hj
  rw[Array.toList_push,List.mem_append] at hj;rcases hj with hj | hj
  ·exact h.inb j hj
  ·simp at hj
   subst hj;exact (List.getElem?_eq_some_iff.1 hx).1
 ·unfold World.setCell
  simp only;rw[Array.getElem?_modify,if_pos rfl,hO4];rfl
 ·rw[hset V (Ne.symm o12),key V (by omega) (by omega)]
  exact h.res
 ·rw[World.cell?_of_block (w:=w) (by rw[hset G (Ne.symm o11),key G (by omega) (by omega)])]
  exact h.g5
 ·rw[Dt5 l seen hx,List.flatMap_append,Array.size_push]
  have e1:[x].flatMap F0=(E5 x).toList:=by simp[F0]
  rw[e1];refine hown.kept (row:=some O) ⟨rfl,rfl,rfl,by rw[size_setCell];exact Nat.le_refl _,fun k hk hne=>hset k (fun h0=>hne (by rw[h0]))⟩ (.inr hvO)
theorem Bt7 {l:List RtD}{seen:Array Nat}(hn:seen.toList.Nodup)(hi:∀i∈seen.toList,i<l.length)(hall:∀i,i<l.length→seen.contains i=true):(taken l seen).Perm l:=by
 have h1:seen.toList.Perm (List.range l.length):=by
  refine (List.perm_ext_iff_of_nodup hn List.nodup_range).2 fun a=> ?_
  rw[List.mem_range];refine⟨hi a,fun h=> ?_⟩
  have:=hall a h;simpa using this
 have h2:(List.range l.length).map (fun i=>l.getD i default)=l:=by
  apply List.ext_getElem?;intro i;by_cases hi:i<l.length
  ·simp[hi,List.getD]
  ·rw[List.getElem?_eq_none (by simp;omega),List.getElem?_eq_none (by omega)]
 have h3:=h1.map (fun i=>l.getD i default)
 rw[h2] at h3;exact h3
end Go.Proofs.YthfjpkdadjemcaaGreat

/- Ways that grow: the blocks ahead of the second loop, and the answer. -/
set_option linter.unusedSimpArgs false
set_option linter.unusedVariables false
namespace Go.Proofs.YthfjpkdadjemcaaGreat
open Go.Shelf Go.RowKit Go.Lib Go.ChangeMaps
theorem Dt7 {w:World}{xw y:M6}{c1 c2 c3 c4:Array Value}{tv gv:Value}{lo hi e:Int}{l:List RtD}{wr:World}
  (h:wr=more ((B6 (((more ((((w.alloc (.cells c1 111)).alloc (.cells c2 100)).alloc (.cells c3 44)).alloc (.cells c4 111)) xw).alloc (.map #[] 0)).alloc (.cells #[tv,gv,.int .i64 lo,.int .i64 hi,.map (some (w.heap.size+1+1+1+1+xw.C2.size)),.int .i64 0] 259)) (w.heap.size+1+1+1+1+xw.C2.size) l).setCell ⟨(w.heap.size+1+1+1+1+xw.C2.size+1),5,none⟩ (.int .i64 e)) y):
  wr.heap[w.heap.size]? = some (.cells c1 111 (0,0))∧wr.heap[w.heap.size+1+1+1]? = some (.cells c4 111 (0,0)):=by
 have hA:((((w.alloc (.cells c1 111)).alloc (.cells c2 100)).alloc (.cells c3 44)).alloc (.cells c4 111)).heap.size=w.heap.size+1+1+1+1:=by rw[A5,A5,A5,A5]
 have h1:((((w.alloc (.cells c1 111)).alloc (.cells c2 100)).alloc (.cells c3 44)).alloc (.cells c4 111)).heap[w.heap.size]? = some (.cells c1 111 (0,0)):=by
  rw[Below.heap_alloc _ _ _ (by rw[A5,A5,A5];omega),Below.heap_alloc _ _ _ (by rw[A5,A5];omega),Below.heap_alloc _ _ _ (by rw[A5];omega)]
  exact heap_alloc_new w _
 have h4:((((w.alloc (.cells c1 111)).alloc (.cells c2 100)).alloc (.cells c3 44)).alloc (.cells c4 111)).heap[w.heap.size+1+1+1]? = some (.cells c4 111 (0,0)):=by have:=heap_alloc_new (((w.alloc (.cells c1 111)).alloc (.cells c2 100)).alloc (.cells c3 44)) (.cells c4 111);rw[A5,A5,A5] at this;exact this
 generalize ((((w.alloc (.cells c1 111)).alloc (.cells c2 100)).alloc (.cells c3 44)).alloc (.cells c4 111))=A at h hA h1 h4;have key:∀k,k<w.heap.size+1+1+1+1→wr.heap[k]? = A.heap[k]? := by
  intro k hk;rw[h];rw[AL4 (by rw[size_setCell,AG2,A5,A5,B4];omega)]
  unfold World.setCell;simp only;rw[Array.getElem?_modify,if_neg (by omega),AL5,if_neg (by omega),Below.heap_alloc _ _ _ (by rw[A5,B4];omega),Below.heap_alloc _ _ _ (by rw[B4];omega),AL4 (by omega)]
 exact⟨by rw[key _ (by omega)];exact h1,by rw[key _ (by omega)];exact h4⟩
theorem U4 {w:World}{k i:Nat}{c:Array Value}{T:TypeId}{fz:Nat×Nat}{v:Value}(h:w.heap[k]? = some (.cells c T fz))(hv:c[i]? = some v):w.cell? ⟨k,i,none⟩=some v:=by unfold World.cell?;simp only;rw[h];simpa using hv
theorem Ay3 {w:World}{k i:Nat}{c:Array Value}{T:TypeId}(h:w.heap[k]? = some (.cells c T (0,0))):w.frozen? ⟨k,i,none⟩=false:=by unfold World.frozen?;simp only;rw[h];simp
theorem Dt8 {w wr:World}{M G V:Nat}{frm e:Int}{l:List RtD}(hb:Below w.heap.size w wr)(ho:w.heap.size≤M∧w.heap.size≤G∧w.heap.size≤V∧M<wr.heap.size∧G<wr.heap.size∧V<wr.heap.size∧V≠M∧V≠G)(hM:L5 wr M l)(hV:wr.heap[V]? = some (.cells #[.int .i64 0,.slice none 0 0] 111 (0,0)))(h5:wr.cell? ⟨G,5,none⟩=some (.int .i64 e)):
  AM0 w M G wr.heap.size V (wr.heap.size+1) frm e l #[] (.slice none 0 0) ((wr.alloc (.cells #[.int .i64 frm,.slice none 0 0] 111)).alloc (.mapIter (some M) l.length #[] l.length)):=by
 obtain⟨o1,o2,o3,o4,o5,o6,o7,o8⟩:=ho;have hs:=hb.size;have key:∀k,k<wr.heap.size→((wr.alloc (.cells #[.int .i64 frm,.slice none 0 0] 111)).alloc (.mapIter (some M) l.length #[] l.length)).heap[k]? = wr.heap[k]? := by intro k hk;rw[Below.heap_alloc _ _ _ (by rw[A5];omega),Below.heap_alloc _ _ _ hk]
 refine⟨?_,?_,?_,?_,?_,?_,?_,?_,?_,?_⟩
 ·exact Below.alloc (Below.alloc hb (by omega) _) (by rw[A5];omega) _
 ·rw[A5,A5]
  omega
 ·unfold L5;rw[key M o4];exact hM
 ·have:=heap_alloc_new (wr.alloc (.cells #[.int .i64 frm,.slice none 0 0] 111)) (.mapIter (some M) l.length #[] l.length)
  rw[A5] at this;exact this
 ·simp
 ·intro i hi;simp at hi
 ·rw[Below.heap_alloc _ _ _ (by rw[A5];omega)]
  exact heap_alloc_new wr _
 ·rw[key V o6];exact hV
 ·rw[World.cell?_of_block (w:=wr) (key G o5)];exact h5
 ·exact World.ownsRow_nil _ _ _ _
noncomputable def L6 (frm:Int)(l:List RtD)(e:Int):(Int×List RtD)×Int:=if e≠0 then ((0,[]),e) else if l=[] then ((0,[]),40) else ((frm,K1 l),0)
theorem Dt9 {w0 w:World}{M G O V R:Nat}{frm e:Int}{l:List RtD}{seen:Array Nat}{v:Value}(h:AM0 w0 M G O V R frm e l seen v w)(hall:∀i,i<l.length→seen.contains i=true)(hl:l.length<4611686018427387904):
  Calls Tryz.prog 158 #[v,.func (.func 159) #[] #[]] w fun x w'=>x = .returned (.tuple #[])∧w'.cell? ⟨O,0,none⟩=some (.int .i64 frm)∧w'.cell? ⟨O,1,none⟩=some v∧w'.cell? ⟨G,5,none⟩=some (.int .i64 e)∧w'.cell? ⟨V,0,none⟩=some (.int .i64 0)∧w'.cell? ⟨V,1,none⟩=some (.slice none 0 0)∧
   w'.frozen? ⟨V,0,none⟩=false∧w'.frozen? ⟨V,1,none⟩=false∧Hid (V<w'.heap.size∧Below w0.heap.size w0 w'∧w0.heap.size≤V∧v.ownBlock≠some V∧w'.ownsRow w0.heap.size 195 13 v l.length ((K1 l).flatMap F0)):=by
 obtain⟨o1,o2,o3,o4,o5,o6,o7,o8,o9,o10,o11,o12,o13,o14⟩:=h.ord;have hp:=Bt7 h.nod h.inb hall;have ht:seen.size=(taken l seen).length:=by unfold taken;simp
 have hown:=h.own;rw[ht] at hown;refine (Ds9 hown (by rw[hp.length_eq];exact hl)).mono ?_
 rintro x w' ⟨rfl,h1,h2⟩
 have key:∀k,k≤R→w'.heap[k]? = w.heap[k]? := fun k hk=>h2.block k (by omega) (AT1 h.own hk)
 have hO:=h.o;rw[← key O (by omega)] at hO
 have hV:=h.res;rw[← key V (by omega)] at hV
 have hG:=h.g5;rw[← World.cell?_of_block (w:=w) (key G (by omega))] at hG
 refine⟨rfl,U4 hO rfl,U4 hO rfl,hG,U4 hV rfl,U4 hV rfl,Ay3 hV,Ay3 hV,?_,?_,?_,?_,?_⟩
 ·have:=h2.size;omega
 ·exact⟨h2.os.trans h.bel.os,h2.tape.trans h.bel.tape,h2.output.trans h.bel.output,Nat.le_trans h.bel.size h2.size,fun k hk=>by rw[key k (by omega)];exact h.bel.block k hk⟩
 ·exact o4
 ·intro hv
  exact AT1 h.own (Nat.le_of_lt o8) hv.symm
 ·rw[Ds7 hp,hp.length_eq] at h1
  refine⟨h1.1,?_⟩;rcases h1.2 with h3 |⟨g,cap,cur,e1,e2,e3⟩
  ·exact .inl h3
  ·exact .inr ⟨g,cap,cur,e1,by omega,e3⟩
theorem BP2:∀(n:Nat) (l:List Nat),l.Nodup→(∀i∈l,i<n)→l.length≤n
 |0,l,_,h=>by
  cases l with
  |nil=>simp
  |cons a l=>exact absurd (h a (by simp)) (by omega)
 |n+1,l,hn,h=>by
  by_cases hm:n∈l
  ·have h1:=BP2 n (l.erase n) (hn.erase n) (fun i hi=>by
    have:=(hn.mem_erase_iff).1 hi;have:=h i this.2;omega)
   have h2:=List.length_erase_of_mem hm;have h3:0<l.length:=List.length_pos_of_mem hm;omega
  ·have h1:=BP2 n l hn (fun i hi=>by
    have:=h i hi;have:i≠n:=fun h0=>hm (by rw[← h0];exact hi)
    omega)
   omega
theorem Du0 {seen:Array Nat}{l:List RtD}{i:Nat}{x:RtD}(h1:seen.toList.Nodup)(h2:∀i∈seen.toList,i<l.length)(hx:l[i]? = some x)(hn:seen.contains i=false):seen.size+1≤l.length:=by
 have h:=BP2 l.length (i::seen.toList) (by
  rw[List.nodup_cons];refine⟨fun h0=> ?_,h1⟩
  simp at hn;exact hn (by simpa using h0)) (fun j hj=>by
  rcases List.mem_cons.1 hj with rfl | hj
  ·exact (List.getElem?_eq_some_iff.1 hx).1
  ·exact h2 j hj)
 simpa using h
theorem Du1:Option.map (fun i=>(i.zero,i.size,i.bytes)) (Tryz.prog.info? 195)=some (some (.agg #[.int .i64 0,.int .i64 0,.int .i64 0,.int .i64 0,.int .i64 0,.int .i64 0,.int .i64 0,.int .i64 0,.int .i64 0,.int .i64 0,.int .i64 0,.int .i64 0,.int .i64 0]),13,104):=by kernel_rfl
theorem Du2 (w:World)(A:Obj)(cs:Array Value)(T:TypeId):∀(j:Nat) u,cs.toList[j]? = some u→((w.alloc A).alloc (.cells cs T)).cell? ((⟨w.heap.size+1,0,none⟩:Addr).add j)=some u:=by
 intro j u h;have e:((⟨w.heap.size+1,0,none⟩:Addr).add j)=⟨(w.alloc A).heap.size,j,none⟩:=by rw[A5];unfold Addr.add;split <;> simp_all
 rw[e,AS6];simpa using h
theorem Bt8 {w:World}{R:Nat}{m:Option Nat}{s c:Nat}{seen:Array Nat}(h:w.heap[R]? = some (.mapIter m s seen c)):w.iterSeen R=seen:=by unfold World.iterSeen;rw[h]
theorem Bt9 {w:World}{base:Nat}{T:TypeId}{k:Nat}{v:Value}{n:Nat}{xs:List Value}(h:w.ownsRow base T k v n xs):∃p m c,v = .slice p m c:=by
 rcases h.2 with⟨rfl,_⟩|⟨g,cap,cur,rfl,_⟩
 ·exact⟨_,_,_,rfl⟩
 ·exact⟨_,_,_,rfl⟩
theorem Bu0 {w:World}{base:Nat}{T:TypeId}{k:Nat}{v:Value}{n:Nat}{xs:List Value}(h:w.ownsRow base T k v n xs):∃p c,v = .slice p n c:=by
 rcases h.2 with⟨rfl,rfl⟩|⟨g,cap,cur,rfl,_⟩
 ·exact⟨_,_,rfl⟩
 ·exact⟨_,_,rfl⟩
theorem Aj9 {W:World}{V:Nat}{a b v7:Value}{tmps:Array Value}(h6:tmps.getD 6 undef = .pointer (some ⟨V,0,none⟩))(h7:tmps.getD 7 undef=v7)(h0:W.cell? ⟨V,0,none⟩=some a)(h1:W.cell? ⟨V,1,none⟩=some b):
  (results Tryz.f115 tmps).run Tryz.prog W = .ok (.tuple #[.agg #[a,b],v7]) W:=by
 rw[Array.getD_eq_getD_getElem?] at h6 h7;simp[results,Tryz.results115,h6,h7,Tryz.isAgg111,Tryz.sizeOf111,h0,h1,go_sem]
theorem BP3 {w:World}{base:Nat}{T:TypeId}{k:Nat}{v:Value}{n:Nat}{xs:List Value}{V i:Nat}{u:Value}(h:w.ownsRow base T k v n xs)(hv:v.ownBlock≠some V)(hV:V<w.heap.size):(w.setCell ⟨V,i,none⟩ u).ownsRow base T k v n xs:=by
 refine h.kept (row:=some V) ⟨rfl,rfl,rfl,by rw[size_setCell];exact Nat.le_refl _,fun k hk hne=> ?_⟩ (.inr hv)
 unfold World.setCell;simp only;rw[Array.getElem?_modify,if_neg (fun h0=>hne (by rw[h0]))]
end Go.Proofs.YthfjpkdadjemcaaGreat
