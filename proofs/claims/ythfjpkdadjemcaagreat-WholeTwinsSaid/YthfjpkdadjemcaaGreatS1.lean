/- Ways that grow: one search behind another, whatever came between. -/
import Derived.Test.YthfjpkdadjemcaaGreatG1
import Derived.Test.YthfjpkdadjemcaaGreatSortF
import Derived.Test.YthfjpkdadjemcaaGreatTkRep
import Derived.Maps.RangeWalk
import Derived.Shelf.SlSortCmp.NoneTotal
set_option linter.unusedSimpArgs false
set_option linter.unusedVariables false
namespace Go.Proofs.YthfjpkdadjemcaaGreat
open Go.RowKit
open _root_.Array renaming getElem?_modify → FG1, getElem?_setIfInBounds → FG4, getElem?_toList → FG7, length_toList → FG9, getElem?_eq_some_iff → FH2, toList_push → FH5, getElem?_push_size → FH6
open _root_.List renaming getElem?_eq_none → FG2, getElem?_eq_getElem → FG3, getElem?_eq_some_iff → FG5, mk_mem_zipIdx_iff_getElem? → FG8, pairwise_cons → FH0, mem_cons → FH1, flatMap_cons → FH3, ext_getElem? → FH4, getElem?_take → FH9
open _root_.Nat renaming le_refl → FG6, mul_le_mul_right → FH8, lt_of_lt_of_le → FI0
open Go.Result renaming andThen → FH7
open _root_.Bool renaming not_eq_true' → FI1
theorem Du6 {w:World}{G M:Nat}{l l':List RtD}{e e':Int}:grown (grown w G M l e) G M l' e'=grown w G M l' e':=by unfold grown;rw[Br2,Br3,Br4]
theorem Ab7 {w:World}{G M:Nat}{l:List RtD}{e:Int}:(grown w G M l e).heap.size=w.heap.size:=by unfold grown;rw[size_setCell,AG5]
theorem Du7 {x y:World}{G M k:Nat}{l:List RtD}{e:Int}(h:x.heap[k]? = y.heap[k]?):(grown x G M l e).heap[k]? = (grown y G M l e).heap[k]? := by unfold grown World.setCell;simp only;rw[FG1,FG1,AM7,AM7,h]
theorem Du8 {w W:World}{G M:Nat}{l l':List RtD}{e e':Int}{z:N0}(hb:Below (grown w G M l e).heap.size (grown w G M l e) W):∃z',more (grown W G M l' e') z=more (grown w G M l' e') z':=by
 refine T9 ⟨hb.os,hb.tape,hb.output,?_,?_⟩
 ·have h1:=hb.size
  rw[Ab7] at h1 ⊢;rw[A9,Ab7];omega
 ·intro k hk
  rw[Ab7] at hk;have h1:=hb.size;rw[Ab7] at h1;rw[AM6 (by rw[Ab7];omega)]
  have h2:=hb.block k (by rw[Ab7];exact hk)
  rw[Du7 h2,Du6]

/- Ways that grow: where a search begins. -/
theorem Du9 {B:Nat}{a w:World}(h:Below B a w){M:Nat}(hM:B≤M)(l:List RtD):Below B a (B0 w M l):=by
 refine⟨h.os,h.tape,h.output,?_,fun k hk=> ?_⟩
 ·rw[AG5];exact h.size
 ·rw[AM7,if_neg (by omega)]
  exact h.block k hk
theorem Am2 {B:Nat}{a w:World}(h:Below B a w)(hB:B≤w.heap.size)(x:N0):Below B a (more w x):=by
 refine⟨h.os,h.tape,h.output,?_,fun k hk=> ?_⟩
 ·rw[A9];have:=h.size;omega
 ·rw[AM6 (by omega)]
  exact h.block k hk
theorem Dv0 {W:World}{M:Nat}{l:List RtD}(h:L7 W M l):(Instr.range 257 (.map (some M))).run Tryz.prog W = .ok (.pointer (some ⟨W.heap.size,0,none⟩)) (W.alloc (.mapIter (some M) l.length #[] l.length)):=by have hb:W.heap[M]? = some (.map (mapOf l) l.length):=h;simp[Instr.range,run_underlying Ax9,MapKept.run_getObj_map hb,FH7,go_sem]
theorem Dv1 {w:World}{xw:N0}{c1 c2 c3 c4:Array Value}{tv gv:Value}{lo hi:Int}{t:TkD}{bs os cs:Nat}{na:Nat→Nat×Nat}{nn:Nat→Option Addr}{nc:Nat→Nat}(htv:tv = .slice (some ⟨bs,os,none⟩) t.1.length cs)(hT:X8 w w.heap.size t bs os na nn nc):
  O5 (((more ((((w.alloc (.cells c1 111)).alloc (.cells c2 100)).alloc (.cells c3 44)).alloc (.cells c4 111)) xw).alloc (.map #[] 0)).alloc (.cells #[tv,gv,.int .i64 lo,.int .i64 hi,.map (some (w.heap.size+1+1+1+1+xw.B9.size)),.int .i64 0] 259)) (w.heap.size+1+1+1+1+xw.B9.size+1) (w.heap.size+1+1+1+1+xw.B9.size) w.heap.size t (lo,hi) bs os cs na nn nc [] 0∧Below w.heap.size w (((more ((((w.alloc (.cells c1 111)).alloc (.cells c2 100)).alloc (.cells c3 44)).alloc (.cells c4 111)) xw).alloc (.map #[] 0)).alloc (.cells #[tv,gv,.int .i64 lo,.int .i64 hi,.map (some (w.heap.size+1+1+1+1+xw.B9.size)),.int .i64 0] 259))∧(((more ((((w.alloc (.cells c1 111)).alloc (.cells c2 100)).alloc (.cells c3 44)).alloc (.cells c4 111)) xw).alloc (.map #[] 0)).alloc (.cells #[tv,gv,.int .i64 lo,.int .i64 hi,.map (some (w.heap.size+1+1+1+1+xw.B9.size)),.int .i64 0] 259)).heap.size=(w.heap.size+1+1+1+1+xw.B9.size+1)+1:=by
 have hA:((((w.alloc (.cells c1 111)).alloc (.cells c2 100)).alloc (.cells c3 44)).alloc (.cells c4 111)).heap.size=w.heap.size+1+1+1+1:=by rw[A4,A4,A4,A4]
 have hbA:Below w.heap.size w ((((w.alloc (.cells c1 111)).alloc (.cells c2 100)).alloc (.cells c3 44)).alloc (.cells c4 111)):=by
  refine Below.alloc (Below.alloc (Below.alloc (Below.alloc (Below.refl _ _) (FG6 _) _) ?_ _) ?_ _) ?_ _
  ·rw[A4];omega
  ·rw[A4,A4];omega
  ·rw[A4,A4,A4];omega
 generalize ((((w.alloc (.cells c1 111)).alloc (.cells c2 100)).alloc (.cells c3 44)).alloc (.cells c4 111))=A at hA hbA;have h1:(more A xw).heap.size=(w.heap.size+1+1+1+1+xw.B9.size):=by rw[A9,hA]
 have hb1:Below w.heap.size w (more A xw):=Am2 hbA (by omega) xw
 generalize more A xw=B1 at h1 hb1;have h2:(B1.alloc (.map #[] 0)).heap.size=(w.heap.size+1+1+1+1+xw.B9.size+1):=by rw[A4,h1]
 have hm:(B1.alloc (.map #[] 0)).heap[B1.heap.size]? = some (.map #[] 0):=by show (B1.heap.push (.map #[] 0))[B1.heap.size]? = _;rw[FH6]
 have hb2:Below w.heap.size w (B1.alloc (.map #[] 0)):=Below.alloc hb1 (by omega) _
 rw[h1] at hm;generalize B1.alloc (.map #[] 0)=B2 at h2 hm hb2;have hb3:Below w.heap.size w (B2.alloc (.cells #[tv,gv,.int .i64 lo,.int .i64 hi,.map (some (w.heap.size+1+1+1+1+xw.B9.size)),.int .i64 0] 259)):=Below.alloc hb2 (by omega) _
 have h3:(B2.alloc (.cells #[tv,gv,.int .i64 lo,.int .i64 hi,.map (some (w.heap.size+1+1+1+1+xw.B9.size)),.int .i64 0] 259)).heap.size=(w.heap.size+1+1+1+1+xw.B9.size+1)+1:=by rw[A4,h2]
 have hc:∀k,(B2.alloc (.cells #[tv,gv,.int .i64 lo,.int .i64 hi,.map (some (w.heap.size+1+1+1+1+xw.B9.size)),.int .i64 0] 259)).cell? ⟨(w.heap.size+1+1+1+1+xw.B9.size+1),k,none⟩=#[tv,gv,.int .i64 lo,.int .i64 hi,.map (some (w.heap.size+1+1+1+1+xw.B9.size)),.int .i64 0][k]? := by intro k;rw[← h2];exact AT8 _ _ _ _
 refine⟨⟨by omega,by rw[h3];omega,by rw[h3];omega,by rw[hc,← htv];rfl,by rw[hc];rfl,by rw[hc];rfl,by rw[hc];rfl,by rw[hc];rfl,?_,?_,hT.keep fun b i hlt=>World.cell?_of_block (w:=w) (hb3.block b hlt)⟩,hb3,h3⟩
 ·have hh:(B2.alloc (.cells #[tv,gv,.int .i64 lo,.int .i64 hi,.map (some (w.heap.size+1+1+1+1+xw.B9.size)),.int .i64 0] 259)).heap[(w.heap.size+1+1+1+1+xw.B9.size+1)]? = some (.cells #[tv,gv,.int .i64 lo,.int .i64 hi,.map (some (w.heap.size+1+1+1+1+xw.B9.size)),.int .i64 0] 259 (0,0)):=by
   rw[← h2];show (B2.heap.push _)[B2.heap.size]? = _;rw[FH6]
  unfold World.frozen?;simp only;rw[hh];rfl
 ·unfold L7
  rw[Below.heap_alloc B2 _ _ (by omega),hm]
  rfl

/- Ways that grow: the routes found, one behind the other, and in their order. -/
open Go.Shelf Go.Lib Go.Sort Go.ChangeMaps
theorem AU1 (r:RtD):(E6 r).length=13:=by obtain⟨n,s0,s1,s2,s3,s4,s5,s6,s7,s8,s9,s10,s11⟩:=r;rfl
theorem Bs7 (xs:List RtD):(xs.flatMap E6).length=xs.length*13:=by
 induction xs with
 |nil=>rfl
 |cons x xs ih=>rw [FH3,List.length_append,ih,AU1,List.length_cons];omega
theorem BO0:∀(xs:List RtD) (i j:Nat) (x:RtD),xs[i]? = some x→j<13→(xs.flatMap E6)[i*13+j]? = (E6 x)[j]?
 | [],i,j,x,h,_=>by simp at h
 |y::xs,0,j,x,h,hj=>by simp at h;subst h;rw[FH3,Nat.zero_mul,Nat.zero_add,List.getElem?_append_left (by rw[AU1];exact hj)]
 |y::xs,i+1,j,x,h,hj=>by
  rw[FH3,List.getElem?_append_right (by rw[AU1];omega),AU1]
  have e:(i+1)*13+j-13=i*13+j:=by omega
  rw[e];exact BO0 xs i j x (by simpa using h) hj
theorem Bs8 (xs:List RtD):(flatK E6 13 xs.toArray).toList=xs.flatMap E6:=by
 apply FH4;intro t;by_cases ht:t<xs.length*13
 ·have h1:(flatK E6 13 xs.toArray)[t]! = (E6 xs.toArray[t/13]!)[t % 13]! := get_flatK E6 13 xs.toArray t (by simpa using ht)
  have hd:t/13<xs.length:=by omega
  have e:t=t/13*13+t % 13:=by omega
  have h2:=BO0 xs (t/13) (t % 13) _ (FG3 hd) (Nat.mod_lt _ (by decide))
  rw[← e] at h2;rw[h2,FG7,getElem?_pos _ t (by simpa using ht)]
  have h3:(flatK E6 13 xs.toArray)[t]'(by simpa using ht)=(flatK E6 13 xs.toArray)[t]! := by rw[getElem!_pos]
  rw[h3,h1];have h4:xs.toArray[t/13]! = xs[t/13]:=by simp[getElem!_pos,hd]
  rw[h4];have h5:t % 13<(E6 xs[t/13]).length:=by rw[AU1];exact Nat.mod_lt _ (by decide)
  rw[FG3 h5];simp[getElem!_pos,h5]
 ·rw[FG2 (by simp;omega),FG2 (by rw[Bs7];omega)]
theorem Bs9:∀(a b:List Int),0≤C0 a b→0≤C0 b a→a=b
 | [],[],_,_=>rfl
 | [],_::_,h,_=>by simp[C0] at h
 |_::_,[],_,h=>by simp[C0] at h
 |x::a,y::b,h1,h2=>by
  have ih:=Bs9 a b;simp only[C0] at h1 h2;by_cases p1:x<y
  ·rw[if_pos p1] at h1;omega
  ·rw[if_neg p1] at h1
   by_cases p2:y<x
   ·rw[if_pos p2] at h2;omega
   ·rw[if_neg p2] at h1 h2
    rw[if_neg p1] at h2;rw[ih h1 h2,show x=y by omega]
theorem key_inj (a b:RtD)(h:Ab6 a=Ab6 b):a=b:=by obtain⟨n,s0,s1,s2,s3,s4,s5,s6,s7,s8,s9,s10,s11⟩:=a;obtain⟨m,t0,t1,t2,t3,t4,t5,t6,t7,t8,t9,t10,t11⟩:=b;simp only[Ab6,AN1,List.cons_append,List.nil_append,List.cons.injEq] at h;obtain⟨rfl,rfl,rfl,rfl,rfl,rfl,rfl,rfl,rfl,rfl,rfl,rfl,rfl,_⟩:=h;rfl
theorem BO1 (x y:RtD)(h1:ltOf cfR x y=false)(h2:ltOf cfR y x=false):x=y:=by unfold ltOf at h1 h2;rw[Ay2,decide_eq_false_iff_not,Int.not_lt] at h1 h2;exact key_inj _ _ (Bs9 _ _ h1 h2)
def AU2 (x:RtD):List RtD→List RtD
 | []=>[x]
 |y::ys=>bif ltOf cfR y x then y::AU2 x ys else x::y::ys
def J9:List RtD→List RtD
 | []=>[]
 |x::xs=>AU2 x (J9 xs)
theorem BO2 (x:RtD):∀ys,(AU2 x ys).Perm (x::ys)
 | []=>List.Perm.refl _
 |y::ys=>by
  rw[AU2];cases ltOf cfR y x with
  |true=>exact ((BO2 x ys).cons y).trans (List.Perm.swap x y ys)
  |false=>exact List.Perm.refl _
theorem Ab8:∀xs,(J9 xs).Perm xs
 | []=>List.Perm.refl _
 |x::xs=>(BO2 x (J9 xs)).trans ((Ab8 xs).cons x)
theorem Bt0 (x:RtD):∀ys:List RtD,ys.Pairwise (fun a b=>ltOf cfR b a=false)→(AU2 x ys).Pairwise (fun a b=>ltOf cfR b a=false)
 | [],_=>by rw[AU2];exact List.pairwise_singleton _ _
 |y::ys,h=>by
  obtain⟨h1,h2⟩:=FH0.1 h;rw[AU2];cases hc:ltOf cfR y x with
  |true=>
   refine FH0.2 ⟨fun z hz=> ?_,Bt0 x ys h2⟩
   rcases FH1.1 ((BO2 x ys).mem_iff.1 hz) with rfl | hz
   ·cases h3:ltOf cfR z y with
    |false=>rfl
    |true=>
     have:=AT9.trans _ _ _ hc h3;rw[AT9.irrefl] at this;cases this
   ·exact h1 z hz
  |false=>
   refine FH0.2 ⟨fun z hz=> ?_,h⟩
   rcases FH1.1 hz with rfl | hz
   ·exact hc
   ·exact AT9.ntrans _ _ _ (h1 z hz) hc
theorem Ay3:∀xs:List RtD,(J9 xs).Pairwise (fun a b=>ltOf cfR b a=false)
 | []=>List.Pairwise.nil
 |x::xs=>Bt0 x _ (Ay3 xs)
theorem Ay4 (xs:List RtD):(J9 xs).length=xs.length:=(Ab8 xs).length_eq
theorem Bt1 {xs:List RtD}{x:RtD}:x∈J9 xs↔x∈xs:=(Ab8 xs).mem_iff
theorem Dv2 {xs ys:List RtD}(h:xs.Perm ys):J9 xs=J9 ys:=by have h1:(J9 xs).Perm (J9 ys):=((Ab8 xs).trans h).trans (Ab8 ys).symm;exact h1.eq_of_pairwise (fun a b _ _ h1 h2=>(BO1 b a h1 h2).symm) (Ay3 xs) (Ay3 ys)
theorem Dv3 (xs:List RtD):(xs.mergeSort fun x y=> !(ltOf cfR) y x)=J9 xs:=by
 have h0:=List.pairwise_mergeSort (le:=fun x y:RtD=> !(ltOf cfR) y x) (fun a b c h1 h2=>by
  simp only[FI1] at*;exact AT9.ntrans _ _ _ h2 h1) (fun a b=>by
  cases h:ltOf cfR b a with
  |false=>rfl
  |true=>
   simp only[Bool.not_true,Bool.false_or,FI1];cases h2:ltOf cfR a b with
   |false=>rfl
   |true=>
    have:=AT9.trans _ _ _ h h2;rw[AT9.irrefl] at this;cases this) xs
 exact ((List.mergeSort_perm xs _).trans (Ab8 xs).symm).eq_of_pairwise (fun a b _ _ h1 h2=>(BO1 b a h1 h2).symm) (h0.imp fun h=>by simpa using h) (Ay3 xs)
theorem heap_sorted (w:World)(blk off n:Nat)(d:Array RtD)(os:Array Obj){k:Nat}(hk:k<w.heap.size):(sortWorldK E6 13 w blk off n d os).heap[k]? = if blk=k then (w.heap[k]?).map (onCells (putCells id off (flatK E6 13 d))) else w.heap[k]? := by have h:(sortWorldK E6 13 w blk off n d os).heap=(w.heap.modify blk (onCells (putCells id off (flatK E6 13 d))))++os:=rfl;rw[h,Array.getElem?_append_left (by simpa using hk),FG1]
theorem Dv4 {base:Nat}{w:World}{v:Value}{xs:List RtD}(hown:w.ownsRow base 195 13 v xs.length (xs.flatMap E6))(hsz:xs.length<4611686018427387904):
  Calls Tryz.prog 158 #[v,.func (.func 159) #[] #[]] w fun e w'=>e = .returned (.tuple #[])∧w'.ownsRow base 195 13 v xs.length ((J9 xs).flatMap E6)∧w.grownBy w' v.ownBlock:=by
 have hlen:(J9 xs).length=xs.length:=Ay4 xs;rcases hown.2 with⟨rfl,h0⟩|⟨g,cap,cur,rfl,hb,hg,hnc,hcm,hcs,htake⟩
 ·have h1:xs=[]:=List.eq_nil_of_length_eq_zero h0
  subst h1;refine (AnyF.slices_SortFunc_none Tryz.Bs2 none 0 _ w).mono ?_
  rintro e w' ⟨rfl,rfl⟩
  have e0:J9 []=[]:=by simp[J9]
  rw[e0];exact⟨rfl,hown,⟨rfl,rfl,rfl,FG6 _,fun _ _ _=>rfl⟩⟩
 ·have hgl:g<w.heap.size:=(FH2.1 hg).1
  have hflat:(flatK E6 13 xs.toArray).size=xs.length*13:=by simp
  have hH:HoldsK E6 13 w g 0 xs.toArray:=by
   intro j hj;rw[hflat] at hj;have h1:(flatK E6 13 xs.toArray)[j]! = (flatK E6 13 xs.toArray).toList[j]! := by rw[getElem!_pos _ j (by rw[hflat];exact hj),getElem!_pos _ j (by rw[FG9,hflat];exact hj),Array.getElem_toList]
   have h2:cur.toList[j]? = some ((flatK E6 13 xs.toArray)[j]!):=by
    rw[h1,Bs8,← htake];rw[getElem!_def,FH9,if_pos hj];have:j<cur.toList.length:=by rw[FG9,hcs];exact FI0 hj (FH8 _ hnc)
    rw[FG3 this]
   refine⟨?_,?_⟩
   ·rw[Nat.zero_add]
    exact cell_of hg h2
   ·unfold World.frozen?
    simp only;rw[hg];simp
  have eg:∀args w,(callFunc 159 args).run Tryz.prog w = .ok (.enter 159 args) w:=enters_of Tryz.func159 (by kernel_rfl) rfl
  have hs:xs.length=xs.toArray.size:=by simp
  rw[show Value.slice (some ⟨g,0,none⟩) xs.length cap=Value.slice (some ⟨g,0,none⟩) xs.toArray.size cap by rw[← hs]]
  refine (AnyQ.slices_SortFunc_total Tryz.Bs2 13 Tryz.isAgg195 Tryz.sizeOf195 E6 (fun x=>AU1 x) (fun x v hv=>by
   obtain⟨n,s0,s1,s2,s3,s4,s5,s6,s7,s8,s9,s10,s11⟩:=x;simp only[E6,E2,FH1,List.not_mem_nil,or_false] at hv;rcases hv with rfl | rfl | rfl | rfl | rfl | rfl | rfl | rfl | rfl | rfl | rfl | rfl | rfl <;> rfl) cfR AT9 159 #[] g 0 cap xs.toArray w eg (Du4 g 0 xs.toArray.size w) hH hgl (by simpa using hsz) BO1).mono ?_
  rintro e w' ⟨rfl,n,os,rfl⟩
  have hd:(xs.toArray.toList.mergeSort fun x y=> !(ltOf cfR) y x)=J9 xs:=Dv3 xs
  rw[hd];have hfl:(flatK E6 13 (J9 xs).toArray).size=xs.length*13:=by simp[hlen]
  refine⟨rfl,⟨by rw[Bs7,hlen],.inr ⟨g,cap,putCells id 0 (flatK E6 13 (J9 xs).toArray) cur,by rw[← hs],hb,?_,hnc,hcm,?_,?_⟩⟩,?_⟩
  ·rw[heap_sorted w g 0 n _ os hgl,if_pos rfl,hg]
   rfl
  ·unfold putCells
   rw[Array.size_mapIdx,hcs]
  ·rw[← Bs8]
   apply FH4;intro t;by_cases ht:t<xs.length*13
   ·have hc:t<cur.size:=by rw[hcs];exact FI0 ht (FH8 _ hnc)
    rw[FH9,if_pos ht,FG7,FG7];unfold putCells;rw[Array.getElem?_mapIdx,getElem?_pos cur t hc,getElem?_pos _ t (by rw[hfl];exact ht)]
    simp only[Option.map_some];rw[if_pos ⟨Nat.zero_le _,by rw[hfl];omega⟩,Nat.sub_zero,getElem!_pos _ t (by rw[hfl];exact ht)]
    rfl
   ·rw[FG2 (by rw[List.length_take];omega),FG2 (by rw[FG9,hfl];omega)]
  ·refine⟨rfl,rfl,rfl,size_sortWorldK_c E6 13 w g 0 n _ os,fun k hk hne=> ?_⟩
   rw[heap_sorted w g 0 n _ os hk,if_neg];intro h;exact hne (by rw[h];rfl)

/- Ways that grow: a round of the loop over what was found. -/
theorem Bt2 {l:List RtD}{e:MapEntry}(h:e∈(mapOf l).toList):∃(i:Nat) (x:RtD),l[i]? = some x∧e=S9 x i:=by unfold mapOf at h;simp only[List.mem_map] at h;obtain⟨⟨x,i⟩,h1,rfl⟩:=h;exact⟨i,x,FG8.1 h1,rfl⟩
theorem Dv5 {l:List RtD}{i:Nat}{x:RtD}(h:l[i]? = some x):S9 x i∈(mapOf l).toList:=by unfold mapOf;simp only[List.mem_map];exact⟨(x,i),FG8.2 h,rfl⟩
theorem Dv6 (l:List RtD):((mapOf l).toList.map (·.born)).Nodup:=by
 unfold mapOf;rw[List.map_map];have h:((fun x:MapEntry=>x.born)∘fun p:RtD×Nat=>S9 p.1 p.2)=Prod.snd:=by funext p;rfl
 rw[h,List.zipIdx_map_snd];exact List.nodup_range' ..
theorem Dv7 {w:World}{M r:Nat}{l:List RtD}{seen:Array Nat}(hM:L7 w M l)(hr:w.heap[r]? = some (.mapIter (some M) l.length seen l.length)):M≠r:=by
 rintro rfl
 unfold L7 at hM;rw[hM] at hr;cases hr
theorem Dv8 {w:World}{ty:TypeId}{r M:Nat}{l:List RtD}{seen:Array Nat}(hM:L7 w M l)(hr:w.heap[r]? = some (.mapIter (some M) l.length seen l.length)):
  ((∀i,i<l.length→seen.contains i=true)∧(Instr.next (.pointer (some ⟨r,0,none⟩)) false ty).run Tryz.prog w = .ok (.tuple #[.bool false]) w)∨
  ∃(i:Nat) (x:RtD) (w':World),l[i]? = some x∧seen.contains i=false∧(Instr.next (.pointer (some ⟨r,0,none⟩)) false ty).run Tryz.prog w = .ok (.tuple #[.bool true,.agg (E2 x),.int .i64 x.1]) w'∧
   w.grownBy w' (some r)∧w'.heap.size=w.heap.size∧w'.heap[r]? = some (.mapIter (some M) l.length (seen.push i) l.length)∧(Instr.entry (.pointer (some ⟨r,0,none⟩))).run Tryz.prog w' = .ok (.tuple #[.agg (E2 x),.int .i64 x.1]) w':=by
 have hold:∀x∈(mapOf l).toList,x.born<l.length:=by intro x hx;obtain⟨i,y,h1,rfl⟩:=Bt2 hx;exact (FG5.1 h1).1
 have hrl:r<w.heap.size:=(FH2.1 hr).1;rcases run_next_at (P:=Tryz.prog) w ty r M l.length l.length seen (mapOf l) l.length hr hM hold (FG6 _) with⟨h1,h2⟩|⟨e,he,w1,hw1,h2⟩
 ·refine .inl ⟨fun i hi=> ?_,h2⟩
  have hx:=FG3 hi;have hm:=Dv5 hx;have h0:leftOf (mapOf l) seen=#[]:=Array.eq_empty_of_size_eq_zero h1;unfold leftOf at h0;rw[Array.filter_eq_empty_iff] at h0;have:=h0 (S9 l[i] i) (by simpa using hm)
  simpa[S9] using this
 ·obtain⟨he1,he2⟩:=mem_left he
  obtain⟨i,x,h3,rfl⟩:=Bt2 he1;have hne:=Dv7 hM hr;have hheap:w1.heap=w.heap:=by rcases hw1 with rfl | rfl <;> rfl
  have hr':(setBlock w1 r (.mapIter (some M) l.length (seen.push i) l.length)).heap[r]? = some (.mapIter (some M) l.length (seen.push i) l.length):=by unfold setBlock;simp only;rw[FG4,if_pos rfl,hheap,if_pos hrl]
  have hM':(setBlock w1 r (.mapIter (some M) l.length (seen.push i) l.length)).heap[M]? = some (.map (mapOf l) l.length):=by unfold setBlock;simp only;rw[FG4,if_neg (Ne.symm hne),hheap];exact hM
  refine .inr ⟨i,x,_,h3,he2,h2,?_,?_,hr',?_⟩
  ·refine⟨?_,?_,?_,?_,fun k hk hkn=> ?_⟩
   ·rcases hw1 with rfl | rfl <;> rfl
   ·rcases hw1 with rfl | rfl <;> rfl
   ·rcases hw1 with rfl | rfl <;> rfl
   ·unfold setBlock;simp[hheap]
   ·unfold setBlock
    simp only;rw[FG4,if_neg (fun h=>hkn (by rw[h])),hheap]
  ·unfold setBlock;simp[hheap]
  ·exact run_entry_at (P:=Tryz.prog) _ r M l.length seen (mapOf l) l.length (S9 x i) hr' hM' he1 (Dv6 l)
section
variable {w:World}{ops:Array Oper}{rest:List Oper}{o:Oper}{a:Act}{Q:Exit→Act→World→Prop}
theorem Dv9 (hg:o.guard=none)(it:Operand)(hop:o.op=Op.next it false)(r M:Nat)(l:List RtD)(seen:Array Nat)(hit:a.eval it = .pointer (some ⟨r,0,none⟩))(hM:L7 w M l)(hr:w.heap[r]? = some (.mapIter (some M) l.length seen l.length))
  (hDone:(∀i,i<l.length→seen.contains i=true)→wpList Tryz.prog ops Q rest (a.put o.dst (.tuple #[.bool false])) w)
  (hMore:∀(i:Nat) (x:RtD) (w':World),l[i]? = some x→seen.contains i=false→w.grownBy w' (some r)→w'.heap.size=w.heap.size→w'.heap[r]? = some (.mapIter (some M) l.length (seen.push i) l.length)→
   (Instr.entry (.pointer (some ⟨r,0,none⟩))).run Tryz.prog w' = .ok (.tuple #[.agg (E2 x),.int .i64 x.1]) w'→wpList Tryz.prog ops Q rest (a.put o.dst (.tuple #[.bool true,.agg (E2 x),.int .i64 x.1])) w'):
  wpList Tryz.prog ops Q (o::rest) a w:=by
 refine wpList_plain hg fun K' hK'=> ?_
 unfold Oper.wp;rcases Dv8 (ty:=o.type) hM hr with⟨h1,hrun⟩|⟨i,x,w',h1,h2,hrun,h3,h4,h5,h6⟩
 ·simp[execOp,hop,hit,hrun,FH7]
  exact hK' _ _ (hDone h1)
 ·simp[execOp,hop,hit,hrun,FH7]
  exact hK' _ _ (hMore i x w' h1 h2 h3 h4 h5 h6)
end
def taken (l:List RtD)(seen:Array Nat):List RtD:=seen.toList.map fun i=>l.getD i default
structure AN2 (w0:World)(M G O V R:Nat)(frm e:Int)(l:List RtD)(seen:Array Nat)(v:Value)(w:World):Prop where
 bel:Below w0.heap.size w0 w
 ord:w0.heap.size≤M∧w0.heap.size≤G∧w0.heap.size≤O∧w0.heap.size≤V∧M<R∧G<R∧O<R∧V<R∧R<w.heap.size∧O≠M∧O≠G∧O≠V∧V≠M∧V≠G
 map:L7 w M l
 it:w.heap[R]? = some (.mapIter (some M) l.length seen l.length)
 nod:seen.toList.Nodup
 inb:∀i∈seen.toList,i<l.length
 o:w.heap[O]? = some (.cells #[.int .i64 frm,v] 111 (0,0))
 res:w.heap[V]? = some (.cells #[.int .i64 0,.slice none 0 0] 111 (0,0))
 g5:w.cell? ⟨G,5,none⟩=some (.int .i64 e)
 own:w.ownsRow (R+1) 195 13 v seen.size ((taken l seen).flatMap E6)
theorem Dw0 (l:List RtD)(seen:Array Nat){i:Nat}{x:RtD}(h:l[i]? = some x):taken l (seen.push i)=taken l seen++[x]:=by unfold taken;rw[FH5,List.map_append];simp[List.getD,h]
theorem AU3 {w:World}{R:Nat}{v:Value}{n:Nat}{xs:List Value}(h:w.ownsRow (R+1) 195 13 v n xs){k:Nat}(hk:k≤R):some k≠v.ownBlock:=by intro h2;have:=(h.lt k h2.symm).1;omega
theorem Dw1 {w0 w w' w4:World}{M G O V R:Nat}{frm e:Int}{l:List RtD}{seen:Array Nat}{v v':Value}{A C:Obj}{i:Nat}{x:RtD}(h:AN2 w0 M G O V R frm e l seen v w)(hx:l[i]? = some x)(hn:seen.contains i=false)
  (h3:w.grownBy w' (some R)) (h4:w'.heap.size=w.heap.size) (h5:w'.heap[R]? = some (.mapIter (some M) l.length (seen.push i) l.length)) (hown:w4.ownsRow (R+1) 195 13 v' (seen.size+1) ((taken l seen).flatMap E6++(E2 x).toList)) (hg:((w'.alloc A).alloc C).grownBy w4 v.ownBlock):
  AN2 w0 M G O V R frm e l (seen.push i) v' (w4.setCell ⟨O,1,none⟩ v'):=by
 obtain⟨o1,o2,o3,o4,o5,o6,o7,o8,o9,o10,o11,o12,o13,o14⟩:=h.ord;have hsz0:=h.bel.size;have key:∀k,k≤R→k≠R→w4.heap[k]? = w.heap[k]? := by
  intro k hk hkR;have hk2:k<w.heap.size:=by omega
  rw[hg.block k (by rw[A4,A4,h4];omega) (AU3 h.own hk),Below.heap_alloc _ _ _ (by rw[A4,h4];omega),Below.heap_alloc _ _ _ (by rw[h4];exact hk2),h3.block k hk2 (by simp[hkR])]
 have hR4:w4.heap[R]? = some (.mapIter (some M) l.length (seen.push i) l.length):=by rw[hg.block R (by rw[A4,A4,h4];omega) (AU3 h.own (FG6 _)),Below.heap_alloc _ _ _ (by rw[A4,h4];omega),Below.heap_alloc _ _ _ (by rw[h4];omega),h5]
 have hset:∀k,k≠O→(w4.setCell ⟨O,1,none⟩ v').heap[k]? = w4.heap[k]? := by intro k hk;unfold World.setCell;simp only;rw[FG1,if_neg (Ne.symm hk)]
 have hsz4:w.heap.size≤w4.heap.size:=by have:=hg.size;rw[A4,A4,h4] at this;omega
 have hO4:w4.heap[O]? = some (.cells #[.int .i64 frm,v] 111 (0,0)):=by rw[key O (by omega) (by omega)];exact h.o
 have hvO:v'.ownBlock≠some O:=fun h2=>by have:=(hown.lt O h2).1;omega
 refine⟨?_,?_,?_,?_,?_,?_,?_,?_,?_,?_⟩
 ·refine⟨?_,?_,?_,?_,fun k hk=> ?_⟩
  ·show w4.os=_;rw[hg.os];show w'.os=_;rw[h3.os];exact h.bel.os
  ·show w4.tape=_;rw[hg.tape];show w'.tape=_;rw[h3.tape];exact h.bel.tape
  ·show w4.output=_;rw[hg.output];show w'.output=_;rw[h3.output];exact h.bel.output
  ·rw[size_setCell];omega
  ·rw[hset k (by omega),key k (by omega) (by omega)]
   exact h.bel.block k hk
 ·rw[size_setCell]
  exact⟨o1,o2,o3,o4,o5,o6,o7,o8,by omega,o10,o11,o12,o13,o14⟩
 ·unfold L7
  rw[hset M (Ne.symm o10),key M (by omega) (by omega)]
  exact h.map
 ·rw[hset R (by omega)]
  exact hR4
 ·rw[FH5,List.nodup_append]
  refine⟨h.nod,by simp,?_⟩
  intro a ha b hb hab;simp at hb;subst hb;subst hab;simp at hn;exact hn (by simpa using ha)
 ·intro j hj
  rw[FH5,List.mem_append] at hj;rcases hj with hj | hj
  ·exact h.inb j hj
  ·simp at hj
   subst hj;exact (FG5.1 hx).1
 ·unfold World.setCell
  simp only;rw[FG1,if_pos rfl,hO4];rfl
 ·rw[hset V (Ne.symm o12),key V (by omega) (by omega)]
  exact h.res
 ·rw[World.cell?_of_block (w:=w) (by rw[hset G (Ne.symm o11),key G (by omega) (by omega)])]
  exact h.g5
 ·rw[Dw0 l seen hx,List.flatMap_append,Array.size_push]
  have e1:[x].flatMap E6=(E2 x).toList:=by simp[E6]
  rw[e1];refine hown.kept (row:=some O) ⟨rfl,rfl,rfl,by rw[size_setCell];exact FG6 _,fun k hk hne=>hset k (fun h0=>hne (by rw[h0]))⟩ (.inr hvO)
theorem Bt3 {l:List RtD}{seen:Array Nat}(hn:seen.toList.Nodup)(hi:∀i∈seen.toList,i<l.length)(hall:∀i,i<l.length→seen.contains i=true):(taken l seen).Perm l:=by
 have h1:seen.toList.Perm (List.range l.length):=by
  refine (List.perm_ext_iff_of_nodup hn List.nodup_range).2 fun a=> ?_
  rw[List.mem_range];refine⟨hi a,fun h=> ?_⟩
  have:=hall a h;simpa using this
 have h2:(List.range l.length).map (fun i=>l.getD i default)=l:=by
  apply FH4;intro i;by_cases hi:i<l.length
  ·simp[hi,List.getD]
  ·rw[FG2 (by simp;omega),FG2 (by omega)]
 have h3:=h1.map (fun i=>l.getD i default)
 rw[h2] at h3;exact h3

/- Ways that grow: the blocks ahead of the second loop, and the answer. -/
theorem Dw2 {w:World}{xw y:N0}{c1 c2 c3 c4:Array Value}{tv gv:Value}{lo hi e:Int}{l:List RtD}{wr:World}
  (h:wr=more ((B0 (((more ((((w.alloc (.cells c1 111)).alloc (.cells c2 100)).alloc (.cells c3 44)).alloc (.cells c4 111)) xw).alloc (.map #[] 0)).alloc (.cells #[tv,gv,.int .i64 lo,.int .i64 hi,.map (some (w.heap.size+1+1+1+1+xw.B9.size)),.int .i64 0] 259)) (w.heap.size+1+1+1+1+xw.B9.size) l).setCell ⟨(w.heap.size+1+1+1+1+xw.B9.size+1),5,none⟩ (.int .i64 e)) y):
  wr.heap[w.heap.size]? = some (.cells c1 111 (0,0))∧wr.heap[w.heap.size+1+1+1]? = some (.cells c4 111 (0,0)):=by
 have hA:((((w.alloc (.cells c1 111)).alloc (.cells c2 100)).alloc (.cells c3 44)).alloc (.cells c4 111)).heap.size=w.heap.size+1+1+1+1:=by rw[A4,A4,A4,A4]
 have h1:((((w.alloc (.cells c1 111)).alloc (.cells c2 100)).alloc (.cells c3 44)).alloc (.cells c4 111)).heap[w.heap.size]? = some (.cells c1 111 (0,0)):=by
  rw[Below.heap_alloc _ _ _ (by rw[A4,A4,A4];omega),Below.heap_alloc _ _ _ (by rw[A4,A4];omega),Below.heap_alloc _ _ _ (by rw[A4];omega)]
  exact heap_alloc_new w _
 have h4:((((w.alloc (.cells c1 111)).alloc (.cells c2 100)).alloc (.cells c3 44)).alloc (.cells c4 111)).heap[w.heap.size+1+1+1]? = some (.cells c4 111 (0,0)):=by have:=heap_alloc_new (((w.alloc (.cells c1 111)).alloc (.cells c2 100)).alloc (.cells c3 44)) (.cells c4 111);rw[A4,A4,A4] at this;exact this
 generalize ((((w.alloc (.cells c1 111)).alloc (.cells c2 100)).alloc (.cells c3 44)).alloc (.cells c4 111))=A at h hA h1 h4;have key:∀k,k<w.heap.size+1+1+1+1→wr.heap[k]? = A.heap[k]? := by
  intro k hk;rw[h];rw[AM6 (by rw[size_setCell,AG5,A4,A4,A9];omega)]
  unfold World.setCell;simp only;rw[FG1,if_neg (by omega),AM7,if_neg (by omega),Below.heap_alloc _ _ _ (by rw[A4,A9];omega),Below.heap_alloc _ _ _ (by rw[A9];omega),AM6 (by omega)]
 exact⟨by rw[key _ (by omega)];exact h1,by rw[key _ (by omega)];exact h4⟩
theorem U3 {w:World}{k i:Nat}{c:Array Value}{T:TypeId}{fz:Nat×Nat}{v:Value}(h:w.heap[k]? = some (.cells c T fz))(hv:c[i]? = some v):w.cell? ⟨k,i,none⟩=some v:=by unfold World.cell?;simp only;rw[h];simpa using hv
theorem Ay5 {w:World}{k i:Nat}{c:Array Value}{T:TypeId}(h:w.heap[k]? = some (.cells c T (0,0))):w.frozen? ⟨k,i,none⟩=false:=by unfold World.frozen?;simp only;rw[h];simp
theorem Dw3 {w wr:World}{M G V:Nat}{frm e:Int}{l:List RtD}(hb:Below w.heap.size w wr)(ho:w.heap.size≤M∧w.heap.size≤G∧w.heap.size≤V∧M<wr.heap.size∧G<wr.heap.size∧V<wr.heap.size∧V≠M∧V≠G)(hM:L7 wr M l)(hV:wr.heap[V]? = some (.cells #[.int .i64 0,.slice none 0 0] 111 (0,0)))(h5:wr.cell? ⟨G,5,none⟩=some (.int .i64 e)):
  AN2 w M G wr.heap.size V (wr.heap.size+1) frm e l #[] (.slice none 0 0) ((wr.alloc (.cells #[.int .i64 frm,.slice none 0 0] 111)).alloc (.mapIter (some M) l.length #[] l.length)):=by
 obtain⟨o1,o2,o3,o4,o5,o6,o7,o8⟩:=ho;have hs:=hb.size;have key:∀k,k<wr.heap.size→((wr.alloc (.cells #[.int .i64 frm,.slice none 0 0] 111)).alloc (.mapIter (some M) l.length #[] l.length)).heap[k]? = wr.heap[k]? := by intro k hk;rw[Below.heap_alloc _ _ _ (by rw[A4];omega),Below.heap_alloc _ _ _ hk]
 refine⟨?_,?_,?_,?_,?_,?_,?_,?_,?_,?_⟩
 ·exact Below.alloc (Below.alloc hb (by omega) _) (by rw[A4];omega) _
 ·rw[A4,A4]
  omega
 ·unfold L7;rw[key M o4];exact hM
 ·have:=heap_alloc_new (wr.alloc (.cells #[.int .i64 frm,.slice none 0 0] 111)) (.mapIter (some M) l.length #[] l.length)
  rw[A4] at this;exact this
 ·simp
 ·intro i hi;simp at hi
 ·rw[Below.heap_alloc _ _ _ (by rw[A4];omega)]
  exact heap_alloc_new wr _
 ·rw[key V o6];exact hV
 ·rw[World.cell?_of_block (w:=wr) (key G o5)];exact h5
 ·exact World.ownsRow_nil _ _ _ _
noncomputable def L8 (frm:Int)(l:List RtD)(e:Int):(Int×List RtD)×Int:=if e≠0 then ((0,[]),e) else if l=[] then ((0,[]),40) else ((frm,J9 l),0)
theorem Dw4 {w0 w:World}{M G O V R:Nat}{frm e:Int}{l:List RtD}{seen:Array Nat}{v:Value}(h:AN2 w0 M G O V R frm e l seen v w)(hall:∀i,i<l.length→seen.contains i=true)(hl:l.length<4611686018427387904):
  Calls Tryz.prog 158 #[v,.func (.func 159) #[] #[]] w fun x w'=>x = .returned (.tuple #[])∧w'.cell? ⟨O,0,none⟩=some (.int .i64 frm)∧w'.cell? ⟨O,1,none⟩=some v∧w'.cell? ⟨G,5,none⟩=some (.int .i64 e)∧w'.cell? ⟨V,0,none⟩=some (.int .i64 0)∧w'.cell? ⟨V,1,none⟩=some (.slice none 0 0)∧
   w'.frozen? ⟨V,0,none⟩=false∧w'.frozen? ⟨V,1,none⟩=false∧Hid (V<w'.heap.size∧Below w0.heap.size w0 w'∧w0.heap.size≤V∧v.ownBlock≠some V∧w'.ownsRow w0.heap.size 195 13 v l.length ((J9 l).flatMap E6)):=by
 obtain⟨o1,o2,o3,o4,o5,o6,o7,o8,o9,o10,o11,o12,o13,o14⟩:=h.ord;have hp:=Bt3 h.nod h.inb hall;have ht:seen.size=(taken l seen).length:=by unfold taken;simp
 have hown:=h.own;rw[ht] at hown;refine (Dv4 hown (by rw[hp.length_eq];exact hl)).mono ?_
 rintro x w' ⟨rfl,h1,h2⟩
 have key:∀k,k≤R→w'.heap[k]? = w.heap[k]? := fun k hk=>h2.block k (by omega) (AU3 h.own hk)
 have hO:=h.o;rw[← key O (by omega)] at hO
 have hV:=h.res;rw[← key V (by omega)] at hV
 have hG:=h.g5;rw[← World.cell?_of_block (w:=w) (key G (by omega))] at hG
 refine⟨rfl,U3 hO rfl,U3 hO rfl,hG,U3 hV rfl,U3 hV rfl,Ay5 hV,Ay5 hV,?_,?_,?_,?_,?_⟩
 ·have:=h2.size;omega
 ·exact⟨h2.os.trans h.bel.os,h2.tape.trans h.bel.tape,h2.output.trans h.bel.output,Nat.le_trans h.bel.size h2.size,fun k hk=>by rw[key k (by omega)];exact h.bel.block k hk⟩
 ·exact o4
 ·intro hv
  exact AU3 h.own (Nat.le_of_lt o8) hv.symm
 ·rw[Dv2 hp,hp.length_eq] at h1
  refine⟨h1.1,?_⟩;rcases h1.2 with h3 |⟨g,cap,cur,e1,e2,e3⟩
  ·exact .inl h3
  ·exact .inr ⟨g,cap,cur,e1,by omega,e3⟩
theorem BO3:∀(n:Nat) (l:List Nat),l.Nodup→(∀i∈l,i<n)→l.length≤n
 |0,l,_,h=>by
  cases l with
  |nil=>simp
  |cons a l=>exact absurd (h a (by simp)) (by omega)
 |n+1,l,hn,h=>by
  by_cases hm:n∈l
  ·have h1:=BO3 n (l.erase n) (hn.erase n) (fun i hi=>by
    have:=(hn.mem_erase_iff).1 hi;have:=h i this.2;omega)
   have h2:=List.length_erase_of_mem hm;have h3:0<l.length:=List.length_pos_of_mem hm;omega
  ·have h1:=BO3 n l hn (fun i hi=>by
    have:=h i hi;have:i≠n:=fun h0=>hm (by rw[← h0];exact hi)
    omega)
   omega
theorem Dw5 {seen:Array Nat}{l:List RtD}{i:Nat}{x:RtD}(h1:seen.toList.Nodup)(h2:∀i∈seen.toList,i<l.length)(hx:l[i]? = some x)(hn:seen.contains i=false):seen.size+1≤l.length:=by
 have h:=BO3 l.length (i::seen.toList) (by
  rw[List.nodup_cons];refine⟨fun h0=> ?_,h1⟩
  simp at hn;exact hn (by simpa using h0)) (fun j hj=>by
  rcases FH1.1 hj with rfl | hj
  ·exact (FG5.1 hx).1
  ·exact h2 j hj)
 simpa using h
theorem Dw6:Option.map (fun i=>(i.zero,i.size,i.bytes)) (Tryz.prog.info? 195)=some (some (.agg #[.int .i64 0,.int .i64 0,.int .i64 0,.int .i64 0,.int .i64 0,.int .i64 0,.int .i64 0,.int .i64 0,.int .i64 0,.int .i64 0,.int .i64 0,.int .i64 0,.int .i64 0]),13,104):=by kernel_rfl
theorem Dw7 (w:World)(A:Obj)(cs:Array Value)(T:TypeId):∀(j:Nat) u,cs.toList[j]? = some u→((w.alloc A).alloc (.cells cs T)).cell? ((⟨w.heap.size+1,0,none⟩:Addr).add j)=some u:=by
 intro j u h;have e:((⟨w.heap.size+1,0,none⟩:Addr).add j)=⟨(w.alloc A).heap.size,j,none⟩:=by rw[A4];unfold Addr.add;split <;> simp_all
 rw[e,AT8];simpa using h
theorem Bt4 {w:World}{R:Nat}{m:Option Nat}{s c:Nat}{seen:Array Nat}(h:w.heap[R]? = some (.mapIter m s seen c)):w.iterSeen R=seen:=by unfold World.iterSeen;rw[h]
theorem Bt5 {w:World}{base:Nat}{T:TypeId}{k:Nat}{v:Value}{n:Nat}{xs:List Value}(h:w.ownsRow base T k v n xs):∃p m c,v = .slice p m c:=by
 rcases h.2 with⟨rfl,_⟩|⟨g,cap,cur,rfl,_⟩
 ·exact⟨_,_,_,rfl⟩
 ·exact⟨_,_,_,rfl⟩
theorem Bt6 {w:World}{base:Nat}{T:TypeId}{k:Nat}{v:Value}{n:Nat}{xs:List Value}(h:w.ownsRow base T k v n xs):∃p c,v = .slice p n c:=by
 rcases h.2 with⟨rfl,rfl⟩|⟨g,cap,cur,rfl,_⟩
 ·exact⟨_,_,rfl⟩
 ·exact⟨_,_,rfl⟩
theorem Am3 {W:World}{V:Nat}{a b v7:Value}{tmps:Array Value}(h6:tmps.getD 6 undef = .pointer (some ⟨V,0,none⟩))(h7:tmps.getD 7 undef=v7)(h0:W.cell? ⟨V,0,none⟩=some a)(h1:W.cell? ⟨V,1,none⟩=some b):
  (results Tryz.f115 tmps).run Tryz.prog W = .ok (.tuple #[.agg #[a,b],v7]) W:=by
 rw[Array.getD_eq_getD_getElem?] at h6 h7;simp[results,Tryz.results115,h6,h7,Tryz.isAgg111,Tryz.sizeOf111,h0,h1,go_sem]
theorem BO4 {w:World}{base:Nat}{T:TypeId}{k:Nat}{v:Value}{n:Nat}{xs:List Value}{V i:Nat}{u:Value}(h:w.ownsRow base T k v n xs)(hv:v.ownBlock≠some V)(hV:V<w.heap.size):(w.setCell ⟨V,i,none⟩ u).ownsRow base T k v n xs:=by
 refine h.kept (row:=some V) ⟨rfl,rfl,rfl,by rw[size_setCell];exact FG6 _,fun k hk hne=> ?_⟩ (.inr hv)
 unfold World.setCell;simp only;rw[FG1,if_neg (fun h0=>hne (by rw[h0]))]
end Go.Proofs.YthfjpkdadjemcaaGreat
