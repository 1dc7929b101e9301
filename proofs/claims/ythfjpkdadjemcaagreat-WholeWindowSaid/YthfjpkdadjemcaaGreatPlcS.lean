/- Places of a group: numbers in their order, each once. -/
import Derived.Test.YthfjpkdadjemcaaGreatS1
import Derived.Shelf.SortM.Plain
import Derived.Shelf.SortM.SortNone
import Derived.Shelf.SlicesE.Compact
import Derived.Ground.SlgmProg
import Derived.Ground.SlgnProg
set_option linter.unusedSimpArgs false
set_option linter.unusedVariables false
namespace Go.Proofs
open Go.Shelf Go.RowKit Go.Lib Go.Sort Tryz
def Tryz.M9_ren:Ren:=⟨fun|5=>176|8=>172|7=>190|19=>188|20=>189|10=>200|11=>201|12=>202|13=>203|14=>204|15=>205|16=>206|17=>207|18=>208|30=>213|31=>196|32=>197|33=>214|34=>215|35=>216|40=>217|n=>n,fun|23=>90|25=>2|3=>3|32=>93|22=>90|0=>0|44=>247|46=>73|4=>4|36=>284|35=>283|41=>184|5=>5|9=>9|53=>298|57=>301|63=>310|64=>78|n=>n,fun|n=>n⟩
theorem Tryz.M9:SlLaysM.n5 Tryz.prog Tryz.M9_ren:={
 mixed:=by kernel_rfl
 f5:=⟨f176.name,by decide,func176.trans (by kernel_rfl)⟩
 f7:=⟨f190.name,by decide,func190.trans (by kernel_rfl)⟩
 f8:=func172.trans (by kernel_rfl)
 f10:=⟨f200.name,by decide,func200.trans (by kernel_rfl)⟩
 f11:=⟨f201.name,by decide,func201.trans (by kernel_rfl)⟩
 f12:=⟨f202.name,by decide,func202.trans (by kernel_rfl)⟩
 f13:=⟨f203.name,by decide,func203.trans (by kernel_rfl)⟩
 f14:=⟨f204.name,by decide,func204.trans (by kernel_rfl)⟩
 f15:=⟨f205.name,by decide,func205.trans (by kernel_rfl)⟩
 f16:=⟨f206.name,by decide,func206.trans (by kernel_rfl)⟩
 f17:=⟨f207.name,by decide,func207.trans (by kernel_rfl)⟩
 f18:=⟨f208.name,by decide,func208.trans (by kernel_rfl)⟩
 f19:=func188.trans (by kernel_rfl)
 f20:=func189.trans (by kernel_rfl)
 f30:=⟨f213.name,by decide,func213.trans (by kernel_rfl)⟩
 f31:=func196.trans (by kernel_rfl)
 f32:=func197.trans (by kernel_rfl)
 f33:=⟨f214.name,by decide,func214.trans (by kernel_rfl)⟩
 f34:=⟨f215.name,by decide,func215.trans (by kernel_rfl)⟩
 f35:=⟨f216.name,by decide,func216.trans (by kernel_rfl)⟩
 f40:=⟨f217.name,by decide,func217.trans (by kernel_rfl)⟩
 t0:=underlying0
 a0:=isAgg0
 z0:=sizeOf0
 v0:=zeroValue0
 t3:=underlying3
 a3:=isAgg3
 z3:=sizeOf3
 v3:=zeroValue3
 t4:=underlying4
 a4:=isAgg4
 z4:=sizeOf4
 v4:=zeroValue4
 t5:=underlying5
 a5:=isAgg5
 z5:=sizeOf5
 v5:=zeroValue5
 t9:=underlying9
 a9:=isAgg9
 z9:=sizeOf9
 v9:=zeroValue9
 t22:=underlying90
 a22:=isAgg90
 z22:=sizeOf90
 v22:=zeroValue90
 t23:=underlying90
 a23:=isAgg90
 z23:=sizeOf90
 v23:=zeroValue90
 t25:=underlying2
 a25:=isAgg2
 z25:=sizeOf2
 v25:=zeroValue2
 t32:=underlying93
 a32:=isAgg93
 z32:=sizeOf93
 v32:=zeroValue93
 t35:=underlying283
 a35:=isAgg283
 z35:=sizeOf283
 v35:=zeroValue283
 t36:=underlying284
 a36:=isAgg284
 z36:=sizeOf284
 v36:=zeroValue284
 t41:=underlying184
 a41:=isAgg184
 z41:=sizeOf184
 v41:=zeroValue184
 t44:=underlying247
 a44:=isAgg247
 z44:=sizeOf247
 v44:=zeroValue247
 t46:=underlying73
 a46:=isAgg73
 z46:=sizeOf73
 v46:=zeroValue73
 t53:=underlying298
 a53:=isAgg298
 z53:=sizeOf298
 v53:=zeroValue298
 t57:=underlying301
 a57:=isAgg301
 z57:=sizeOf301
 v57:=zeroValue301
 t63:=underlying310
 a63:=isAgg310
 z63:=sizeOf310
 v63:=zeroValue310
 t64:=underlying78
 a64:=isAgg78
 z64:=sizeOf78
 v64:=zeroValue78 }
def Tryz.K1_ren:Ren:=⟨fun|43=>177|n=>n,fun|22=>90|23=>2|3=>3|4=>4|0=>0|n=>n,fun|n=>n⟩
theorem Tryz.K1:SlLaysE.n43 Tryz.prog Tryz.K1_ren:={
 mixed:=by kernel_rfl
 f43:=⟨f177.name,by decide,func177.trans (by kernel_rfl)⟩
 t0:=underlying0
 a0:=isAgg0
 z0:=sizeOf0
 v0:=zeroValue0
 t3:=underlying3
 a3:=isAgg3
 z3:=sizeOf3
 v3:=zeroValue3
 t4:=underlying4
 a4:=isAgg4
 z4:=sizeOf4
 v4:=zeroValue4
 t22:=underlying90
 a22:=isAgg90
 z22:=sizeOf90
 v22:=zeroValue90
 a23:=isAgg2
 z23:=sizeOf2 }
end Go.Proofs
namespace Go.Proofs.YthfjpkdadjemcaaGreat
open Go.Shelf Go.RowKit Go.Lib Go.Sort Go.ChangeMaps
open _root_.List renaming length_map → FP0, eq_nil_of_length_eq_zero → FP1, replicate → FP2, getElem?_take → FP3, take_of_length_le → FP5, getElem?_eq_none → FP6
open _root_.Array renaming getElem?_eq_some_iff → FP4, size_mapIdx → FP7
def M9 (xs:List Int):List Int:=xs.mergeSort fun x y=>decide (x≤y)
def O5 (xs:List Int):List Int:=compactUpTo xs.toArray xs.toArray.size
theorem Ax8 (w:World)(blk off n:Nat)(d:Array Int)(os:Array Obj){k:Nat}(hk:k<w.heap.size):(grow (putRow (Value.int .i64) (Sort.ahead w n) blk off d) os).heap[k]? = if blk=k then (w.heap[k]?).map (onCells (putCells (Value.int .i64) off d)) else w.heap[k]? := by have h:(grow (putRow (Value.int .i64) (Sort.ahead w n) blk off d) os).heap=(w.heap.modify blk (onCells (putCells (Value.int .i64) off d)))++os:=rfl;rw[h,Array.getElem?_append_left (by simpa using hk),Array.getElem?_modify]
theorem Bt3 {w:World}{g:Nat}{cap:Nat}{cur:Array Value}{T:TypeId}{xs:List Int}(hg:w.heap[g]? = some (.cells cur T (0,0)))(hnc:xs.length≤cap)(hcs:cur.size=cap*1)(htake:cur.toList.take (xs.length*1)=xs.map (Value.int .i64)):Holds (Value.int .i64) w g 0 xs.toArray:=by
 intro j hj;have hj':j<xs.length:=by simpa using hj
 have h2:cur.toList[j]? = some (Value.int .i64 xs[j]):=by
  have h3:(cur.toList.take (xs.length*1))[j]? = some (Value.int .i64 xs[j]):=by rw[htake];simp[hj']
  rw[FP3,if_pos (by omega)] at h3
  exact h3
 have h4:xs.toArray[j]! = xs[j]:=by simp[getElem!_pos,hj']
 refine⟨?_,?_⟩
 ·rw[Nat.zero_add,h4]
  exact cell_of hg h2
 ·unfold World.frozen?
  simp only;rw[hg];simp
theorem Bt4 {cur:Array Value}{d:List Int}{m:Nat}(hc:d.length≤cur.size)(hm:m≤d.length):((putCells (Value.int .i64) 0 d.toArray cur).toList.take m)=(d.take m).map (Value.int .i64):=by
 apply List.ext_getElem?;intro t;by_cases ht:t<m
 ·have h1:t<cur.size:=by omega
  have h2:t<d.length:=by omega
  rw[FP3,if_pos ht,Array.getElem?_toList,List.getElem?_map,FP3,if_pos ht];unfold putCells;rw[Array.getElem?_mapIdx,getElem?_pos cur t h1,getElem?_pos d t h2];simp only[Option.map_some];rw[if_pos ⟨Nat.zero_le _,by simp;omega⟩,Nat.sub_zero]
  simp[getElem!_pos,h2]
 ·rw[FP6 (by rw[List.length_take];omega),FP6 (by rw[FP0,List.length_take];omega)]
theorem EA8 {base:Nat}{w:World}{v:Value}{xs:List Int}(hown:w.ownsRow base 2 1 v xs.length (xs.map (Value.int .i64)))(hsz:xs.length<4611686018427387904):
  Calls Tryz.prog 176 #[v] w fun e w'=>e = .returned (.tuple #[])∧w'.ownsRow base 2 1 v xs.length ((M9 xs).map (Value.int .i64))∧w.grownBy w' v.ownBlock:=by
 have hlen:(M9 xs).length=xs.length:=by unfold M9;simp
 rcases hown.2 with⟨rfl,h0⟩|⟨g,cap,cur,rfl,hb,hg,hnc,hcm,hcs,htake⟩
 ·have h1:xs=[]:=FP1 h0
  subst h1;refine (AnyM.slices_Sort_int_none Tryz.M9 none 0 w).mono ?_
  rintro e w' ⟨rfl,rfl⟩
  have e0:M9 []=[]:=by simp[M9]
  rw[e0];exact⟨rfl,hown,⟨rfl,rfl,rfl,Nat.le_refl _,fun _ _ _=>rfl⟩⟩
 ·have hgl:g<w.heap.size:=(FP4.1 hg).1
  refine (AnyM.slices_Sort_int Tryz.M9 g 0 cap xs w (Bt3 hg hnc hcs htake) hgl hsz).mono ?_
  rintro e w' ⟨rfl,n,os,rfl⟩
  have hd:(xs.mergeSort fun x y=>decide (x≤y))=M9 xs:=rfl
  rw[hd];refine⟨rfl,⟨by rw[FP0,hlen];omega,.inr ⟨g,cap,putCells (Value.int .i64) 0 (M9 xs).toArray cur,rfl,hb,?_,hnc,hcm,?_,?_⟩⟩,?_⟩
  ·rw[Ax8 w g 0 n _ os hgl,if_pos rfl,hg]
   rfl
  ·unfold putCells
   rw[FP7,hcs]
  ·rw[Bt4 (by rw[hlen,hcs];omega) (by rw[hlen];omega),FP5 (by rw[hlen];omega)]
  ·refine⟨rfl,rfl,rfl,?_,fun k hk hne=> ?_⟩
   ·simp[grow,Sort.ahead]
   ·rw[Ax8 w g 0 n _ os hk,if_neg]
    intro h;exact hne (by rw[h];rfl)
theorem Bt5 (xs:List Int):(O5 xs).length≤xs.length:=by unfold O5 compactUpTo;rw[FP0];refine Nat.le_trans (List.length_filter_le _ _) ?_;simp
set_option maxRecDepth 100000 in
theorem EA9 (w:World):Calls Tryz.prog 177 #[.slice none 0 0] w fun e w'=>e = .returned (.slice none 0 0)∧Below w.heap.size w w':=by
 go_enter Tryz.func177,Tryz.ntmps177
 go_wp2
 go_ret
 exact⟨rfl,by (repeat (first | exact Below.refl _ _ | assumption | refine Below.alloc ?_ (by (try simp[A9]) <;> omega) _ | refine Below.setCell ?_ (by (try simp[A9]) <;> omega) _ | refine R1 ?_ (by (try simp[A9]) <;> omega) _ | refine S7 ?_ (by (try simp[A9]) <;> omega) _ | refine Below.drew ?_))⟩
theorem EB0 {base:Nat}{w:World}{v:Value}{xs:List Int}(hown:w.ownsRow base 2 1 v xs.length (xs.map (Value.int .i64))):
  Calls Tryz.prog 177 #[v] w fun e w'=>∃v',e = .returned v'∧w'.ownsRow base 2 1 v' (O5 xs).length ((O5 xs).map (Value.int .i64))∧w.grownBy w' v.ownBlock:=by
 rcases hown.2 with⟨rfl,h0⟩|⟨g,cap,cur,rfl,hb,hg,hnc,hcm,hcs,htake⟩
 ·have h1:xs=[]:=FP1 h0
  subst h1;refine (EA9 w).mono ?_
  rintro e w' ⟨rfl,hb⟩
  exact⟨_,rfl,World.ownsRow_nil _ _ _ _,⟨hb.os,hb.tape,hb.output,hb.size,fun k hk _=>hb.block k hk⟩⟩
 ·have hgl:g<w.heap.size:=(FP4.1 hg).1
  have hm:xs.length≤9223372036854775807:=by unfold maxLen at hcm;omega
  have hs:xs.length=xs.toArray.size:=by simp
  rw[show Value.slice (some ⟨g,0,none⟩) xs.length cap=Value.slice (some ⟨g,0,none⟩) xs.toArray.size cap by rw[← hs]]
  refine (AnyE.slices_Compact Tryz.K1 (Value.int .i64) (fun _=>rfl) (EqlAt.intD _ _ .i64) (NeqAt.intD _ _ .i64) 0 (fun w=>by kernel_rfl) g 0 cap xs.toArray w (Bt3 hg hnc hcs htake) (by simpa using hm) (by simpa using hnc)).mono ?_
  rintro e w' ⟨rfl,q,rfl⟩
  have hd:compactUpTo xs.toArray xs.toArray.size=O5 xs:=rfl;rw[hd];have hle:=Bt5 xs;have hsz:xs.toArray.size=xs.length:=by simp
  have hgr:putRow (Value.int .i64) (Sort.ahead w q) g 0 (O5 xs++FP2 (xs.toArray.size-(O5 xs).length) 0).toArray=grow (putRow (Value.int .i64) (Sort.ahead w q) g 0 (O5 xs++FP2 (xs.toArray.size-(O5 xs).length) 0).toArray) #[]:=by simp
  have hlen:(O5 xs++FP2 (xs.toArray.size-(O5 xs).length) 0).length=xs.length:=by rw[List.length_append,List.length_replicate,hsz];omega
  refine⟨_,rfl,⟨by rw[FP0];omega,.inr ⟨g,cap,putCells (Value.int .i64) 0 (O5 xs++FP2 (xs.toArray.size-(O5 xs).length) 0).toArray cur,rfl,hb,?_,by omega,hcm,?_,?_⟩⟩,?_⟩
  ·rw[hgr,Ax8 w g 0 q _ #[] hgl,if_pos rfl,hg]
   rfl
  ·unfold putCells
   rw[FP7,hcs]
  ·rw[Bt4 (by rw[hlen,hcs];omega) (by rw[hlen];omega),List.take_append_of_le_length (by omega),FP5 (by omega)]
  ·refine⟨rfl,rfl,rfl,?_,fun k hk hne=> ?_⟩
   ·rw[hgr];simp[grow,Sort.ahead]
   ·rw[hgr,Ax8 w g 0 q _ #[] hk,if_neg]
    intro h;exact hne (by rw[h];rfl)
end Go.Proofs.YthfjpkdadjemcaaGreat
