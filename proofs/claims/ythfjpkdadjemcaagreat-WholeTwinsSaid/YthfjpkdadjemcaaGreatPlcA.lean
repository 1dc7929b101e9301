/- Places of a group: along the ways. -/
import Derived.Test.YthfjpkdadjemcaaGreatPlcS
import Derived.Test.YthfjpkdadjemcaaGreatSetP
import Derived.Maps.AppendAt
set_option linter.unusedSimpArgs false
set_option linter.unusedVariables false
namespace Go.Proofs.YthfjpkdadjemcaaGreat
open Go.RowKit
open _root_.Nat renaming lt_of_lt_of_le → FL7, le_trans → FL8
open _root_.Array renaming getElem?_modify → FL9
def Q9 (t:TkD)(seg off:Int):List Int→Int→List Int→Option (List Int)
 | [],_,acc=>some acc
 |i::is,at',acc=>if 0≤i∧i<(t.1.length:Int) then Q9 t seg off is (wrap64 (at'+lenOf t i)) (if i=seg then acc++[wrap64 (at'+off)] else acc) else none
def pathOf (r:RtD):List Int:=match r with
 | (n,s0,s1,s2,s3,s4,s5,s6,s7,s8,s9,s10,s11)=>[s0,s1,s2,s3,s4,s5,s6,s7,s8,s9,s10,s11].take (min (max n 0) 12).toNat
def AD0 (t:TkD)(frm seg off:Int)(rs:List RtD)(acc:List Int):Option (List Int):=rs.foldlM (fun acc r=>Q9 t seg off (pathOf r) (wrap64 (-frm)) acc) acc
structure l9 (w0:World)(O:Nat)(base:Nat)(xs:List Int)(v:Value)(w:World):Prop where
 os:w.os=w0.os
 tape:w.tape=w0.tape
 output:w.output=w0.output
 size:w0.heap.size≤w.heap.size
 block:∀k,k<w0.heap.size→k≠O→w.heap[k]? = w0.heap[k]?
 low:O<w0.heap.size
 bs:w0.heap.size≤base∧base≤w.heap.size
 o:w.heap[O]? = some (.cells #[v] 90 (0,0))
 own:w.ownsRow base 2 1 v xs.length (xs.map (Value.int .i64))
theorem Dz1:Option.map (fun i=>(i.zero,i.size,i.bytes)) (Tryz.prog.info? 2)=some (some (.int .i64 0),1,8):=by kernel_rfl
theorem AN4 {w:World}{B:Nat}{T:TypeId}{s:Nat}{v:Value}{n:Nat}{xs:List Value}(h:w.ownsRow B T s v n xs){k:Nat}(hk:k<B):some k≠v.ownBlock:=by intro h2;have:=(h.lt k h2.symm).1;omega
structure BO6 (w w':World)(O:Nat)(v v':Value):Prop where
 os:w'.os=w.os
 tape:w'.tape=w.tape
 output:w'.output=w.output
 size:w.heap.size≤w'.heap.size
 block:∀k,k<w.heap.size→k≠O→some k≠v.ownBlock→w'.heap[k]? = w.heap[k]?
 at':v'.ownBlock=v.ownBlock∨∃k,v'.ownBlock=some k∧w.heap.size≤k
theorem l9.visit {w0 w w':World}{O base:Nat}{xs ys:List Int}{v v':Value}(h:l9 w0 O base xs v w)(hv:BO6 w w' O v v')(ho:w'.heap[O]? = some (.cells #[v'] 90 (0,0)))(hown:w'.ownsRow base 2 1 v' ys.length (ys.map (Value.int .i64))):l9 w0 O base ys v' w':=by
 refine⟨hv.os.trans h.os,hv.tape.trans h.tape,hv.output.trans h.output,FL8 h.size hv.size,fun k hk hO=> ?_,h.low,⟨h.bs.1,FL8 h.bs.2 hv.size⟩,ho,hown⟩
 rw[hv.block k (FL7 hk h.size) hO (AN4 h.own (FL7 hk h.bs.1))];exact h.block k hk hO
theorem l9.grown {w0 w w':World}{O base:Nat}{xs:List Int}{v:Value}(h:l9 w0 O base xs v w)(hb:Below w.heap.size w w'):l9 w0 O base xs v w':=by
 refine⟨hb.os.trans h.os,hb.tape.trans h.tape,hb.output.trans h.output,FL8 h.size hb.size,fun k hk hO=> ?_,h.low,⟨h.bs.1,FL8 h.bs.2 hb.size⟩,?_,?_⟩
 ·rw[hb.block k (FL7 hk h.size)]
  exact h.block k hk hO
 ·rw[hb.block O (FL7 h.low h.size)]
  exact h.o
 ·exact h.own.kept (row:=none) ⟨hb.os,hb.tape,hb.output,hb.size,fun k hk _=>hb.block k hk⟩ (by cases hv:v.ownBlock <;> simp)
theorem Dz2 (w:World)(cs:Array Value)(T:TypeId):∀(j:Nat) u,cs.toList[j]? = some u→(w.alloc (.cells cs T)).cell? ((⟨w.heap.size,0,none⟩:Addr).add j)=some u:=by
 intro j u h;have e:((⟨w.heap.size,0,none⟩:Addr).add j)=⟨w.heap.size,j,none⟩:=by unfold Addr.add;split <;> simp_all
 rw[e,AT8];simpa using h
set_option maxRecDepth 100000 in
theorem Dz3 {w:World}{X O base:Nat}{v:Value}{xs:List Int}(seg off i at':Int)(hX1:w.cell? ⟨X,1,none⟩=some (.int .i64 seg))(hX2:w.cell? ⟨X,2,none⟩=some (.int .i64 off))
  (hO:w.heap[O]? = some (.cells #[v] 90 (0,0))) (hown:w.ownsRow base 2 1 v xs.length (xs.map (Value.int .i64))) (hOb:O<base) (hbw:base≤w.heap.size) (hxs:xs.length<1000000):
  Calls Tryz.prog 175 #[.int .i64 i,.int .i64 at',.pointer (some ⟨X,0,none⟩),.pointer (some ⟨O,0,none⟩)] w fun e w'=>e = .returned (.tuple #[])∧∃v',BO6 w w' O v v'∧w'.heap[O]? = some (.cells #[v'] 90 (0,0))∧
   w'.ownsRow base 2 1 v' (if i=seg then xs++[wrap64 (at'+off)] else xs).length ((if i=seg then xs++[wrap64 (at'+off)] else xs).map (Value.int .i64)):=by
 have hO0:w.cell? ⟨O,0,none⟩=some v:=U3 hO rfl;rcases Classical.em (i=seg) with h | h
 ·have hOl:ltS O w.heap.size:=by unfold ltS;omega
  have HO:Hid _:=hO;have HW:Hid _:=hown;obtain⟨i0,hi0,hz0,hz1,hz2⟩:=info_parts Dz1;clear hO hown;rw[if_pos h]
  go_enter Tryz.func175,Tryz.ntmps175
  go_wp2_with (at_builtin;refine wpList_append_own_at _ rfl _ _ 90 rfl base 2 i0 (.int .i64 0) 1 8 Tryz.underlying90 hi0 hz0 hz1 hz2 rfl (by decide) v xs.length (xs.map (Value.int .i64)) rfl ?hx ⟨w.heap.size,0,none⟩ 1 1 [.int .i64 (wrap64 (at'+off))] rfl rfl ?c1 ?c2 ?c3 ?c4 ?c5 ?_)
  case c1=>exact Dz2 _ #[.int .i64 (wrap64 (at'+off))] _
  case hx=>exact (show w.ownsRow base 2 1 v xs.length (xs.map (Value.int .i64)) from HW).alloc _
  case c2=>first | rfl | (intro u hu;simp at hu;subst hu;rfl)
  case c3=>unfold maxLen;omega
  case c4=>omega
  case c5=>rw [A4];omega
  intro v' w4 hown4 hg4 hnil hat;obtain⟨pa,pn,pc,rfl⟩:=Bt5 hown4;have hHO:w.heap[O]? = some (.cells #[v] 90 (0,0)):=HO;have hWn:some O≠v.ownBlock:=AN4 (show w.ownsRow base 2 1 v xs.length (xs.map (Value.int .i64)) from HW) hOb;have hO4:w4.heap[O]? = some (.cells #[v] 90 (0,0)):=by
   rw[hg4.block O (by rw[A4];unfold ltS at hOl;omega) hWn,Below.heap_alloc _ _ _ hOl]
   exact hHO
  have hO5:w4.cell? ⟨O,0,none⟩=some v:=U3 hO4 rfl;have hf4:w4.frozen? ⟨O,0,none⟩=false:=Ay5 hO4;have HX:Hid _:=hown4;have HG:Hid _:=hg4;have HA:Hid _:=hat;have H4:Hid _:=hO4;clear hown4 hg4 hnil hat hO4 hHO hWn
  go_wp2
  go_end0
  refine⟨rfl,.slice pa pn pc,?_,?_,?_⟩
  ·have hset:∀k,k≠O→(w4.setCell ⟨O,0,none⟩ (.slice pa pn pc)).heap[k]? = w4.heap[k]? := by
    intro k hk;unfold World.setCell;simp only;rw[FL9,if_neg (Ne.symm hk)]
   have hG:(w.alloc (Obj.cells #[Value.int IntKind.i64 (wrap64 (at'+off))] 2)).grownBy w4 v.ownBlock:=HG;have hs:=hG.size;rw[A4] at hs;refine⟨hG.os,hG.tape,hG.output,by rw[size_setCell];omega,fun k hk h1 h2=> ?_,?_⟩
   ·rw[hset k h1,hG.block k (by rw[A4];omega) h2,Below.heap_alloc _ _ _ hk]
   ·rcases (show _∨_ from HA) with h5 | h5
    ·exact .inl h5
    ·exact .inr ⟨_,h5,by omega⟩
  ·unfold World.setCell
   simp only;rw[FL9,if_pos rfl,show w4.heap[O]? = some (.cells #[v] 90 (0,0)) from H4];rfl
  ·have hX:w4.ownsRow base 2 1 (.slice pa pn pc) (xs.length+1) (xs.map (Value.int .i64)++[Value.int .i64 (wrap64 (at'+off))]):=HX
   have e1:(xs++[wrap64 (at'+off)]).length=xs.length+1:=by simp
   have e2:(xs++[wrap64 (at'+off)]).map (Value.int .i64)=xs.map (Value.int .i64)++[Value.int .i64 (wrap64 (at'+off))]:=by simp
   rw[e1,e2];exact BO4 hX (fun h5=>AN4 hX hOb h5.symm) (by have:=(show (w.alloc (Obj.cells #[Value.int IntKind.i64 (wrap64 (at'+off))] 2)).grownBy w4 v.ownBlock from HG).size;rw[A4] at this;unfold ltS at hOl;omega)
 ·rw[if_neg h]
  go_enter Tryz.func175,Tryz.ntmps175
  go_wp2
  go_end0
  exact⟨rfl,v,⟨rfl,rfl,rfl,Nat.le_refl _,fun _ _ _ _=>rfl,.inl rfl⟩,hO,hown⟩
end Go.Proofs.YthfjpkdadjemcaaGreat
