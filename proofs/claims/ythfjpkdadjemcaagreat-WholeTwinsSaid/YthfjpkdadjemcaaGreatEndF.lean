/- Where a way ends, and whether a span is right: for a walk by hand. -/
import Derived.Test.YthfjpkdadjemcaaGreatFnsF
import Derived.Test.YthfjpkdadjemcaaGreatTkRep
set_option linter.unusedSimpArgs false
set_option linter.unusedVariables false
namespace Go.Proofs.YthfjpkdadjemcaaGreat
open Go.RowKit
theorem Dy1 (ow:Nat→A1)(w:World):O1 ow w:=by intro g d hd;simp[BD5,Aq4] at hd
theorem Dy2 {ow:Nat→A1}{w W:World}(here:∀blk,ow blk≠ .B8→blk<w.heap.size)(hW:∀blk,blk<w.heap.size→W.heap[blk]? = w.heap[blk]?):E9 ow w (T7 (fun blk=>blk<w.heap.size)) W:=by
 refine E9.of fun blk n hr=> ?_
 have hlt:blk<w.heap.size:=by
  refine here blk fun h0=> ?_
  unfold A5 at hr;rw[h0] at hr;exact hr
 refine⟨L3 ?_,hW blk hlt⟩;unfold T7;rw[if_pos hlt]
theorem Dy3 {ow:Nat→A1}{w W:World}{s:M6}{t:TkD}{r:RtD}{y:Int}{vs vt:Value}(hy:S5 s t r=some y)(hs:C7 ow w (.agg V6) s vs)(ht:C7 ow w (.agg TkT) t vt)(hr:A6 r)
  (here:∀blk,ow blk≠ .B8→blk<w.heap.size) (hW:∀blk,blk<w.heap.size→W.heap[blk]? = w.heap[blk]?) (hsz:w.heap.size≤W.heap.size):
  Calls Tryz.prog 129 #[vs,vt,.agg (E2 r)] W fun e w'=>e = .returned (.int .i64 y)∧Below W.heap.size W w':=by
 have hk:=Dy2 here hW;have h1:C7 (T7 (fun blk=>blk<w.heap.size)) W (.agg V6) s vs:=by obtain⟨cs,rfl,h⟩:=hs;exact⟨cs,rfl,Rep.keep hk _ _ _ h⟩
 have h2:C7 (T7 (fun blk=>blk<w.heap.size)) W (.agg TkT) t vt:=by obtain⟨cs,rfl,h⟩:=ht;exact⟨cs,rfl,Rep.keep hk _ _ _ h⟩
 have hR:S2 (T7 (fun blk=>blk<w.heap.size)) Aj3 W (Aw6.G7 (s,t,r)) #[vs,vt,.agg (E2 r)]:=by
  refine⟨rfl,fun i e v he hv=> ?_⟩
  match i,he,hv with
  |0,he,hv=>
   obtain rfl:=Option.some.inj he;obtain rfl:=Option.some.inj hv;exact .dat h1
  |1,he,hv=>
   obtain rfl:=Option.some.inj he;obtain rfl:=Option.some.inj hv;exact .dat h2
  |2,he,hv=>
   obtain rfl:=Option.some.inj he;obtain rfl:=Option.some.inj hv;exact .dat (hr _ _)
  |i+3,he,hv=>cases he
 refine (Dk4 BM0 rfl (x:=(s,t,r)) hy (fun blk hb=>Nat.lt_of_lt_of_le hb hsz) (Dy1 _ _) hR).mono ?_
 rintro e w' ⟨v,ow',rfl,hb,_,hv⟩
 refine⟨?_,hb⟩;have hv':A0 ow' Aj3 w' (.dat (.int .i64) y) v:=hv;cases hv';rename_i h;obtain⟨h,_⟩:=h;simp only[List.cons.injEq,and_true] at h;rw[h]
theorem Bu1 (lo hi:Int)(w:World):Calls Tryz.prog 28 #[.agg #[.int .i64 lo,.int .i64 hi]] w fun e w'=>e = .returned (.bool (decide (lo≤hi)))∧Below w.heap.size w w':=by
 go_enter Tryz.func28,Tryz.ntmps28
 go_wp2
 go_ret
 exact⟨rfl,by (repeat (first | exact Below.refl _ _ | assumption | refine Below.alloc ?_ (by (try simp[A9]) <;> omega) _ | refine Below.setCell ?_ (by (try simp[A9]) <;> omega) _ | refine S6 ?_ (by (try simp[A9]) <;> omega) _ | refine S7 ?_ (by (try simp[A9]) <;> omega) _ | refine Below.drew ?_))⟩
end Go.Proofs.YthfjpkdadjemcaaGreat
