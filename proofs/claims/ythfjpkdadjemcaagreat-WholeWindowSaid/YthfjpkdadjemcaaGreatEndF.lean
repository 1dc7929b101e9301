/- Where a way ends, and whether a span is right: for a walk by hand. -/
import Derived.Test.YthfjpkdadjemcaaGreatFnsF
import Derived.Test.YthfjpkdadjemcaaGreatTkRep
set_option linter.unusedSimpArgs false
set_option linter.unusedVariables false
namespace Go.Proofs.YthfjpkdadjemcaaGreat
open Go.RowKit
theorem EC1 (ow:Nat→A2)(w:World):N8 ow w:=by intro g d hd;simp[BC4,Aq5] at hd
theorem EC2 {ow:Nat→A2}{w W:World}(here:∀blk,ow blk≠ .B7→blk<w.heap.size)(hW:∀blk,blk<w.heap.size→W.heap[blk]? = w.heap[blk]?):E7 ow w (T7 (fun blk=>blk<w.heap.size)) W:=by
 refine E7.of fun blk n hr=> ?_
 have hlt:blk<w.heap.size:=by
  refine here blk fun h0=> ?_
  unfold A6 at hr;rw[h0] at hr;exact hr
 refine⟨M0 ?_,hW blk hlt⟩;unfold T7;rw[if_pos hlt]
theorem EC3 {ow:Nat→A2}{w W:World}{s:J3}{t:TkD}{r:RtD}{y:Int}{vs vt:Value}(hy:O3 s t r=some y)(hs:D1 ow w (.agg V2) s vs)(ht:D1 ow w (.agg TkT) t vt)(hr:A7 r)
  (here:∀blk,ow blk≠ .B7→blk<w.heap.size) (hW:∀blk,blk<w.heap.size→W.heap[blk]? = w.heap[blk]?) (hsz:w.heap.size≤W.heap.size):
  Calls Tryz.prog 129 #[vs,vt,.agg (D8 r)] W fun e w'=>e = .returned (.int .i64 y)∧Below W.heap.size W w':=by
 have hk:=EC2 here hW;have h1:D1 (T7 (fun blk=>blk<w.heap.size)) W (.agg V2) s vs:=by obtain⟨cs,rfl,h⟩:=hs;exact⟨cs,rfl,Rep.keep hk _ _ _ h⟩
 have h2:D1 (T7 (fun blk=>blk<w.heap.size)) W (.agg TkT) t vt:=by obtain⟨cs,rfl,h⟩:=ht;exact⟨cs,rfl,Rep.keep hk _ _ _ h⟩
 have hR:S3 (T7 (fun blk=>blk<w.heap.size)) Ak3 W (Av9.G5 (s,t,r)) #[vs,vt,.agg (D8 r)]:=by
  refine⟨rfl,fun i e v he hv=> ?_⟩
  match i,he,hv with
  |0,he,hv=>
   obtain rfl:=Option.some.inj he;obtain rfl:=Option.some.inj hv;exact .dat h1
  |1,he,hv=>
   obtain rfl:=Option.some.inj he;obtain rfl:=Option.some.inj hv;exact .dat h2
  |2,he,hv=>
   obtain rfl:=Option.some.inj he;obtain rfl:=Option.some.inj hv;exact .dat (hr _ _)
  |i+3,he,hv=>cases he
 refine (Do1 BK8 rfl (x:=(s,t,r)) hy (fun blk hb=>Nat.lt_of_lt_of_le hb hsz) (EC1 _ _) hR).mono ?_
 rintro e w' ⟨v,ow',rfl,hb,_,hv⟩
 refine⟨?_,hb⟩;have hv':A0 ow' Ak3 w' (.dat (.int .i64) y) v:=hv;cases hv';rename_i h;obtain⟨h,_⟩:=h;simp only[List.cons.injEq,and_true] at h;rw[h]
theorem Bt6 (lo hi:Int)(w:World):Calls Tryz.prog 28 #[.agg #[.int .i64 lo,.int .i64 hi]] w fun e w'=>e = .returned (.bool (decide (lo≤hi)))∧Below w.heap.size w w':=by
 go_enter Tryz.func28,Tryz.ntmps28
 go_wp2
 go_ret
 exact⟨rfl,by (repeat (first | exact Below.refl _ _ | assumption | refine Below.alloc ?_ (by (try simp[A9]) <;> omega) _ | refine Below.setCell ?_ (by (try simp[A9]) <;> omega) _ | refine R1 ?_ (by (try simp[A9]) <;> omega) _ | refine S7 ?_ (by (try simp[A9]) <;> omega) _ | refine Below.drew ?_))⟩
end Go.Proofs.YthfjpkdadjemcaaGreat
