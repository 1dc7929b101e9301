/- The path of a route. -/
import Derived.Test.YthfjpkdadjemcaaGreatProg
import Derived.WalkKit
import Derived.Ground.NamesProg
import Derived.Ground.Names2Prog
import Derived.Shelf.Slices.Clone
set_option linter.unusedSimpArgs false
set_option linter.unusedVariables false
namespace Go.Proofs
open Go.Shelf Tryz
def Tryz.Do2_ren:Ren:=⟨fun|15=>127|n=>n,fun|22=>65|3=>3|4=>4|n=>n,fun|n=>n⟩
theorem Tryz.Do2:Lays2.n15 Tryz.prog Tryz.Do2_ren:={
 mixed:=by kernel_rfl
 f15:=func127.trans (by kernel_rfl)
 t3:=underlying3
 a3:=isAgg3
 z3:=sizeOf3
 v3:=zeroValue3
 t4:=underlying4
 a4:=isAgg4
 z4:=sizeOf4
 v4:=zeroValue4
 t22:=underlying65
 a22:=isAgg65
 z22:=sizeOf65
 v22:=zeroValue65
 i3:=by kernel_rfl }
end Go.Proofs
namespace Go.Proofs.YthfjpkdadjemcaaGreat
open Go.RowKit
theorem Do3:Tryz.prog.underlying 193=some (.array 12 3):=by kernel_rfl
theorem Do4 (w:World):(sizeOf 3).run Tryz.prog w = .ok 1 w:=by kernel_rfl
theorem Do5 (a:Addr)(m:Int)(h0:0≤m)(h1:m≤12)(w:World):(Instr.sliceAt 193 (.pointer (some a)) none (some (.int .i64 m)) none).run Tryz.prog w = .ok (.slice (some a) m.toNat 12) w:=by simp[Instr.sliceAt,Instr.sureAddr,underlying,Do3,Instr.sliceBounds,Instr.sliceBound,asIntOf,h0,h1,Do4,go_sem]
theorem Do6 (w:World)(cs:Array Value)(T k:Nat):(w.alloc (.cells cs T (0,0))).cell? ⟨w.heap.size,k,none⟩=cs[k]? := by
 show (match (w.heap.push (.cells cs T (0,0)))[w.heap.size]? with
  |some (.cells c _ _)=>if (none:Option _).isSome then none else c[k]?
  |_=>none)=_
 rw[Array.getElem?_push_size];rfl
theorem Bk1 (w:World)(o:Obj):(w.alloc o).heap.size=w.heap.size+1:=by show (w.heap.push o).size=_;rw[Array.size_push]
theorem Do7 {l:List Int}{j:Nat}(h:j<l.length):(l.map (Value.int .i64))[j]? = some (.int .i64 (l.getD j 0)):=by simp[h,List.getD]
set_option maxRecDepth 100000 in
set_option maxHeartbeats 1000000 in
theorem Bk2 (n m s0 s1 s2 s3 s4 s5 s6 s7 s8 s9 s10 s11:Int)(hm:min (max n 0) 12=m)(h0:0≤m)(h2:m≤12)(w:World):
  Calls Tryz.prog 84 #[.agg #[.int .i64 n,.int .i64 s0,.int .i64 s1,.int .i64 s2,.int .i64 s3,.int .i64 s4,.int .i64 s5,.int .i64 s6,.int .i64 s7,.int .i64 s8,.int .i64 s9,.int .i64 s10,.int .i64 s11]] w fun e w'=>
   ∃v',e = .returned v'∧w'.ownsRow w.heap.size 3 1 v' m.toNat (([s0,s1,s2,s3,s4,s5,s6,s7,s8,s9,s10,s11].take m.toNat).map (Value.int .i64))∧Below w.heap.size w w':=by
 have hl:m.toNat≤12:=by omega
 have hs:=fun w1=>Do5 ⟨w.heap.size,1,none⟩ m h0 h2 w1
 have hclone:=Any.slices_Clone_int Tryz.Do2 w.heap.size 1 m.toNat 12 [s0,s1,s2,s3,s4,s5,s6,s7,s8,s9,s10,s11] (w.alloc (.cells #[.int .i64 n,.int .i64 s0,.int .i64 s1,.int .i64 s2,.int .i64 s3,.int .i64 s4,.int .i64 s5,.int .i64 s6,.int .i64 s7,.int .i64 s8,.int .i64 s9,.int .i64 s10,.int .i64 s11] 195)) hl (by omega) (fun j hj=>by rw[Do6,Nat.add_comm,← Do7 hj];simp)
 go_enter Tryz.func84,Tryz.ntmps84
 go_wp2_with (go_at_call 127;refine hclone.mono ?_;rintro e w1 ⟨v1,rfl,hown,hnn,hbel⟩;clear hclone hs)
 go_ret
 obtain⟨h3,h4⟩:=hown;refine⟨v1,rfl,⟨h3,?_⟩,?_⟩
 ·rcases h4 with h4 |⟨g,cap,cur,e1,e2,e3⟩
  ·exact .inl h4
  ·rw[Bk1] at e2
   exact .inr ⟨g,cap,cur,e1,by omega,e3⟩
 ·rw[Bk1] at hbel
  exact (Below.alloc (Below.refl _ _) (Nat.le_refl _) _).trans (hbel.mono (Nat.le_succ _))
end Go.Proofs.YthfjpkdadjemcaaGreat
