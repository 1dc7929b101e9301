/- The map of routes. -/
import Derived.Test.YthfjpkdadjemcaaGreatFnsF0
import Derived.Test.YthfjpkdadjemcaaGreatOrdM
import Derived.Test.YthfjpkdadjemcaaGreatLate
import Derived.MapKept
set_option linter.unusedSimpArgs false
set_option linter.unusedVariables false
namespace Go.Proofs.YthfjpkdadjemcaaGreat
open Go.RowKit
open Go.Result renaming andThen → FE9
open _root_.Array renaming ext_getElem? → FF0, getElem?_modify → FF1, getElem?_setIfInBounds → FF2, getElem?_eq_some_iff → FF3
def E2 (r:RtD):Array Value:=match r with
 | (n,s0,s1,s2,s3,s4,s5,s6,s7,s8,s9,s10,s11)=>#[.int .i64 n,.int .i64 s0,.int .i64 s1,.int .i64 s2,.int .i64 s3,.int .i64 s4,.int .i64 s5,.int .i64 s6,.int .i64 s7,.int .i64 s8,.int .i64 s9,.int .i64 s10,.int .i64 s11]
def S9 (r:RtD)(i:Nat):MapEntry:={key:=.agg (E2 r),val:=.int .i64 r.1,born:=i}
def mapOf (l:List RtD):Array MapEntry:=(l.zipIdx.map fun p=>S9 p.1 p.2).toArray
def I9 (r:RtD)(l:List RtD):List RtD:=if r∈l then l else l++[r]
def B0 (w:World)(M:Nat)(l:List RtD):World:={w with heap:=w.heap.modify M fun o=>match o with
 | .map _ _=>.map (mapOf l) l.length
 |o=>o}
def L7 (w:World)(M:Nat)(l:List RtD):Prop:=w.heap[M]? = some (.map (mapOf l) l.length)
section
variable (w:World)(M:Nat)(l:List RtD)
theorem AM7 (k:Nat):(B0 w M l).heap[k]? = if M=k then (w.heap[k]?).map (fun o=>match o with | .map _ _=>.map (mapOf l) l.length | o=>o) else w.heap[k]? := by unfold B0;simp only;rw[FF1]
@[go_sem] theorem AG5 : (B0 w M l).heap.size = w.heap.size := by simp [B0]
@[go_sem] theorem Z9 (a : Addr) : (B0 w M l).cell? a = w.cell? a := by
 unfold World.cell?;rw[AM7];by_cases hM:M=a.block
 ·rw[if_pos hM]
  cases h:w.heap[a.block]? with
  |none=>rfl
  |some o=>cases o <;> rfl
 ·rw[if_neg hM]
@[go_sem] theorem Dt0 (a : Addr) : (B0 w M l).frozen? a = w.frozen? a := by
 unfold World.frozen?;rw[AM7];by_cases hM:M=a.block
 ·rw[if_pos hM]
  cases h:w.heap[a.block]? with
  |none=>rfl
  |some o=>cases o <;> rfl
 ·rw[if_neg hM]
theorem Dt1 (h:∃l',L7 w M l'):L7 (B0 w M l) M l:=by obtain⟨l',h⟩:=h;unfold L7 at*;rw[AM7,if_pos rfl,h];rfl
theorem AM8 (h:L7 w M l):B0 w M l=w:=by
 unfold B0;have e:(w.heap.modify M fun o=>match o with | .map _ _=>Obj.map (mapOf l) l.length | o=>o)=w.heap:=by
  apply FF0;intro j;rw[FF1];by_cases hj:M=j
  ·subst hj
   unfold L7 at h;rw[if_pos rfl,h];rfl
  ·rw[if_neg hj]
 rw[e]
end
theorem Dt2 (l:List RtD)(r:RtD):mapOf (l++[r])=(mapOf l).push (S9 r l.length):=by unfold mapOf;simp[List.zipIdx_append]
theorem Bq9 (r:RtD)(w:World):(Instr.checkKey false 10000 195 (.agg (E2 r))).run Tryz.prog w = .ok () w:=by
 obtain⟨n,s0,s1,s2,s3,s4,s5,s6,s7,s8,s9,s10,s11⟩:=r
 kernel_rfl
theorem Ax9:Tryz.prog.underlying 257=some (.map 195 3):=by kernel_rfl
theorem Dt3:∃fs,Tryz.prog.underlying 195=some (.struct fs):=by
 have h:(match Tryz.prog.underlying 195 with | some (.struct _)=>true | _=>false)=true:=by kernel_rfl
 split at h
 ·rename_i fs hfs;exact⟨fs,hfs⟩
 ·cases h
theorem Br0 (a b:RtD):eqT (.agg RtT) a b=true↔a=b:=by obtain⟨n,s0,s1,s2,s3,s4,s5,s6,s7,s8,s9,s10,s11⟩:=a;obtain⟨m,t0,t1,t2,t3,t4,t5,t6,t7,t8,t9,t10,t11⟩:=b;simp[eqT,and_assoc]
def A6 (r:RtD):Prop:=∀(ow:Nat→A1) (w:World),C7 ow w (.agg RtT) r (.agg (E2 r))
theorem Dt4 {a b:RtD}(ha:A6 a)(hb:A6 b)(w:World):(Op.equal 195 (.agg (E2 a)) (.agg (E2 b))).run Tryz.prog w = .ok (eqT (.agg RtT) a b) w:=by
 have h:=Bh1 (P:=Tryz.prog) (ow:=fun _=>.B8) (w:=w) 6 195 (.agg RtT) (by kernel_rfl) 9994 a b _ _ (ha _ _) (hb _ _)
 exact h
def T0 (l:List RtD)(i:Nat):List MapEntry:=(l.zipIdx i).map fun p=>S9 p.1 p.2
theorem Br1 (l:List RtD):(mapOf l).toList=T0 l 0:=by unfold mapOf T0;simp
theorem Dt5 {r:RtD}(hr:A6 r)(w:World):∀(l:List RtD) (i j:Nat),(∀x∈l,A6 x)→
  (r∉l∧(Instr.findAsking 195 (.agg (E2 r)) (T0 l i) j).run Tryz.prog w = .ok none w)∨∃q,l[q]? = some r∧(Instr.findAsking 195 (.agg (E2 r)) (T0 l i) j).run Tryz.prog w = .ok (some (j+q,.int .i64 r.1)) w:=by
 intro l
 induction l with
 |nil=>intro i j _;exact .inl ⟨by simp,by simp[T0,Instr.findAsking]⟩
 |cons x l ih=>
  intro i j hl;have hx:=Dt4 hr (hl x (by simp)) w
  have e:T0 (x::l) i=S9 x i::T0 l (i+1):=by simp[T0,List.zipIdx_cons]
  rw[e];rcases Classical.em (r=x) with hxr | hxr
  ·subst hxr
   refine .inr ⟨0,rfl,?_⟩;rw[(Br0 r r).2 rfl] at hx;simp[Instr.findAsking,S9,hx,FE9]
  ·rw[show eqT (.agg RtT) r x=false from Bool.eq_false_iff.2 fun h=>hxr ((Br0 r x).1 h)] at hx
   have hs:(Instr.findAsking 195 (.agg (E2 r)) (S9 x i::T0 l (i+1)) j).run Tryz.prog w=(Instr.findAsking 195 (.agg (E2 r)) (T0 l (i+1)) (j+1)).run Tryz.prog w:=by
    conv=>lhs;unfold Instr.findAsking
    simp[S9,hx,FE9]
   rw[hs];rcases ih (i+1) (j+1) (fun y hy=>hl y (by simp[hy])) with⟨h1,h2⟩|⟨q,h1,h2⟩
   ·exact .inl ⟨by simp[hxr,h1],h2⟩
   ·exact .inr ⟨q+1,by simpa using h1,by rw[h2,Nat.add_assoc,Nat.add_comm 1 q]⟩
theorem Dt6 {r:RtD}(hr:A6 r)(w:World)(l:List RtD)(hl:∀x∈l,A6 x):
  (r∉l∧(Instr.findKey 195 (.agg (E2 r)) (mapOf l).toList).run Tryz.prog w = .ok none w)∨∃q,l[q]? = some r∧(Instr.findKey 195 (.agg (E2 r)) (mapOf l).toList).run Tryz.prog w = .ok (some (q,.int .i64 r.1)) w:=by
 rw[Br1];obtain⟨fs,hu⟩:=Dt3;cases l with
 |nil=>exact .inl ⟨by simp,by simp[T0,Instr.findKey,run_underlying hu,Instr.findNow,FE9]⟩
 |cons x l=>
  have e:Instr.findNow (.struct fs) (.agg (E2 r)) (T0 (x::l) 0) 0=none:=by simp[T0,List.zipIdx_cons,Instr.findNow,Instr.sameNow]
  have hs:(Instr.findKey 195 (.agg (E2 r)) (T0 (x::l) 0)).run Tryz.prog w=(Instr.findAsking 195 (.agg (E2 r)) (T0 (x::l) 0) 0).run Tryz.prog w:=by simp[Instr.findKey,run_underlying hu,e,FE9]
  rw[hs];rcases Dt5 hr w (x::l) 0 0 hl with h |⟨q,h1,h2⟩
  ·exact .inl h
  ·exact .inr ⟨q,h1,by rw[h2,Nat.zero_add]⟩
theorem Dt7 (r:RtD):Instr.sameBits 10000 (.agg (E2 r)) (.agg (E2 r))=true:=by obtain⟨n,s0,s1,s2,s3,s4,s5,s6,s7,s8,s9,s10,s11⟩:=r;show Instr.sameBits (9998+1+1) _ _=true;simp[Instr.sameBits,E2]
theorem Ay0 {w:World}{M:Nat}{l:List RtD}{r:RtD}(h:L7 w M l)(hr:A6 r)(hl:∀x∈l,A6 x):
  (Instr.mapUpdate 257 (.map (some M)) (.agg (E2 r)) (.int .i64 r.1)).run Tryz.prog w = .ok () (B0 w M (I9 r l)):=by
 have hb:w.heap[M]? = some (.map (mapOf l) l.length):=h;rcases Dt6 hr w l hl with⟨h1,h2⟩|⟨q,h1,h2⟩
 ·have e:w.heap.setIfInBounds M (.map ((mapOf l).push {key:=.agg (E2 r),val:=.int .i64 r.1,born:=l.length}) (l.length+1))=(B0 w M (I9 r l)).heap:=by
   apply FF0;intro j;rw[AM7,FF2];have hlt:M<w.heap.size:=by rw[FF3] at hb;exact hb.1
   by_cases hj:M=j
   ·subst hj
    rw[if_pos rfl,if_pos rfl,hb,if_pos hlt];unfold I9;rw[if_neg h1];simp[Dt2,S9]
   ·rw[if_neg hj,if_neg hj]
  simp[Instr.mapUpdate,run_underlying Ax9,MapKept.run_getObj_map hb,Bq9,h2,MapKept.run_setObj_map _ hb,FE9];rw[e];rfl
 ·have hm:r∈l:=List.mem_of_getElem? h1
  have e:B0 w M (I9 r l)=w:=by unfold I9;rw[if_pos hm];exact AM8 w M l h
  have he:(mapOf l)[q]? = some (S9 r q):=by rw[← Array.getElem?_toList,Br1];simp[T0,List.getElem?_map,List.getElem?_zipIdx,h1]
  have e2:((mapOf l).modify q fun e=>{e with key:=.agg (E2 r),val:=.int .i64 r.1})=mapOf l:=by
   apply FF0;intro j;rw[FF1];by_cases hj:q=j
   ·subst hj
    rw[if_pos rfl,he];rfl
   ·rw[if_neg hj]
  have e3:w.heap.setIfInBounds M (.map (mapOf l) l.length)=w.heap:=by
   apply FF0;intro j;rw[FF2];by_cases hj:M=j
   ·subst hj
    have hlt:M<w.heap.size:=by rw[FF3] at hb;exact hb.1
    rw[if_pos rfl,if_pos hlt,hb]
   ·rw[if_neg hj]
  rw[e];simp[Instr.mapUpdate,run_underlying Ax9,MapKept.run_getObj_map hb,Bq9,h2,he,S9,Instr.keyThatStays,Dt7,MapKept.run_setObj_map _ hb,FE9];rw[e2,e3]
end Go.Proofs.YthfjpkdadjemcaaGreat
