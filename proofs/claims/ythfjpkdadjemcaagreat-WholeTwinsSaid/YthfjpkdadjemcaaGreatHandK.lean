/- Promises of functions that are walked by hand. -/
import Derived.Test.YthfjpkdadjemcaaGreatM4
set_option linter.unusedSimpArgs false
set_option linter.unusedVariables false
namespace Go.Proofs.YthfjpkdadjemcaaGreat
open Go.RowKit
class LP where
 lp:{S X:Type}→(S→Option (S ⊕ X))→S→Option X
noncomputable instance lpO:LP:=⟨fun f s=>AJ9 f s⟩
def Z7 (ow:Nat→A1)(n m:Nat):Nat→A1:=fun blk=>if blk<n then ow blk else if blk<m then .E4 else .B8
theorem Aw5 {ow:Nat→A1}{n m blk:Nat}(h:blk<n):Z7 ow n m blk=ow blk:=by unfold Z7;rw[if_pos h]
theorem Bk1 {ow:Nat→A1}{n m blk:Nat}(h:n≤blk)(h2:blk<m):Z7 ow n m blk = .E4:=by unfold Z7;rw[if_neg (by omega),if_pos h2]
theorem Dk3 {ow:Nat→A1}{w w':World}(here:∀blk,ow blk≠ .B8→blk<w.heap.size)(hb:Below w.heap.size w w'):E9 ow w (Z7 ow w.heap.size w'.heap.size) w':=by
 refine E9.of fun blk n hr=> ?_
 have hne:ow blk≠ .B8:=by intro h;unfold A5 at hr;rw[h] at hr;exact hr
 have hlt:=here blk hne;refine⟨?_,hb.block blk hlt⟩;unfold A5;rw[Aw5 hlt];exact hr
theorem BL8 {P:Program}{c:Con}(hfn:∃fn,P.funcs[c.f]? = some fn∧fn.body.isSome=true∧(fn.name == "runtime.NumGoroutine")=false)(hb:c.boxes=[])
  (h:∀(x:c.ins.den) (y:c.outs.den),c.F x=some y→∀(w:World) (ow:Nat→A1) (bx:Bx) (args:Array Value),O1 ow w→(∀blk,ow blk≠ .B8→blk<w.heap.size)→S2 ow bx w (c.G7 x) args→
   Calls P c.f args w fun e w'=>∃v,e = .returned v∧Below w.heap.size w w'∧A0 (Z7 ow w.heap.size w'.heap.size) bx w' (c.res y) v):M4 P c:=by
 refine⟨hfn,fun x y hF w ow bx args hg hd hI hR=> ?_⟩
 have hb0:c.L0 x=[]:=by unfold Con.L0;rw[hb];rfl
 have hb1:c.S1 y=[]:=by unfold Con.S1;rw[hb];rfl
 refine (h x y hF w ow bx args hg hI.here hR).mono ?_
 rintro e w' ⟨v,rfl,hbel,hv⟩
 refine⟨v,_,rfl,?_,hv⟩;have nobox:∀blk b,ow blk≠ .box b:=by intro blk b hx;have:=(hI.back blk b hx).2.1;rw[hb0] at this;simp[A3] at this
 refine⟨?_,?_,?_,?_,?_,?_,?_,?_,?_⟩
 ·intro b cs hbg
  rw[hb1] at hbg;simp[A3] at hbg
 ·intro blk b hx
  unfold Z7 at hx;split at hx
  ·exact absurd hx (nobox blk b)
  ·split at hx <;> cases hx
 ·intro blk hx
  unfold Z7 at hx;split at hx
  ·have:=hbel.size;omega
  ·split at hx
   ·assumption
   ·exact absurd rfl hx
 ·intro blk hlt hM
  obtain⟨o1,o2,o3,o4⟩:=hI.old blk hlt hM;have hlt':blk<w.heap.size:=hlt;refine⟨hbel.block blk hlt',?_,?_,?_⟩
  ·exact Aw5 hlt'
  ·intro b;rw[Aw5 hlt'];exact o3 b
  ·intro k fr;rw[Aw5 hlt'];exact o4 k fr
 ·exact hbel.size
 ·exact⟨hbel.tape,hbel.os,hbel.output⟩
 ·intro b hlt
  have:=hI.kept b hlt;rw[hb0] at this;simp[A3] at this
 ·exact Dk3 hI.here hbel
 ·exact hI.born
def T7 (S:Nat→Prop)[DecidablePred S]:Nat→A1:=fun blk=>if S blk then .E4 else .B8
def Aj3:Bx:=⟨fun _=>0,fun _=>false,fun _=>none⟩
theorem Dk4 {P:Program}{c:Con}(h:M4 P c)(hb:c.boxes=[]){x:c.ins.den}{y:c.outs.den}(hF:c.F x=some y){w:World}{args:Array Value}{S:Nat→Prop}[DecidablePred S](hS:∀blk,S blk→blk<w.heap.size)(hg:O1 (T7 S) w)
  (hR:S2 (T7 S) Aj3 w (c.G7 x) args):Calls P c.f args w fun e w'=>∃v ow',e = .returned v∧Below w.heap.size w w'∧E9 (T7 S) w ow' w'∧A0 ow' Aj3 w' (c.res y) v:=by
 have hb0:c.L0 x=[]:=by unfold Con.L0;rw[hb];rfl
 have hb1:c.S1 y=[]:=by unfold Con.S1;rw[hb];rfl
 have nobox:∀blk b,T7 S blk≠ .box b:=by intro blk b hx;unfold T7 at hx;split at hx <;> cases hx
 have notok:∀blk k fr,T7 S blk≠ .tok k fr:=by intro blk b fr hx;unfold T7 at hx;split at hx <;> cases hx
 have here:∀blk,T7 S blk≠ .B8→blk<w.heap.size:=by
  intro blk hx;unfold T7 at hx;split at hx
  ·rename_i hs;exact hS blk hs
  ·exact absurd rfl hx
 have hlen:c.boxes.length=0:=by rw[hb];rfl
 refine (h.go x y hF w (T7 S) Aj3 args hg (fun _=>rfl) ?_ hR).mono ?_
 ·rw[hb0,hlen]
  refine⟨?_,?_,here,?_,Nat.le_refl _,⟨rfl,rfl,rfl⟩,?_,E9.of fun blk n hr=>⟨hr,rfl⟩,?_⟩
  ·intro b cs hbg;simp[A3] at hbg
  ·intro blk b hx;exact absurd hx (nobox blk b)
  ·intro blk hlt hM;exact⟨rfl,rfl,nobox blk,notok blk⟩
  ·intro b hlt;exact absurd hlt (Nat.not_lt_zero _)
  ·intro j hj;cases hj
 ·rintro e w' ⟨v,ow',rfl,hI,hv⟩
  refine⟨v,ow',rfl,⟨hI.env.2.1,hI.env.1,hI.env.2.2,hI.size,fun k hk=>(hI.old k hk ?_).1⟩,hI.st,hv⟩
  rintro⟨b,hx⟩
  exact nobox k b hx
end Go.Proofs.YthfjpkdadjemcaaGreat
