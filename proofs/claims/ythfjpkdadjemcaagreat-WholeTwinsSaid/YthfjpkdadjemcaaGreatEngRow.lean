/- From a reading to a row's walk: plain arguments. No program in sight. -/
import Derived.Test.YthfjpkdadjemcaaGreatM4
import Derived.Test.YthfjpkdadjemcaaGreatPlain
set_option linter.unusedSimpArgs false
set_option linter.unusedVariables false
namespace Go.Proofs.YthfjpkdadjemcaaGreat
open Go.RowKit
def M0 (w:World):Nat→A1:=fun blk=>if blk<w.heap.size then .E4 else .B8
def bx0:Bx:=⟨id,fun _=>false,fun _=>none⟩
def RL (ow:Nat→A1)(w:World):List EV→List Value→Prop
 | [],[]=>True
 |e::es,v::vs=>A0 ow bx0 w e v∧RL ow w es vs
 |_,_=>False
theorem RL.CF8 {ow:Nat→A1}{w:World}:∀{es:List EV} {vs:List Value},RL ow w es vs→es.length=vs.length∧∀(i:Nat) e v,es[i]? = some e→vs[i]? = some v→A0 ow bx0 w e v
 | [],[],_=>⟨rfl,fun i e v he=>by simp at he⟩
 |e::es,v::vs,h=>by
  obtain⟨h1,h2⟩:=h.2.CF8;refine⟨by simp[h1],fun i e' v' he hv=> ?_⟩
  cases i with
  |zero=>simp at he hv;subst he hv;exact h.1
  |succ i=>exact h2 i e' v' (by simpa using he) (by simpa using hv)
 | [],_::_,h=>h.elim
 |_::_,[],h=>h.elim
theorem EP6 {P:Program}{c:Con}(h:M4 P c)(hb:c.boxes=[]){x:c.ins.den}{y:c.outs.den}(hy:c.F x=some y)(w:World)(args:Array Value)(ha:RL (M0 w) w (c.G7 x) args.toList)(hg:O1 (M0 w) w:=by exact fun g d h=>by cases h):
  Calls P c.f args w fun e w'=>∃v ow',e = .returned v∧Below w.heap.size w w'∧A0 ow' bx0 w' (c.res y) v:=by
 have hn:c.L0 x=[]:=by unfold Con.L0;rw[hb];rfl
 obtain⟨h1,h2⟩:=ha.CF8;refine (h.go x y hy w (M0 w) bx0 args hg (fun _=>rfl) ?_ ⟨by simpa using h1,fun i e v he hv=>h2 i e v he (by simpa using hv)⟩).mono fun e w' ⟨v,ow',he,hi,hr⟩=>⟨v,ow',he,?_,hr⟩
 ·constructor
  ·intro b cs hcs;rw[hn] at hcs;simp[A3] at hcs
  ·intro blk b hbk
   unfold M0 at hbk;split at hbk <;> cases hbk
  ·intro blk hbk
   unfold M0 at hbk;split at hbk
   ·assumption
   ·exact absurd rfl hbk
  ·intro blk hlt _
   refine⟨rfl,rfl,fun b=> ?_,fun k fr=> ?_⟩
   ·show M0 w blk≠ .box b
    unfold M0;split <;> simp
   ·show M0 w blk≠ .tok k fr
    unfold M0;split <;> simp
  ·exact Nat.le_refl _
  ·exact⟨rfl,rfl,rfl⟩
  ·intro b hlt;rw[hb] at hlt;simp at hlt
  ·exact .refl _ _
  ·exact fun j hj=>by simp[bx0] at hj
 ·obtain⟨e1,e2,e3⟩:=hi.env
  refine⟨e2,e1,e3,hi.size,fun k hk=> ?_⟩
  refine (hi.old k hk ?_).1
  rintro⟨b,hb⟩
  simp only[M0,hk,if_true] at hb;cases hb
theorem EP7 {P:Program}{c:Con}(h:M4 P c)(hb:c.boxes=[]){x:c.ins.den}{y:c.outs.den}(hy:c.F x=some y)(hr:c.res y = .dat .bool true)(w:World)(args:Array Value)(ha:RL (M0 w) w (c.G7 x) args.toList)(hg:O1 (M0 w) w:=by exact fun g d h=>by cases h):
  Calls P c.f args w fun e w'=>e = .returned (.bool true)∧Below w.heap.size w w':=by
 refine (EP6 h hb hy w args ha hg).mono fun e w' ⟨v,ow',he,hbel,hv⟩=> ?_
 rw[hr] at hv;have:=AY8 hv;subst this;exact⟨he,hbel⟩
section
variable {ow:Nat→A1}{w:World}
end
end Go.Proofs.YthfjpkdadjemcaaGreat
