/- Two loads and two stores in a drawn region come in the order of the text. No program in sight. -/
import Derived.Orders
import Derived.WalkKit
set_option linter.unusedSimpArgs false
set_option linter.unusedVariables false
namespace Go.Proofs.YthfjpkdadjemcaaGreat
open Go
open _root_.Array renaming replicate → FZ9
open Go.Sem renaming run_bind → Fa0
open _root_.Bool renaming and_eq_true → Fa1
open _root_.Nat renaming eq_of_beq_eq_true → Fa2
def Fix {α:Type}(P:Program)(m:Sem α):Prop:=∀w v w₁,m.run P w = .ok v w₁→w₁=w∧∀w₂,m.run P w₂ = .ok v w₂
def Still {α:Type}(P:Program)(m:Sem α):Prop:=∀w v w₁,m.run P w = .ok v w₁→w₁=w
section
variable {P:Program}{α β:Type}
theorem Fix.pure (v:α):Fix P (pure v:Sem α):=by intro w u w₁ h;simp only[Sem.run_pure] at h ⊢;cases h;exact⟨rfl,fun _=>rfl⟩
theorem Fix.bind' {m:Sem α}{f:α→Sem β}(hm:Fix P m)(hf:∀x w,m.run P w = .ok x w→Fix P (f x)):Fix P (m >>= f):=by
 intro w v w₁ h;rw[Fa0] at h;cases hr:m.run P w with
 |ok x w'=>
  rw[hr] at h;obtain⟨rfl,h2⟩:=hm _ _ _ hr;obtain⟨rfl,h4⟩:=hf x _ hr _ _ _ h;exact⟨rfl,fun w₂=>by rw[Fa0,h2 w₂];exact h4 w₂⟩
 |halt x w'=>rw [hr] at h;cases h
theorem Fix.bind {m:Sem α}{f:α→Sem β}(hm:Fix P m)(hf:∀x,Fix P (f x)):Fix P (m >>= f):=hm.bind' fun x _ _=>hf x
theorem Fix.CM1 {m:Sem α}{f:α→Sem β}(hf:∀x w v w₁,(f x).run P w≠ .ok v w₁):Fix P (m >>= f):=by
 intro w v w₁ h;rw[Fa0] at h;cases hr:m.run P w with
 |ok x w'=>rw [hr] at h;exact absurd h (hf x _ _ _)
 |halt x w'=>rw [hr] at h;cases h
theorem Fix.stuck (s:String):Fix P (stuck s:Sem α):=by intro w v w₁ h;cases h
theorem Fix.unsupported (s:Unsupported):Fix P (unsupported s:Sem α):=by intro w v w₁ h;cases h
theorem Fix.program:Fix P program:=by intro w v w₁ h;cases h;exact⟨rfl,fun _=>rfl⟩
theorem Fix.underlying (t:TypeId):Fix P (underlying t):=by
 unfold Go.underlying;refine .bind .program fun x=> ?_
 split
 ·exact .pure _
 ·exact .stuck _
theorem Fix.sureAddr (v:Value):Fix P (Instr.sureAddr v):=by
 unfold Instr.sureAddr;split
 ·exact .pure _
 ·exact .stuck _
theorem Fix.asIntOf (v:Value):Fix P (asIntOf v):=by
 unfold Go.asIntOf;split
 ·exact .pure _
 ·exact .unsupported _
 ·exact .stuck _
theorem Fix.typeInfo (t:TypeId):Fix P (typeInfo t):=by
 unfold Go.typeInfo;refine .bind .program fun x=> ?_
 split
 ·exact .pure _
 ·exact .stuck _
theorem Fix.sizeOf (t:TypeId):Fix P (sizeOf t):=by unfold Go.sizeOf;exact .bind (.typeInfo t) fun x=>.pure _
theorem Fix.boundsPanic (k:IntKind)(x y:Int)(c:BoundsCode):Fix P (boundsPanic k x y c:Sem α):=by
 unfold Go.boundsPanic;have hn:∀x y b c,Fix P (runtimePanic (.bounds x y b c):Sem α):=fun x y b c w v w₁ h=>by unfold runtimePanic at h;cases h
 simp only[];split
 ·exact .CM1 fun b w v w₁ h=>by unfold runtimePanic at h;cases h
 ·exact .CM1 fun b w v w₁ h=>by unfold runtimePanic at h;cases h
theorem Fix.indexAt (t:TypeId)(x i:Value):Fix P (Instr.indexAt t x i):=by
 unfold Instr.indexAt;simp only[]
 repeat' (first | exact Fix.pure _ | exact Fix.stuck _ | exact Fix.unsupported _ | exact Fix.boundsPanic _ _ _ _ | exact Fix.underlying _ | exact Fix.sizeOf _ | exact Fix.sureAddr _ | exact Fix.asIntOf _ | split | refine Fix.bind ?_ fun _=> ?_)
def BU3 (P:Program)(s:TypeId)(i:Nat):Bool:=match P.underlying s with
 |some (.struct fs)=>match fs[i]? with
  |some f=>match P.info? f.type with
   |some y=> !Nat.beq y.size 0
   |none=>true
  |none=>true
 |_=>true
theorem Fix.fieldAt {s:TypeId}{i:Nat}(h:BU3 P s i=true)(x:Value):Fix P (Instr.fieldAt s x i):=by
 unfold Instr.fieldAt;unfold BU3 at h;refine .bind' (.underlying s) fun d w hd=> ?_
 have hd:P.underlying s=some d:=by
  unfold Go.underlying at hd;change (match P.underlying s with | some d=>(Pure.pure d:Sem TypeDesc) | none=>Go.stuck "no such type").run P w = .ok d w at hd
  cases hu:P.underlying s with
  |none=>rw [hu] at hd;cases hd
  |some d'=>rw [hu] at hd;cases hd;rfl
 rw[hd] at h;split
 ·rename_i fs
  simp only[] at h ⊢;split
  ·rename_i f hf
   rw[hf] at h;dsimp only at h;refine .bind (.sureAddr _) fun a=>.bind ?_ fun _=>.pure _
   unfold fieldPlace;refine .bind' (.sizeOf _) fun n w hn=> ?_
   have hn:n≠0:=by
    unfold Go.sizeOf at hn;rw[Fa0] at hn;cases hq:(Go.typeInfo f.type).run P w with
    |halt x w'=>rw [hq] at hn;cases hn
    |ok y w'=>
     rw[hq] at hn;cases hn;unfold Go.typeInfo at hq;change (match P.info? f.type with | some i=>(Pure.pure i:Sem TypeInfo) | none=>Go.stuck "no such type").run P w = .ok y w at hq
     cases hu:P.info? f.type with
     |none=>rw [hu] at hq;cases hq
     |some y=>
      rw[hu] at hq h;cases hq;intro e;dsimp only at h;rw[e] at h;cases h
   rw[if_neg hn];exact .pure _
  ·exact .stuck _
 ·exact .stuck _
def BC8 (P:Program)(o:Oper):Prop:=∀ρ w n w₁,(execOp ρ o).run P w = .ok n w₁→∃v,n = .value v∧w₁=w∧∀w₂,(execOp ρ o).run P w₂ = .ok (.value v) w₂
def CM2 (P:Program)(o:Oper):Prop:=∀ρ w n w₁,(execOp ρ o).run P w = .ok n w₁→∃v,n = .value v∧w₁=w
theorem BC8.of {o:Oper}{m:(Operand→Value)→Sem Value}(h:∀ρ,execOp ρ o=(do pure (.value (← m ρ))))(hm:∀ρ,Fix P (m ρ)):BC8 P o:=by
 intro ρ w n w₁ hr;rw[h,Fa0] at hr;cases hx:(m ρ).run P w with
 |ok x w'=>
  rw[hx] at hr;obtain⟨rfl,h2⟩:=hm ρ _ _ _ hx;cases hr;exact⟨x,rfl,rfl,fun w₂=>by rw[h,Fa0,h2 w₂];rfl⟩
 |halt x w'=>rw [hx] at hr;cases hr
def Af3 (P:Program)(o:Oper):Bool:=match o.op with
 | .move _=>true
 | .assign _=>true
 | .indexAddr _ _ _=>true
 | .fieldAddr s _ i=>BU3 P s i
 |_=>false
theorem BC9 {o:Oper}(h:Af3 P o=true):BC8 P o:=by
 unfold Af3 at h;split at h
 ·rename_i x he
  intro ρ w n w₁ hr;unfold execOp at hr ⊢;rw[he] at hr ⊢;cases hr;exact⟨_,rfl,rfl,fun _=>rfl⟩
 ·rename_i x he
  intro ρ w n w₁ hr;unfold execOp at hr ⊢;rw[he] at hr ⊢;cases hr;exact⟨_,rfl,rfl,fun _=>rfl⟩
 ·rename_i t x i he
  exact .of (m:=fun ρ=>Instr.indexAt t (ρ x) (ρ i)) (fun ρ=>by unfold execOp;rw[he]) fun ρ=>.indexAt t _ _
 ·rename_i s x i he
  exact .of (m:=fun ρ=>Instr.fieldAt s (ρ x) i) (fun ρ=>by unfold execOp;rw[he]) fun ρ=>.fieldAt h _
 ·cases h
theorem Still.of {m:Sem α}(h:Fix P m):Still P m:=fun w v w₁ hr=>(h w v w₁ hr).1
theorem Still.bind {m:Sem α}{f:α→Sem β}(hm:Still P m)(hf:∀x,Still P (f x)):Still P (m >>= f):=by
 intro w v w₁ h;rw[Fa0] at h;cases hr:m.run P w with
 |ok x w'=>
  rw[hr] at h;have:=hm _ _ _ hr;subst this;exact hf x _ _ _ h
 |halt x w'=>rw [hr] at h;cases h
theorem Still.load (a:Addr):Still P (load a):=by
 intro w v w₁ h;unfold Go.load at h;simp only[Sem.run] at h;split at h
 ·cases h;rfl
 ·split at h
  ·cases h;rfl
  ·cases h
theorem Still.loadCellsFrom (a:Addr):∀(n i:Nat) (acc:Array Value),Still P (loadCellsFrom a i n acc)
 |0,i,acc=>.of (.pure _)
 |n+1,i,acc=>by unfold Go.loadCellsFrom;exact .bind (.load _) fun v=>Still.loadCellsFrom a n _ _
theorem Fix.isAgg (t:TypeId):Fix P (isAgg t):=by
 unfold Go.isAgg
 repeat' (first | exact Fix.pure _ | exact Fix.stuck _ | exact Fix.unsupported _ | exact Fix.boundsPanic _ _ _ _ | exact Fix.underlying _ | exact Fix.sizeOf _ | exact Fix.sureAddr _ | exact Fix.asIntOf _ | split | refine Fix.bind ?_ fun _=> ?_)
theorem Still.loadAt (t:TypeId)(v:Value):Still P (Instr.loadAt t v):=by
 unfold Instr.loadAt loadVar loadCells;refine .bind (.of (.sureAddr _)) fun a=>.bind (.of (.isAgg _)) fun b=> ?_
 split
 ·exact .bind (.of (.sizeOf _)) fun n=>.bind (Still.loadCellsFrom _ _ _ _) fun _=>.of (.pure _)
 ·exact .load _
def BD0 (o:Oper):Bool:=match o.op with
 | .load _ _=>true
 |_=>false
theorem CM3 {o:Oper}(h:BD0 o=true):CM2 P o:=by
 unfold BD0 at h;split at h
 ·rename_i t x he
  intro ρ w n w₁ hr;unfold execOp at hr;rw[he] at hr;simp only[Fa0] at hr;cases hx:(Instr.loadAt t (ρ x)).run P w with
  |ok v w'=>
   rw[hx] at hr;have:=Still.loadAt t (ρ x) _ _ _ hx;subst this;cases hr;exact⟨v,rfl,rfl⟩
  |halt x w'=>rw [hx] at hr;cases hr
 ·cases h
def BD1 (o:Oper):Bool:=match o.op with
 | .store _ _ _=>o.dst.isNone
 |_=>false
theorem CM4 {o:Oper}(h:BD1 o=true):o.dst=none∧∀ρ w n w₁,(execOp ρ o).run P w = .ok n w₁→n = .skip:=by
 unfold BD1 at h;split at h
 ·rename_i t x y he
  refine⟨by simpa using h,fun ρ w n w₁ hr=> ?_⟩
  unfold execOp at hr;rw[he] at hr;simp only[Fa0] at hr;cases hx:(Instr.storeAt t (ρ x) (ρ y)).run P w with
  |ok v w'=>rw [hx] at hr;cases hr;rfl
  |halt x w'=>rw [hx] at hr;cases hr
 ·cases h
end
section
variable {P:Program}{ops:Array Oper}{K:Act→World→Prop}{Q Q':Exit→Act→World→Prop}{a:Act}{w:World}
theorem BD2 {o:Oper}(hf:BC8 P o)(hp:∀c a w,¬Q (.panic c) a w)(ho:¬LetsOut Q)(h:o.wp P a w K Q∨(o.asks P a w∧LetsOut Q)):
  ∃v,(∀w₂,(execOp a.eval o).run P w₂ = .ok (.value v) w₂)∧K (a.put o.dst v) w:=by
 rcases h with h |⟨_,h⟩
 ·unfold Oper.wp at h
  cases hr:(execOp a.eval o).run P w with
  |ok n w₁=>
   obtain⟨v,rfl,rfl,h2⟩:=hf _ _ _ _ hr;rw[hr] at h;exact⟨v,h2,h⟩
  |halt x w'=>rw [hr] at h;cases x <;> first | exact absurd h (hp _ _ _) | exact h.elim
 ·exact absurd h ho
theorem CM5 {o:Oper}(hf:CM2 P o)(hp:∀c a w,¬Q (.panic c) a w)(ho:¬LetsOut Q)(h:o.wp P a w K Q∨(o.asks P a w∧LetsOut Q)):
  ∃v,(execOp a.eval o).run P w = .ok (.value v) w∧K (a.put o.dst v) w:=by
 rcases h with h |⟨_,h⟩
 ·unfold Oper.wp at h
  cases hr:(execOp a.eval o).run P w with
  |ok n w₁=>
   obtain⟨v,rfl,rfl⟩:=hf _ _ _ _ hr;rw[hr] at h;exact⟨v,rfl,h⟩
  |halt x w'=>rw [hr] at h;cases x <;> first | exact absurd h (hp _ _ _) | exact h.elim
 ·exact absurd h ho
theorem EZ5 {o:Oper}(hs:BD1 o=true)(hp:∀c a w,¬Q (.panic c) a w)(ho:¬LetsOut Q)(h:o.wp P a w K Q∨(o.asks P a w∧LetsOut Q)):
  ∃w₁,(execOp a.eval o).run P w = .ok .skip w₁∧K a w₁:=by
 obtain⟨hd,hf⟩:=CM4 (P:=P) hs;rcases h with h |⟨_,h⟩
 ·unfold Oper.wp at h
  cases hr:(execOp a.eval o).run P w with
  |ok n w₁=>
   have:=hf _ _ _ _ hr;subst this;rw[hr,Oper.upon_skip,hd] at h;exact⟨w₁,rfl,h⟩
  |halt x w'=>rw [hr] at h;cases x <;> first | exact absurd h (hp _ _ _) | exact h.elim
 ·exact absurd h ho
theorem AB3 {i:Nat}{o:Oper}(ho:ops[i]? = some o)(hg:o.guard=none):wpOp P ops Q i K a w=(o.wp P a w K Q∨(o.asks P a w∧LetsOut Q)):=by unfold wpOp;simp[ho,Region.wanted,hg]
theorem Aq1 {i:Nat}{o:Oper}{v:Value}{w₁:World}(ho:ops[i]? = some o)(hg:o.guard=none)(hr:(execOp a.eval o).run P w = .ok (.value v) w₁)(hk:K (a.put o.dst v) w₁):wpOp P ops Q i K a w:=by
 rw[AB3 ho hg]
 left
 unfold Oper.wp;rw[hr];exact hk
theorem EZ6 {i:Nat}{o:Oper}{w₁:World}(ho:ops[i]? = some o)(hg:o.guard=none)(hd:o.dst=none)(hr:(execOp a.eval o).run P w = .ok .skip w₁)(hk:K a w₁):wpOp P ops Q i K a w:=by
 rw[AB3 ho hg]
 left
 unfold Oper.wp;rw[hr,Oper.upon_skip,hd];exact hk
def pick (ops:Array Oper)(l:List Nat):Array Oper:=(l.filterMap fun i=>ops[i]?).toArray
theorem BU4:∀(l:List Nat) (k:Nat) (A:Array Oper) (a:Act) (w:World),A.toList.drop k=l.filterMap (fun i=>ops[i]?)→(∀i∈l,∃o,ops[i]? = some o∧o.guard=none)→
  wpOps P A Q (List.range' k l.length) a w→wpOps P ops Q l a w
 | [],k,A,a,w,_,_,h=>h
 |i::l,k,A,a,w,hd,hall,h=>by
  obtain⟨o,ho,hg⟩:=hall i (by simp)
  have hf:(i::l).filterMap (fun i=>ops[i]?)=o::l.filterMap (fun i=>ops[i]?):=by simp[ho]
  rw[hf] at hd;have hk:A[k]? = some o:=by
   have:=congrArg (fun x:List Oper=>x[0]?) hd
   simpa using this
  have hr:A.toList.drop (k+1)=l.filterMap (fun i=>ops[i]?):=by
   have:=congrArg (fun x:List Oper=>x.drop 1) hd
   simpa using this
  rw[List.length_cons,List.range'_succ,wpOps_cons,AB3 hk hg] at h;rw[wpOps_cons,AB3 ho hg];exact h.imp (Oper.wp_mono fun a w h=>BU4 l (k+1) A a w hr (fun j hj=>hall j (by simp[hj])) h) id
def K3:List Nat→Array Bool→Array Bool
 | [],L=>L
 |i::l,L=>K3 l (L.setIfInBounds i true)
def Af4 (P:Program)(ops:Array Oper):List Nat→Array Bool→Bool
 | [],_=>true
 |i::l,L=>(match ops[i]? with | some o=>o.guard.isNone&&Af3 P o | none=>false)&&Region.free .any ops L i&&(Region.ready .any ops L).contains i&&Af4 P ops l (L.setIfInBounds i true)
theorem CM6 (hs:Region.noSelect ops=true)(hq:∀c a w,¬Q (.panic c) a w)(hp:∀c a w,¬Q' (.panic c) a w)(ho:¬LetsOut Q')(fuel:Nat)(rest:List Nat):
  ∀(l:List Nat) (L:Array Bool) (a:Act) (w:World),Af4 P ops l L=true→wpOps P ops Q' (l++rest) a w→(∀a',wpOps P ops Q' rest a' w→wpAny P .any ops Q fuel (K3 l L) a' w)→wpAny P .any ops Q (fuel+l.length) L a w
 | [],L,a,w,_,h,hk=>hk a h
 |i::l,L,a,w,hb,h,hk=>by
  simp only[Af4,Fa1] at hb;obtain⟨⟨⟨h1,h2⟩,h3⟩,h4⟩:=hb;split at h1
  ·rename_i o hoi
   rw[Fa1] at h1;have hg:o.guard=none:=by simpa using h1.1
   rw[List.cons_append,wpOps_cons,AB3 hoi hg] at h;obtain⟨v,hv,h⟩:=BD2 (BC9 h1.2) hp ho h;refine wpAny_take hoi hs h2 h3 (fun c a w h=>absurd h (hq _ _ _)) (.inl ⟨by simp[Region.wanted,hg],hv⟩) ?_
   exact CM6 hs hq hp ho fuel rest l _ _ _ h4 h hk
  ·cases h1
def Aq2 (ops:Array Oper):List Nat→Array Bool→Bool
 | [],L=>(Region.ready .any ops L).isEmpty
 |i::l,L=>(match Region.ready .any ops L with | [j]=>Nat.beq i j | _=>false)&&Aq2 ops l (L.setIfInBounds i true)
theorem CM7:∀(l:List Nat) (L:Array Bool) (a:Act) (w:World),Aq2 ops l L=true→wpOps P ops Q l a w→wpAny P .any ops Q l.length L a w
 | [],L,a,w,hb,h=>by
  have hr:Region.ready .any ops L=[]:=by simpa[Aq2] using hb
  exact⟨hr,h⟩
 |i::l,L,a,w,hb,h=>by
  simp only[Aq2,Fa1] at hb;obtain⟨h1,h2⟩:=hb;split at h1
  ·rename_i j hj
   have:=Fa2 h1;subst this;refine wpAny_all hj (by simp) fun k hk=> ?_
   have:k=i:=by simpa using hk
   subst this;rw[wpOps_cons] at h;exact wpOp_mono (fun a w=>CM7 l _ a w h2) h
  ·cases h1
def pre:List Nat:=[0,1,2,3,4,5,6,7,8,10,11,12,13,14,16,17]
def CM8 (P:Program)(ops:Array Oper):Bool:=match ops[9]?,ops[15]?,ops[18]?,ops[19]?,ops[20]?,ops[21]? with
 |some a,some b,some c,some d,some e,some f=>a.guard.isNone&&b.guard.isNone&&c.guard.isNone&&d.guard.isNone&&e.guard.isNone&&f.guard.isNone&&
  BD0 a&&BD0 b&&Af3 P c&&BD1 d&&Af3 P e&&Af3 P f&&Oper.apart ops e a&&Oper.apart ops e b&&Oper.apart ops e c&&Oper.apart ops e d&&Oper.apart ops f a&&Oper.apart ops f b&&Oper.apart ops f c&&Oper.apart ops f d&&Oper.apart ops a b
 |_,_,_,_,_,_=>false
def Af5 (ops:Array Oper)(l:List Nat)(L:Array Bool):Bool:=decide (Region.ready .any ops L=l)
def BD3 (P:Program)(ops:Array Oper):Bool:=
 Nat.beq ops.size 24&&Region.noSelect ops&&CM8 P ops&&Af4 P ops pre (FZ9 24 false)&&Af4 P ops [20,21] (K3 pre (FZ9 24 false))&&
 Af5 ops [9,15] (K3 [20,21] (K3 pre (FZ9 24 false)))&&Af5 ops [15] (K3 [9] (K3 [20,21] (K3 pre (FZ9 24 false))))&&Af5 ops [9] (K3 [15] (K3 [20,21] (K3 pre (FZ9 24 false))))&&
 Af5 ops [18] (K3 [9,15] (K3 [20,21] (K3 pre (FZ9 24 false))))&&Af5 ops [19] (K3 [9,15,18] (K3 [20,21] (K3 pre (FZ9 24 false))))&&
 Aq2 ops [22,23] (K3 [9,15,18,19] (K3 [20,21] (K3 pre (FZ9 24 false))))
theorem EZ7 (hb:BD3 P ops=true)(hp:∀c a w,¬Q (.panic c) a w)(ho:¬LetsOut Q)(h:wpOps P ops (Exit.then (wpOps P ops Q [20,21,22,23]) Q) (pre++[9,15,18,19]) a w):
  wpAny P .any ops Q ops.size (FZ9 ops.size false) a w:=by
 unfold BD3 Af5 at hb;simp only[Fa1,decide_eq_true_eq] at hb;obtain⟨⟨⟨⟨⟨⟨⟨⟨⟨⟨b0,b1⟩,b2⟩,b3⟩,b4⟩,b5⟩,b6⟩,b7⟩,b8⟩,b9⟩,b10⟩:=hb;have hp':∀c a w,¬Exit.then (wpOps P ops Q [20,21,22,23]) Q (.panic c) a w:=hp;have ho':¬LetsOut (Exit.then (wpOps P ops Q [20,21,22,23]) Q):=ho;rw[Fa2 b0];refine CM6 (fuel:=8) b1 hp hp' ho' _ pre _ _ _ b3 h fun a1 h=> ?_
 generalize K3 pre (FZ9 24 false)=L1 at*;clear b3;unfold CM8 at b2;split at b2
 case h_2=>cases b2
 rename_i o9 o15 o18 o19 o20 o21 e9 e15 e18 e19 e20 e21;simp only[Fa1,Option.isNone_iff_eq_none] at b2;obtain⟨⟨⟨⟨⟨⟨⟨⟨⟨⟨⟨⟨⟨⟨⟨⟨⟨⟨⟨⟨g9,g15⟩,g18⟩,g19⟩,g20⟩,g21⟩,k9⟩,k15⟩,k18⟩,k19⟩,k20⟩,k21⟩,p1⟩,p2⟩,p3⟩,p4⟩,q1⟩,q2⟩,q3⟩,q4⟩,r1⟩:=b2;have hd19:=(CM4 (P:=P) k19).1;rw[wpOps_cons,AB3 e9 g9] at h;obtain⟨u9,t9,h⟩:=CM5 (CM3 k9) hp' ho' h;rw[wpOps_cons,AB3 e15 g15] at h
 obtain⟨u15,t15,h⟩:=CM5 (CM3 k15) hp' ho' h;rw[wpOps_cons,AB3 e18 g18] at h;obtain⟨u18,t18,h⟩:=BD2 (BC9 k18) hp' ho' h;rw[wpOps_cons,AB3 e19 g19] at h;obtain⟨w₁,t19,h⟩:=EZ5 k19 hp' ho' h
 replace h:wpOps P ops Q [20,21,22,23] _ w₁:=h
 rw[wpOps_cons,AB3 e20 g20] at h;obtain⟨u20,t20,h⟩:=BD2 (BC9 k20) hp ho h;rw[wpOps_cons,AB3 e21 g21] at h;obtain⟨u21,t21,h⟩:=BD2 (BC9 k21) hp ho h;have ns:∀{j:Nat} {o:Oper},ops[j]? = some o→∀cs b,o.op≠ .select cs b:=fun h cs b=>Region.noSelect_spec b1 _ _ cs b h
 obtain⟨p1a,p1b,p1c⟩:=Oper.apart_spec p1;obtain⟨p2a,p2b,p2c⟩:=Oper.apart_spec p2;obtain⟨p3a,p3b,p3c⟩:=Oper.apart_spec p3;obtain⟨p4a,_,_⟩:=Oper.apart_spec p4;obtain⟨q1a,q1b,q1c⟩:=Oper.apart_spec q1;obtain⟨q2a,q2b,q2c⟩:=Oper.apart_spec q2;obtain⟨q3a,q3b,q3c⟩:=Oper.apart_spec q3;obtain⟨q4a,_,_⟩:=Oper.apart_spec q4;obtain⟨r1a,r1b,r1c⟩:=Oper.apart_spec r1;rw[execOp_put o20 (ns e20) _ _ _ p3c,execOp_put o20 (ns e20) _ _ _ p2c,execOp_put o20 (ns e20) _ _ _ p1c] at t20
 have m9:∀(b:Act),((b.put o20.dst u20).put o21.dst u21).put o9.dst u9=((b.put o9.dst u9).put o20.dst u20).put o21.dst u21:=fun b=>by rw[Act.put_comm _ u21 u9 q1b,Act.put_comm _ u20 u9 p1b]
 have m15:∀(b:Act),((b.put o20.dst u20).put o21.dst u21).put o15.dst u15=((b.put o15.dst u15).put o20.dst u20).put o21.dst u21:=fun b=>by rw[Act.put_comm _ u21 u15 q2b,Act.put_comm _ u20 u15 p2b]
 have m18:∀(b:Act),((b.put o20.dst u20).put o21.dst u21).put o18.dst u18=((b.put o18.dst u18).put o20.dst u20).put o21.dst u21:=fun b=>by rw[Act.put_comm _ u21 u18 q3b,Act.put_comm _ u20 u18 p3b]
 rw[← Act.put_comm _ u20 u18 p3b,← Act.put_comm _ u20 u15 p2b,← Act.put_comm _ u20 u9 p1b,execOp_put o21 (ns e21) _ _ _ q3c,execOp_put o21 (ns e21) _ _ _ q2c,execOp_put o21 (ns e21) _ _ _ q1c] at t21;simp only[Af4,Fa1] at b4;obtain⟨⟨⟨_,f20⟩,r20⟩,⟨⟨_,f21⟩,r21⟩,_⟩:=b4;refine wpAny_take e20 b1 f20 r20 (fun c a w h=>absurd h (hp _ _ _)) (.inl ⟨by simp[Region.wanted,g20],t20⟩) ?_
 refine wpAny_take e21 b1 f21 r21 (fun c a w h=>absurd h (hp _ _ _)) (.inl ⟨by simp[Region.wanted,g21],t21⟩) ?_
 change wpAny P .any ops Q 6 (K3 [20,21] L1) _ w;generalize K3 [20,21] L1=L2 at*;have fin:wpAny P .any ops Q 4 (K3 [9,15] L2) ((((a1.put o20.dst u20).put o21.dst u21).put o9.dst u9).put o15.dst u15) w:=by
  rw[m9,m15];refine wpAny_all b8 (by simp) fun k hk=> ?_
  have:k=18:=by simpa using hk
  subst this;refine Aq1 e18 g18 (by rw[execOp_put o18 (ns e18) _ _ _ q3a,execOp_put o18 (ns e18) _ _ _ p3a];exact t18 w) ?_
  rw[m18];refine wpAny_all b9 (by simp) fun k hk=> ?_
  have:k=19:=by simpa using hk
  subst this;refine EZ6 e19 g19 hd19 (by rw[execOp_put o19 (ns e19) _ _ _ q4a,execOp_put o19 (ns e19) _ _ _ p4a];exact t19) ?_
  exact CM7 [22,23] _ _ _ b10 h
 refine wpAny_all b5 (by simp) fun k hk=> ?_
 have hk:k=9∨k=15:=by simpa using hk
 rcases hk with rfl | rfl
 ·refine Aq1 e9 g9 (by rw[execOp_put o9 (ns e9) _ _ _ q1a,execOp_put o9 (ns e9) _ _ _ p1a];exact t9) ?_
  refine wpAny_all b6 (by simp) fun k hk=> ?_
  have:k=15:=by simpa using hk
  subst this;refine Aq1 e15 g15 (by rw[m9,execOp_put o15 (ns e15) _ _ _ q2a,execOp_put o15 (ns e15) _ _ _ p2a];exact t15) ?_
  exact fin
 ·refine Aq1 e15 g15 (by rw[execOp_put o15 (ns e15) _ _ _ q2a,execOp_put o15 (ns e15) _ _ _ p2a,← execOp_put o15 (ns e15) _ _ u9 r1a];exact t15) ?_
  refine wpAny_all b7 (by simp) fun k hk=> ?_
  have:k=9:=by simpa using hk
  subst this;refine Aq1 e9 g9 (by rw[m15,execOp_put o9 (ns e9) _ _ _ q1a,execOp_put o9 (ns e9) _ _ _ p1a,execOp_put o9 (ns e9) _ _ _ r1c];exact t9) ?_
  rw[← Act.put_comm _ u9 u15 r1b];have:(L2.setIfInBounds 15 true).setIfInBounds 9 true=K3 [9,15] L2:=Array.setIfInBounds_comm _ _ (by decide)
  change wpAny P .any ops Q 4 ((L2.setIfInBounds 15 true).setIfInBounds 9 true) _ w;rw[this];exact fin
end
end Go.Proofs.YthfjpkdadjemcaaGreat
