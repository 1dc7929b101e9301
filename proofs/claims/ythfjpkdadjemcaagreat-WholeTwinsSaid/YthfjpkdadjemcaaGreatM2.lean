/- Each operation does what the reading says: lengths, literals, parts of slices. No program in sight. -/
import Derived.Test.YthfjpkdadjemcaaGreatM1
import Derived.Great.BuildSlice
import Derived.Laws.BytesArg
import Derived.Laws.IdiomStrings
import Derived.Laws.AppendOwn
set_option linter.unusedSimpArgs false
set_option linter.unusedVariables false
namespace Go.Proofs.YthfjpkdadjemcaaGreat
open _root_.List renaming getElem?_eq_getElem → Ej7, getElem?_eq_some_iff → Ej8, getElem?_map → Ek3, getElem?_cons_zero → Ek7, mem_cons → Ek9, getElem?_take → El0, mem_of_getElem? → El1, length_append → El4, getElem?_drop → El5, getElem?_of_mem → El6, size_toArray → El7, append_assoc → Em0, mem_cons_of_mem → Em1, mem_append → Em5, take_append_of_le_length → Em6, take_take → Em8, length_drop → En0, length_nil → En1, append_nil → En2, mem_map → En3, ext_getElem? → En6, length_take → En7, foldl_cons → En8, drop_append_of_le_length → Eo1, map_cons → Eo2, getElem?_append_left → Eo4, mem_toArray → Eo7, length_cons → Eo9, nil_append → Ep0, take_of_length_le → Ep1, drop_eq_nil_of_le → Ep2, drop_take → Ep6, take_left → Ep7, getElem?_zipIdx → Eq0, mem_of_mem_take → Eq1, getElem?_append → Eq2, length_pos_iff → Eq5
open _root_.Nat renaming eq_of_beq_eq_true → Ej9, le_of_ble_eq_true → Ek2, mul_le_mul_right → El2, zero_add → El3, min_eq_left → El9, le_refl → Em2, add_mul → Em3, beq_refl → En5, add_zero → Eo8, add_assoc → Eq4, add_sub_cancel' → Eq8, beq → Eq9, mul_one → Er1
open _root_.Bool renaming and_eq_true → Ek0, false_eq_true → El8, or_eq_false_iff → Eo0, and_eq_true_iff → Eq3, or_eq_true_iff → Eq6, not_eq_true' → Er0
open Go.Result renaming andThen_ok → Ek1
open Go.Sem renaming run_bind → Ek4, run_pure → Ek8
open _root_.Option renaming map_eq_some_iff → Ek5, map_some → Ek6, bind_some → Em9, isSome_none → En4, map_none → En9
open _root_.Array renaming length_toList → Em4, size_append → Em7, toList_setIfInBounds → Eo3, toList_map → Eo6, range → Ep3, getElem?_toList → Ep4, getElem?_append → Ep5, getElem?_modify → Ep8, toArray_toList → Ep9, toList_append → Eq7, mem_append → Er2, ext' → Er3
open _root_.Classical renaming byContradiction → Eo5
section
variable {ρ:Type}{P:Program}{Γ:Cx}{id:Nat}{rd:Nat→Option (List EV)}{g:Option Bool}{A:Operand→EV}{o:Oper}{q:EV→Option (List EV)→List Wr→List Nat→Option ρ}{r:ρ}
theorem At2 {t:Nat}(hΓ:E3 P Γ)(h:AP8 Γ t=true):∃e,P.underlying t=some (.slice e):=by
 unfold AP8 at h;split at h
 ·rename_i d hd
  split at h
  ·rename_i e s b hw
   have hh:=(hΓ.td t d hd).how;simp only[hw] at hh;exact⟨e,hh.2.1⟩
  ·cases h
 ·cases h
theorem AZ2 {t:Nat}(hΓ:E3 P Γ)(h:R9 (Γ.td t) .str=true):P.underlying t=some .string:=by
 obtain⟨d,hd,hty⟩:=At1 h;have hOK:=hΓ.td t d hd;have hh:=hOK.how;have hag:=(hOK.agg _ hty).2;cases hw:d.how with
 |scalar=>simp only[hw] at hh;obtain⟨_,u,hu,_,_,_,h6,_⟩:=hh;rw[hu,h6 hty]
 |struct fs=>rw [hw] at hag;simp[Ty.isAgg] at hag
 |array n e s=>rw [hw] at hag;simp[Ty.isAgg] at hag
 |slice e s b=>simp only[hw] at hh;exact absurd hty hh.2.2.2.2.2
theorem Ah3 {c:Call}{b:Builtin}{a:Act}{w:World}(ho:o.op = .call c)(hc:c.callee = .builtin b):
  (execOp a.eval o).run P w=(builtin b c.argTypes o.type (c.args.map fun | .const _=>true | _=>false) (c.args.map a.eval)).run P w:=by
 unfold execOp;rw[ho];simp only[resolve,hc,Ek4,Ek8,Ek1,invoke];rfl
theorem Ah4 {c:Call}{e:EV}(h:c.args.toList.map A=[e]):∃x,c.args=#[x]∧A x=e:=by
 obtain⟨args⟩:∃l,c.args=l:=⟨_,rfl⟩;cases hl:c.args.toList with
 |nil=>rw [hl] at h;simp at h
 |cons x r=>
  rw[hl] at h;simp only[Eo2,List.cons.injEq,List.map_eq_nil_iff] at h;obtain⟨h1,rfl⟩:=h;exact⟨x,by rw[← Ep9 (xs:=c.args),hl],h1⟩
theorem AK5 {c:Call}{ow:Nat→A1}{bx:Bx}{w:World}{ev:Operand→Value}(ho:o.op = .call c)(h:F5 ow bx w A ev o.op):∀x∈c.operands,A0 ow bx w (A x) (ev x):=by rw[ho] at h;exact I1 h (by intros;simp)
theorem CR2 {c:Call}(hΓ:E3 P Γ)(ho:o.op = .call c)(hc:c.callee = .builtin .len)(h:opE Γ id rd g A (.call c) q=some r):Sound P id rd g A o q r:=by
 have run:∀{a:Act} {w:World} {x:Operand} {T:TypeId},c.args=#[x]→c.argTypes[0]? = some T→(execOp a.eval o).run P w=((Builtin.len_ c.argTypes o.type #[a.eval x]).run P w).andThen fun u w=>.ok (.value u) w:=by intro a w x T hx hT;rw[Ah3 ho hc];simp[builtin,hx]
 have arg:∀{ow bx w} {ev:Operand→Value} {x:Operand},c.args=#[x]→F5 ow bx w A ev o.op→A0 ow bx w (A x) (ev x):=by intro ow bx w ev x hx hA;exact AK5 ho hA x (by simp[Call.operands,hx])
 simp only[opE,hc] at h;split at h
 ·rename_i T hT
  split at h
  ·rename_i s he
   obtain⟨x,hx,hax⟩:=Ah4 he;split at h
   ·rename_i hst
    refine C5 h fun _ B ow bx nb bg w a hi hA hb=> ?_
    have hp:=arg hx hA;rw[hax] at hp;obtain⟨h1,h2⟩:=AE9 hp;refine⟨goInt s.size,?_,AY9 h2⟩;rw[run hx hT,h1];simp[Builtin.len_,hT,underlying,AZ2 hΓ hst]
   ·cases h
  ·rename_i ty l he
   obtain⟨x,hx,hax⟩:=Ah4 he;split at h
   ·rename_i hst
    refine C5 h fun _ B ow bx nb bg w a hi hA hb=> ?_
    have hp:=arg hx hA;rw[hax] at hp;cases hp with
    |dat hp=>
     obtain⟨ad,cap,h1,h2,_⟩:=hp;simp only[List.cons.injEq,and_true] at h1;refine⟨goInt l.length,?_,AY9 h2.1⟩;obtain⟨e,hu⟩:=At2 hΓ hst;rw[run hx hT,h1];simp[Builtin.len_,hT,underlying,hu]
   ·cases h
  ·rename_i k ty l he
   obtain⟨x,hx,hax⟩:=Ah4 he;split at h
   ·rename_i hst
    refine C5 h fun _ B ow bx nb bg w a hi hA hb=> ?_
    have hp:=arg hx hA;rw[hax] at hp;cases hp with
    |own hp _ hh=>
     have key:∃ad cap,a.eval x = .slice ad l.length cap∧l.length≤9223372036854775807:=by
      cases hsf:soft k with
      |false=>
       obtain⟨ad,cap,h1,h2,_⟩:=hp hsf;simp only[List.cons.injEq,and_true] at h1;exact⟨ad,cap,h1,h2.1⟩
      |true=>
       rcases hh hsf with⟨_,h1,h2⟩|⟨blk,cap,_,h1,_,h2⟩
       ·exact⟨none,0,by rw[h1,h2],by omega⟩
       ·exact⟨_,cap,h1,h2⟩
     obtain⟨ad,cap,h1,h2⟩:=key;refine⟨goInt l.length,?_,AY9 h2⟩;obtain⟨e,hu⟩:=At2 hΓ hst;rw[run hx hT,h1];simp[Builtin.len_,hT,underlying,hu]
   ·cases h
  ·rename_i he
   obtain⟨x,hx,hax⟩:=Ah4 he;split at h
   ·rename_i hst
    refine C5 h fun _ B ow bx nb bg w a hi hA hb=> ?_
    have hp:=arg hx hA;rw[hax] at hp;obtain⟨e,hu⟩:=At2 hΓ hst;generalize hpe:a.eval x=u at hp;cases hp with
    |nil=>
     refine⟨goInt 0,?_,AY9 (n:=0) (by omega)⟩
     rw[run hx hT,hpe];simp[Builtin.len_,hT,underlying,hu]
   ·cases h
  ·rename_i es he
   obtain⟨x,hx,hax⟩:=Ah4 he;split at h
   ·rename_i hst
    refine C5 h fun _ B ow bx nb bg w a hi hA hb=> ?_
    have hp:=arg hx hA;rw[hax] at hp;obtain⟨e,hu⟩:=At2 hΓ hst;generalize hpe:a.eval x=u at hp;cases hp with
    |sl q0 q1 qs qb q2 q3=>
     refine⟨goInt es.length,?_,AY9 (by omega)⟩
     rw[run hx hT,hpe];simp[Builtin.len_,hT,underlying,hu]
   ·cases h
  ·cases h
 ·cases h
theorem CR3 {w:World}{ow:Nat→A1}{bx:Bx}{mx:Bool}{k:IntKind}:∀(es:List EV) (vs:List Value) (x m:Int),AE3 mx k x es=some m→fits k x=true→es.length=vs.length→
  (∀(i:Nat) e v,es[i]? = some e→vs[i]? = some v→A0 ow bx w e v)→
  (vs.foldlM (fun a b=>match mx with | true=>Builtin.max2 a b | false=>Builtin.min2 a b) (.int k x)).run P w = .ok (.int k m) w∧fits k m=true:=by
 intro es
 induction es with
 |nil=>
  intro vs x m h hf hl _;simp only[AE3] at h;cases h;cases vs with
  |nil=>exact ⟨rfl,hf⟩
  |cons v vs=>simp at hl
 |cons e es ih=>
  intro vs x m h hf hl hall;cases vs with
  |nil=>simp at hl
  |cons v vs=>
   cases e with
   |dat t y=>
    cases t with
    |int k'=>
     simp only[AE3] at h;split at h
     ·rename_i hk
      subst hk;have hv:=hall 0 _ _ rfl rfl;obtain⟨hv,hfy⟩:=P7 hv;subst hv;obtain⟨g1,g2⟩:=ih vs _ m h (by cases mx <;> simp only <;> split <;> assumption) (by simpa using hl) (fun i e v he hv=>hall (i+1) e v he hv)
      refine⟨?_,g2⟩;rw[List.foldlM_cons,Ek4];cases mx with
      |true=>
       simp only[Builtin.max2,Ek8,Ek1] at g1 ⊢;exact g1
      |false=>
       simp only[Builtin.min2,Ek8,Ek1] at g1 ⊢;exact g1
     ·cases h
    |_=>simp [AE3] at h
   |_=>simp [AE3] at h
theorem BY8 {c:Call}{mx:Bool}(ho:o.op = .call c)(hc:c.callee = .builtin (match mx with | true=>.max | false=>.min))(h:opE Γ id rd g A (.call c) q=some r):Sound P id rd g A o q r:=by
 have main:∀{k x r' m},c.args.toList.map A = .dat (.int k) x::r'→AE3 mx k x r'=some m→q (.dat (.int k) m) none [] []=some r→Sound P id rd g A o q r:=by
  intro k x r' m he hm h;refine C5 h fun _ B ow bx nb bg w a hi hA hb=> ?_
  have hall:=AK5 ho hA;cases hl:c.args.toList with
  |nil=>rw [hl] at he;simp at he
  |cons y ys=>
   rw[hl] at he;simp only[Eo2,List.cons.injEq] at he;obtain⟨he1,he2⟩:=he;have hmem:∀z∈y::ys,A0 ow bx w (A z) (a.eval z):=fun z hz=>hall z (by
    rw[← hl] at hz;simp only[Call.operands];exact Er2.2 (.inr (by simpa using hz)))
   have hy:=hmem y (by simp)
   rw[he1] at hy;obtain⟨hy1,hy2⟩:=P7 hy;obtain⟨g1,g2⟩:=CR3 (P:=P) (ow:=ow) (bx:=bx) (w:=w) r' (ys.map a.eval) x m hm hy2 (by rw[← he2];simp) (fun i e v hie hiv=>by rw[← he2] at hie;simp only[Ek3,Ek5] at hie hiv;obtain⟨z,hz,rfl⟩:=hie;obtain⟨z',hz',rfl⟩:=hiv;rw[hz] at hz';cases hz';exact hmem z (by simp[El1 hz]))
   refine⟨.int k m,?_,P8 g2⟩;rw[Ah3 ho hc];have hargs:(c.args.map a.eval).toList = .int k x::ys.map a.eval:=by simp[hl,hy1]
   cases mx with
   |true=>
    simp only at g1;simp only[builtin,Builtin.max_,hargs,Ek4];have:(fun a b=>Builtin.max2 a b)=Builtin.max2:=rfl
    rw[this] at g1;rw[g1];rfl
   |false=>
    simp only at g1;simp only[builtin,Builtin.min_,hargs,Ek4];have:(fun a b=>Builtin.min2 a b)=Builtin.min2:=rfl
    rw[this] at g1;rw[g1];rfl
 cases mx with
 |true=>
  simp only at hc;simp only[opE,hc] at h;split at h
  ·rename_i k x r' he
   split at h
   ·rename_i m hm;exact main he hm h
   ·cases h
  ·cases h
 |false=>
  simp only at hc;simp only[opE,hc] at h;split at h
  ·rename_i k x r' he
   split at h
   ·rename_i m hm;exact main he hm h
   ·cases h
  ·cases h
theorem BY9 (off:Nat):∀(l:List Value) (k:Nat) (cs:Array Value),off+k+l.length≤cs.size→
  ((l.zipIdx k).foldl (fun (cs:Array Value) (p:Value×Nat)=>cs.setIfInBounds (off+p.2) p.1) cs).toList=cs.toList.take (off+k)++l++cs.toList.drop (off+k+l.length)
 | [],k,cs,_=>by simp
 |v::rest,k,cs,h=>by
  have hlt:off+k<cs.size:=by simp at h;omega
  have ih:=BY9 off rest (k+1) (cs.setIfInBounds (off+k) v) (by simp at h ⊢;omega)
  simp only[List.zipIdx_cons,En8];rw[ih];have e:=list_seg_step cs.toList (off+k) v rest (by simp at h ⊢;omega)
  simpa[Eo3,Eq4] using e
theorem BZ0 {place:Nat→Option (Nat×Nat)}{i off size:Nat}{v:Value}{rest:List (Nat×Value)}{cs:Array Value}(hp:place i=some (off,size))(hs:v.cells.size=size)(hle:off+size≤cs.size):
  Instr.fill place cs ((i,v)::rest)=Instr.fill place (cs.toList.take off++v.cells.toList++cs.toList.drop (off+v.cells.toList.length)).toArray rest:=by
 have hf:=BY9 off v.cells.toList 0 cs (by simp;omega)
 simp only[Instr.fill,hp];have:(decide (v.cells.size≠size)||decide (off+v.cells.size>cs.size))=false:=by simp[hs];omega
 simp only[this,El8,if_false];congr 1;apply Er3;rw[← Array.foldl_toList,Array.toList_zipIdx];simpa using hf
theorem CR4 {ow:Nat→A1}{bx:Bx}{w:World}{pl place:Nat→Option (Nat×Nat)}(hpl:∀i p,pl i=some p→place i=some p):∀(es:List (Nat×EV)) (vs:List (Nat×Value)) (cs cs':List EV) (zs:Array Value),
  Ag0 pl cs es=some cs'→C3 ow bx w cs zs.toList→es.length=vs.length→(∀(k:Nat) e v,es[k]? = some e→vs[k]? = some v→e.1=v.1∧A0 ow bx w e.2 v.2)→
  ∃zs',Instr.fill place zs vs=some zs'∧C3 ow bx w cs' zs'.toList:=by
 intro es
 induction es with
 |nil=>
  intro vs cs cs' zs h hc hl _;cases vs with
  |nil=>simp only[Ag0] at h;cases h;exact⟨zs,rfl,hc⟩
  |cons v vs=>simp at hl
 |cons e es ih=>
  intro vs cs cs' zs h hc hl hall;cases vs with
  |nil=>simp at hl
  |cons v vs=>
   obtain⟨i,e⟩:=e;obtain⟨i',v⟩:=v;obtain⟨h1,h2⟩:=hall 0 _ _ rfl rfl;simp only at h1 h2;subst h1;simp only[Ag0] at h;split at h
   ·rename_i off size hp
    split at h
    ·rename_i new hnew
     split at h
     ·rename_i hck
      simp only[Ek0] at hck;have k1:=Ej9 hck.1;have k2:=Ek2 hck.2;have hn:=Ah2 hnew h2;have hcl:cs.length=zs.size:=by have:=hc.1;simpa using this
      have hnl:new.length=v.cells.size:=by have:=hn.1;simpa using this
      rw[BZ0 (hpl _ _ hp) (by omega) (by omega)]
      exact ih vs _ _ _ h (by simpa using hc.M1 hn off) (by simpa using hl) (fun k e' v' he hv=>hall (k+1) e' v' (by simpa using he) (by simpa using hv))
     ·cases h
    ·cases h
   ·cases h
theorem CR5 {T:TypeId}{ps:Array (Nat×Operand)}{ow:Nat→A1}{bx:Bx}{w:World}{ev:Operand→Value}(hall:∀p∈ps,A0 ow bx w (A p.2) (ev p.2)):
  ∀(k:Nat) e v,(ps.toList.map fun p=>(p.1,A p.2))[k]? = some e→((ps.map fun (i,x)=>(i,ev x)).toList)[k]? = some v→e.1=v.1∧A0 ow bx w e.2 v.2:=by
 intro k e v he hv;simp only[Ek3,Ek5,Eo6] at he hv;obtain⟨p,hp,rfl⟩:=he;obtain⟨p',hp',rfl⟩:=hv;rw[hp] at hp';cases hp';exact⟨rfl,hall p (by simpa using El1 hp)⟩
theorem CR6 {T:TypeId}{ps:Array (Nat×Operand)}(hΓ:E3 P Γ)(ho:o.op = .build T ps)(h:opE Γ id rd g A (.build T ps) q=some r):Sound P id rd g A o q r:=by
 simp only[opE] at h;split at h
 ·rename_i d hd
  have hOK:=hΓ.td T d hd;have hag:I6 d=true:=by
   cases hag:I6 d with
   |false=>rw [hag] at h;cases h
   |true=>rfl
  rw[hag] at h;simp only at h;split at h
  ·rename_i cs hcs
   have main:∀{ow bx w} {a:Act},F5 ow bx w A a.eval o.op→∃zs:Array Value,(execOp a.eval o).run P w = .ok (.value (.agg zs)) w∧C3 ow bx w cs zs.toList:=by
    intro ow bx w a hA;rw[ho] at hA;have hall:=I1 hA (by intros;simp)
    have hps:∀p∈ps,A0 ow bx w (A p.2) (a.eval p.2):=fun p hp=>hall p.2 (by
     simp only[Op.operands];rw[Eo7,En3];exact⟨p,by simpa using hp,rfl⟩)
    have hb:=CR5 (T:=T) hps;obtain⟨i,z,z1,z2,z3,z4,z5⟩:=hOK.zero;have hh:=hOK.how;have fin:∀place:Nat→Option (Nat×Nat),(∀i p,AJ3 d i=some p→place i=some p)→∃zs',Instr.fill place z.cells (ps.map fun (i,x)=>(i,a.eval x)).toList=some zs'∧C3 ow bx w cs zs'.toList:=
     fun place hpl=>CR4 hpl _ _ _ _ _ hcs (z5 ow bx w) (by simp) hb
    have:∃zs,P.built T (ps.map fun (i,x)=>(i,a.eval x)).toList=some zs∧C3 ow bx w cs zs.toList:=by
     unfold Program.built;cases hw:d.how with
     |struct fs=>
      simp only[hw] at hh;obtain⟨gs,hu,hf1,hf2⟩:=hh;obtain⟨zs,k1,k2⟩:=fin (fun i=>(fs.map (·.2)).toArray[i]?) (fun i p hp=>by
       unfold AJ3 at hp;simp only[hw] at hp;split at hp
       ·rename_i ft off size hfs
        cases hp;simp[hfs]
       ·cases hp)
      exact⟨zs,by simp only[z1,hu,z2,hf1];exact k1,k2⟩
     |array n e s=>
      simp only[hw] at hh;obtain⟨hu,gi,g1,g2⟩:=hh;obtain⟨zs,k1,k2⟩:=fin (fun i=>some (i*gi.size,gi.size)) (fun i p hp=>by unfold AJ3 at hp;simp only[hw] at hp;cases hp;rw[g2])
      exact⟨zs,by simp only[z1,hu,z2,g1];exact k1,k2⟩
     |scalar=>unfold I6 at hag;simp[hw] at hag
     |slice e s b=>unfold I6 at hag;simp[hw] at hag
    obtain⟨zs,k1,k2⟩:=this;refine⟨zs,?_,k2⟩;unfold execOp;rw[ho];have:=run_build (P:=P) w T (ps.map fun (i,x)=>(i,a.eval x)) zs k1
    simp only[Ek4,this,Ek1,Ek8]
   have rowcase:q (.row cs) none [] []=some r→Sound P id rd g A o q r:=fun h=>C5 h fun _ B ow bx nb bg w a hi hA hb=>by obtain⟨zs,k1,k2⟩:=main hA;exact⟨.agg zs,k1,.row (by have:=k2.1;rwa [Em4] at this) (fun i e v he hv=>(k2.2 i e v he (by rw[Ep4];exact hv)).1) (fun v hv=>k2.AZ0 v (Array.mem_toList_iff.2 hv))⟩
   split at h
   ·exact rowcase h
   split at h
   ·rename_i ty hty
    split at h
    ·rename_i v hv
     refine C5 h fun _ B ow bx nb bg w a hi hA hb=> ?_
     obtain⟨zs,k1,k2⟩:=main hA;obtain⟨g1,g2,g3⟩:=AQ7 ty _ _ _ _ hv k2;obtain⟨e1,e2⟩:=hOK.agg ty hty;have hle:cs.length≤ty.size:=by have:=congrArg List.length g2;simp at this;omega
     have hzs:zs.toList.take ty.size=zs.toList:=Ep1 (by have:=k2.1;omega)
     rw[hzs] at g1;refine⟨.agg zs,k1,.dat ?_⟩;have hta:ty.isAgg=true:=e2.2 (by unfold I6 at hag;exact hag)
     cases ty <;> simp only[Ty.isAgg] at hta <;> try cases hta
     all_goals exact⟨_,rfl,g1⟩
    ·exact rowcase h
   ·exact rowcase h
  ·cases h
 ·cases h
theorem BZ1 {s:Nat}:∀(vs:List Value) (k:Nat) (zs:Array Value),(∀v∈vs,v.cells.size=s)→(k+vs.length)*s≤zs.size→
  ∃zs',Instr.fill (fun i=>some (i*s,s)) zs ((vs.zipIdx k).map fun p=>(p.2,p.1))=some zs'∧zs'.size=zs.size∧
   (∀j,j<k→(zs'.toList.drop (j*s)).take s=(zs.toList.drop (j*s)).take s)∧(∀(j:Nat) v,vs[j]? = some v→(zs'.toList.drop ((k+j)*s)).take s=v.cells.toList):=by
 intro vs
 induction vs with
 |nil=>intro k zs _ _;exact⟨zs,rfl,rfl,fun _ _=>rfl,fun j v h=>by simp at h⟩
 |cons v vs ih=>
  intro k zs hs hle;have hv:=hs v (by simp)
  have hk:k*s+s≤zs.size:=by
   have h1:(k+1)*s≤(k+(v::vs).length)*s:=El2 s (by simp)
   rw[Nat.succ_mul] at h1;omega
  have hsz:(zs.toList.take (k*s)++v.cells.toList++zs.toList.drop (k*s+v.cells.toList.length)).length=zs.size:=by simp;omega
  obtain⟨zs',g1,g2,g3,g4⟩:=ih (k+1) (zs.toList.take (k*s)++v.cells.toList++zs.toList.drop (k*s+v.cells.toList.length)).toArray (fun u hu=>hs u (by simp[hu])) (by
   rw[El7,hsz];have:k+1+vs.length=k+(v::vs).length:=by simp;omega
   rw[this];exact hle)
  refine⟨zs',?_,by rw[g2,El7,hsz],fun j hj=> ?_,fun j u hu=> ?_⟩
  ·simp only[List.zipIdx_cons,Eo2]
   rw[BZ0 (place:=fun i=>some (i*s,s)) rfl hv hk]
   exact g1
  ·rw[g3 j (by omega)]
   simp only;have hjs:j*s+s≤k*s:=by
    have:(j+1)*s≤k*s:=El2 s (by omega)
    rw[Nat.succ_mul] at this;exact this
   apply En6;intro m;simp only[El0,El5];split
   ·rw[Em0,Eo4 (by simp;omega),El0,if_pos (by omega)]
   ·rfl
  ·cases j with
   |zero=>
    simp only[Ek7,Option.some.injEq] at hu;subst hu;rw[Eo8,g3 k (by omega)]
    simp only;rw[Em0,Eo1 (by simp;omega),Ep2 (by simp;omega),Ep0,Em6 (by simp;omega)]
    exact Ep1 (by simp;omega)
   |succ j=>
    have:=g4 j u (by simpa using hu)
    rw[show k+(j+1)=k+1+j by omega]
    exact this
theorem BZ2 {ty:Ty}:∀(es:List (Nat×EV)) (k:Nat) (l:List ty.den),Aq9 ty es k=some l→l.length=es.length∧∀(j:Nat) (hj:j<l.length),∃e,es[j]? = some (k+j,e)∧e.toA ty=some (l[j]'hj)
 | [],k,l,h=>by cases h;exact⟨rfl,fun j hj=>absurd hj (by simp)⟩
 | (i,e)::r,k,l,h=>by
  simp only[Aq9] at h;split at h
  ·rename_i hik
   have hik:=Ej9 hik;subst hik;split at h
   ·rename_i v hv
    split at h
    ·rename_i l' hl'
     cases h;obtain⟨h1,h2⟩:=BZ2 r (i+1) l' hl';refine⟨by simp[h1],fun j hj=> ?_⟩
     cases j with
     |zero=>exact ⟨e,by simp,hv⟩
     |succ j=>
      obtain⟨e',g1,g2⟩:=h2 j (by simpa using hj)
      exact⟨e',by rw[show i+(j+1)=i+1+j by omega];simpa using g1,g2⟩
    ·cases h
   ·cases h
  ·cases h
theorem BZ3:∀(es:List (Nat×EV)) (k:Nat) (l:List EV),Ar0 es k=some l→l.length=es.length∧∀(j:Nat) (hj:j<l.length),∃f a b,es[j]? = some (k+j,.clo f a b)∧l[j]'hj = .clo f a b
 | [],k,l,h=>by cases h;exact⟨rfl,fun j hj=>absurd hj (by simp)⟩
 | (i,e)::r,k,l,h=>by
  simp only[Ar0] at h;split at h
  ·rename_i hik
   have hik:=Ej9 hik;subst hik;split at h
   ·rename_i f a b
    split at h
    ·rename_i l' hl'
     cases h;obtain⟨h1,h2⟩:=BZ3 r (i+1) l' hl';refine⟨by simp[h1],fun j hj=> ?_⟩
     cases j with
     |zero=>exact ⟨f,a,b,by simp,rfl⟩
     |succ j=>
      obtain⟨f',a',b',g1,g2⟩:=h2 j (by simpa using hj)
      exact⟨f',a',b',by rw[show i+(j+1)=i+1+j by omega];simpa using g1,by simpa using g2⟩
    ·cases h
   ·cases h
  ·cases h
theorem CR7 {T:TypeId}{n:Nat}{ps:Array (Nat×Operand)}(hΓ:E3 P Γ)(ho:o.op = .buildSlice T n ps)(h:opE Γ id rd g A (.buildSlice T n ps) q=some r):Sound P id rd g A o q r:=by
 simp only[opE] at h;split at h
 ·rename_i d hd
  have hOK:=hΓ.td T d hd;split at h
  ·rename_i e s b hw
   split at h
   ·rename_i de hde
    have hOKe:=hΓ.td e de hde;split at h
    ·rename_i ty hty
     split at h
     ·rename_i l hl
      split at h
      ·rename_i hck
       simp only[Ek0] at hck;have hln:=Ej9 hck.1.1;have hsmall:=Ek2 hck.1.2;have hsmall2:=Ek2 hck.2;have gmain:∀(V:EV) (own:A1),(own = .E4∨own = .B8∨∃k fr,own = .tok k fr)→own.AY3 (l.length*ty.size)→
         (∀(ow':Nat→A1) (bx:Bx) (w':World) (g:Nat) (zs:Array Value),ow' g=own→w'.heap[g]? = some (.cells zs e (0,0))→zs.size=n*ty.size→C7 ow' w' (.slice ty) l (.slice (some ⟨g,0,none⟩) n n)→A0 ow' bx w' V (.slice (some ⟨g,0,none⟩) n n))→
         ∀B ow bx nb bg w (a:Act),Inv B ow bx nb bg w→F5 ow bx w A a.eval o.op→AC3 P B ow bx nb bg w a o id V none []:=by
        intro V own hown hrig hV B ow bx nb bg w a hi hA;rw[ho] at hA;have hall:=I1 hA (by intros;simp)
        have hh:=hOK.how;simp only[hw] at hh;obtain⟨_,hu,⟨gi,z,g1,g2,g3,g4⟩,_⟩:=hh;obtain⟨i',z',z1,z2,z3,z4,z5⟩:=hOKe.zero;rw[g1] at z1;cases z1;obtain⟨e1,e2⟩:=hOKe.agg ty hty;obtain⟨p1,p2⟩:=BZ2 _ _ _ hl;have hvs:(ps.map fun (i,x)=>(i,a.eval x)).toList=(((ps.toList.map fun p=>a.eval p.2)).zipIdx 0).map fun p=>(p.2,p.1):=by
         apply En6;intro m;simp only[Eo6,Ek3,Eq0];cases hm:ps.toList[m]? with
         |none=>simp
         |some p=>
          have hml:m<l.length:=by rw[p1];simpa using (Ej8.1 hm).1
          obtain⟨e',k1,k2⟩:=p2 m hml;simp only[Ek3,hm,Ek6,Option.some.injEq,Prod.mk.injEq] at k1;simp[k1.1]
        have hrep:∀(j:Nat) (hj:j<l.length) v,(ps.toList.map fun p=>a.eval p.2)[j]? = some v→C7 ow w ty (l[j]'hj) v:=by
         intro j hj v hv;obtain⟨e',k1,k2⟩:=p2 j hj;simp only[Ek3,Ek5] at k1 hv;obtain⟨p,hp,hpe⟩:=k1;obtain⟨p',hp',rfl⟩:=hv;rw[hp] at hp';cases hp';obtain⟨_,hpe2⟩:=Prod.mk.inj hpe;rw[← hpe2] at k2;exact As9 k2 (hall p.2 (by
          simp only[Op.operands];rw[Eo7,En3];exact⟨p,El1 hp,rfl⟩))
        have hlen:(ps.toList.map fun p=>a.eval p.2).length=n:=by rw[← hln,p1];simp
        have hsz:∀v∈(ps.toList.map fun p=>a.eval p.2),v.cells.size=gi.size:=by
         intro v hv;obtain⟨j,hj⟩:=El6 hv;have hjl:j<l.length:=by have:=(Ej8.1 hj).1;omega
         have:=V1 _ _ _ (As8 (hrep j hjl v hj));simp at this;omega
        obtain⟨zs,k1,k2,_,k4⟩:=BZ1 (s:=gi.size) (ps.toList.map fun p=>a.eval p.2) 0 (if n*gi.size=0 then #[] else (Ep3 (n*gi.size)).map (z.cells[· % z.cells.size]!)) hsz (by
         rw[El3,hlen];split <;> (simp;try omega))
        have hrun:(execOp a.eval o).run P w = .ok (.value (.slice (some ⟨w.heap.size,0,none⟩) n n)) {w with heap:=w.heap.push (.cells zs e)}:=by
         unfold execOp;rw[ho];have hns:¬n*gi.size>2 ^ 24:=by rw[z3];omega
         rw[← hvs] at k1;by_cases h0:n*gi.size=0
         ·rw[if_pos h0] at k1
          have hz0:∀f:Nat→Value,(Ep3 (n*gi.size)).map f=#[]:=fun f=>by rw[h0];simp
          simp only[Instr.buildSlice,Ek4,underlying,run_program,Ek1,hu,Ek8,sizeOf,typeInfo,g1,hns,if_false,h0,if_true];rw[h0] at hz0;have hns0:¬((0:Nat)>2 ^ 24):=by decide
          simp only[hns0,if_false,hz0,k1,newRow,Ek4,run_newObj,Ek1,Ek8]
         ·rw[if_neg h0] at k1
          have:=run_buildSlice (P:=P) w T e n (ps.map fun (i,x)=>(i,a.eval x)) zs gi z hu g1 g4 hns h0 k1
          simp only[Ek4,this,Ek1,Ek8];rfl
        intro K Q hK;unfold Oper.wp;rw[hrun];obtain⟨j1,j2⟩:=hi.At0 own (.cells zs e) hown;refine hK _ _ _ _ j1 (hV _ _ _ w.heap.size zs (by simp) (by simp) (by rw[k2,show ty.size=gi.size by omega];split <;> simp_all) ?_) j2 rfl
        refine⟨some ⟨w.heap.size,0,none⟩,n,by rw[hln],⟨by omega,by omega⟩,fun _=>⟨w.heap.size,0,zs,e,(0,0),rfl,(by unfold A5;simpa using hrig),by simp,fun j x hx=> ?_⟩⟩
        have hjl:j<l.length:=(Ej8.1 hx).1;have hxe:l[j]'hjl=x:=(Ej8.1 hx).2;obtain⟨v,hv⟩:∃v,(ps.toList.map fun p=>a.eval p.2)[j]? = some v:=⟨_,Ej7 (by omega)⟩
        have:=k4 j v hv;rw[El3] at this ⊢;rw[show ty.size=gi.size by omega,this,← hxe]
        exact Rep.keep j1.st _ _ _ (As8 (hrep j hjl v hv))
       split at h
       ·rename_i hown
        simp only[Ek0] at hown;have hlt:e<25000:=Ek2 hown.2;have hsf:soft (AP6 n e)=false:=by
         unfold soft;rw[(BV6 hlt).1];cases hb:Nat.ble 50000 e with
         |false=>rfl
         |true=>have:=Ek2 hb;omega
        refine⟨_,_,_,_,h,fun _=>⟨rfl,rfl⟩,fun x hx=>(by cases hx),fun _ B ow bx nb bg w a hi hA hb _=>gmain (.own (AP6 n e) ty l) (.tok (AP6 n e) (l.length*ty.size)) (.inr (.inr ⟨_,_,rfl⟩)) (Em2 _) (fun ow' bx w' g zs h1 h2 h3 h4=> ?_) B ow bx nb bg w a hi hA⟩
        refine .own (fun _=>h4) (fun _=>.inr ⟨g,n,zs,(0,0),by rw[hln],by rw[h1];unfold H6;rw[hsf];rfl,by rw[(BV6 hlt).2];exact h2,AY4 _,h3,by omega,fun hs=>(by rw[hsf] at hs;cases hs)⟩) fun hs=>(by rw[hsf] at hs;cases hs)
       ·exact⟨_,_,_,_,h,fun _=>⟨rfl,rfl⟩,fun x hx=>(by cases hx),fun _ B ow bx nb bg w a hi hA hb _=>gmain (.dat (.slice ty) l) .E4 (.inl rfl) trivial (fun ow' bx w' g zs h1 h2 h3 h4=>.dat h4) B ow bx nb bg w a hi hA⟩
      ·cases h
     ·cases h
    ·split at h
     ·rename_i l hl
      split at h
      ·rename_i hck
       simp only[Ek0] at hck;have hln:=Ej9 hck.1.1;have hz1:=Ej9 hck.1.2;have hsmall:=Ek2 hck.2;refine⟨_,_,_,_,h,fun _=>⟨rfl,rfl⟩,fun x hx=>(by cases hx),fun _ B ow bx nb bg w a hi hA hb _=> ?_⟩
       rw[ho] at hA;have hall:=I1 hA (by intros;simp)
       have hh:=hOK.how;simp only[hw] at hh;obtain⟨_,hu,⟨gi,z,g1,g2,g3,g4⟩,_⟩:=hh;obtain⟨i',z',z1,z2,z3,z4,z5⟩:=hOKe.zero;rw[g1] at z1;cases z1;have hgs:gi.size=1:=by rw[z3,hz1]
       obtain⟨p1,p2⟩:=BZ3 _ _ _ hl;have hvs:(ps.map fun (i,x)=>(i,a.eval x)).toList=(((ps.toList.map fun p=>a.eval p.2)).zipIdx 0).map fun p=>(p.2,p.1):=by
        apply En6;intro m;simp only[Eo6,Ek3,Eq0];cases hm:ps.toList[m]? with
        |none=>simp
        |some p=>
         have hml:m<l.length:=by rw[p1];simpa using (Ej8.1 hm).1
         obtain⟨f,a',b',k1,k2⟩:=p2 m hml;simp only[Ek3,hm,Ek6,Option.some.injEq,Prod.mk.injEq] at k1;simp[k1.1]
       have hrep:∀(j:Nat) (hj:j<l.length) v,(ps.toList.map fun p=>a.eval p.2)[j]? = some v→A0 ow bx w (l[j]'hj) v∧v.oneCell'=true:=by
        intro j hj v hv;obtain⟨f,a',b',k1,k2⟩:=p2 j hj;simp only[Ek3,Ek5] at k1 hv;obtain⟨p,hp,hpe⟩:=k1;obtain⟨p',hp',rfl⟩:=hv;rw[hp] at hp';cases hp';obtain⟨_,hpe2⟩:=Prod.mk.inj hpe;have hr:=hall p.2 (by
         simp only[Op.operands];rw[Eo7,En3];exact⟨p,El1 hp,rfl⟩)
        rw[hpe2] at hr;rw[k2];refine⟨hr,?_⟩;generalize a.eval p.2=u at hr;cases hr;rfl
       have hlen:(ps.toList.map fun p=>a.eval p.2).length=n:=by rw[← hln,p1];simp
       have hsz:∀v∈(ps.toList.map fun p=>a.eval p.2),v.cells.size=gi.size:=by
        intro v hv;obtain⟨j,hj⟩:=El6 hv;have hjl:j<l.length:=by have:=(Ej8.1 hj).1;omega
        rw[BG8 (hrep j hjl v hj).2,hgs];rfl
       obtain⟨zs,k1,k2,_,k4⟩:=BZ1 (s:=gi.size) (ps.toList.map fun p=>a.eval p.2) 0 (if n*gi.size=0 then #[] else (Ep3 (n*gi.size)).map (z.cells[· % z.cells.size]!)) hsz (by
        rw[El3,hlen];split <;> (simp;try omega))
       have hzs:n≤zs.size:=by
        rw[k2,hgs];split
        ·rename_i h0;simp;omega
        ·simp
       have hrun:(execOp a.eval o).run P w = .ok (.value (.slice (some ⟨w.heap.size,0,none⟩) n n)) {w with heap:=w.heap.push (.cells zs e)}:=by
        unfold execOp;rw[ho];have hns:¬n*gi.size>2 ^ 24:=by rw[hgs];omega
        rw[← hvs] at k1;by_cases h0:n*gi.size=0
        ·rw[if_pos h0] at k1
         have hz0:∀f:Nat→Value,(Ep3 (n*gi.size)).map f=#[]:=fun f=>by rw[h0];simp
         simp only[Instr.buildSlice,Ek4,underlying,run_program,Ek1,hu,Ek8,sizeOf,typeInfo,g1,hns,if_false,h0,if_true];rw[h0] at hz0;have hns0:¬((0:Nat)>2 ^ 24):=by decide
         simp only[hns0,if_false,hz0,k1,newRow,Ek4,run_newObj,Ek1,Ek8]
        ·rw[if_neg h0] at k1
         have:=run_buildSlice (P:=P) w T e n (ps.map fun (i,x)=>(i,a.eval x)) zs gi z hu g1 g4 hns h0 k1
         simp only[Ek4,this,Ek1,Ek8];rfl
       intro K Q hK;unfold Oper.wp;rw[hrun];obtain⟨j1,j2⟩:=hi.At0 .E4 (.cells zs e) (.inl rfl);have hcell:∀(j:Nat) v,j<l.length→zs[j]? = some v→(ps.toList.map fun p=>a.eval p.2)[j]? = some v:=by
        intro j v hj hv;obtain⟨u,hu'⟩:∃u,(ps.toList.map fun p=>a.eval p.2)[j]? = some u:=⟨_,Ej7 (by omega)⟩
        have:=k4 j u hu';rw[El3,hgs,Er1,BG8 (hrep j hj u hu').2] at this;have h2:=congrArg (·[0]?) this;simp[El0,El5] at h2;rw[hu',← hv,h2]
       have hres:A0 (fun blk=>if blk=w.heap.size then A1.E4 else ow blk) bx {w with heap:=w.heap.push (.cells zs e)} (.sl l) (.slice (some ⟨w.heap.size,0,none⟩) l.length n):=by
        refine .sl (c:=zs) (T:=e) (fz:=(0,0)) (by omega) (by omega) (L3 (by simp)) (by simp) (fun j x v hx hv=> ?_) (fun j v hj hv=> ?_)
        ·have hjl:j<l.length:=(Ej8.1 hx).1
         have hxe:l[j]'hjl=x:=(Ej8.1 hx).2;have:=(hrep j hjl v (hcell j v hjl hv)).1;rw[hxe] at this;exact this.keep j1
        ·exact (hrep j hj v (hcell j v hj hv)).2
       rw[hln] at hres;exact hK _ _ _ _ j1 hres j2 rfl
      ·cases h
     ·cases h
   ·cases h
  ·cases h
 ·cases h
end

section
variable {ρ:Type}{P:Program}{Γ:Cx}{id:Nat}{rd:Nat→Option (List EV)}{g:Option Bool}{A:Operand→EV}{o:Oper}{q:EV→Option (List EV)→List Wr→List Nat→Option ρ}{r:ρ}
theorem At3 {w:World}{k:IntKind}{m:Int}{y:Nat}{code:BoundsCode}(h0:0≤m)(h1:m≤(y:Int)):(Instr.sliceBound (.int k m) y code).run P w = .ok m.toNat w:=by simp[Instr.sliceBound,asIntOf,h0,h1]
theorem CR8 {T:TypeId}{x:Operand}{lo hi mx:Option Operand}(hΓ:E3 P Γ)(ho:o.op = .slice T x lo hi mx)(h:opE Γ id rd g A (.slice T x lo hi mx) q=some r):Sound P id rd g A o q r:=by
 have hx:∀{ow bx w ev},F5 ow bx w A ev o.op→A0 ow bx w (A x) (ev x)∧(∀y,lo=some y→A0 ow bx w (A y) (ev y))∧(∀y,hi=some y→A0 ow bx w (A y) (ev y)):=by
  intro ow bx w ev hA;rw[ho] at hA;have hall:=I1 hA (by intros;simp)
  exact⟨hall x (by simp[Op.operands]),fun y hy=>hall y (by simp[Op.operands,hy]),fun y hy=>hall y (by simp[Op.operands,hy])⟩
 have val:∀{y:Operand} {ow bx w} {ev:Operand→Value} {m:Int},intOf (A y)=some m→A0 ow bx w (A y) (ev y)→∃k,ev y = .int k m:=by intro y ow bx w ev m hm hv;obtain⟨k,hk⟩:=AF1 hm;rw[hk] at hv;exact⟨k,(P7 hv).1⟩
 simp only[opE] at h;cases mx with
 |some m=>cases h
 |none=>
  simp only at h;split at h
  ·rename_i ty l he
   split at h
   ·cases h
   ·rename_i hs
    split at h
    ·rename_i a b ha hb
     obtain⟨h1,h2⟩:=O2 h;refine C5 h1 fun hg B ow bx nb bg w act hi' hA hbb=> ?_
     obtain⟨hp,hlo,hhi⟩:=hx hA
     replace hp:=AY6 hp
     rw[he] at hp;have hck:=h2 hg;simp only[Ek0,decide_eq_true_eq] at hck;obtain⟨⟨c1,c2⟩,c3⟩:=hck;obtain⟨d,e,s,b',gi,hd,hw,hu,g1,g2⟩:=AZ1 hΓ hs;generalize hpe:act.eval x=u at hp;cases hp with
     |dat hp=>
      obtain⟨ad,cap,h3,⟨h4,h4'⟩,h5⟩:=hp;simp only[List.cons.injEq,and_true] at h3;have hlow:∀(y:Nat) (hy:b=(y:Int)),(do match lo.map act.eval with | some v=>Instr.sliceBound v y .sliceB | none=>pure 0:Sem Nat).run P w = .ok a.toNat w:=by
       intro y hy;cases lo with
       |none=>simp only at ha;cases ha;rfl
       |some z=>
        simp only at ha;obtain⟨k,hk⟩:=val ha (hlo z rfl);simp only[Ek6,hk];exact At3 c1 (by omega)
      have hhigh:(do match hi.map act.eval with | some v=>Instr.sliceBound v cap .sliceAcap | none=>pure l.length:Sem Nat).run P w = .ok b.toNat w:=by
       cases hi with
       |none=>simp only at hb;cases hb;simp
       |some z=>
        simp only at hb;obtain⟨k,hk⟩:=val hb (hhi z rfl);simp only[Ek6,hk];exact At3 (by omega) (by omega)
      have hbounds:(Instr.sliceBounds true l.length cap (lo.map act.eval) (hi.map act.eval) none).run P w = .ok (a.toNat,b.toNat,cap) w:=by
       have h6:=hlow b.toNat (by omega)
       unfold Instr.sliceBounds;cases hi with
       |none=>
        simp only at hb;cases hb;cases lo with
        |none=>simp only at ha;cases ha;simp
        |some z=>
         simp only[Ek6] at h6 ⊢;simp only[En9,Ek4,Ek8,Ek1,En4,El8,if_false];simp at h6 ⊢;rw[h6];rfl
       |some z'=>
        simp only[Ek6] at hhigh;cases lo with
        |none=>
         simp only at ha;cases ha;simp only[Ek6,En9,Ek4,Ek8,Ek1,if_true];simp at hhigh ⊢;rw[hhigh];rfl
        |some z=>
         simp only[Ek6] at h6 ⊢;simp only[Ek4,Ek8,Ek1,if_true,En4,El8,if_false]
         (try simp at hhigh);(try simp at h6);(try simp)
         rw[hhigh];simp only[Ek1];rw[h6];rfl
      refine⟨.slice (if cap=a.toNat then ad else ad.map (·.add (a.toNat*gi.size))) (b.toNat-a.toNat) (cap-a.toNat),?_,.dat ?_⟩
      ·unfold execOp
       rw[ho];simp[hpe,h3,Instr.sliceAt,Instr.slice,underlying,hu,hbounds,sizeOf,typeInfo,g1]
      ·have hlen:((l.take b.toNat).drop a.toNat).length=b.toNat-a.toNat:=by simp;omega
       refine⟨_,_,by rw[hlen],⟨by omega,by omega⟩,fun hne=> ?_⟩
       have hlt:a.toNat<b.toNat:=by apply Eo5;intro hn;exact hne (List.eq_nil_of_length_eq_zero (by omega))
       obtain⟨blk,off,c,U,fz,k1,k2,k3,k4⟩:=h5 (by intro e;subst e;simp at c3;omega)
       rw[if_neg (by omega),k1]
       have hle:off+a.toNat*gi.size+((l.take b.toNat).drop a.toNat).length*ty.size≤off+l.length*ty.size:=by
        have h7:(a.toNat+((l.take b.toNat).drop a.toNat).length)*ty.size≤l.length*ty.size:=El2 _ (by omega)
        rw[Em3] at h7;rw[g2];omega
       refine⟨blk,off+a.toNat*gi.size,c,U,fz,by simp[Z3],BG7 k2 hle,k3,fun i y hy=> ?_⟩
       rw[El5,El0] at hy;split at hy
       ·have:=k4 _ y hy
        rw[Em3] at this;rw[g2,Eq4];exact this
       ·cases hy
    ·cases h
  ·rename_i s he
   split at h
   ·cases h
   ·rename_i hs
    split at h
    ·rename_i a b ha hb
     obtain⟨h1,h2⟩:=O2 h;refine C5 h1 fun hg B ow bx nb bg w act hi' hA hbb=> ?_
     obtain⟨hp,hlo,hhi⟩:=hx hA
     replace hp:=AY6 hp
     rw[he] at hp;have hck:=h2 hg;simp only[Ek0,decide_eq_true_eq] at hck;obtain⟨⟨c1,c2⟩,c3⟩:=hck;have hu:=AZ2 hΓ hs;obtain⟨h3,h4⟩:=AE9 hp;have hlow:∀(y:Nat) (hy:b=(y:Int)),(do match lo.map act.eval with | some v=>Instr.sliceBound v y .sliceB | none=>pure 0:Sem Nat).run P w = .ok a.toNat w:=by
      intro y hy;cases lo with
      |none=>simp only at ha;cases ha;rfl
      |some z=>
       simp only at ha;obtain⟨k,hk⟩:=val ha (hlo z rfl);simp only[Ek6,hk];exact At3 c1 (by omega)
     have hhigh:(do match hi.map act.eval with | some v=>Instr.sliceBound v s.size .sliceAlen | none=>pure s.size:Sem Nat).run P w = .ok b.toNat w:=by
      cases hi with
      |none=>simp only at hb;cases hb;simp
      |some z=>
       simp only at hb;obtain⟨k,hk⟩:=val hb (hhi z rfl);simp only[Ek6,hk];exact At3 (by omega) (by omega)
     have hbounds:(Instr.sliceBounds false s.size s.size (lo.map act.eval) (hi.map act.eval) none).run P w = .ok (a.toNat,b.toNat,s.size) w:=by
      have h6:=hlow b.toNat (by omega)
      unfold Instr.sliceBounds;cases hi with
      |none=>
       simp only at hb;cases hb;cases lo with
       |none=>simp only at ha;cases ha;simp
       |some z=>
        simp only[Ek6] at h6 ⊢;simp only[En9,Ek4,Ek8,Ek1,En4,El8,if_false];simp at h6 ⊢;rw[h6];rfl
      |some z'=>
       simp only[Ek6] at hhigh;cases lo with
       |none=>
        simp only at ha;cases ha;simp only[Ek6,En9,Ek4,Ek8,Ek1,El8,if_false];simp at hhigh ⊢;rw[hhigh];rfl
       |some z=>
        simp only[Ek6] at h6 ⊢;simp only[Ek4,Ek8,Ek1,En4,El8,if_false]
        (try simp at hhigh);(try simp at h6);(try simp)
        rw[hhigh];simp only[Ek1];rw[h6];rfl
     refine⟨.string (s.extract a.toNat b.toNat),?_,.dat ⟨rfl,?_⟩⟩
     ·unfold execOp
      rw[ho];simp[h3,Instr.sliceAt,Instr.slice,underlying,hu,hbounds]
     ·simp[ByteArray.size_extract];omega
    ·cases h
  ·cases h
theorem CR9 {T:TypeId}{x i:Operand}(hΓ:E3 P Γ)(ho:o.op = .index T x i)(h:opE Γ id rd g A (.index T x i) q=some r):Sound P id rd g A o q r:=by
 have hx:∀{ow bx w ev},F5 ow bx w A ev o.op→A0 ow bx w (A x) (ev x)∧A0 ow bx w (A i) (ev i):=by intro ow bx w ev hA;rw[ho] at hA;exact⟨I1 hA (by intros;simp) x (by simp[Op.operands]),I1 hA (by intros;simp) i (by simp[Op.operands])⟩
 simp only[opE] at h;split at h
 ·rename_i s he
  split at h
  ·rename_i m hm hs
   obtain⟨h1,h2⟩:=O2 h;obtain⟨k,hk⟩:=AF1 hm;refine C5 h1 fun hg B ow bx nb bg w a hi hA hb=> ?_
   obtain⟨hp,hpi⟩:=hx hA;rw[he] at hp;rw[hk] at hpi;have hck:=h2 hg;simp only[Ek0,decide_eq_true_eq] at hck;have hlt:m.toNat<s.size:=by omega
   refine⟨.int .u8 (s[m.toNat]'hlt).toNat,?_,?_⟩
   ·unfold execOp
    rw[ho];simp[(AE9 hp).1,(P7 hpi).1,Instr.index,asIntOf,underlying,AZ2 hΓ hs,hck.1,hlt]
   ·have:s[m.toNat]?.getD 0=s[m.toNat]'hlt:=by simp[hlt]
    rw[this];refine P8 ((AY7 _ _).2 ?_);have:=(s[m.toNat]'hlt).toNat_lt;simp[IntKind.min,IntKind.max,IntKind.signed,IntKind.bits];omega
  ·cases h
 ·rename_i c v he
  split at h
  ·rename_i m d hm hd
   split at h
   ·rename_i n e s hhow
    split at h
    ·rename_i ed hed
     split at h
     ·rename_i ty hty
      split at h
      ·rename_i l hl
       obtain⟨h1,h2⟩:=O2 h;obtain⟨k,hk⟩:=AF1 hm;refine C5 h1 fun hg B ow bx nb bg w a hi hA hb=> ?_
       obtain⟨hp,hpi⟩:=hx hA;rw[he] at hp;rw[hk] at hpi;have hck:=h2 hg;simp only[Ek0,decide_eq_true_eq] at hck;obtain⟨hln,hall⟩:=BH3 _ _ _ hl;have hlt:m.toNat<l.length:=by omega
       obtain⟨ev,g1,g2⟩:=hall m.toNat hlt;have hh:=(hΓ.td T d hd).how;simp only[hhow] at hh;obtain⟨hu,ei,hei,hes⟩:=hh;generalize hpe:a.eval x=u at hp;cases hp with
       |dat hp=>
        obtain⟨cells,hcells,hrep⟩:=hp;obtain⟨u',k1,k2⟩:=BY5 (hΓ.td e ed hed) g1 (AE7 (bx:=bx) _ _ _ hrep);rw[El3] at k1;have hsz:(sizeOf e).run P w = .ok s w:=by simp[Go.sizeOf,typeInfo,hei,hes]
        refine⟨u',?_,?_⟩
        ·unfold execOp
         rw[ho];simp[hpe,hcells,(P7 hpi).1,Instr.index,asIntOf,underlying,hu,hck.1,hck.2,hsz,k1]
        ·have:l.getD m.toNat ty.J7=l[m.toNat]'hlt:=by simp[List.getD,hlt]
         rw[this];exact .dat (w9 g2 k2)
      ·cases h
     ·cases h
    ·cases h
   ·cases h
  ·cases h
 ·cases h
end

structure F0 (a:List (Nat×Nat)):Prop where
 key:∀i b,(i,b)∈a→J3 a i=some b
 inj:∀i j b,(i,b)∈a→(j,b)∈a→i=j
theorem V3:∀(a:List (Nat×Nat)) (i b:Nat),J3 a i=some b→(i,b)∈a
 | [],_,_,h=>by cases h
 | (k,c)::r,i,b,h=>by
  simp only[J3] at h;split at h
  ·rename_i hk
   cases h;have:=Ej9 hk;subst this;simp
  ·exact Em1 _ (V3 r i b h)
theorem BZ4:∀(a:List (Nat×Nat)) (i:Nat),J3 a i=none→∀b,(i,b)∉a
 | [],_,_,_=>by simp
 | (k,c)::r,i,h,b=>by
  simp only[J3] at h;split at h
  ·cases h
  ·rename_i hk
   intro hm;rcases Ek9.1 hm with e | hm
   ·cases e;rw[En5] at hk;cases hk
   ·exact BZ4 r i h b hm
theorem BH4:∀(a:List (Nat×Nat)) (b:Nat),hasB a b=false→∀i,(i,b)∉a
 | [],_,_,_=>by simp
 | (k,c)::r,b,h,i=>by
  simp only[hasB,Eo0] at h;intro hm;rcases Ek9.1 hm with e | hm
  ·cases e;have:=h.1;rw[En5] at this;cases this
  ·exact BH4 r b h.2 i hm
theorem F0.cons {a:List (Nat×Nat)}(h:F0 a){i b:Nat}(h1:J3 a i=none)(h2:hasB a b=false):F0 ((i,b)::a):=by
 refine⟨fun j c hm=> ?_,fun j k c hj hk=> ?_⟩
 ·simp only[J3]
  rcases Ek9.1 hm with e | hm
  ·cases e;simp[En5]
  ·split
   ·rename_i hk
    have:=Ej9 hk;subst this;exact absurd hm (BZ4 a _ h1 c)
   ·exact h.key j c hm
 ·rcases Ek9.1 hj with e | hj <;> rcases Ek9.1 hk with e' | hk
  ·cases e;cases e';rfl
  ·cases e;exact absurd hk (BH4 a _ h2 k)
  ·cases e';exact absurd hj (BH4 a _ h2 j)
  ·exact h.inj j k c hj hk
theorem F0.nil:F0 []:=⟨fun _ _ h=>by simp at h,fun _ _ _ h=>by simp at h⟩
structure Ah5 (a:List (Nat×Nat))(ow:Nat→A1)(bx:Bx)(ow':Nat→A1)(bx':Bx):Prop where
 st:∀blk n,A5 ow blk n→A5 ow' blk n
 bo:∀i b,(i,b)∈a→ow (bx b) = .box b→bx' i=bx b∧ow' (bx b) = .box i
theorem AK6 {ow ow':Nat→A1}{bx bx':Bx}{w:World}:∀(n:Nat) (deep:Bool) (ps:List PT) (es:List EV) (a:List (Nat×Nat)) (l:List EV) (a':List (Nat×Nat)),
  B7 n ps es a=some (l,a')→D8 deep n ps=true→(F0 a→F0 a')∧(∀p∈a,p∈a')∧
   ∀rest,∃es',D5 n ps (l++rest)=(es',rest)∧es'.length=es.length∧
    ∀af,(∀p∈a',p∈af)→Ah5 af ow bx ow' bx'→∀(i:Nat) e e' v,es[i]? = some e→es'[i]? = some e'→A0 ow bx w e v→A0 ow' bx' w e' v:=by
 intro n
 induction n with
 |zero=>intro deep ps es a l a' h;simp only[B7] at h;cases h
 |succ n ih=>
  intro deep ps es a l a' h hp;cases ps with
  |nil=>
   cases es with
   |nil=>simp only[B7] at h;cases h;exact⟨id,fun _ h=>h,fun rest=>⟨[],rfl,rfl,fun _ _ _ i e e' v he=>by simp at he⟩⟩
   |cons e es=>simp only[B7] at h;cases h
  |cons p ps=>
   cases es with
   |nil=>cases p <;> simp only[B7] at h <;> cases h
   |cons e es=>
    cases p with
    |own t=>simp [D8] at hp
    |dat t=>
     simp only[D8] at hp;simp only[B7] at h;split at h
     ·rename_i v hv
      split at h
      ·rename_i l1 a1 h1
       cases h;obtain⟨g1,g2,g3⟩:=ih deep ps es a l1 a' h1 hp;refine⟨g1,g2,fun rest=> ?_⟩
       obtain⟨es',k1,k2,k3⟩:=g3 rest;refine⟨.dat t v::es',by simp only[List.cons_append,D5,k1],by simp[k2],fun af haf htr i e0 e1 u he0 he1 hu=> ?_⟩
       cases i with
       |zero=>
        simp only[Ek7,Option.some.injEq] at he0 he1;subst he0 he1;exact .dat ((As9 hv hu).keep (E9.of fun blk n hs=>⟨htr.st blk n hs,rfl⟩))
       |succ i=>exact k3 af haf htr i e0 e1 u (by simpa using he0) (by simpa using he1) hu
      ·cases h
     ·cases h
    |ref i0 off=>
     simp only[D8] at hp;cases e with
     |ptr b off'=>
      simp only[B7] at h;split at h
      ·rename_i hoff
       have hoff:=Ej9 hoff;subst hoff;have fin:∀a1,B7 n ps es a1=some (l,a')→(i0,b)∈a1→(F0 a→F0 a1)→(∀p∈a,p∈a1)→(F0 a→F0 a')∧(∀p∈a,p∈a')∧
         ∀rest,∃es',D5 (n+1) (.ref i0 off::ps) (l++rest)=(es',rest)∧es'.length=(EV.ptr b off::es).length∧
          ∀af,(∀p∈a',p∈af)→Ah5 af ow bx ow' bx'→∀(i:Nat) e e' v,(EV.ptr b off::es)[i]? = some e→es'[i]? = some e'→A0 ow bx w e v→A0 ow' bx' w e' v:=by
        intro a1 h1 hmem hok hsub;obtain⟨g1,g2,g3⟩:=ih deep ps es a1 l a' h1 hp;refine⟨fun h=>g1 (hok h),fun p hp=>g2 p (hsub p hp),fun rest=> ?_⟩
        obtain⟨es',k1,k2,k3⟩:=g3 rest;refine⟨.ptr i0 off::es',by simp only[D5,k1],by simp[k2],fun af haf htr i e0 e1 u he0 he1 hu=> ?_⟩
        cases i with
        |zero=>
         simp only[Ek7,Option.some.injEq] at he0 he1;subst he0 he1;cases hu with
         |ptr hq=>
          obtain⟨j1,j2⟩:=htr.bo i0 b (haf _ (g2 _ hmem)) hq;rw[← j1];exact .ptr (by rw[j1];exact j2)
        |succ i=>exact k3 af haf htr i e0 e1 u (by simpa using he0) (by simpa using he1) hu
       split at h
       ·rename_i b' hb'
        split at h
        ·rename_i hbb
         have hbb:=Ej9 hbb;subst hbb;exact fin a h (V3 _ _ _ hb') id (fun _ h=>h)
        ·cases h
       ·rename_i hnone
        split at h
        ·cases h
        ·rename_i hhas
         exact fin _ h (by simp) (fun hok=>hok.cons hnone hhas) (fun p hp=>by simp[hp])
      ·cases h
     |_=>simp only[B7] at h;cases h
    |clo f pf pc=>
     simp only[D8,Ek0] at hp;obtain⟨⟨⟨hd,hpf⟩,hpc⟩,hps⟩:=hp;cases e with
     |clo f' fst caps=>
      simp only[B7] at h;split at h
      ·rename_i hff
       have hff:=Ej9 hff;subst hff;split at h
       ·rename_i l1 a1 h1
        split at h
        ·rename_i l2 a2 h2
         split at h
         ·rename_i l3 a3 h3
          cases h;obtain⟨g1,g2,g3⟩:=ih deep pf fst a l1 a1 h1 hpf;obtain⟨i1,i2,i3⟩:=ih deep pc caps a1 l2 a2 h2 hpc;obtain⟨j1,j2,j3⟩:=ih deep ps es a2 l3 a' h3 hps;refine⟨fun h=>j1 (i1 (g1 h)),fun p hp=>j2 p (i2 p (g2 p hp)),fun rest=> ?_⟩
          obtain⟨e1,k1,k2,k3⟩:=g3 (l2++(l3++rest));obtain⟨e2,m1,m2,m3⟩:=i3 (l3++rest);obtain⟨e3,n1,n2,n3⟩:=j3 rest;refine⟨.clo f e1 e2::e3,by simp only[D5,Em0,k1,m1,n1],by simp[n2],fun af haf htr i e0 e0' u he0 he1 hu=> ?_⟩
          cases i with
          |zero=>
           simp only[Ek7,Option.some.injEq] at he0 he1;subst he0 he1;cases hu with
           |clo q1 q2 q3 q4=>
            refine .clo (by rw[k2,q1]) (by rw[m2,q2]) (fun i x v hx hv=> ?_) (fun i x v hx hv=> ?_)
            ·have hlt:i<fst.length:=by rw[← k2];exact (Ej8.1 hx).1
             exact k3 af (fun p hp=>haf p (j2 p (i2 p hp))) htr i _ x v (Ej7 hlt) hx (q3 i _ v (Ej7 hlt) hv)
            ·have hlt:i<caps.length:=by rw[← m2];exact (Ej8.1 hx).1
             exact m3 af (fun p hp=>haf p (j2 p hp)) htr i _ x v (Ej7 hlt) hx (q4 i _ v (Ej7 hlt) hv)
          |succ i=>exact n3 af haf htr i e0 e0' u (by simpa using he0) (by simpa using he1) hu
         ·cases h
        ·cases h
       ·cases h
      ·cases h
     |_=>simp only[B7] at h;cases h
    |sl pp=>
     simp only[D8,Ek0] at hp;obtain⟨⟨hd,hpp⟩,hps⟩:=hp;cases e with
     |sl es1=>
      simp only[B7] at h;split at h
      ·rename_i l1 a1 h1
       split at h
       ·rename_i l3 a3 h3
        cases h;obtain⟨g1,g2,g3⟩:=ih deep pp es1 a l1 a1 h1 hpp;obtain⟨j1,j2,j3⟩:=ih deep ps es a1 l3 a' h3 hps;refine⟨fun h=>j1 (g1 h),fun p hp=>j2 p (g2 p hp),fun rest=> ?_⟩
        obtain⟨e1,k1,k2,k3⟩:=g3 (l3++rest);obtain⟨e3,n1,n2,n3⟩:=j3 rest;refine⟨.sl e1::e3,by simp only[D5,Em0,k1,n1],by simp[n2],fun af haf htr i e0 e0' u he0 he1 hu=> ?_⟩
        cases i with
        |zero=>
         simp only[Ek7,Option.some.injEq] at he0 he1;subst he0 he1;cases hu with
         |sl q0 q1 qs qb q2 q3=>
          rw[← k2] at q0 q1 qs q3 ⊢;refine .sl q0 q1 (htr.st _ _ qs) qb (fun i x v hx hv=> ?_) q3
          have hlt:i<es1.length:=by rw[← k2];exact (Ej8.1 hx).1
          exact k3 af (fun p hp=>haf p (j2 p hp)) htr i _ x v (Ej7 hlt) hx (q2 i _ v (Ej7 hlt) hv)
        |succ i=>exact n3 af haf htr i e0 e0' u (by simpa using he0) (by simpa using he1) hu
       ·cases h
      ·cases h
     |_=>simp only[B7] at h;cases h
    |rp pp off=>
     simp only[D8,Ek0] at hp;obtain⟨⟨hd,hpp⟩,hps⟩:=hp;cases e with
     |rp es1 off'=>
      simp only[B7] at h;split at h
      ·rename_i hoff
       have hoff:=Ej9 hoff;subst hoff;split at h
       ·rename_i l1 a1 h1
        split at h
        ·rename_i l3 a3 h3
         cases h;obtain⟨g1,g2,g3⟩:=ih deep pp es1 a l1 a1 h1 hpp;obtain⟨j1,j2,j3⟩:=ih deep ps es a1 l3 a' h3 hps;refine⟨fun h=>j1 (g1 h),fun p hp=>j2 p (g2 p hp),fun rest=> ?_⟩
         obtain⟨e1,k1,k2,k3⟩:=g3 (l3++rest);obtain⟨e3,n1,n2,n3⟩:=j3 rest;refine⟨.rp e1 off::e3,by simp only[D5,Em0,k1,n1],by simp[n2],fun af haf htr i e0 e0' u he0 he1 hu=> ?_⟩
         cases i with
         |zero=>
          simp only[Ek7,Option.some.injEq] at he0 he1;subst he0 he1;cases hu with
          |rp q1 qs qb q2 q3=>
           rw[← k2] at q1 qs q3;refine .rp q1 (htr.st _ _ qs) qb (fun i x v hx hv=> ?_) q3
           have hlt:i<es1.length:=by rw[← k2];exact (Ej8.1 hx).1
           exact k3 af (fun p hp=>haf p (j2 p hp)) htr i _ x v (Ej7 hlt) hx (q2 i _ v (Ej7 hlt) hv)
         |succ i=>exact n3 af haf htr i e0 e0' u (by simpa using he0) (by simpa using he1) hu
        ·cases h
       ·cases h
      ·cases h
     |_=>simp only[B7] at h;cases h
    |skip=>
     simp only[D8,Ek0] at hp;have h:B7 n ps es a=some (l,a'):=by cases e <;> exact h
     obtain⟨g1,g2,g3⟩:=ih deep ps es a l a' h hp.2;refine⟨g1,g2,fun rest=> ?_⟩
     obtain⟨es',k1,k2,k3⟩:=g3 rest;refine⟨.undef::es',by simp only[D5,k1],by simp[k2],fun af haf htr i e0 e1 u he0 he1 hu=> ?_⟩
     cases i with
     |zero=>
      simp only[Ek7,Option.some.injEq] at he0 he1;subst he1;exact .undef _
     |succ i=>exact k3 af haf htr i e0 e1 u (by simpa using he0) (by simpa using he1) hu
theorem AQ8:∀(t:Ty) (es:List EV) (x:t.den),J2 t es=some x→(∀e∈es,∃t v,e = .dat t v)→A8 t es.length x=es:=by
 have one:∀(t:Ty) (e:EV) (x:t.den),e.to t=some x→(∃t v,e = .dat t v)→EV.dat t x=e:=by
  rintro t e x h ⟨t',v,rfl⟩
  rcases Ah1 h with h |⟨h,_⟩|⟨_,_,_,h,_⟩
  ·exact h.symm
  ·cases h
  ·cases h
 intro t
 induction t with
 |unit=>
  intro es x h _;cases es with
  |nil=>rfl
  |cons e r=>simp only[J2] at h;cases h
 |pair a b iha ihb=>
  intro es x h hd;cases es with
  |nil=>simp only[J2] at h;cases h
  |cons e r=>
   cases r with
   |nil=>
    simp only[J2] at h;simp only[Eo9,En1,A8,one _ _ _ h (hd e (by simp))]
   |cons e' r=>
    simp only[J2] at h;split at h
    ·rename_i x1 h1
     split at h
     ·rename_i x2 h2
      cases h;have h3:=ihb (e'::r) x2 h2 (fun y hy=>hd y (by simp[hy]))
      simp only[Eo9] at h3 ⊢;simp only[A8];rw[h3,one _ _ _ h1 (hd e (by simp))]
     ·cases h
    ·cases h
 |_=>
  intro es x h hd;cases es with
  |nil=>simp only[J2] at h;cases h
  |cons e r=>
   cases r with
   |nil=>
    simp only[J2] at h;simp only[Eo9,En1,A8,one _ _ _ h (hd e (by simp))]
   |cons e' r=>simp only[J2] at h;cases h
theorem AF2:∀(n:Nat) (ps:List PT) (es:List EV) (a:List (Nat×Nat)) (l:List EV) (a':List (Nat×Nat)),B7 n ps es a=some (l,a')→∀e∈l,∃t v,e = .dat t v:=by
 intro n
 induction n with
 |zero=>intro ps es a l a' h;simp only[B7] at h;cases h
 |succ n ih=>
  intro ps es a l a' h;cases ps with
  |nil=>
   cases es with
   |nil=>simp only[B7] at h;cases h;simp
   |cons e es=>simp only[B7] at h;cases h
  |cons p ps=>
   cases es with
   |nil=>cases p <;> simp only[B7] at h <;> cases h
   |cons e es=>
    cases p with
    |dat t=>
     simp only[B7] at h;split at h
     ·split at h
      ·rename_i h1
       cases h;intro x hx;rcases Ek9.1 hx with rfl | hx
       ·exact⟨_,_,rfl⟩
       ·exact ih _ _ _ _ _ h1 x hx
      ·cases h
     ·cases h
    |own t=>
     simp only[B7] at h;split at h
     ·split at h
      ·rename_i h1
       cases h;intro x hx;rcases Ek9.1 hx with rfl | hx
       ·exact⟨_,_,rfl⟩
       ·exact ih _ _ _ _ _ h1 x hx
      ·cases h
     ·cases h
    |ref i off=>
     cases e with
     |ptr b off'=>
      simp only[B7] at h;split at h
      ·split at h
       ·split at h
        ·exact ih _ _ _ _ _ h
        ·cases h
       ·split at h
        ·cases h
        ·exact ih _ _ _ _ _ h
      ·cases h
     |_=>simp only[B7] at h;cases h
    |clo f pf pc=>
     cases e with
     |clo f' fst caps=>
      simp only[B7] at h;split at h
      ·split at h
       ·rename_i h1
        split at h
        ·rename_i h2
         split at h
         ·rename_i h3
          cases h;intro x hx;rcases Em5.1 hx with hx | hx
          ·exact ih _ _ _ _ _ h1 x hx
          ·rcases Em5.1 hx with hx | hx
           ·exact ih _ _ _ _ _ h2 x hx
           ·exact ih _ _ _ _ _ h3 x hx
         ·cases h
        ·cases h
       ·cases h
      ·cases h
     |_=>simp only[B7] at h;cases h
    |sl pp=>
     cases e with
     |sl es1=>
      simp only[B7] at h;split at h
      ·rename_i h1
       split at h
       ·rename_i h2
        cases h;intro x hx;rcases Em5.1 hx with hx | hx
        ·exact ih _ _ _ _ _ h1 x hx
        ·exact ih _ _ _ _ _ h2 x hx
       ·cases h
      ·cases h
     |_=>simp only[B7] at h;cases h
    |rp pp off=>
     cases e with
     |rp es1 off'=>
      simp only[B7] at h;split at h
      ·split at h
       ·rename_i h1
        split at h
        ·rename_i h2
         cases h;intro x hx;rcases Em5.1 hx with hx | hx
         ·exact ih _ _ _ _ _ h1 x hx
         ·exact ih _ _ _ _ _ h2 x hx
        ·cases h
       ·cases h
      ·cases h
     |_=>simp only[B7] at h;cases h
    |skip=>
     have h:B7 n ps es a=some (l,a'):=by cases e <;> exact h
     exact ih _ _ _ _ _ h

theorem O3 {l:List (Option (List EV))}{b:Nat}{cs:List EV}:A3 l b=some cs↔l[b]? = some (some cs):=by
 unfold A3;split
 ·rename_i cs' h;rw[h];simp
 ·rename_i h
  constructor
  ·intro h;cases h
  ·intro h';exact absurd h' (h cs)
theorem CS0:∀(n:Nat) (ps:List PT) (es:List EV) (a:List (Nat×Nat)) (l:List EV) (a':List (Nat×Nat)),B7 n ps es a=some (l,a')→D8 false n ps=true→(∀p∈a,p∈a')∧
  ∀(k i off:Nat),ps[k]? = some (.ref i off)→∃b,es[k]? = some (.ptr b off)∧(i,b)∈a':=by
 intro n
 induction n with
 |zero=>intro ps es a l a' h;simp only[B7] at h;cases h
 |succ n ih=>
  intro ps es a l a' h hp;cases ps with
  |nil=>
   cases es with
   |nil=>simp only[B7] at h;cases h;exact⟨fun _ h=>h,fun k i off h=>by simp at h⟩
   |cons e es=>simp only[B7] at h;cases h
  |cons p ps=>
   cases es with
   |nil=>cases p <;> simp only[B7] at h <;> cases h
   |cons e es=>
    cases p with
    |own t=>simp [D8] at hp
    |clo f b c=>simp [D8] at hp
    |sl b=>simp [D8] at hp
    |rp b off=>simp [D8] at hp
    |skip=>simp [D8] at hp
    |dat t=>
     simp only[D8] at hp;simp only[B7] at h;split at h
     ·split at h
      ·rename_i h1
       cases h;obtain⟨g1,g2⟩:=ih _ _ _ _ _ h1 hp;refine⟨g1,fun k i off hk=> ?_⟩
       cases k with
       |zero=>simp at hk
       |succ k=>exact g2 k i off (by simpa using hk)
      ·cases h
     ·cases h
    |ref i0 off0=>
     simp only[D8] at hp;cases e with
     |ptr b off'=>
      simp only[B7] at h;split at h
      ·rename_i hoff
       have hoff:=Ej9 hoff;subst hoff;split at h
       ·rename_i b' hb'
        split at h
        ·rename_i hbb
         have hbb:=Ej9 hbb;subst hbb;obtain⟨g1,g2⟩:=ih _ _ _ _ _ h hp;refine⟨g1,fun k i off hk=> ?_⟩
         cases k with
         |zero=>
          simp only[Ek7,Option.some.injEq,PT.ref.injEq] at hk;obtain⟨rfl,rfl⟩:=hk;exact⟨b,rfl,g1 _ (V3 _ _ _ hb')⟩
         |succ k=>exact g2 k i off (by simpa using hk)
        ·cases h
       ·split at h
        ·cases h
        ·obtain⟨g1,g2⟩:=ih _ _ _ _ _ h hp
         refine⟨fun p hp=>g1 p (by simp[hp]),fun k i off hk=> ?_⟩
         cases k with
         |zero=>
          simp only[Ek7,Option.some.injEq,PT.ref.injEq] at hk;obtain⟨rfl,rfl⟩:=hk;exact⟨b,rfl,g1 _ (by simp)⟩
         |succ k=>exact g2 k i off (by simpa using hk)
      ·cases h
     |_=>simp only[B7] at h;cases h
theorem BH5 {rd:Nat→Option (List EV)}:∀(bs:List (List PT)) (i:Nat) (a:List (Nat×Nat)) (l:List EV) (a':List (Nat×Nat)),W3 rd i bs a=some (l,a')→bs.all (D8 false 200)=true→
  (F0 a→F0 a')∧(∀p∈a,p∈a')∧(P0 bs l).length=bs.length∧
   ∀j,j<bs.length→∃b cs cs',(i+j,b)∈a'∧rd b=some cs∧(P0 bs l)[j]? = some (some cs')∧cs'.length=cs.length∧
    (∀(ow ow':Nat→A1) (bx bx':Bx) (w:World),Ah5 a' ow bx ow' bx'→∀(k:Nat) e e' v,cs[k]? = some e→cs'[k]? = some e'→A0 ow bx w e v→A0 ow' bx' w e' v)∧
    ∀(k i' off:Nat) pts,bs[j]? = some pts→pts[k]? = some (.ref i' off)→∃b',cs[k]? = some (.ptr b' off)∧(i',b')∈a'
 | [],i,a,l,a',h,_=>by simp only[W3] at h;cases h;exact⟨id,fun _ h=>h,rfl,fun j hj=>absurd hj (by simp)⟩
 |pts::r,i,a,l,a',h,hp=>by
  simp only[List.all_cons,Ek0] at hp;simp only[W3] at h;split at h
  ·rename_i b hb
   split at h
   ·rename_i cs hcs
    split at h
    ·rename_i l1 a1 h1
     split at h
     ·rename_i l2 a2 h2
      cases h;obtain⟨j1,j2,j3,j4⟩:=BH5 r (i+1) a1 l2 a' h2 hp.2;have hmem:(i,b)∈a':=by
       have hm:=(AK6 (ow:=fun _=>.B8) (ow':=fun _=>.B8) (bx:=⟨id,fun _=>false,fun _=>none⟩) (bx':=⟨id,fun _=>false,fun _=>none⟩) (w:=default) 200 false pts cs a l1 a1 h1 hp.1).2.1
       exact j2 _ (hm _ (V3 _ _ _ hb))
      have hok:=(AK6 (ow:=fun _=>.B8) (ow':=fun _=>.B8) (bx:=⟨id,fun _=>false,fun _=>none⟩) (bx':=⟨id,fun _=>false,fun _=>none⟩) (w:=default) 200 false pts cs a l1 a1 h1 hp.1)
      obtain⟨es0,f1,f2,_⟩:=hok.2.2 l2;have hfb:P0 (pts::r) (l1++l2)=some es0::P0 r l2:=by simp only[P0,f1]
      refine⟨fun h=>j1 (hok.1 h),fun p hp=>j2 p (hok.2.1 p hp),by rw[hfb];simp[j3],fun j hj=> ?_⟩
      cases j with
      |zero=>
       refine⟨b,cs,es0,hmem,hcs,by rw[hfb];rfl,f2,fun ow ow' bx bx' w htr=> ?_,fun k i' off pts' hpt hk=> ?_⟩
       rotate_left
       ·simp at hpt
        subst hpt;obtain⟨b',q1,q2⟩:=(CS0 200 pts cs a l1 a1 h1 hp.1).2 k i' off hk;exact⟨b',q1,j2 _ q2⟩
       obtain⟨es1,f1',_,f3⟩:=(AK6 (ow:=ow) (ow':=ow') (bx:=bx) (bx':=bx') (w:=w) 200 false pts cs a l1 a1 h1 hp.1).2.2 l2;have e:es1=es0:=by rw[f1] at f1';cases f1';rfl
       subst e;exact f3 a' j2 htr
      |succ j=>
       obtain⟨b',cs',cs'',k1,k2,k3,k4,k5,k6⟩:=j4 j (by simpa using hj)
       exact⟨b',cs',cs'',by rw[show i+(j+1)=i+1+j by omega];exact k1,k2,by rw[hfb];simpa using k3,k4,k5,fun k i' off pts' hpt hk=>k6 k i' off pts' (by simpa using hpt) hk⟩
     ·cases h
    ·cases h
   ·cases h
  ·cases h
theorem CS1:∀(n:Nat) (ps:List PT) (cs new out rest:List EV),G0 ps cs new=some (out,rest)→D8 false n ps=true→ps.length<n→
  ∃es',D5 n ps new=(es',rest)∧es'.length=out.length∧out.length=cs.length∧
   ∀(k:Nat) e e',out[k]? = some e→es'[k]? = some e'→((e=e'∧e'∈new)∨∃i off,ps[k]? = some (.ref i off)∧e' = .ptr i off∧cs[k]? = some e):=by
 intro n
 induction n with
 |zero=>intro ps cs new out rest h hp hn;omega
 |succ n ih=>
  intro ps cs new out rest h hp hn;cases ps with
  |nil=>
   cases cs with
   |nil=>
    simp only[G0] at h;cases h;exact⟨[],rfl,rfl,rfl,fun k e e' he=>by simp at he⟩
   |cons c cs=>simp only[G0] at h;cases h
  |cons p ps=>
   cases cs with
   |nil=>cases p <;> simp only[G0] at h <;> cases h
   |cons c cs=>
    cases p with
    |own t=>simp [D8] at hp
    |clo f a b=>simp [D8] at hp
    |sl b=>simp [D8] at hp
    |rp b off=>simp [D8] at hp
    |skip=>simp [D8] at hp
    |dat t=>
     simp only[D8] at hp;cases new with
     |nil=>simp only[G0] at h;cases h
     |cons x new=>
      simp only[G0] at h;split at h
      ·rename_i l r h1
       cases h;obtain⟨es',g1,g2,g3,g4⟩:=ih ps cs new l rest h1 hp (by simp at hn;omega)
       refine⟨x::es',by simp only[D5,g1],by simp[g2],by simp[g3],fun k e e' he he'=> ?_⟩
       cases k with
       |zero=>simp at he he';subst he;exact .inl ⟨he',by simp[he']⟩
       |succ k=>
        rcases g4 k e e' (by simpa using he) (by simpa using he') with h |⟨i,off,h1,h2,h3⟩
        ·exact .inl ⟨h.1,by simp[h.2]⟩
        ·exact .inr ⟨i,off,by simpa using h1,h2,by simpa using h3⟩
      ·cases h
    |ref i off=>
     simp only[D8] at hp;simp only[G0] at h;split at h
     ·rename_i l r h1
      cases h;obtain⟨es',g1,g2,g3,g4⟩:=ih ps cs new l rest h1 hp (by simp at hn;omega)
      refine⟨.ptr i off::es',by simp only[D5,g1],by simp[g2],by simp[g3],fun k e e' he he'=> ?_⟩
      cases k with
      |zero=>
       simp at he he';subst he he';exact .inr ⟨i,off,rfl,rfl,rfl⟩
      |succ k=>
       rcases g4 k e e' (by simpa using he) (by simpa using he') with h |⟨i',off',h1,h2,h3⟩
       ·exact .inl h
       ·exact .inr ⟨i',off',by simpa using h1,h2,by simpa using h3⟩
     ·cases h

def z7 (a:List (Nat×Nat))(b:Nat):Option Nat:=match a with
 | []=>none
 | (k,c)::r=>if c=b then some k else z7 r b
theorem z8:∀(a:List (Nat×Nat)) (b i:Nat),z7 a b=some i→(i,b)∈a
 | [],_,_,h=>by cases h
 | (k,c)::r,b,i,h=>by
  simp only[z7] at h;split at h
  ·rename_i hc;cases h;subst hc;simp
  ·exact Em1 _ (z8 r b i h)
theorem At4:∀(a:List (Nat×Nat)) (b i:Nat),(i,b)∈a→∃j,z7 a b=some j
 | [],_,_,h=>by simp at h
 | (k,c)::r,b,i,h=>by
  simp only[z7];split
  ·exact⟨k,rfl⟩
  ·rename_i hc
   rcases Ek9.1 h with e | h
   ·cases e;exact absurd rfl hc
   ·exact At4 r b i h
theorem AZ3:∀(n:Nat) (a:List (Nat×Nat)),AE2 n a=true→∀i b,(i,b)∈a→i<n
 |n,[],_,_,_,h=>by simp at h
 |n,(k,c)::r,h,i,b,hm=>by
  simp only[AE2,Ek0] at h;rcases Ek9.1 hm with e | hm
  ·cases e;exact Ek2 h.1
  ·exact AZ3 n r h.2 i b hm
def B5 (a:List (Nat×Nat))(ow:Nat→A1):Nat→A1:=fun blk=>match ow blk with
 | .E4=>.E4
 | .box b=>match z7 a b with
  |some i=>.box i
  |none=>.B8
 | .tok _ fr=>.part fr
 | .part fr=>.part fr
 | .B8=>.B8
def H7 (a:List (Nat×Nat))(bx:Bx):Bx:=⟨fun i=>match J3 a i with
 |some b=>bx b
 |none=>0,fun _=>false,fun _=>none⟩
theorem AZ4 {a:List (Nat×Nat)}{ow:Nat→A1}{blk n:Nat}(h:A5 ow blk n):A5 (B5 a ow) blk n:=by
 rcases L4 h with h |⟨k,fr,h,hn⟩|⟨fr,h,hn⟩
 ·exact L3 (by simp[B5,h])
 ·exact X0 (by simp[B5,h]) hn
 ·exact X0 (by simp[B5,h]) hn
theorem At5 {a:List (Nat×Nat)}(ha:F0 a)(ow:Nat→A1)(bx:Bx):Ah5 a ow bx (B5 a ow) (H7 a bx):=by
 refine⟨fun blk n h=>AZ4 h,fun i b hm hb=>⟨by simp[H7,ha.key i b hm],?_⟩⟩
 obtain⟨j,hj⟩:=At4 a b i hm;have:j=i:=ha.inj j i b (z8 a b j hj) hm;simp[B5,hb,hj,this]
theorem CS2:∀(l:List EV) {ow ow':Nat→A1} {bx bx':Bx} {w:World} {v:Value},(∀e∈l,∃t x,e = .dat t x)→(∀blk n,A5 ow blk n→A5 ow' blk n)→A0 ow bx w (H2 l) v→A0 ow' bx' w (H2 l) v:=by
 intro l ow ow' bx bx' w v hd hst h;have one:∀e v,(∃t x,e=EV.dat t x)→A0 ow bx w e v→A0 ow' bx' w e v:=by
  rintro e v ⟨t,x,rfl⟩ h
  cases h with
  |dat h=>exact .dat (h.keep (E9.of fun blk n hs=>⟨hst blk n hs,rfl⟩))
 unfold H2 at h ⊢;split at h
 ·exact one _ _ (hd _ (by simp)) h
 ·cases h with
  |tup h1 h2=>exact .tup h1 fun i e v he hv=>one e v (hd e (El1 he)) (h2 i e v he hv)
theorem BH6:∀(t:Ty) (n:Nat) (x:t.den),∀e∈A8 t n x,∃t v,e = .dat t v:=by
 intro t
 induction t with
 |pair a b iha ihb=>
  intro n x e he;cases n with
  |zero=>simp [A8] at he
  |succ n=>
   cases n with
   |zero=>simp [A8] at he;exact⟨_,_,he⟩
   |succ n=>
    simp only[A8] at he;rcases Ek9.1 he with he | he
    ·exact⟨_,_,he⟩
    ·exact ihb _ _ e he
 |_=>
  intro n x e he;cases n with
  |zero=>simp [A8] at he
  |succ n=>simp [A8] at he;exact⟨_,_,he⟩
theorem CS3:∀(ps:List PT) (cs new out rest:List EV),G0 ps cs new=some (out,rest)→∀e∈rest,e∈new:=by
 intro ps
 induction ps with
 |nil=>
  intro cs new out rest h;cases cs with
  |nil=>simp only[G0] at h;cases h;exact fun e he=>he
  |cons c cs=>simp only[G0] at h;cases h
 |cons p ps ih=>
  intro cs new out rest h;cases cs with
  |nil=>cases p <;> simp only[G0] at h <;> cases h
  |cons c cs=>
   cases p with
   |own t=>simp only[G0] at h;cases h
   |dat t=>
    cases new with
    |nil=>simp only[G0] at h;cases h
    |cons x new=>
     simp only[G0] at h;split at h
     ·rename_i h1;cases h;exact fun e he=>Em1 _ (ih _ _ _ _ h1 e he)
     ·cases h
   |ref i off=>
    simp only[G0] at h;split at h
    ·rename_i h1;cases h;exact ih _ _ _ _ h1
    ·cases h
   |sl b=>simp only[G0] at h;cases h
   |rp b off=>simp only[G0] at h;cases h
   |skip=>simp only[G0] at h;cases h
   |clo f a b=>
    simp only[G0] at h;split at h
    ·rename_i h1;cases h;exact ih _ _ _ _ h1
    ·cases h
theorem BH7 {rd:Nat→Option (List EV)}{asg:List (Nat×Nat)}:∀(bs:List (List PT)) (i:Nat) (new:List EV) (ws:List Wr),AB4 rd asg i bs new=some ws→bs.all (D8 false 200)=true→(∀p∈bs,p.length<200)→
  ws.length=bs.length∧(P0 bs new).length=bs.length∧∀j,j<bs.length→∃b cs out es',J3 asg (i+j)=some b∧rd b=some cs∧ws[j]? = some ⟨b,0,out⟩∧(P0 bs new)[j]? = some (some es')∧es'.length=out.length∧out.length=cs.length∧
   ∀(k:Nat) e e',out[k]? = some e→es'[k]? = some e'→((e=e'∧e'∈new)∨∃i' off pts,bs[j]? = some pts∧pts[k]? = some (.ref i' off)∧e' = .ptr i' off∧cs[k]? = some e)
 | [],i,new,ws,h,_,_=>by simp only[AB4] at h;cases h;exact⟨rfl,rfl,fun j hj=>absurd hj (by simp)⟩
 |pts::r,i,new,ws,h,hp,hl=>by
  simp only[List.all_cons,Ek0] at hp;simp only[AB4] at h;split at h
  ·rename_i b hb
   split at h
   ·rename_i cs hcs
    split at h
    ·rename_i l rest hr
     split at h
     ·rename_i ws' hws
      cases h;obtain⟨es',g1,g2,g3,g4⟩:=CS1 200 pts cs new l rest hr hp.1 (hl pts (by simp))
      have hsub:∀e∈rest,e∈new:=CS3 pts cs new l rest hr;obtain⟨k1,k2,k3⟩:=BH7 r (i+1) rest ws' hws hp.2 (fun p hp=>hl p (by simp[hp]))
      have hfb:P0 (pts::r) new=some es'::P0 r rest:=by simp only[P0,g1]
      refine⟨by simp[k1],by rw[hfb];simp[k2],fun j hj=> ?_⟩
      cases j with
      |zero=>
       refine⟨b,cs,l,es',hb,hcs,rfl,by rw[hfb];rfl,g2,g3,fun k e e' he he'=> ?_⟩
       rcases g4 k e e' he he' with h |⟨i',off,h1,h2,h3⟩
       ·exact .inl h
       ·exact .inr ⟨i',off,pts,rfl,h1,h2,h3⟩
      |succ j=>
       obtain⟨b',cs',out,es'',q1,q2,q3,q4,q5,q6,q7⟩:=k3 j (by simpa using hj)
       refine⟨b',cs',out,es'',by rw[show i+(j+1)=i+1+j by omega];exact q1,q2,by simpa using q3,by rw[hfb];simpa using q4,q5,q6,fun k e e' he he'=> ?_⟩
       rcases q7 k e e' he he' with h |⟨i',off,pts',h0,h1,h2,h3⟩
       ·exact .inl ⟨h.1,hsub _ h.2⟩
       ·exact .inr ⟨i',off,pts',by simpa using h0,h1,h2,h3⟩
     ·cases h
    ·cases h
   ·cases h
  ·cases h
theorem AZ5:∀(ws:List Wr) (bg:Nat→Option (List EV)) (b:Nat),(∀x∈ws,x.b≠b)→ws.foldl K6 bg b=bg b
 | [],_,_,_=>rfl
 |x::r,bg,b,h=>by
  simp only[En8];rw[AZ5 r _ b (fun y hy=>h y (by simp[hy]))]
  unfold K6;rw[if_neg (fun e=>h x (by simp) e.symm)]
theorem AZ6:∀(ws:List Wr) (bg:Nat→Option (List EV)) (b:Nat),(ws.foldl K6 bg b).isSome=(bg b).isSome
 | [],_,_=>rfl
 |x::r,bg,b=>by simp only[En8];rw[AZ6 r _ b];unfold K6;split <;> simp
theorem BH8:∀(ws:List Wr) (bg:Nat→Option (List EV)) (b:Nat) (out cs:List EV) (j:Nat),ws[j]? = some ⟨b,0,out⟩→bg b=some cs→out.length=cs.length→
  (∀(k:Nat) x,ws[k]? = some x→x.b=b→k=j)→ws.foldl K6 bg b=some out
 | [],_,_,_,_,j,h,_,_,_=>by simp at h
 |x::r,bg,b,out,cs,j,h,hb,hl,hu=>by
  simp only[En8];cases j with
  |zero=>
   simp at h;subst h;rw[AZ5 r _ b (fun y hy e=>by
    obtain⟨k,hk⟩:=El6 hy;have:=hu (k+1) y (by simpa using hk) e
    omega)]
   unfold K6;simp only[if_true,hb,Ek6,M1];simp[← hl]
  |succ j=>
   have hx:x.b≠b:=fun e=>by have:=hu 0 x rfl e;omega
   refine BH8 r _ b out cs j (by simpa using h) ?_ hl (fun k y hk e=>by have:=hu (k+1) y (by simpa using hk) e;omega)
   unfold K6;rw[if_neg (fun e=>hx e.symm)]
   exact hb

theorem CS4 {P:Program}{c:Con}(hc:M4 P c){es l l':List EV}{a a':List (Nat×Nat)}{rd:Nat→Option (List EV)}{x:c.ins.den}{y:c.outs.den}{ws:List Wr}
  (h1:B7 200 c.ps es []=some (l,a)) (h2:W3 rd 0 c.boxes a=some (l',a')) (hp:Aq5 c (l++l').length a'=true) (h3:J2 c.ins (l++l')=some x) (h4:c.F x=some y)
  (h5:AB4 rd a' 0 c.boxes ((A8 c.outs c.A2 y).drop c.rs.length)=some ws)
  {B:E5} {ow:Nat→A1} {bx:Bx} {nb:Nat} {bg:Nat→Option (List EV)} {w:World} {args:Array Value} (id:Nat) (hi:Inv B ow bx nb bg w) (hargs:S2 ow bx w es args)
  (hrd:∀b∈a'.map (·.2),bg b=rd b):
  Calls P c.f args w fun e w'=>∃v ow',e = .returned v∧E0 ow bx w ow' bx w'∧A0 ow' bx w' (H2 ((A8 c.outs c.A2 y).take c.rs.length)) v∧Inv B ow' bx nb (upd bg id none ws) w':=by
 simp only[Aq5,Ek0] at hp;obtain⟨⟨⟨⟨⟨⟨hps,hbs⟩,hbl⟩,hrs⟩,hnin⟩,hbel⟩,hnout⟩:=hp;have hnin:=Ej9 hnin;obtain⟨m1,m2,m3⟩:=AK6 (ow:=ow) (ow':=B5 a' ow) (bx:=bx) (bx':=H7 a' bx) (w:=w) 200 true c.ps es [] l a h1 hps;obtain⟨b1,b2,b3,b4⟩:=BH5 c.boxes 0 a l' a' h2 hbs;have hok:F0 a':=b1 (m1 .nil);have htr:=At5 hok ow bx;obtain⟨es',f1,f2,f3⟩:=m3 l'
 have hun:A8 c.ins c.nin x=l++l':=by
  have:=AQ8 c.ins (l++l') x h3 (fun e he=>by
   rcases Em5.1 he with he | he
   ·exact AF2 _ _ _ _ _ _ h1 e he
   ·have:∀(bs:List (List PT)) (i:Nat) (a:List (Nat×Nat)) (l:List EV) (a':List (Nat×Nat)),W3 rd i bs a=some (l,a')→∀e∈l,∃t v,e=EV.dat t v:=by
     intro bs
     induction bs with
     |nil=>intro i a l a' h;simp only[W3] at h;cases h;simp
     |cons pts r ih=>
      intro i a l a' h;simp only[W3] at h;split at h
      ·split at h
       ·split at h
        ·rename_i hm
         split at h
         ·rename_i hr
          cases h;intro e he;rcases Em5.1 he with he | he
          ·exact AF2 _ _ _ _ _ _ hm e he
          ·exact ih _ _ _ _ hr e he
         ·cases h
        ·cases h
       ·cases h
      ·cases h
    exact this _ _ _ _ _ h2 e he)
  rw[hnin] at this;exact this
 have hargs0:c.G7 x=es':=by unfold Con.G7;rw[hun,f1]
 have hboxes0:c.L0 x=P0 c.boxes l':=by unfold Con.L0;rw[hun,f1]
 have hbelow:=AZ3 _ _ hbel;have hbox:∀i,i<c.boxes.length→∃b cs cs',(i,b)∈a'∧bg b=some cs∧(P0 c.boxes l')[i]? = some (some cs')∧cs'.length=cs.length∧
   (∀(k:Nat) e e' v,cs[k]? = some e→cs'[k]? = some e'→A0 ow bx w e v→A0 (B5 a' ow) (H7 a' bx) w e' v)∧
   ∀(k i' off:Nat) pts,c.boxes[i]? = some pts→pts[k]? = some (.ref i' off)→∃b',cs[k]? = some (.ptr b' off)∧(i',b')∈a':=by
  intro i hlt;obtain⟨b,cs,cs',k1,k2,k3,k4,k5,k6⟩:=b4 i hlt;rw[El3] at k1;refine⟨b,cs,cs',k1,?_,k3,k4,k5 ow _ bx _ w htr,k6⟩;rw[hrd b (En3.2 ⟨(i,b),k1,rfl⟩)];exact k2
 have hcall:∀blk i,B5 a' ow blk = .box i→∃b,(i,b)∈a'∧ow blk = .box b∧blk=bx b:=by
  intro blk i h;unfold B5 at h;split at h
  ·cases h
  ·rename_i b hb
   split at h
   ·rename_i j hj
    cases h;exact⟨b,z8 _ _ _ hj,hb,(hi.back blk b hb).1⟩
   ·cases h
  ·cases h
  ·cases h
  ·cases h
 have hnotok:∀blk k fr,B5 a' ow blk≠ .tok k fr:=by
  intro blk k fr h;unfold B5 at h;split at h
  ·cases h
  ·split at h <;> cases h
  ·cases h
  ·cases h
  ·cases h
 have hglob:O1 (B5 a' ow) w:=hi.AQ6.keep (.of fun blk n h=>⟨AZ4 h,rfl⟩)
 have hinv:Inv ⟨w,fun blk=>∃b,B5 a' ow blk = .box b,B5 a' ow,c.boxes.length,H7 a' bx,hglob⟩ (B5 a' ow) (H7 a' bx) c.boxes.length (A3 (c.L0 x)) w:=by
  rw[hboxes0];constructor
  ·intro i cs' hcs'
   rw[O3] at hcs';have hlt:i<c.boxes.length:=by rw[← b3];exact (Ej8.1 hcs').1
   obtain⟨b,cs,cs'',k1,k2,k3,k4,k5,_⟩:=hbox i hlt;rw[hcs'] at k3;cases k3;obtain⟨g1,c0,T,g2,g3⟩:=hi.box b cs k2;obtain⟨t1,t2⟩:=htr.bo i b k1 g1;refine⟨by rw[t1];exact t2,c0,T,by rw[t1];exact g2,by rw[k4,g3.1],fun k e v he hv=> ?_⟩
   have hklt:k<cs.length:=by rw[← k4];exact (Ej8.1 he).1
   exact⟨k5 k _ e v (Ej7 hklt) he (g3.2 k _ v (Ej7 hklt) hv).1,(g3.2 k _ v (Ej7 hklt) hv).2⟩
  ·intro blk i h
   obtain⟨b,k1,k2,k3⟩:=hcall blk i h;have hlt:=hbelow i b k1;obtain⟨t1,t2⟩:=htr.bo i b k1 (by rw[← k3];exact k2)
   refine⟨by rw[t1];exact k3,?_,hlt⟩
   obtain⟨_,_,cs'',_,_,j3,_⟩:=hbox i hlt;rw[O3.2 j3];rfl
  ·intro blk h
   refine hi.here blk fun e=>h ?_
   simp[B5,e]
  ·intro blk _ h
   exact⟨rfl,rfl,fun b hb=>h ⟨b,hb⟩,hnotok blk⟩
  ·exact Em2 _
  ·exact⟨rfl,rfl,rfl⟩
  ·intro i hlt
   obtain⟨_,_,cs'',_,_,j3,_⟩:=hbox i hlt;exact⟨rfl,by rw[O3.2 j3];rfl⟩
  ·exact .refl _ _
  ·exact fun j h=>by simp[H7] at h
 have hrepl:S2 (B5 a' ow) (H7 a' bx) w (c.G7 x) args:=by
  rw[hargs0];refine⟨by rw[f2];exact hargs.1,fun i e v he hv=> ?_⟩
  have hlt:i<es.length:=by rw[← f2];exact (Ej8.1 he).1
  exact f3 a' b2 htr i _ e v (Ej7 hlt) he (hargs.2 i _ v (Ej7 hlt) hv)
 refine (hc.go x y h4 w (B5 a' ow) (H7 a' bx) args hglob (fun _=>rfl) hinv hrepl).mono fun e w' ⟨v,ow',he,hinv',hv⟩=> ?_
 subst he;have hsz:=hinv'.size;simp only at hsz
 let ow2:Nat→A1:=fun blk=>if blk<w.heap.size then ow blk else match ow' blk with | .E4=>.E4 | .tok _ _=>.E4 | .part _=>.E4 | _=>.B8
 have hM:∀blk b,ow blk = .box b→(∀i,(i,b)∉a')→B5 a' ow blk = .B8:=by
  intro blk b hb hn;unfold B5;rw[hb];simp only;split
  ·rename_i j hj;exact absurd (z8 _ _ _ hj) (hn j)
  ·rfl
 have hold:∀blk,blk<w.heap.size→(∀b,B5 a' ow blk≠ .box b)→w'.heap[blk]? = w.heap[blk]? ∧ow' blk=B5 a' ow blk:=by
  intro blk hlt h;obtain⟨g1,g2,_⟩:=hinv'.old blk hlt (fun ⟨b,hb⟩=>h b hb)
  exact⟨g1,g2⟩
 have hback:∀blk n,A5 (B5 a' ow) blk n→A5 ow blk n:=by
  intro blk n h;cases hb:ow blk with
  |E4=>exact L3 hb
  |tok k fr=>rcases L4 h with h |⟨_,_,h,_⟩|⟨fr',h,hn⟩ <;> simp[B5,hb] at h;subst h;exact u7 hb hn
  |part fr=>rcases L4 h with h |⟨_,_,h,_⟩|⟨fr',h,hn⟩ <;> simp[B5,hb] at h;subst h;exact X0 hb hn
  |B8=>rcases L4 h with h |⟨_,_,h,_⟩|⟨fr',h,hn⟩ <;> simp[B5,hb] at h
  |box b=>
   rcases L4 h with h |⟨_,_,h,_⟩|⟨fr',h,hn⟩ <;> (simp only[B5,hb] at h;split at h <;> cases h)
 have hst2:∀blk n,A5 ow' blk n→A5 ow2 blk n:=by
  intro blk n h;by_cases hlt:blk<w.heap.size
  ·refine Z2 (ow:=ow) (hback blk n ?_) (by simp only[ow2,if_pos hlt])
   by_cases hm:∀b,B5 a' ow blk≠ .box b
   ·exact Z2 h (hold blk hlt hm).2.symm
   ·exfalso
    obtain⟨i,hcb⟩:∃i,B5 a' ow blk = .box i:=Eo5 fun hn=>hm fun b hb=>hn ⟨b,hb⟩
    obtain⟨b,k1,k2,k3⟩:=hcall blk i hcb;have hlt':=hbelow i b k1;obtain⟨t1,t2⟩:=htr.bo i b k1 (by rw[← k3];exact k2)
    obtain⟨k1',k2',k3'⟩:=BH7 c.boxes 0 _ ws h5 hbs (fun p hp=>Ek2 (List.all_eq_true.1 hbl p hp))
    obtain⟨b',cs',out',es'',q1,q2,q3,q4,_⟩:=k3' i hlt';have:=(hinv'.box i es'' (O3.2 q4)).1;rw[t1,← k3] at this;exact As6 h i this
  ·refine L3 ?_
   simp only[ow2,if_neg hlt];rcases L4 h with h |⟨_,_,h,_⟩|⟨fr',h,hn⟩ <;> rw[h]
 have hkeep:E0 ow bx w ow2 bx w':=by
  refine⟨.of fun blk n h=> ?_,fun blk k fr h _=> ?_,fun _ h=>h,fun b h=> ?_,fun _ _ h=>h⟩
  ·have hlt:=hi.here blk (AK1 h)
   exact⟨Z2 h (by simp only[ow2,if_pos hlt]),(hold blk hlt (As6 (AZ4 h))).1⟩
  ·have hlt:=hi.here blk (by rw[h];intro e;cases e)
   exact⟨by simp only[ow2,if_pos hlt];exact h,(hold blk hlt (by simp[B5,h])).1⟩
  ·have hlt:=hi.here (bx b) (by rw[h];intro e;cases e)
   exact⟨rfl,by simp only[ow2,if_pos hlt];exact h⟩
 have hdat:∀e∈A8 c.outs c.A2 y,∃t v,e=EV.dat t v:=BH6 _ _ _;have hv2:A0 ow2 bx w' (H2 ((A8 c.outs c.A2 y).take c.rs.length)) v:=by unfold Con.res at hv;exact CS2 _ (fun e he=>hdat e (Eq1 he)) hst2 hv
 refine⟨v,ow2,rfl,hkeep,hv2,?_⟩;obtain⟨k1,k2,k3⟩:=BH7 c.boxes 0 _ ws h5 hbs (fun p hp=>Ek2 (List.all_eq_true.1 hbl p hp))
 have hws:∀j,j<c.boxes.length→∃b out,(j,b)∈a'∧ws[j]? = some ⟨b,0,out⟩:=by intro j hj;obtain⟨b,cs,out,es'',q1,q2,q3,_⟩:=k3 j hj;rw[El3] at q1;exact⟨b,out,V3 _ _ _ q1,q3⟩
 have hwsb:∀(k:Nat) x,ws[k]? = some x→(k,x.b)∈a':=by
  intro k x hx;have hk:k<c.boxes.length:=by rw[← k1];exact (Ej8.1 hx).1
  obtain⟨b,out,g1,g2⟩:=hws k hk;rw[hx] at g2;cases g2;exact g1
 constructor
 ·intro b cs2 hb2
  simp only[upd,P2] at hb2;by_cases hin:∃i,(i,b)∈a'
  ·obtain⟨i,hi'⟩:=hin
   have hlt:=hbelow i b hi';obtain⟨b',cs,out,es'',q1,q2,q3,q4,q5,q6,q7⟩:=k3 i hlt;rw[El3,hok.key i b hi'] at q1;cases q1;obtain⟨b0,cs0,cs0',p1,p2,p3,p4,p5,p6⟩:=hbox i hlt;have:b0=b:=by have:=hok.key i b0 p1;rw[hok.key i b hi'] at this;cases this;rfl
   subst this;have hrdb:rd b0=bg b0:=(hrd b0 (En3.2 ⟨(i,b0),hi',rfl⟩)).symm;have hcs:cs=cs0:=by rw[hrdb,p2] at q2;cases q2;rfl
   subst hcs;rw[BH8 ws bg b0 out cs i q3 p2 q6 (fun k x hx he=>by have:=hwsb k x hx;rw[he] at this;exact hok.inj k i b0 this hi')] at hb2
   cases hb2;obtain⟨g1,c0,T,g2,g3⟩:=hi.box b0 cs p2;obtain⟨t1,t2⟩:=htr.bo i b0 hi' g1;obtain⟨r1,c1,T1,r2,r3⟩:=hinv'.box i es'' (O3.2 q4);rw[t1] at r1 r2;have hltb:=hi.here (bx b0) (by rw[g1];intro e;cases e)
   refine⟨by simp only[ow2,if_pos hltb];exact g1,c1,T1,r2,by rw[← q5,r3.1],fun k e v' he hv'=> ?_⟩
   have hklt:k<es''.length:=by rw[q5];exact (Ej8.1 he).1
   obtain⟨r4,r5⟩:=r3.2 k _ v' (Ej7 hklt) hv';refine⟨?_,r5⟩;rcases q7 k e _ he (Ej7 hklt) with⟨heq,hnew⟩|⟨i',off,pts,z1,z2,z3,z4⟩
   ·rw[← heq] at r4 hnew
    obtain⟨t,x,hx⟩:=hdat e (List.mem_of_mem_drop hnew);subst hx;cases r4 with
    |dat r4=>exact .dat (r4.keep (E9.of fun blk n hs=>⟨hst2 blk n hs,rfl⟩))
   ·obtain⟨b',y1,y2⟩:=p6 k i' off pts z1 z2
    rw[z4] at y1;cases y1;rw[z3] at r4;have hklt':k<c0.toList.length:=by rw[← g3.1];exact (Ej8.1 z4).1
    have hold':=(g3.2 k _ _ z4 (Ej7 hklt')).1;generalize c0.toList[k]'hklt'=u at hold';cases hold' with
    |ptr hq=>
     obtain⟨t3,_⟩:=htr.bo i' b' y2 hq;have hltb':=hi.here (bx b') (by rw[hq];intro e;cases e)
     cases r4 with
     |ptr _=>
      rw[t3];exact .ptr (by simp only[ow2,if_pos hltb'];exact hq)
  ·have hne:∀x∈ws,x.b≠b:=fun x hx e=>by
    obtain⟨k,hk⟩:=El6 hx;exact hin ⟨k,e▸hwsb k x hk⟩
   rw[AZ5 ws bg b hne] at hb2;obtain⟨g1,c0,T,g2,g3⟩:=hi.box b cs2 hb2;have hltb:=hi.here (bx b) (by rw[g1];intro e;cases e)
   have hj:=hM (bx b) b g1 (fun i h=>hin ⟨i,h⟩)
   exact⟨by simp only[ow2,if_pos hltb];exact g1,c0,T,by rw[(hold (bx b) hltb (by rw[hj];intro b h;cases h)).1];exact g2,g3.keep hkeep⟩
 ·intro blk b h
  simp only[ow2] at h;split at h
  ·obtain⟨g1,g2,g3⟩:=hi.back blk b h
   exact⟨g1,by simp only[upd,P2];rw[AZ6];exact g2,g3⟩
  ·split at h <;> cases h
 ·intro blk h
  simp only[ow2] at h;split at h
  ·rename_i hlt;omega
  ·split at h
   ·rename_i hs;exact hinv'.here blk (by rw[hs];intro e;cases e)
   ·rename_i hs;exact hinv'.here blk (by rw[hs];intro e;cases e)
   ·rename_i hs;exact hinv'.here blk (by rw[hs];intro e;cases e)
   ·exact absurd rfl h
 ·intro blk hlt hnm
  obtain⟨g1,g2,g3⟩:=hi.old blk hlt hnm;have hs:=hi.size;have hlt2:blk<w.heap.size:=by omega
  have hc':∀b,B5 a' ow blk≠ .box b:=by intro b hb;obtain⟨b',_,k2,_⟩:=hcall blk b hb;exact g3.1 b' k2
  refine⟨by rw[(hold blk hlt2 hc').1];exact g1,?_,?_⟩
  ·simp only[ow2,if_pos hlt2];exact g2
  ·simp only[ow2,if_pos hlt2];exact g3
 ·have:=hi.size;omega
 ·obtain⟨e1,e2,e3⟩:=hinv'.env
  obtain⟨e4,e5,e6⟩:=hi.env;exact⟨by rw[e1];exact e4,by rw[e2];exact e5,by rw[e3];exact e6⟩
 ·intro b hb
  obtain⟨h1,h2⟩:=hi.kept b hb;exact⟨h1,by simp only[upd,P2];rw[AZ6];exact h2⟩
 ·exact hi.st.trans hkeep.st
 ·exact hi.born

section
variable {ρ:Type}{P:Program}{Γ:Cx}{id:Nat}{rd:Nat→Option (List EV)}{g:Option Bool}{A:Operand→EV}{o:Oper}{q:EV→Option (List EV)→List Wr→List Nat→Option ρ}{r:ρ}
theorem AZ7 {T:Nat}{k:IntKind}(hΓ:E3 P Γ)(h:R9 (Γ.td T) (.int k)=true):P.underlying T=some (.int k):=by
 obtain⟨d,hT,hk⟩:=At1 h;have hOK:=hΓ.td T d hT;have hh:=hOK.how;have hag:=(hOK.agg _ hk).2;cases hw:d.how with
 |scalar=>simp only[hw] at hh;obtain⟨_,u,hu,_,_,h5,_⟩:=hh;rw[hu,h5 k hk]
 |struct fs=>rw [hw] at hag;simp[Ty.isAgg] at hag
 |array n e s=>rw [hw] at hag;simp[Ty.isAgg] at hag
 |slice e s b=>simp only[hw] at hh;exact absurd hk (hh.2.2.2.2.1 k)
theorem Inv.CS5 {B:E5}{ow:Nat→A1}{bx:Bx}{nb:Nat}{bg:Nat→Option (List EV)}{w:World}(hi:Inv B ow bx nb bg w)(own:A1)(x:Obj)(hown:own = .E4∨own = .B8∨∃k fr,own = .tok k fr):
  E0 ow bx w (fun blk=>if blk=w.heap.size then own else ow blk) bx (w.drew.alloc x)∧
  Inv B (fun blk=>if blk=w.heap.size then own else ow blk) bx nb bg (w.drew.alloc x):=by
 obtain⟨h1,h2⟩:=hi.At0 own x hown;have hk:E0 (fun blk=>if blk=w.heap.size then own else ow blk) bx {w with heap:=w.heap.push x} (fun blk=>if blk=w.heap.size then own else ow blk) bx (w.drew.alloc x):=
  ⟨.of fun _ _ h=>⟨h,rfl⟩,fun _ _ _ h _=>⟨h,rfl⟩,fun _ h=>h,fun _ h=>⟨rfl,h⟩,fun _ _ h=>h⟩
 refine⟨h1.trans hk,?_⟩;constructor
 ·intro b cs hb
  obtain⟨g1,c,T,g2,g3⟩:=h2.box b cs hb;exact⟨g1,c,T,g2,g3.keep hk⟩
 ·exact h2.back
 ·exact h2.here
 ·exact h2.old
 ·exact h2.size
 ·exact h2.env
 ·exact h2.kept
 ·exact h2.st
 ·exact h2.born
theorem Ah6 (s:ByteArray):(AX6 s).length=s.size:=by unfold AX6;rw[List.length_map,Em4];rfl
theorem CS6 {S D:TypeId}{x:Operand}(hΓ:E3 P Γ)(ho:o.op = .convert S D x)(h:opE Γ id rd g A (.convert S D x) q=some r):Sound P id rd g A o q r:=by
 have hx:∀{ow bx w ev},F5 ow bx w A ev o.op→A0 ow bx w (A x) (ev x):=by intro ow bx w ev hA;rw[ho] at hA;exact I1 hA (by intros;simp) x (by simp[Op.operands])
 simp only[opE] at h;have hr:∀{ow bx w ev},F5 ow bx w A ev o.op→A0 ow bx w (A x).raw (ev x):=fun hA=>AY6 (hx hA)
 split at h
 ·rename_i k n he
  split at h
  ·rename_i dd hdd htd
   split at h
   ·rename_i k' hk'
    refine C5 h fun _ B ow bx nb bg w a hi hA hb=> ?_
    have hp:=hr hA;rw[he] at hp;have hD:P.underlying D=some (.int k'):=AZ7 hΓ (by rw[hdd];simp[R9,hk'])
    refine⟨_,?_,P8 (X2 k' n)⟩;unfold execOp;rw[ho];simp[(P7 hp).1,convert,underlying,AZ7 hΓ htd,hD,Conv.intToInt]
   ·cases h
  ·cases h
 ·rename_i b he
  split at h
  ·rename_i dd hdd hst
   split at h
   ·rename_i e es bs hw
    split at h
    ·rename_i hc
     simp only[Ek0] at hc;obtain⟨hu8,hlt⟩:=hc;have hlt:e<25000:=Ek2 hlt;refine⟨_,_,_,_,h,fun _=>⟨rfl,rfl⟩,fun x hx=>(by cases hx),fun _ B ow bx nb bg w a hi hA hb _=> ?_⟩
     have hp:=hr hA;rw[he] at hp;have hS:=AZ2 hΓ hst;have hE:=AZ7 hΓ hu8;have hD:P.underlying D=some (.slice e):=by have hh:=(hΓ.td D dd hdd).how;simp only[hw] at hh;exact hh.2.1
     generalize hp':a.eval x=u at hp;cases hp with
     |dat hp=>
     obtain⟨hp1,hsz⟩:=hp;simp only[List.cons.injEq,and_true] at hp1;subst hp1;have hge:=grownCap_ge w b.size 0 e;intro K Q hK;unfold Oper.wp;have hrun:(execOp a.eval o).run P w = .ok (.value (.slice (some ⟨w.heap.size,0,none⟩) b.size (grownCap w b.size 0 e))) (w.drew.alloc (.cells (bytesRow b (grownCap w b.size 0 e)) e ((bytesRow b (grownCap w b.size 0 e)).size,(bytesRow b (grownCap w b.size 0 e)).size+1))):=by unfold execOp;rw[ho];simp only[hp',Ek4];rw[run_bytes_of_string w S D e b hS hD hE];simp
     rw[hrun];have hsf:soft (900000000+e)=false:=by
      unfold soft;rw[show (900000000+e) % 100000=e by omega]
      cases hb:Nat.ble 50000 e with
      |false=>rfl
      |true=>have:=Ek2 hb;omega
     obtain⟨j1,j2⟩:=hi.CS5 (.tok (900000000+e) ((AX6 b).length*1)) (.cells (bytesRow b (grownCap w b.size 0 e)) e ((bytesRow b (grownCap w b.size 0 e)).size,(bytesRow b (grownCap w b.size 0 e)).size+1)) (.inr (.inr ⟨_,_,rfl⟩));have hnew:(w.drew.alloc (.cells (bytesRow b (grownCap w b.size 0 e)) e ((bytesRow b (grownCap w b.size 0 e)).size,(bytesRow b (grownCap w b.size 0 e)).size+1))).heap[w.heap.size]? = some (.cells (bytesRow b (grownCap w b.size 0 e)) e ((bytesRow b (grownCap w b.size 0 e)).size,(bytesRow b (grownCap w b.size 0 e)).size+1)):=heap_alloc_new w.drew _
     have hbs:(bytesRow b (grownCap w b.size 0 e)).size=grownCap w b.size 0 e:=by unfold bytesRow;rw[Em7,Array.size_map,Array.size_replicate];have:b.data.size=b.size:=rfl;omega
     refine hK _ _ _ _ j1 (.own (fun _=> ?_) (fun _=>.inr ⟨w.heap.size,grownCap w b.size 0 e,_,_,by rw[Ah6],by simp[H6,hsf,Ty.size],by rw[show (900000000+e) % 25000=e by omega];exact hnew,.inr (Em2 _),by rw[hbs];simp[Ty.size],by rw[Ah6];exact hge,fun h=>(by rw[hsf] at h;cases h)⟩) (fun h=>(by rw[hsf] at h;cases h))) j2 rfl
     refine⟨some ⟨w.heap.size,0,none⟩,grownCap w b.size 0 e,by rw[Ah6],⟨by rw[Ah6];exact hsz,by rw[Ah6];exact hge⟩,fun _=>⟨w.heap.size,0,_,_,_,rfl,u7 (k:=900000000+e) (fr:=(AX6 b).length*1) (by simp) (by simp[Ty.size]),hnew,fun i y hy=> ?_⟩⟩
     unfold AX6 at hy;rw[Ek3] at hy;cases hbi:b.data.toList[i]? with
     |none=>rw [hbi] at hy;cases hy
     |some c=>
      rw[hbi] at hy;simp only[Ek6,Option.some.injEq] at hy;subst hy;have hil:i<b.data.size:=by simpa using (Ej8.1 hbi).1
      have hbd:b.data[i]=c:=by simpa using (Ej8.1 hbi).2
      have hcell:=bytesRow_at b (grownCap w b.size 0 e) i hil;rw[hbd] at hcell;refine⟨?_,?_⟩
      ·simp only[Ty.size,El3,Er1]
       apply En6;intro j;rw[El0,El5];cases j with
       |zero=>simpa using hcell
       |succ j=>simp
      ·have:=c.toNat_lt
       simp only[fits,Ek0,decide_eq_true_eq];omega
    ·cases h
   ·cases h
  ·cases h
 ·rename_i ty l he
  split at h
  ·rename_i hty
   subst hty;split at h
   ·rename_i hc
    simp only[Ek0] at hc;refine C5 h fun _ B ow bx nb bg w a hi hA hb=> ?_
    have hp:=hr hA;rw[he] at hp;have hD:=AZ2 hΓ hc.1;obtain⟨d,e,s,bb,gi,q1,q2,q3,_⟩:=AZ1 hΓ hc.2;have hE:P.underlying e=some (.int .u8):=by have:=hc.2;unfold W4 at this;rw[q1] at this;simp only[q2] at this;exact AZ7 hΓ this
    cases hp with
    |dat hp=>
    obtain⟨ad,cap,h1,⟨h2,h3⟩,h4⟩:=hp;simp only[List.cons.injEq,and_true] at h1;refine⟨.string (bytesOf l),?_,.dat ⟨rfl,?_⟩⟩
    ·unfold execOp
     rw[ho];simp only[h1,Ek4];by_cases hne:l=[]
     ·subst hne
      have:(convert S D (.slice ad ([]:List Int).length cap)).run P w = .ok (.string (bytesOf [])) w:=by
       cases ad with
       |none=>rw [run_convert_bytes_nil w S e q3 hE _ _ D hD];rfl
       |some ad=>
        have hl:(loadCells ad 0).run P w = .ok (([]:List Int).map (Value.int .u8)).toArray w:=by
         have:=run_loadCells_list (P:=P) w ad [] (fun j v hj=>by simp at hj)
         simpa using this
        rw[En1,run_convert_bytes_string w S D e _ 0 cap q3 hE hD,run_bytesToString w ad 0 cap [] hl];rfl
      rw[this];simp
     ·obtain⟨blk,off,c,T,fz,k1,k2,k3,k4⟩:=h4 hne
      subst k1;rw[run_convert_bytes_arg w S e q3 hE blk off l.length cap l rfl (fun i hi'=> ?_) D hD]
      ·simp[strOfNums,bytesOf]
      ·have:=(k4 i _ (Ej7 hi')).1
       simp only[Ty.size,Er1] at this;have h0:=congrArg (·[0]?) this;simp only[El0,El5,Nat.lt_add_one,if_true,Eo8,Ek7] at h0;simp only[World.cell?,k3];simp only[Ep4] at h0;rw[h0];simp[hi']
    ·have:(bytesOf l).size=l.length:=by simp[bytesOf,ByteArray.size]
     rw[this];exact h2
   ·cases h
  ·cases h
 ·rename_i he
  split at h
  ·rename_i hc
   simp only[Ek0] at hc;refine C5 h fun _ B ow bx nb bg w a hi hA hb=> ?_
   have hp:=hr hA;rw[he] at hp;have hD:=AZ2 hΓ hc.1;obtain⟨d,e,s,bb,gi,q1,q2,q3,_⟩:=AZ1 hΓ hc.2;have hE:P.underlying e=some (.int .u8):=by have:=hc.2;unfold W4 at this;rw[q1] at this;simp only[q2] at this;exact AZ7 hΓ this
   generalize hv:a.eval x=v at hp;cases hp;refine⟨.string (bytesOf []),?_,.dat ⟨rfl,by simp[bytesOf,ByteArray.size]⟩⟩
   unfold execOp;rw[ho];simp only[hv,Ek4];rw[run_convert_bytes_nil w S e q3 hE _ _ D hD];simp[bytesOf];rfl
  ·cases h
 ·cases h
end

section
variable {ρ:Type}{P:Program}{Γ:Cx}{id:Nat}{rd:Nat→Option (List EV)}{g:Option Bool}{A:Operand→EV}{o:Oper}{q:EV→Option (List EV)→List Wr→List Nat→Option ρ}{r:ρ}
theorem CS7:∀(ps:List PT) (cs new out rest:List EV),G0 ps cs new=some (out,rest)→out.length=cs.length:=by
 intro ps
 induction ps with
 |nil=>
  intro cs new out rest h;cases cs with
  |nil=>simp only[G0] at h;cases h;rfl
  |cons c cs=>simp only[G0] at h;cases h
 |cons p ps ih=>
  intro cs new out rest h;cases cs with
  |nil=>cases p <;> simp only[G0] at h <;> cases h
  |cons c cs=>
   cases p with
   |own t=>simp only[G0] at h;cases h
   |dat t=>
    cases new with
    |nil=>simp only[G0] at h;cases h
    |cons x new=>
     simp only[G0] at h;split at h
     ·rename_i h1;cases h;simp[ih _ _ _ _ h1]
     ·cases h
   |ref i off=>
    simp only[G0] at h;split at h
    ·rename_i h1;cases h;simp[ih _ _ _ _ h1]
    ·cases h
   |sl b=>simp only[G0] at h;cases h
   |rp b off=>simp only[G0] at h;cases h
   |skip=>simp only[G0] at h;cases h
   |clo f a b=>
    simp only[G0] at h;split at h
    ·rename_i h1;cases h;simp[ih _ _ _ _ h1]
    ·cases h
theorem BZ5 {f:Nat}{ok:Con→Bool}:∀(l:List Con) (c:Con),Af9 f ok l=some c→c∈l∧c.f=f
 | [],c,h=>by cases h
 |d::r,c,h=>by
  simp only[Af9] at h;split at h
  ·rename_i hk
   cases h;simp only[Ek0] at hk;exact⟨by simp,Ej9 hk.1⟩
  ·obtain⟨h1,h2⟩:=BZ5 r c h
   exact⟨by simp[h1],h2⟩
theorem BZ6 {c:Con}{B:E5}{ow:Nat→A1}{bx:Bx}{nb:Nat}{bg:Nat→Option (List EV)}{w:World}{a:Act}{args:Array Value}{v:EV}{ws:List Wr}(hc:M4 P c)
  (hrun:(execOp a.eval o).run P w = .ok (.enter c.f args) w)
  (h:Calls P c.f args w fun e w'=>∃u ow',e = .returned u∧E0 ow bx w ow' bx w'∧A0 ow' bx w' v u∧Inv B ow' bx nb (upd bg id none ws) w'):
  AC3 P B ow bx nb bg w a o id v none ws:=by
 intro K Q hK;unfold Oper.wp;rw[hrun];exact h.mono fun e w' ⟨u,ow',he,h1,h2,h3⟩=>by subst he;exact hK u ow' bx w' h1 h2 h3 rfl
theorem CS8 {ow ow':Nat→A1}{bx bx':Bx}{w:World}{k:Nat}(hst:∀blk n,A5 ow blk n→A5 ow' blk n)(hb:ow (bx 0) = .box 0→bx' k=bx 0∧ow' (bx 0) = .box k):
  ∀(n:Nat) (e:EV) (v:Value),A0 ow bx w e v→A0 ow' bx' w (ren n k e) v:=by
 intro n
 induction n with
 |zero=>exact fun e v _=>.undef v
 |succ n ih=>
  intro e v h;cases h with
  |undef=>exact .undef _
  |dat h=>exact .dat (h.keep (E9.of fun blk n hs=>⟨hst blk n hs,rfl⟩))
  |nil=>exact .undef _
  |own=>exact .undef _
  |elo=>exact .undef _
  |fre=>exact .undef _
  |ptr hq=>
   rename_i b off;cases b with
   |zero=>
    obtain⟨h1,h2⟩:=hb hq;simp only[ren];rw[← h1];exact .ptr (by rw[h1];exact h2)
   |succ b=>exact .undef _
  |pix=>exact .undef _
  |elt=>exact .undef _
  |elx=>exact .undef _
  |clo h1 h2 h3 h4=>
   simp only[ren];refine .clo (by simp[h1]) (by simp[h2]) (fun i e v he hv=> ?_) (fun i e v he hv=> ?_)
   ·simp only[Ek3,Ek5] at he
    obtain⟨x,hx,rfl⟩:=he;exact ih x v (h3 i x v hx hv)
   ·simp only[Ek3,Ek5] at he
    obtain⟨x,hx,rfl⟩:=he;exact ih x v (h4 i x v hx hv)
  |sl h0 h1 hs hbk h2 h3=>
   rename_i es blk cap c T fz;simp only[ren];have hl:es.length=(es.map (ren n k)).length:=by simp
   rw[hl] at h0 h1 hs h3 ⊢;refine .sl h0 h1 (hst _ _ hs) hbk (fun i e v he hv=> ?_) h3
   simp only[Ek3,Ek5] at he;obtain⟨x,hx,rfl⟩:=he;exact ih x v (h2 i x v hx hv)
  |cp=>exact .undef _
  |rp=>exact .undef _
  |tup h1 h2=>
   simp only[ren];refine .tup (by simp[h1]) fun i e v he hv=> ?_
   simp only[Ek3,Ek5] at he;obtain⟨x,hx,rfl⟩:=he;exact ih x v (h2 i x v hx hv)
  |row=>exact .undef _
theorem CS9:∀(n:Nat) (ps:List PT) (d:List EV),O0 ps=true→(∀e∈d,∃t v,e = .dat t v)→∀e∈(D5 n ps d).1,∃t v,e = .dat t v:=by
 intro n
 induction n with
 |zero=>intro ps d _ _ e he;simp[D5] at he
 |succ n ih=>
  intro ps d hp hd e he;cases ps with
  |nil=>simp [D5] at he
  |cons p ps=>
   cases p with
   |dat t=>
    cases d with
    |nil=>simp [D5] at he
    |cons x d=>
     simp only[D5] at he;rcases Ek9.1 he with rfl | he
     ·exact hd e (by simp)
     ·exact ih ps d hp (fun e he=>hd e (by simp[he])) e he
   |own t=>simp [O0] at hp
   |ref i off=>simp [O0] at hp
   |clo f a b=>simp [O0] at hp
   |sl a=>simp [O0] at hp
   |rp a off=>simp [O0] at hp
   |skip=>simp [O0] at hp
theorem CT0:∀(n:Nat) (ps:List PT) (d:List EV),∀e∈(D5 n ps d).2,e∈d:=by
 intro n
 induction n with
 |zero=>intro ps d e he;simpa[D5] using he
 |succ n ih=>
  intro ps d e he;cases ps with
  |nil=>simpa [D5] using he
  |cons p ps=>
   cases p with
   |dat t=>
    cases d with
    |nil=>simp [D5] at he
    |cons x d=>
     simp only[D5] at he;exact Em1 _ (ih ps d e he)
   |own t=>
    cases d with
    |nil=>simp [D5] at he
    |cons x d=>
     simp only[D5] at he;exact Em1 _ (ih ps d e he)
   |ref i off=>
    simp only[D5] at he;exact ih ps d e he
   |clo f a b=>
    simp only[D5] at he;exact ih a d e (ih b _ e (ih ps _ e he))
   |sl a=>
    simp only[D5] at he;exact ih a d e (ih ps _ e he)
   |rp a off=>
    simp only[D5] at he;exact ih a d e (ih ps _ e he)
   |skip=>
    simp only[D5] at he;exact ih ps d e he
theorem CT1 {c:J1}(hc:NOK P c){es l:List EV}{x:c.ins.den}{y:c.outs.den}(h1:B7 200 c.ps es []=some (l,[]))(hps:D8 true 200 c.ps=true)(hnin:l.length=c.nin)(hdn:O0 c.new=true)(h3:J2 c.ins l=some x)(h4:c.F x=some y)
  {B:E5} {ow:Nat→A1} {bx:Bx} {nb:Nat} {bg:Nat→Option (List EV)} {w:World} {args:Array Value} (hi:Inv B ow bx nb bg w) (hargs:S2 ow bx w es args) (hid:bg id=none) (hlt:id<nb):
  Calls P c.f args w fun e w'=>∃v ow' bx',e = .returned v∧E0 ow bx w ow' bx' w'∧A0 ow' bx' w' (ren 20 id (c.res y)) v∧Inv B ow' bx' nb (upd bg id (some (c.AB5 y)) []) w'∧bx'.dead=bx.dead:=by
 obtain⟨m1,m2,m3⟩:=AK6 (ow:=ow) (ow':=B5 [] ow) (bx:=bx) (bx':=H7 [] bx) (w:=w) 200 true c.ps es [] l [] h1 hps;have htr:Ah5 [] ow bx (B5 [] ow) (H7 [] bx):=At5 .nil ow bx;obtain⟨es',f1,f2,f3⟩:=m3 [];have hun:A8 c.ins c.nin x=l:=by
  have:=AQ8 c.ins l x h3 (AF2 _ _ _ _ _ _ h1)
  rwa [hnin] at this
 have hargs0:c.G7 x=es':=by unfold J1.G7;rw[hun];rw[En2] at f1;rw[f1]
 have hbx:∀blk b,B5 [] ow blk≠ .box b:=by intro blk b h;unfold B5 at h;split at h <;> cases h
 have hnotok:∀blk k fr,B5 [] ow blk≠ .tok k fr:=by intro blk k fr h;unfold B5 at h;split at h <;> cases h
 have hglob:O1 (B5 [] ow) w:=hi.AQ6.keep (.of fun blk n h=>⟨AZ4 h,rfl⟩)
 have hinv0:Inv ⟨w,fun _=>False,B5 [] ow,0,H7 [] bx,hglob⟩ (B5 [] ow) (H7 [] bx) 0 (A3 []) w:=by
  constructor
  ·intro b cs h;simp[A3] at h
  ·intro blk b h;exact absurd h (hbx blk b)
  ·intro blk h
   refine hi.here blk fun e=>h ?_
   simp[B5,e]
  ·intro blk _ _;exact⟨rfl,rfl,hbx blk,hnotok blk⟩
  ·exact Em2 _
  ·exact⟨rfl,rfl,rfl⟩
  ·intro b hb;simp at hb
  ·exact .refl _ _
  ·exact fun j h=>by simp[H7] at h
 have hrepl:S2 (B5 [] ow) (H7 [] bx) w (c.G7 x) args:=by
  rw[hargs0];refine⟨by rw[f2];exact hargs.1,fun i e v he hv=> ?_⟩
  have hlt:i<es.length:=by rw[← f2];exact (Ej8.1 he).1
  exact f3 [] (fun p hp=>hp) htr i _ e v (Ej7 hlt) he (hargs.2 i _ v (Ej7 hlt) hv)
 refine (hc.go x y h4 w (B5 [] ow) (H7 [] bx) args hglob (fun _=>rfl) hinv0 hrepl).mono fun e w' ⟨v,ow',bx',he,hdd,hinv',hv⟩=> ?_
 subst he;obtain⟨g1,c0,T,g2,g3⟩:=hinv'.box 0 (c.AB5 y) rfl;have hold:∀blk,blk<w.heap.size→w'.heap[blk]? = w.heap[blk]? ∧ow' blk=B5 [] ow blk:=by
  intro blk hlt;obtain⟨q1,q2,_⟩:=hinv'.old blk hlt (fun h=>h)
  exact⟨q1,q2⟩
 have hk0:w.heap.size≤bx' 0:=by apply Nat.le_of_not_lt;intro hlt;rw[(hold _ hlt).2] at g1;exact hbx _ _ g1
 let ow2:Nat→A1:=fun blk=>if blk<w.heap.size then ow blk else match ow' blk with | .E4=>.E4 | .tok _ _=>.E4 | .part _=>.E4 | .box _=>.box id | .B8=>.B8
 let bx2:Bx:=⟨fun b=>if b=id then bx' 0 else bx b,bx.dead,bx.tb⟩
 have hback:∀blk n,A5 (B5 [] ow) blk n→A5 ow blk n:=by
  intro blk n h;cases hb:ow blk with
  |E4=>exact L3 hb
  |tok k fr=>rcases L4 h with h |⟨_,_,h,_⟩|⟨fr',h,hn⟩ <;> simp[B5,hb] at h;subst h;exact u7 hb hn
  |part fr=>rcases L4 h with h |⟨_,_,h,_⟩|⟨fr',h,hn⟩ <;> simp[B5,hb] at h;subst h;exact X0 hb hn
  |B8=>rcases L4 h with h |⟨_,_,h,_⟩|⟨fr',h,hn⟩ <;> simp[B5,hb] at h
  |box b=>rcases L4 h with h |⟨_,_,h,_⟩|⟨fr',h,hn⟩ <;> simp[B5,hb,z7] at h
 have hst2:∀blk n,A5 ow' blk n→A5 ow2 blk n:=by
  intro blk n h;by_cases hlt:blk<w.heap.size
  ·exact Z2 (ow:=ow) (hback blk n (Z2 h (hold blk hlt).2.symm)) (by simp only[ow2,if_pos hlt])
  ·refine L3 ?_
   simp only[ow2,if_neg hlt];rcases L4 h with h |⟨_,_,h,_⟩|⟨fr',h,hn⟩ <;> rw[h]
 have hnid:∀b,(bg b).isSome=true→b≠id:=by
  rintro b hb rfl
  rw[hid] at hb;cases hb
 have hkeep:E0 ow bx w ow2 bx2 w':=by
  refine⟨.of fun blk n h=> ?_,fun blk k fr h _=> ?_,fun _ h=>h,fun b h=> ?_,fun _ _ h=>h⟩
  ·have hlt:=hi.here blk (AK1 h)
   exact⟨Z2 h (by simp only[ow2,if_pos hlt]),(hold blk hlt).1⟩
  ·have hlt:=hi.here blk (by rw[h];intro e;cases e)
   exact⟨by simp only[ow2,if_pos hlt];exact h,(hold blk hlt).1⟩
  ·have hlt:=hi.here (bx b) (by rw[h];intro e;cases e)
   exact⟨by simp only[bx2,if_neg (hnid b (hi.back _ b h).2.1)],by simp only[ow2,if_pos hlt];exact h⟩
 have hnew:ow2 (bx' 0) = .box id:=by simp only[ow2,if_neg (Nat.not_lt.2 hk0),g1]
 have hid2:bx2 id=bx' 0:=by simp[bx2]
 refine⟨v,ow2,bx2,rfl,hkeep,CS8 hst2 (fun _=>⟨hid2,hnew⟩) 20 _ v hv,?_,rfl⟩
 have hup:∀b,b≠id→upd bg id (some (c.AB5 y)) [] b=bg b:=by intro b hb;simp[upd,P2,hb]
 have hup0:upd bg id (some (c.AB5 y)) [] id=some (c.AB5 y):=by simp[upd,P2]
 constructor
 ·intro b cs hcs
  by_cases hb:b=id
  ·subst hb
   rw[hup0] at hcs;cases hcs;rw[hid2];refine⟨hnew,c0,T,g2,g3.1,fun i e u he hu=> ?_⟩
   obtain⟨r1,r2⟩:=g3.2 i e u he hu;refine⟨?_,r2⟩;obtain⟨t,z,rfl⟩:=CS9 200 c.new _ hdn (fun e he=>BH6 _ _ _ e (CT0 _ _ _ e he)) e (El1 he)
   cases r1 with
   |dat r1=>exact .dat (r1.keep (E9.of fun blk n hs=>⟨hst2 blk n hs,rfl⟩))
  ·rw[hup b hb] at hcs
   obtain⟨q1,c1,T1,q2,q3⟩:=hi.box b cs hcs;have hlt:=hi.here (bx b) (by rw[q1];intro e;cases e)
   have hb2:bx2 b=bx b:=by simp only[bx2,if_neg hb]
   rw[hb2];exact⟨by simp only[ow2,if_pos hlt];exact q1,c1,T1,by rw[(hold _ hlt).1];exact q2,q3.keep hkeep⟩
 ·intro blk b h
  simp only[ow2] at h;split at h
  ·obtain⟨q1,q2,q3⟩:=hi.back blk b h
   have hb:=hnid b q2;exact⟨by simp only[bx2,if_neg hb];exact q1,by rw[hup b hb];exact q2,q3⟩
  ·split at h
   ·cases h
   ·cases h
   ·cases h
   ·rename_i b' hb'
    cases h;obtain⟨q1,_,q3⟩:=hinv'.back blk b' hb';have:b'=0:=by omega
    subst this;exact⟨by rw[hid2];exact q1,by rw[hup0];rfl,hlt⟩
   ·cases h
 ·intro blk h
  simp only[ow2] at h;split at h
  ·rename_i hlt
   have:=hinv'.size;simp only at this;omega
  ·refine hinv'.here blk fun e=>h ?_
   rw[e]
 ·intro blk hlt' hnm
  obtain⟨q1,q2,q3⟩:=hi.old blk hlt' hnm;have hs:=hi.size;have hlt2:blk<w.heap.size:=by omega
  refine⟨by rw[(hold blk hlt2).1];exact q1,?_,?_⟩
  ·simp only[ow2,if_pos hlt2];exact q2
  ·simp only[ow2,if_pos hlt2];exact q3
 ·have h1:=hi.size
  have h2:=hinv'.size;simp only at h2;omega
 ·obtain⟨e1,e2,e3⟩:=hinv'.env
  obtain⟨e4,e5,e6⟩:=hi.env;exact⟨by rw[e1];exact e4,by rw[e2];exact e5,by rw[e3];exact e6⟩
 ·intro b hb
  obtain⟨q1,q2⟩:=hi.kept b hb;have hbn:=hnid b q2;exact⟨by simp only[bx2,if_neg hbn];exact q1,by rw[hup b hbn];exact q2⟩
 ·exact hi.st.trans hkeep.st
 ·exact hi.born
theorem BZ7 {f:Nat}:∀(l:List J1) (c:J1),Aq7 f l=some c→c∈l∧c.f=f
 | [],c,h=>by cases h
 |d::r,c,h=>by
  simp only[Aq7] at h;split at h
  ·rename_i hk
   cases h;exact⟨by simp,Ej9 hk⟩
  ·obtain⟨h1,h2⟩:=BZ7 r c h
   exact⟨by simp[h1],h2⟩
theorem At6 {cf:Nat}{a:Act}{w:World}{k:Call}{f:Operand}{fs cs:Array Value}(hc:∃fn,P.funcs[cf]? = some fn∧fn.body.isSome=true∧(fn.name == "runtime.NumGoroutine")=false)(ho:o.op = .call k)(hk:k.callee = .value f)(hf:a.eval f = .func (.func cf) fs cs):
  (execOp a.eval o).run P w = .ok (.enter cf (fs++k.args.map a.eval++cs)) w:=by
 obtain⟨fn,h1,h2,h3⟩:=hc;unfold execOp;rw[ho];have hb:¬fn.body=none:=by intro e;rw[e] at h2;cases h2
 have h3':¬fn.name = "runtime.NumGoroutine" := by simpa using h3
 simp[resolve,hk,hf,Deferred.ofValue,invoke,callFunc,h1,h3',hb]
def L5 (bs:List Nat)(ow:Nat→A1):Nat→A1:=fun blk=>match ow blk with
 | .E4=>.E4
 | .box b=>bif E8 b bs then .E4 else .B8
 | .tok _ fr=>.part fr
 | .part fr=>.part fr
 | .B8=>.B8
def AA0:Bx:=⟨fun _=>0,fun _=>false,fun _=>none⟩
theorem BH9 {bs:List Nat}{ow:Nat→A1}{blk n:Nat}(h:A5 ow blk n):A5 (L5 bs ow) blk n:=by
 rcases L4 h with h |⟨k,fr,h,hn⟩|⟨fr,h,hn⟩
 ·exact L3 (by simp[L5,h])
 ·exact X0 (by simp[L5,h]) hn
 ·exact X0 (by simp[L5,h]) hn
theorem BZ8 {bs:List Nat}{ow:Nat→A1}{blk b:Nat}:L5 bs ow blk≠ .box b:=by
 unfold L5;intro h;split at h
 ·cases h
 ·rename_i b' _
  cases hn:E8 b' bs <;> rw[hn] at h <;> cases h
 ·cases h
 ·cases h
 ·cases h
theorem CT2 {bs:List Nat}{ow:Nat→A1}{blk k fr:Nat}:L5 bs ow blk≠ .tok k fr:=by
 unfold L5;intro h;split at h
 ·cases h
 ·rename_i b' _
  cases hn:E8 b' bs <;> rw[hn] at h <;> cases h
 ·cases h
 ·cases h
 ·cases h
theorem CT3 {k:Nat}{l:List Nat}(h:k∈l):E8 k l=true:=by unfold E8;rw[List.any_eq_true];exact⟨k,h,En5 k⟩
section
variable {bs:List Nat}{ow:Nat→A1}{bx:Bx}{w:World}
theorem BI0 {e:EV}{v:Value}(h:A0 ow bx w e v):A0 (L5 bs ow) AA0 w (AX5 e) v:=by
 have hst:E9 ow w (L5 bs ow) w:=E9.of fun blk n hs=>⟨BH9 hs,rfl⟩
 unfold AX5;split
 ·cases h with
  |dat h=>exact .dat (h.keep hst)
 ·cases h;exact .nil
 ·rename_i k t l
  cases hs:soft k with
  |true=>exact .undef _
  |false=>
   cases h with
   |own h _ _=>exact .dat ((h hs).keep hst)
 ·exact .undef _
theorem BZ9 {e:EV}{v:Value}(h:A0 ow bx w e v):A0 (L5 bs ow) AA0 w (Aq6 e) v:=by
 unfold Aq6;split
 ·rename_i es off
  cases h with
  |rp q1 hs hbk q2 q3=>
   have hl:es.length=(es.map AX5).length:=by simp
   rw[hl] at q1 hs q3;refine .rp q1 (BH9 hs) hbk (fun i e v he hv=> ?_) q3
   simp only[Ek3,Ek5] at he;obtain⟨x,hx,rfl⟩:=he;exact BI0 (q2 i x v hx hv)
 ·exact BI0 h
theorem CT4 {rd:Nat→Option (List EV)}{B:E5}{nb:Nat}{bg:Nat→Option (List EV)}(hi:Inv B ow bx nb bg w){p:PT}{e:EV}{v:Value}(hsub:∀b∈(Af8 rd p e).2,b∈bs∧bg b=rd b)
  (h:A0 ow bx w e v):A0 (L5 bs ow) AA0 w (Af8 rd p e).1 v:=by
 unfold Af8 at hsub ⊢;split
 ·rename_i b off
  simp only at hsub ⊢;split
  ·rename_i cs hcs
   rw[hcs] at hsub;obtain⟨hb1,hb2⟩:=hsub b (by simp)
   rw[hcs] at hb2;obtain⟨g1,c,T,g2,g3⟩:=hi.box b cs hb2;cases h with
   |ptr hq=>
    have hl:=g3.1;simp only[Em4] at hl;refine .rp (by simp;omega) (L3 (by unfold L5;rw[g1];simp only[CT3 hb1,cond_true])) g2 (fun i e v he hv=> ?_) (fun i v hlt hv=> ?_)
    ·simp only[Ek3,Ek5] at he
     obtain⟨x,hx,rfl⟩:=he;exact BI0 (g3.2 i x v hx (by simpa using hv)).1
    ·have hlt':i<cs.length:=by simpa using hlt
     exact (g3.2 i _ v (Ej7 hlt') (by simpa using hv)).2
  ·exact .undef _
 ·exact BZ9 h
theorem Ba0 {rd:Nat→Option (List EV)}{B:E5}{nb:Nat}{bg:Nat→Option (List EV)}(hi:Inv B ow bx nb bg w):∀(ps:List PT) (es:List EV),(∀b∈(S0 rd ps es).2,b∈bs∧bg b=rd b)→
  (S0 rd ps es).1.length=es.length∧∀(i:Nat) e e' v,es[i]? = some e→(S0 rd ps es).1[i]? = some e'→A0 ow bx w e v→A0 (L5 bs ow) AA0 w e' v
 | [],es,_=>by
  simp only[S0];refine⟨by simp,fun i e e' v he he' hv=> ?_⟩
  simp only[Ek3,Ek5] at he';obtain⟨x,hx,rfl⟩:=he';rw[he] at hx;cases hx;exact BZ9 hv
 |p::ps,[],_=>by simp only[S0];exact⟨by simp,fun i e e' v he=>by simp at he⟩
 |p::ps,e0::es,hsub=>by
  simp only[S0] at hsub ⊢;obtain⟨k1,k2⟩:=Ba0 hi ps es (fun b hb=>hsub b (List.mem_append_right _ hb))
  refine⟨by simp[k1],fun i e e' v he he' hv=> ?_⟩
  cases i with
  |zero=>
   simp at he he';subst he he';exact CT4 hi (fun b hb=>hsub b (List.mem_append_left _ hb)) hv
  |succ i=>exact k2 i e e' v (by simpa using he) (by simpa using he') hv
end
theorem Ba1 {ow ow':Nat→A1}{w w':World}:∀(t:Ty) (x:t.den) (cs:List Value),t.plain=true→Rep ow w t x cs→Rep ow' w' t x cs:=by
 intro t
 induction t with
 |int k=>exact fun x cs _ h=>h
 |bool=>exact fun x cs _ h=>h
 |str=>exact fun x cs _ h=>h
 |unit=>exact fun x cs _ h=>h
 |pair a b iha ihb=>
  intro x cs hp h;simp only[Ty.plain,Ek0] at hp;obtain⟨c₁,c₂,e,h1,h2⟩:=h;exact⟨c₁,c₂,e,iha _ _ hp.1 h1,ihb _ _ hp.2 h2⟩
 |slice a _=>intro x cs hp;simp[Ty.plain] at hp
 |agg a ih=>exact fun x cs hp h=>ih x cs hp h
theorem CT5 {ow ow':Nat→A1}{w w':World}{t:Ty}{x:t.den}{v:Value}(hp:t.plain=true)(h:C7 ow w t x v):C7 ow' w' t x v:=by
 cases t <;> simp only[C7] at h ⊢
 case agg a=>obtain ⟨cs,rfl,h⟩:=h;exact⟨cs,rfl,Ba1 a _ _ hp h⟩
 all_goals exact Ba1 _ _ _ hp h
theorem CT6:∀(t:Ty) (n:Nat) (x:t.den),t.plain=true→∀e∈A8 t n x,∃t v,e = .dat t v∧t.plain=true:=by
 intro t
 induction t with
 |pair a b iha ihb=>
  intro n x hp e he;have hp':=hp;simp only[Ty.plain,Ek0] at hp';cases n with
  |zero=>simp [A8] at he
  |succ n=>
   cases n with
   |zero=>simp [A8] at he;exact⟨_,_,he,hp⟩
   |succ n=>
    simp only[A8] at he;rcases Ek9.1 he with he | he
    ·exact⟨_,_,he,hp'.1⟩
    ·exact ihb _ _ hp'.2 e he
 |_=>
  intro n x hp e he;cases n with
  |zero=>simp [A8] at he
  |succ n=>simp [A8] at he;exact⟨_,_,he,hp⟩
theorem CT7 {l:List EV}{ow ow':Nat→A1}{bx bx':Bx}{w w':World}{v:Value}(hd:∀e∈l,∃t x,e = .dat t x∧t.plain=true)(h:A0 ow bx w (H2 l) v):A0 ow' bx' w' (H2 l) v:=by
 have one:∀e v,(∃t x,e=EV.dat t x∧t.plain=true)→A0 ow bx w e v→A0 ow' bx' w' e v:=by
  rintro e v ⟨t,x,rfl,hp⟩ h
  cases h with
  |dat h=>exact .dat (CT5 hp h)
 unfold H2 at h ⊢;split at h
 ·exact one _ _ (hd _ (by simp)) h
 ·cases h with
  |tup h1 h2=>exact .tup h1 fun i e v he hv=>one e v (hd e (El1 he)) (h2 i e v he hv)
theorem CT8 {c:Con}(hc:M4 P c){rd:Nat→Option (List EV)}{es l:List EV}{a:List (Nat×Nat)}{x:c.ins.den}{y:c.outs.den}
  (h1:B7 200 c.ps (S0 rd c.ps es).1 []=some (l,a)) (hp:BE1 c l.length a=true) (h3:J2 c.ins l=some x) (h4:c.F x=some y)
  {B:E5} {ow:Nat→A1} {bx:Bx} {nb:Nat} {bg:Nat→Option (List EV)} {w:World} {args:Array Value} (id:Nat) (hi:Inv B ow bx nb bg w) (hargs:S2 ow bx w es args)
  (hrd:∀b∈(S0 rd c.ps es).2,bg b=rd b):
  Calls P c.f args w fun e w'=>∃v ow',e = .returned v∧E0 ow bx w ow' bx w'∧A0 ow' bx w' (H2 ((A8 c.outs c.A2 y).take c.rs.length)) v∧Inv B ow' bx nb (upd bg id none []) w':=by
 simp only[BE1,Ek0] at hp;obtain⟨⟨⟨⟨⟨hps,hrs⟩,hout⟩,hnin⟩,ha⟩,hbx⟩:=hp;have hnin:=Ej9 hnin;have ha:a=[]:=by cases a with | nil=>rfl | cons p r=>cases ha
 subst ha;have hb0:c.boxes=[]:=by
  cases hb:c.boxes with
  |nil=>rfl
  |cons p r=>rw [hb] at hbx;cases hbx
 generalize hbs:(S0 rd c.ps es).2=bs at hrd;obtain⟨r1,r2⟩:=Ba0 (bs:=bs) (rd:=rd) hi c.ps es (fun b hb=>by rw[hbs] at hb;exact⟨hb,hrd b hb⟩)
 obtain⟨m1,m2,m3⟩:=AK6 (ow:=L5 bs ow) (ow':=L5 bs ow) (bx:=AA0) (bx':=AA0) (w:=w) 200 true c.ps _ [] l [] h1 hps;obtain⟨es',f1,f2,f3⟩:=m3 [];rw[En2] at f1;have hun:A8 c.ins c.nin x=l:=by
  have:=AQ8 c.ins l x h3 (AF2 _ _ _ _ _ _ h1)
  rwa [hnin] at this
 have hargs0:c.G7 x=es':=by unfold Con.G7;rw[hun,f1]
 have hboxes0:c.L0 x=[]:=by unfold Con.L0;rw[hb0];rfl
 have hglob:O1 (L5 bs ow) w:=hi.AQ6.keep (.of fun blk n h=>⟨BH9 h,rfl⟩)
 have hinv:Inv ⟨w,fun blk=>∃b,L5 bs ow blk = .box b,L5 bs ow,c.boxes.length,AA0,hglob⟩ (L5 bs ow) AA0 c.boxes.length (A3 (c.L0 x)) w:=by
  rw[hboxes0,hb0];constructor
  ·intro i cs' hcs';simp[A3] at hcs'
  ·intro blk i h;exact absurd h BZ8
  ·intro blk h
   refine hi.here blk fun e=>h ?_
   simp[L5,e]
  ·intro blk _ h
   exact⟨rfl,rfl,fun b hb=>h ⟨b,hb⟩,fun k fr=>CT2⟩
  ·exact Em2 _
  ·exact⟨rfl,rfl,rfl⟩
  ·intro i hlt;simp at hlt
  ·exact .refl _ _
  ·exact fun j h=>by simp[AA0] at h
 have hrepl:S2 (L5 bs ow) AA0 w (c.G7 x) args:=by
  rw[hargs0];refine⟨by rw[f2,r1];exact hargs.1,fun i e v he hv=> ?_⟩
  have hlt2:i<(S0 rd c.ps es).1.length:=by rw[← f2];exact (Ej8.1 he).1
  have hlt:i<es.length:=by rw[← r1];exact hlt2
  refine f3 [] (fun p hp=>by simp at hp) ⟨fun _ _ h=>h,fun i b h=>by simp at h⟩ i _ e v (Ej7 hlt2) he ?_
  exact r2 i _ _ v (Ej7 hlt) (Ej7 hlt2) (hargs.2 i _ v (Ej7 hlt) hv)
 refine (hc.go x y h4 w (L5 bs ow) AA0 args hglob (fun _=>rfl) hinv hrepl).mono fun e w' ⟨v,ow',he,hinv',hv⟩=> ?_
 subst he;have hsz:=hinv'.size;simp only at hsz;have hold:∀blk,blk<w.heap.size→w'.heap[blk]? = w.heap[blk]? := by intro blk hlt;exact (hinv'.old blk hlt (fun ⟨b,hb⟩=>BZ8 hb)).1
 let ow2:Nat→A1:=fun blk=>if blk<w.heap.size then ow blk else .B8
 have hkeep:E0 ow bx w ow2 bx w':=by
  refine⟨.of fun blk n h=> ?_,fun blk k fr h _=> ?_,fun _ h=>h,fun b h=> ?_,fun _ _ h=>h⟩
  ·have hlt:=hi.here blk (AK1 h)
   exact⟨Z2 h (by simp only[ow2,if_pos hlt]),hold blk hlt⟩
  ·have hlt:=hi.here blk (by rw[h];intro e;cases e)
   exact⟨by simp only[ow2,if_pos hlt];exact h,hold blk hlt⟩
  ·have hlt:=hi.here (bx b) (by rw[h];intro e;cases e)
   exact⟨rfl,by simp only[ow2,if_pos hlt];exact h⟩
 have hv2:A0 ow2 bx w' (H2 ((A8 c.outs c.A2 y).take c.rs.length)) v:=by unfold Con.res at hv;exact CT7 (fun e he=>CT6 _ _ _ hout e (Eq1 he)) hv
 refine⟨v,ow2,rfl,hkeep,hv2,?_⟩;have hupd:upd bg id none []=bg:=rfl;rw[hupd];constructor
 ·intro b cs hb
  obtain⟨g1,c0,T,g2,g3⟩:=hi.box b cs hb;have hlt:=hi.here (bx b) (by rw[g1];intro e;cases e)
  exact⟨by simp only[ow2,if_pos hlt];exact g1,c0,T,by rw[hold _ hlt];exact g2,g3.keep hkeep⟩
 ·intro blk b h
  simp only[ow2] at h;split at h
  ·exact hi.back blk b h
  ·cases h
 ·intro blk h
  simp only[ow2] at h;split at h
  ·rename_i hlt;omega
  ·exact absurd rfl h
 ·intro blk hlt hnm
  obtain⟨g1,g2,g3⟩:=hi.old blk hlt hnm;have hs:=hi.size;have hlt2:blk<w.heap.size:=by omega
  refine⟨by rw[hold blk hlt2];exact g1,?_,?_⟩
  ·simp only[ow2,if_pos hlt2];exact g2
  ·simp only[ow2,if_pos hlt2];exact g3
 ·have:=hi.size;omega
 ·obtain⟨e1,e2,e3⟩:=hinv'.env
  obtain⟨e4,e5,e6⟩:=hi.env;exact⟨by rw[e1];exact e4,by rw[e2];exact e5,by rw[e3];exact e6⟩
 ·exact hi.kept
 ·exact hi.st.trans hkeep.st
 ·exact hi.born
theorem CT9 {k:Call}{f:Operand}(hΓ:E3 P Γ)(ho:o.op = .call k)(hk:k.callee = .value f)(h:opE Γ id rd g A (.call k) q=some r):Sound P id rd g A o q r:=by
 simp only[opE,hk] at h;split at h
 ·rename_i fid fst caps he
  have hargs:∀{ow bx w} {a:Act},F5 ow bx w A a.eval o.op→∃fs cs,a.eval f = .func (.func fid) fs cs∧S2 ow bx w (fst++k.args.toList.map A++caps) (fs++k.args.map a.eval++cs):=by
    intro ow bx w a hA;have hall:=AK5 ho hA;have hfv:=hall f (by simp[Call.operands,hk])
    rw[he] at hfv;generalize hpe:a.eval f=u at hfv;cases hfv with
    |clo h1 h2 h3 h4=>
     rename_i fs cs;refine⟨fs,cs,rfl,by simp[h1,h2],fun i e v hi hv=> ?_⟩
     rw[Eq2] at hi;rw[Ep5] at hv;simp only[El4,List.length_map,Em4,h1] at hi;simp only[Em7,Array.size_map] at hv;split at hi
     ·rename_i hlt
      rw[if_pos hlt] at hv;rw[Eq2] at hi;rw[Ep5] at hv;rw[h1] at hi;split at hi
      ·rename_i hlt2
       rw[if_pos hlt2] at hv;exact h3 i e v hi hv
      ·rename_i hlt2
       rw[if_neg hlt2] at hv;simp only[Ek3,Array.getElem?_map,Ek5] at hi hv;obtain⟨x,hx,rfl⟩:=hi;obtain⟨y,hy,rfl⟩:=hv;have:x=y:=by
                 have:k.args.toList[i-fs.size]? = some y:=by simpa using hy
                 rw[hx] at this;cases this;rfl
       subst this;exact hall x (by simp only[Call.operands];exact Er2.2 (.inr (Array.mem_of_getElem? hy)))
     ·rename_i hlt
      rw[if_neg hlt] at hv;exact h4 _ e v hi hv
  unfold BW1 at h;split at h
  ·rename_i c hcf
   obtain⟨hmem,hcfid⟩:=BZ5 _ _ hcf;have hc:=hΓ.cons c hmem;subst hcfid;unfold BV8 at h;split at h
   ·unfold roE at h
    split at h
    ·cases h
    ·rename_i l a h1
     split at h
     ·rename_i x hp h3
      have main:∀(y:c.outs.den),c.F x=some y→∀B ow bx nb bg w (act:Act),Inv B ow bx nb bg w→F5 ow bx w A act.eval o.op→
        (∀b∈(S0 rd c.ps (fst++k.args.toList.map A++caps)).2,bg b=rd b)→AC3 P B ow bx nb bg w act o id (H2 ((A8 c.outs c.A2 y).take c.rs.length)) none []:=by
       intro y h4 B ow bx nb bg w act hi hA hrd;obtain⟨fs,cs,hf,hrl⟩:=hargs hA;exact BZ6 hc (At6 hc.fn ho hk hf) (CT8 hc h1 hp h3 h4 id hi hrl hrd)
      cases g with
      |none=>
       simp only at h;cases hF:c.F x with
       |none=>rw [hF] at h;cases h
       |some y=>
        rw[hF] at h;simp only[Em9] at h;exact⟨_,_,_,_,h,fun h=>(by cases h),fun z hz=>(by cases hz),fun _ B ow bx nb bg w act hi hA hb _=>main y hF B ow bx nb bg w act hi hA hb⟩
      |some b=>
       simp only at h;cases hF:(bif b then c.F x else some c.outs.J7) with
       |none=>rw [hF] at h;cases h
       |some y=>
        rw[hF] at h;simp only[Em9] at h;refine⟨_,_,_,_,h,fun _=>⟨rfl,rfl⟩,fun z hz=>(by cases hz),fun hg B ow bx nb bg w act hi hA hb _=> ?_⟩
        have hbt:b=true:=by cases b with
         |true=>rfl
         |false=>exact absurd rfl hg
        subst hbt;simp only[cond_true] at hF;exact main y hF B ow bx nb bg w act hi hA hb
     ·cases h
   split at h
   ·cases h
   ·rename_i l a h1
    split at h
    ·cases h
    ·rename_i l' a' h2
     split at h
     ·cases h
     ·cases h
     ·rename_i x hp h3
      have main:∀(y:c.outs.den) ws,c.F x=some y→AB4 rd a' 0 c.boxes ((A8 c.outs c.A2 y).drop c.rs.length)=some ws→∀B ow bx nb bg w (act:Act),Inv B ow bx nb bg w→F5 ow bx w A act.eval o.op→
        (∀b∈a'.map (·.2),bg b=rd b)→AC3 P B ow bx nb bg w act o id (H2 ((A8 c.outs c.A2 y).take c.rs.length)) none ws:=by
       intro y ws h4 h5 B ow bx nb bg w act hi hA hrd;obtain⟨fs,cs,hf,hrl⟩:=hargs hA;exact BZ6 hc (At6 hc.fn ho hk hf) (CS4 hc h1 h2 hp h3 h4 h5 id hi hrl hrd)
      cases g with
      |none=>
       simp only at h;cases hF:c.F x with
       |none=>rw [hF] at h;cases h
       |some y=>
        rw[hF] at h;simp only[Em9] at h;split at h
        ·rename_i ws hws
         refine⟨_,_,_,_,h,fun h=>(by cases h),fun z hz=> ?_,fun _ B ow bx nb bg w act hi hA hb _=>main y ws hF hws B ow bx nb bg w act hi hA hb⟩
         obtain⟨j,hj⟩:=El6 hz;have:∀(bs:List (List PT)) (i:Nat) (new:List EV) (ws:List Wr),AB4 rd a' i bs new=some ws→∀z∈ws,z.b∈a'.map (·.2)∧∃cs,rd z.b=some cs∧z.off+z.new.length≤cs.length:=by
          intro bs
          induction bs with
          |nil=>intro i new ws h;simp only[AB4] at h;cases h;simp
          |cons pts bs ih=>
           intro i new ws h;simp only[AB4] at h;split at h
           ·rename_i b hb
            split at h
            ·rename_i cs hcs
             split at h
             ·rename_i out rest hr0
              split at h
              ·rename_i hr
               cases h;intro z hz;rcases Ek9.1 hz with rfl | hz
               ·exact⟨En3.2 ⟨_,V3 _ _ _ hb,rfl⟩,cs,hcs,by simp only[El3];rw[CS7 _ _ _ _ _ hr0];exact Em2 _⟩
               ·exact ih _ _ _ hr z hz
              ·cases h
             ·cases h
            ·cases h
           ·cases h
         exact this _ _ _ _ hws z hz
        ·cases h
      |some b=>
       simp only at h;split at h
       ·rename_i hbx
        cases hF:(bif b then c.F x else some c.outs.J7) with
        |none=>rw [hF] at h;cases h
        |some y=>
         rw[hF] at h;simp only[Em9] at h;refine⟨_,_,_,_,h,fun _=>⟨rfl,rfl⟩,fun z hz=>(by cases hz),fun hg B ow bx nb bg w act hi hA hb _=> ?_⟩
         have hbt:b=true:=by cases b with
          |true=>rfl
          |false=>exact absurd rfl hg
         subst hbt;simp only[cond_true] at hF;refine main y [] hF (by rw[hbx];rfl) B ow bx nb bg w act hi hA (fun b hb=> ?_)
         have hab:a'=[]:=by
          simp only[Aq5,Ek0] at hp;have hbel:=hp.1.2;rw[hbx] at hbel;cases a' with
          |nil=>rfl
          |cons p r=>simp [AE2,Nat.ble] at hbel
         rw[hab] at hb;simp at hb
       ·cases h
  ·split at h
   ·rename_i c hcf
    obtain⟨hmem,hcfid⟩:=BZ7 _ _ hcf;have hc:=hΓ.news c hmem;subst hcfid;unfold BW0 at h;split at h
    ·cases h
    ·split at h
     ·rename_i l a hm
      split at h
      ·rename_i x hp hx
       simp only[BV9,Ek0] at hp;obtain⟨⟨⟨hps,hdn⟩,hnin⟩,ha⟩:=hp;have ha:a=[]:=by cases a with | nil=>rfl | cons p r=>cases ha
       subst ha;cases hF:c.F x with
       |none=>rw [hF] at h;cases h
       |some y=>
        rw[hF] at h;simp only[Em9] at h;refine⟨_,_,_,_,h,fun h=>(by cases h),fun z hz=>(by cases hz),fun _ B ow bx nb bg w act hi hA hb hn=> ?_⟩
        obtain⟨hn1,hn2⟩:=hn rfl;obtain⟨fs,cs,hf,hrl⟩:=hargs hA;intro K Q hK;unfold Oper.wp;rw[At6 hc.fn ho hk hf];exact (CT1 hc hm hps (Ej9 hnin) hdn hx hF hi hrl hn1 hn2).mono fun e w' ⟨u,ow',bx',he,h1,h2,h3,h4⟩=>by subst he;exact hK u ow' bx' w' h1 h2 h3 h4
      ·cases h
     ·cases h
   ·cases h
 ·cases h
theorem Ba2 {P:Program}{w:World}{T e:TypeId}(hu:P.underlying T=some (.pointer e))(a:Addr):(Op.equal T (.pointer (some a)) (.pointer none)).run P w = .ok false w:=by
 have key:∀d,(Op.equalIn (d+1) T (.pointer (some a)) (.pointer none)).run P w = .ok false w:=by intro d;rw[Op.equalIn];simp only[Ek4,run_underlying hu,Ek1,Ek8]
 exact key 9999
theorem At7 (hΓ:E3 P Γ)(h:opE Γ id rd g A o.op q=some r):Sound P id rd g A o q r:=by
 cases ho:o.op <;> rw[ho] at h
 case move x=>exact BY1 (.inl ho) h
 case assign x=>exact BY1 (.inr ho) h
 case pick c a b=>
  simp only[opE] at h;split at h
  ·rename_i x hx;exact CP1 ho h ⟨x,hx⟩
  ·cases h
 case alloc t=>exact CP3 hΓ ho h
 case box t x=>exact CP4 ho h
 case build t ps=>exact CR6 hΓ ho h
 case buildSlice t n ps=>exact CR7 hΓ ho h
 case load t a=>exact CP5 hΓ ho h
 case store t a x=>exact CQ2 hΓ ho h
 case nilCheck x=>exact CQ3 ho h
 case binOp op T x y yT=>
  simp only[opE] at h;split at h
  ·rename_i b off hpn hpx
   obtain⟨hy,hT,hlt⟩:y = .const (.pointer none)∧T∈Γ.AJ2∧T<100000000:=by
    unfold BW7 at hpn;split at hpn
    ·rw[Ek0] at hpn
     obtain⟨hlt,hpn⟩:=hpn;refine⟨rfl,?_,Ek2 hlt⟩;unfold E8 at hpn;obtain⟨z,hz,hzk⟩:=List.any_eq_true.1 hpn;have:=Ej9 hzk;subst this;exact hz
    ·cases hpn
   obtain⟨e,hu⟩:=hΓ.AJ2 T hT hlt;subst hy;have key:∀{B:E5} {ow:Nat→A1} {bx:Bx} {nb:Nat} {bg:Nat→Option (List EV)} {w:World} {act:Act},F5 ow bx w A act.eval o.op→∃a,act.eval x = .pointer (some a):=by
    intro B ow bx nb bg w act hA;rw[ho] at hA;have hp:=I1 hA (by intros;simp) x (by simp[Op.operands])
    rw[hpx] at hp;generalize act.eval x=u at hp;cases hp with
    |ptr _=>exact ⟨_,rfl⟩
   split at h
   ·refine C5 h fun hg B ow bx nb bg w act hi hA _=> ?_
    obtain⟨a,ha⟩:=key (B:=B) (nb:=nb) (bg:=bg) hA;exact⟨.bool false,by unfold execOp;rw[ho];have hev:act.eval (.const (.pointer none)) = .pointer none:=rfl;simp only[ha,hev];simp[eqGuard,Go.binOp,Ba2 hu],V2⟩
   ·refine C5 h fun hg B ow bx nb bg w act hi hA _=> ?_
    obtain⟨a,ha⟩:=key (B:=B) (nb:=nb) (bg:=bg) hA;exact⟨.bool true,by unfold execOp;rw[ho];have hev:act.eval (.const (.pointer none)) = .pointer none:=rfl;simp only[ha,hev];simp[eqGuard,Go.binOp,Ba2 hu],V2⟩
   ·cases h
  ·exact CP2 hΓ ho h
 case unOp op T x=>exact CQ4 ho h
 case convert s d x=>exact CS6 hΓ ho h
 case makeFunc fn a b=>exact CQ9 ho h
 case slice t x lo hi mx=>exact CR8 hΓ ho h
 case fieldAddr t x i=>exact CQ7 hΓ ho h
 case field t x i=>exact CQ8 hΓ ho h
 case indexAddr t x i=>exact CR1 hΓ ho h
 case index t x i=>exact CR9 hΓ ho h
 case extract x i=>exact CQ5 ho h
 case call c=>
  cases hc:c.callee with
  |value f=>exact CT9 hΓ ho hc h
  |invoke x m=>simp only[opE,hc] at h;cases h
  |builtin b=>
   cases b
   case len=>exact CR2 hΓ ho hc h
   case max=>exact BY8 (mx:=true) ho hc h
   case min=>exact BY8 (mx:=false) ho hc h
   all_goals (simp only[opE,hc] at h;cases h)
 all_goals (simp only[opE] at h;cases h)
end

theorem CU0 {p:Op}{x y:Operand}{t:Nat}(h:isApp p=some (x,y,t)):∃c,p = .call c∧c.callee = .builtin .append∧c.args=#[x,y]∧c.argTypes=#[t,t]:=by
 unfold isApp at h;split at h
 ·rename_i c
  split at h
  ·rename_i hc
   split at h
   ·rename_i x' y' t1 t2 h1 h2
    split at h
    ·rename_i hb
     cases h;have hb:=Ej9 hb;subst hb;refine⟨c,rfl,hc,?_,?_⟩
     ·apply Er3;simpa using h1
     ·apply Er3;simpa using h2
    ·cases h
   ·cases h
  ·cases h
 ·cases h
theorem Ba3 {P:Program}{Γ:Cx}{t:Nat}{ty:Ty}{b e:Nat}(hΓ:E3 P Γ)(h:Ar6 Γ t=some (ty,b,e)):∃i z,P.underlying t=some (.slice e)∧P.info? e=some i∧i.size=ty.size∧i.bytes=b∧i.zero=some z∧z.cells.size=ty.size∧0<ty.size∧0<b:=by
 unfold Ar6 at h;split at h
 ·rename_i d hd
  split at h
  ·rename_i e' s' bytes' hw
   split at h
   ·rename_i de hde
    split at h
    ·rename_i ty' hty
     split at h
     ·rename_i h1
      cases h;simp only[Ek0] at h1;have hT:=(hΓ.td _ _ hd).how;rw[hw] at hT;obtain⟨_,hu,⟨i,z,g1,g2,g3,g4⟩,_⟩:=hT;obtain⟨i',z',k1,k2,k3,k4,_⟩:=(hΓ.td _ _ hde).zero;rw[g1] at k1;cases k1;rw[g4] at k2;cases k2;have hs:=((hΓ.td _ _ hde).agg _ hty).1;exact⟨i,z,hu,g1,by omega,g3,g4,by omega,Ek2 h1.1,Ek2 h1.2⟩
     ·cases h
    ·cases h
   ·cases h
  ·cases h
 ·cases h
section
variable {ow:Nat→A1}{bx:Bx}{w:World}
theorem Ah7 {a:Ty}{l:List a.den}{v:Value}(h:C7 ow w (.slice a) l v)(ha:0<a.size):∃ad cap,v = .slice ad l.length cap∧l.length≤9223372036854775807∧l.length≤cap∧
  (l≠[]→∃blk off c T fz,ad=some ⟨blk,off,none⟩∧A5 ow blk (off+l.length*a.size)∧w.heap[blk]? = some (.cells c T fz)∧off+l.length*a.size≤c.size∧
   (∀u∈(c.toList.drop off).take (l.length*a.size),u.oneCell'=true)∧
   ∀(i:Nat) x,l[i]? = some x→Rep ow w a x ((((c.toList.drop off).take (l.length*a.size)).drop (i*a.size)).take a.size)):=by
 obtain⟨ad,cap,hv,⟨h1,h2⟩,h3⟩:=h;simp only[List.cons.injEq,and_true] at hv;refine⟨ad,cap,hv,h1,h2,fun hne=> ?_⟩
 obtain⟨blk,off,c,T,fz,k1,k2,k3,k4⟩:=h3 hne;have hpos:0<l.length:=Eq5.2 hne;have hlast:=V1 _ _ _ (k4 (l.length-1) _ (Ej7 (by omega)))
 have hm:(l.length-1)*a.size+a.size=l.length*a.size:=by
  have:=Em3 (l.length-1) 1 a.size;rw[Nat.one_mul,show l.length-1+1=l.length by omega] at this
  omega
 have hsz:off+l.length*a.size≤c.size:=by rw[En7,En0,Em4] at hlast;omega
 have part:∀i,i<l.length→(((c.toList.drop off).take (l.length*a.size)).drop (i*a.size)).take a.size=(c.toList.drop (off+i*a.size)).take a.size:=by
  intro i hi;have hle:i*a.size+a.size≤l.length*a.size:=by have:=T4 (off:=0) (s:=a.size) hi;omega
  rw[Ep6,Em8,El9 (by omega),List.drop_drop]
 refine⟨blk,off,c,T,fz,k1,k2,k3,hsz,fun u hu=> ?_,fun i x hx=> ?_⟩
 ·obtain⟨j,hj⟩:=El6 hu
  have hjl:j<l.length*a.size:=by have:=(Ej8.1 hj).1;rw[En7] at this;omega
  have hi:j/a.size<l.length:=Nat.div_lt_of_lt_mul (by rwa [Nat.mul_comm])
  refine As7 _ _ _ (k4 (j/a.size) _ (Ej7 hi)) u ?_;rw[← part _ hi];have hjm:j=j/a.size*a.size+j % a.size:=by have:=Nat.div_add_mod j a.size;rw[Nat.mul_comm] at this;omega
  have hmod:=Nat.mod_lt j ha;refine El1 (i:=j % a.size) ?_;rw[El0,if_pos hmod,El5,← hjm];exact hj
 ·rw[part i (Ej8.1 hx).1]
  exact k4 i x hx
theorem CU1 {ow':Nat→A1}{w':World}{a:Ty}{l l':List a.den}{g cap:Nat}{c:Array Value}{T:TypeId}{olds news:List Value}(ha:0<a.size)(hn:(l++l').length≤9223372036854775807)(hc:(l++l').length≤cap)
  {fz:Nat×Nat} (hR:A5 ow' g ((l++l').length*a.size)) (hb:w'.heap[g]? = some (.cells c T fz)) (ht:c.toList.take ((l++l').length*a.size)=olds++news) (hlo:olds.length=l.length*a.size)
  (h1:∀(i:Nat) x,l[i]? = some x→Rep ow' w' a x ((olds.drop (i*a.size)).take a.size)) (h2:∀(i:Nat) x,l'[i]? = some x→Rep ow' w' a x ((news.drop (i*a.size)).take a.size)):
  C7 ow' w' (.slice a) (l++l') (.slice (some ⟨g,0,none⟩) (l++l').length cap):=by
 refine⟨some ⟨g,0,none⟩,cap,rfl,⟨hn,hc⟩,fun _=>⟨g,0,c,T,fz,rfl,by rw[El3];exact hR,hb,fun i x hx=> ?_⟩⟩
 rw[El3];have hi:=(Ej8.1 hx).1;have hle:=T4 (off:=0) (s:=a.size) hi;have e:(c.toList.drop (i*a.size)).take a.size=((olds++news).drop (i*a.size)).take a.size:=by rw[← ht,Ep6,Em8,El9 (by omega)]
 rw[e];by_cases hl:i<l.length
 ·rw[Eo4 hl] at hx
  have hle':=T4 (off:=0) (s:=a.size) hl;have:=h1 i x hx;rw[Eo1 (by omega),Em6 (by rw[En0];omega)]
  exact this
 ·rw[List.getElem?_append_right (by omega)] at hx
  have:=h2 (i-l.length) x hx;have e2:(olds++news).drop (i*a.size)=news.drop ((i-l.length)*a.size):=by rw[List.drop_append,Ep2 (by rw[hlo];exact El2 _ (by omega)),Ep0,hlo,Nat.sub_mul]
  rw[e2];exact this
end
theorem At8 (P:Program)(g o:Nat)(t:TypeId)(fz:Nat×Nat):∀(vs:List Value) (i:Nat) (cur:Array Value) (w:World),w.heap[g]? = some (.cells cur t fz)→X1 fz cur.size→o+i+vs.length≤cur.size→(∀v∈vs,v.oneCell'=true)→
  (storeCells ⟨g,o,none⟩ vs i).run P w = .ok () (w.setRow g (cur.toList.take (o+i)++vs++cur.toList.drop (o+i+vs.length)).toArray)
 | [],i,cur,w,hg,_,_,_=>by simp only[storeCells,En2,En1,Eo8,List.take_append_drop,Ep9];rw[setRow_self w g cur t fz hg];rfl
 |v::rest,i,cur,w,hg,hz,hl,h1=>by
  have hi:o+i<cur.size:=by simp at hl;omega
  have hadd:(⟨g,o,none⟩:Addr).add i=⟨g,o+i,none⟩:=by unfold Addr.add;split <;> simp_all
  have hcell:w.cell? ⟨g,o+i,none⟩=some cur[o+i]:=by simp[World.cell?,hg,hi]
  have hfro:w.frozen? ⟨g,o+i,none⟩=false:=by
   have:=hz.at hi;obtain⟨lo,hi2⟩:=fz;simp only[World.frozen?,hg];cases hb:(decide (lo≤o+i)&&decide (o+i<hi2)) with
   |false=>rfl
   |true=>
    simp only[Ek0,decide_eq_true_eq] at hb;exact absurd hb this
  have hst:(store ((⟨g,o,none⟩:Addr).add i) v).run P w = .ok () (w.setRow g (cur.setIfInBounds (o+i) v)):=by
   rw[hadd,run_store P w _ v _ (h1 v (by simp)),hcell]
   simp[hfro,setCell_eq_setRow w g (o+i) cur t fz v hg]
  have ih:=At8 P g o t fz rest (i+1) (cur.setIfInBounds (o+i) v) (w.setRow g (cur.setIfInBounds (o+i) v)) (setRow_heap w g cur _ t _ hg) (by simpa using hz) (by simp at hl ⊢;omega) (fun x hx=>h1 x (by simp[hx]))
  simp only[storeCells,Ek4,hst,Ek1,ih,setRow_setRow];congr 3;have e:=list_seg_step cur.toList (o+i) v rest (by simp at hl ⊢;omega)
  simpa[Eo3,Eq4] using e
theorem Ba4 {P:Program}(w:World)(t ty e:TypeId)(i:TypeInfo)(ht:P.underlying t=some (.slice e))(hi:P.info? e=some i)
  (g sLen sCap:Nat) (cur:Array Value) (fz:Nat×Nat) (hg:w.heap[g]? = some (.cells cur e fz)) (hz:X1 fz cur.size)
  (a:Addr) (m c:Nat) (news:List Value) (hl:news.length=m*i.size) (hnews:∀j u,news[j]? = some u→w.cell? (a.add j)=some u) (h1:∀u∈news,u.oneCell'=true)
  (hroom:sLen+m≤sCap) (hfit:sLen*i.size+news.length≤cur.size):
  (Builtin.append_ #[t,t] ty #[.slice (some ⟨g,0,none⟩) sLen sCap,.slice (some a) m c]).run P w=
   .ok (.slice (some ⟨g,0,none⟩) (sLen+m) sCap) (w.setRow g (cur.toList.take (sLen*i.size)++news++cur.toList.drop (sLen*i.size+news.length)).toArray):=by
 have hf:=run_firstCells_some (P:=P) w i.size m a m c news hl hnews;have hst:=At8 P g (sLen*i.size) e fz news 0 cur w hg hz (by simpa using hfit) h1
 simp only[Eo8] at hst;simp[Builtin.append_,run_underlying ht,sizeOf,typeInfo,hi,Builtin.lenOf,hroom,hf,Addr.add_lit,hst]
theorem At9 (w:World)(o:Obj):(w.drew.alloc o).heap.size=w.heap.size+1:=by show (w.heap.push o).size=w.heap.size+1;exact Array.size_push _
theorem V4 {α:Type}(c:Array α):c.toList.length=c.size:=by simp
theorem P9 {k:Nat}{l:List Nat}(h:E8 k l=false):k∉l:=by intro hm;unfold E8 at h;rw[List.any_eq_false] at h;exact h k hm (En5 k)
theorem Ah8 {B:E5}{ow:Nat→A1}{bx:Bx}{nb:Nat}{bg:Nat→Option (List EV)}{w w':World}(hi:Inv B ow bx nb bg w){g k k' fr:Nat}{c:Array Value}{T:TypeId}{fz₀ fz:Nat×Nat}
  (hg:(g=w.heap.size∧w'.heap.size=w.heap.size+1)∨(w'.heap.size=w.heap.size∧∃fr₀ c₀,ow g = .tok k fr₀∧w.heap[g]? = some (.cells c₀ T fz₀)∧fr₀≤fr∧c.toList.take fr₀=c₀.toList.take fr₀))
  (hb:w'.heap[g]? = some (.cells c T fz)) (hold:∀blk,blk<w.heap.size→blk≠g→w'.heap[blk]? = w.heap[blk]?) (henv:w'.tape=w.tape∧w'.os=w.os∧w'.output=w.output) (hdk:bx.dead k=false):
  E0 ow bx w (fun blk=>if blk=g then .tok k' fr else ow blk) ⟨bx.f,fun j=>bx.dead j||Eq9 k j,bx.tb⟩ w'∧Inv B (fun blk=>if blk=g then .tok k' fr else ow blk) ⟨bx.f,fun j=>bx.dead j||Eq9 k j,bx.tb⟩ nb bg w':=by
 have hbox:∀b,ow g≠ .box b:=by
  intro b h;rcases hg with⟨hg,_⟩|⟨_,fr₀,c₀,h1,_⟩
  ·have:=hi.here g (by rw[h];intro e;cases e)
   omega
  ·rw[h1] at h;cases h
 have hlive:∀blk,ow blk≠ .B8→blk≠g→w'.heap[blk]? = w.heap[blk]? := fun blk h hne=>hold blk (hi.here blk h) hne
 have hk:E0 ow bx w (fun blk=>if blk=g then .tok k' fr else ow blk) ⟨bx.f,fun j=>bx.dead j||Eq9 k j,bx.tb⟩ w':=by
  refine⟨fun blk n c1 T1 fz1 hr h1=> ?_,fun blk k2 fr2 h2 hd=> ?_,fun j hd=> ?_,fun b h=> ?_,fun _ _ h=>h⟩
  ·by_cases hbg:blk=g
   ·subst hbg
    rcases hg with⟨hg,_⟩|⟨_,fr₀,c₀,g1,g2,g3,g4⟩
    ·have:=hi.here blk (AK1 hr)
     omega
    ·rw[g2] at h1
     cases h1;have hn:n≤fr₀:=by
      rcases L4 hr with h |⟨_,_,h,hn⟩|⟨_,h,_⟩ <;> rw[g1] at h <;> cases h
      exact hn
     refine⟨u7 (k:=k') (fr:=fr) (by simp) (by omega),c,fz,hb,?_⟩
     have:=congrArg (List.take n) g4
     rwa [Em8,Em8,El9 hn] at this
   ·exact⟨Z2 hr (by simp only[if_neg hbg]),c1,fz1,by rw[hlive blk (AK1 hr) hbg,h1],rfl⟩
  ·simp only at hd
   have hbg:blk≠g:=by
    intro e;subst e;rcases hg with⟨hg,_⟩|⟨_,fr₀,c₀,g1,_⟩
    ·have:=hi.here blk (by rw[h2];intro e;cases e)
     omega
    ·rw[g1] at h2
     cases h2;rw[En5,hdk] at hd;cases hd
   exact⟨by simp only[if_neg hbg];exact h2,hlive blk (by rw[h2];intro e;cases e) hbg⟩
  ·simp only[Eo0] at hd
   exact hd.1
  ·have hbg:bx b≠g:=fun e=>hbox b (by rw[← e];exact h)
   exact⟨rfl,by simp only[if_neg hbg];exact h⟩
 refine⟨hk,?_⟩;constructor
 ·intro b cs hcs
  obtain⟨h1,c1,T1,h2,h3⟩:=hi.box b cs hcs;have hbg:bx b≠g:=fun e=>hbox b (by rw[← e];exact h1)
  exact⟨by simp only[if_neg hbg];exact h1,c1,T1,by rw[hlive _ (by rw[h1];intro e;cases e) hbg];exact h2,h3.keep hk⟩
 ·intro blk b h
  split at h
  ·cases h
  ·exact hi.back blk b h
 ·intro blk h
  split at h
  ·rename_i e
   subst e;exact (Array.getElem?_eq_some_iff.1 hb).1
  ·have:=hi.here blk h
   rcases hg with⟨_,h⟩|⟨h,_⟩ <;> omega
 ·intro blk h1 h2
  obtain⟨g1,g2,g3,g4⟩:=hi.old blk h1 h2;have hs:=hi.size;have hbg:blk≠g:=by
   intro e;subst e;rcases hg with⟨hg,_⟩|⟨_,fr₀,c₀,k1,_⟩
   ·omega
   ·exact g4 _ _ k1
  refine⟨?_,by simp only[if_neg hbg];exact g2,by simp only[if_neg hbg];exact⟨g3,g4⟩⟩
  rw[hold blk (by omega) hbg]
  exact g1
 ·have:=hi.size
  rcases hg with⟨_,h⟩|⟨h,_⟩ <;> omega
 ·obtain⟨e1,e2,e3⟩:=hi.env
  obtain⟨e4,e5,e6⟩:=henv;exact⟨by rw[e4];exact e1,by rw[e5];exact e2,by rw[e6];exact e3⟩
 ·exact hi.kept
 ·exact hi.st.trans hk.st
 ·exact fun j h=>(hi.born j h).imp (fun h=>h) fun h=>⟨by simp only[h.1,Bool.true_or],h.2⟩
theorem CU2 {ρ:Type}{P:Program}{Γ:Cx}(hΓ:E3 P Γ){dead:List Nat}{o:Oper}{A:Operand→EV}{x y:Operand}{t:Nat}{q:EV→Nat→Option ρ}{r:ρ}(happ:isApp o.op=some (x,y,t))
  (h:BE3 Γ dead o.dst (A x) (A y) t q=some r):∃v k,q v k=some r∧k∉dead∧
   ∀id B ow bx nb bg w (a:Act),Inv B ow bx nb bg w→F5 ow bx w A a.eval o.op→bx.dead k=false→AC4 P B ow bx nb bg w a o id v none [] [k] []:=by
 obtain⟨c,hop,hcal,hargs,hats⟩:=CU0 happ;unfold BE3 at h;split at h
 ·rename_i ty bytes e hT
  obtain⟨i,z,hu,hinf,hsz,hby,hz,hzs,hpos,hbpos⟩:=Ba3 hΓ hT;split at h
  ·rename_i k l l' ho hl'
   split at h
   ·rename_i hok
    obtain⟨h1,h2⟩:=O2 h;have hroom:=h2 (by simp)
    rw[decide_eq_true_eq] at hroom;simp only[BX0,Ek0,Er0] at hok;obtain⟨⟨hke,hnd⟩,he25⟩:=hok;have he25:e<25000:=Ek2 he25;have hk5:k % 25000=e:=by
     rcases Eq6.1 hke with h | h
     ·have:=Ej9 h;omega
     ·exact Ej9 (Eq3.1 h).2
    have hfr:∀n,H6 k n≤n:=fun n=>by unfold H6;cases soft k <;> simp
    have hT:AB6 k e % 100000=e:=by
     unfold AB6;split
     ·omega
     ·rename_i hs
      rcases Eq6.1 hke with h | h
      ·exact Ej9 h
      ·rw[(Eq3.1 h).1] at hs;cases hs
    have hsB:soft (AB6 k e+BIG)=false:=by
     unfold soft;rw[show (AB6 k e+BIG) % 100000=e by unfold BIG;omega]
     cases hb:Nat.ble 50000 e with
     |false=>rfl
     |true=>have:=Ek2 hb;omega
    have hfB:∀n,H6 (AB6 k e+BIG) n=n:=fun n=>by unfold H6;rw[hsB];rfl
    refine⟨_,k,h1,P9 hnd,fun id B ow bx nb bg w a hi hA hd=> ?_⟩
    have hrx:A0 ow bx w (A x) (a.eval x):=by rw[hop] at hA;exact AK5 hop (by rw[hop];exact hA) x (by simp[Call.operands,hargs,hcal])
    have hry:A0 ow bx w (A y) (a.eval y):=by rw[hop] at hA;exact AK5 hop (by rw[hop];exact hA) y (by simp[Call.operands,hargs,hcal])
    have hX:Own ow w k ty l (a.eval x)∧(∃adX capX,a.eval x = .slice adX l.length capX∧l.length≤9223372036854775807∧l.length≤capX)∧
      ∀g cap c fz,a.eval x = .slice (some ⟨g,0,none⟩) l.length cap→w.heap[g]? = some (.cells c (k % 25000) fz)→∀(i:Nat) x,l[i]? = some x→Rep ow w ty x (((c.toList.take (l.length*ty.size)).drop (i*ty.size)).take ty.size):=by
     have hard:∀{v:Value},C7 ow w (.slice ty) l v→(∃adX capX,v = .slice adX l.length capX∧l.length≤9223372036854775807∧l.length≤capX)∧
       ∀g cap c fz,v = .slice (some ⟨g,0,none⟩) l.length cap→w.heap[g]? = some (.cells c (k % 25000) fz)→∀(i:Nat) x,l[i]? = some x→Rep ow w ty x (((c.toList.take (l.length*ty.size)).drop (i*ty.size)).take ty.size):=by
      intro v hv;obtain⟨adX,capX,hvX,hX1,hX2,hX3⟩:=Ah7 hv hpos;refine⟨⟨adX,capX,hvX,hX1,hX2⟩,fun g cap c fz hv hb i x hx=> ?_⟩
      have hne:l≠[]:=by intro e;rw[e] at hx;simp at hx
      obtain⟨blk,off,c1,T1,fz1,q1,q2,q3,q4,q5,q6⟩:=hX3 hne;rw[hvX,q1] at hv;simp only[Value.slice.injEq,Option.some.injEq,Addr.mk.injEq] at hv;obtain⟨⟨rfl,rfl,_⟩,_⟩:=hv;rw[q3] at hb;cases hb;have:=q6 i x hx
      rwa [List.drop_zero] at this
     unfold BW9 at ho;split at ho
     ·rename_i hnil
      split at ho
      ·cases ho
       rw[hnil] at hrx;generalize a.eval x=u at hrx;cases hrx;exact⟨.inl ⟨rfl,rfl⟩,hard (AK2 ty)⟩
      ·cases ho
     ·rename_i k' ty' l0 hown
      split at ho
      ·rename_i hty
       subst hty;cases ho;rw[hown] at hrx;generalize a.eval x=u at hrx;cases hrx with
       |own h h' hh=>
        cases hsf:soft k with
        |false=>exact ⟨h' hd,hard (h hsf)⟩
        |true=>
         have ho:=h' hd;refine⟨ho,?_⟩;rcases ho with⟨h1,h2⟩|⟨blk,cap,c,fz,h1,h2,h3,h3',h4,h5,h6⟩
         ·subst h1
          refine⟨⟨none,0,by rw[h2];rfl,by rw[h2];simp,by rw[h2];simp⟩,fun g cap c fz hv=>by cases hv⟩
         ·subst h1
          refine⟨⟨_,_,rfl,(h6 hsf).1,h5⟩,fun g cap' c' fz' hv hb i x hx=> ?_⟩
          cases hv;rw[h3] at hb;cases hb;have hi:=(Ej8.1 hx).1;have hle:=T4 (off:=0) (s:=ty'.size) hi;rw[Ep6,Em8,El9 (by omega)]
          exact (h6 hsf).2 i x hx
      ·cases ho
     ·cases ho
    have hY:C7 ow w (.slice ty) l' (a.eval y):=w9 hl' hry;have hrun:∀v' w',(Builtin.append_ #[t,t] o.type #[a.eval x,a.eval y]).run P w = .ok v' w'→(execOp a.eval o).run P w = .ok (.value v') w':=by intro v' w' hv;rw[Ah3 hop hcal,hargs,hats];simp only[builtin,List.map_toArray,Eo2,List.map_nil];simp[hv]
    have hkB:(AB6 k e+BIG) % 25000=e:=by unfold BIG;omega
    have hlen:(l++l').length=l.length+l'.length:=El4;have hmaxn:l.length+l'.length≤140737488355328:=by have:=Nat.le_mul_of_pos_right (l.length+l'.length) hbpos;omega
    have fin:∀(w':World) (g cap':Nat) (cc:Array Value) (fz:Nat×Nat) (olds news:List Value),X1 fz cc.size→
      (Builtin.append_ #[t,t] o.type #[a.eval x,a.eval y]).run P w = .ok (.slice (some ⟨g,0,none⟩) (l++l').length cap') w'→
      ((g=w.heap.size∧w'.heap.size=w.heap.size+1)∨(w'.heap.size=w.heap.size∧∃fr₀ c₀,ow g = .tok k fr₀∧w.heap[g]? = some (.cells c₀ e fz)∧fr₀≤(l++l').length*ty.size∧cc.toList.take fr₀=c₀.toList.take fr₀))→
      w'.heap[g]? = some (.cells cc e fz)→(∀blk,blk<w.heap.size→blk≠g→w'.heap[blk]? = w.heap[blk]?)→(w'.tape=w.tape∧w'.os=w.os∧w'.output=w.output)→
      cc.toList.take ((l++l').length*ty.size)=olds++news→olds.length=l.length*ty.size→cc.size=cap'*ty.size→(l++l').length≤cap'→(l++l').length≤9223372036854775807→
      (∀(i:Nat) x,l[i]? = some x→Rep ow w ty x ((olds.drop (i*ty.size)).take ty.size))→(∀(i:Nat) x,l'[i]? = some x→Rep ow w ty x ((news.drop (i*ty.size)).take ty.size))→
      AC4 P B ow bx nb bg w a o id (.own (AB6 k e+BIG) ty (l++l')) none [] [k] []:=by
     intro w' g cap' cc fz olds news hlz hr hg hb hold henv htake hlo hcs hcap hmax ho1 ho2 K Q hK;obtain⟨hkeep,hinv⟩:=Ah8 hi (k:=k) (k':=AB6 k e+BIG) (fr:=(l++l').length*ty.size) (fz₀:=fz) hg hb hold henv hd;unfold Oper.wp;rw[hrun _ _ hr];refine hK _ _ _ _ hkeep (.own (fun _=> ?_) (fun _=>.inr ⟨g,cap',cc,fz,rfl,by simp[hfB],by rw[hkB];exact hb,hlz,hcs,hcap,fun h=>(by rw[hsB] at h;cases h)⟩) fun h=>(by rw[hsB] at h;cases h)) hinv (fun j=>by simp[F4]) (fun p hp=>by simp at hp)
     exact CU1 hpos hmax hcap (u7 (k:=AB6 k e+BIG) (fr:=(l++l').length*ty.size) (by simp) (Em2 _)) hb htake hlo (fun i x hx=>Rep.keep hkeep.st _ _ _ (ho1 i x hx)) (fun i x hx=>Rep.keep hkeep.st _ _ _ (ho2 i x hx))
    obtain⟨adY,capY,hvY,hY1,hY2,hY3⟩:=Ah7 hY hpos;obtain⟨hXo,⟨adX,capX,hvX,hX1,hX2⟩,hXc⟩:=hX;have hO:∀g cap c fz,a.eval x = .slice (some ⟨g,0,none⟩) l.length cap→w.heap[g]? = some (.cells c (k % 25000) fz)→c.size=cap*ty.size→l.length≤cap→
      (c.toList.take (l.length*ty.size)).length=l.length*ty.size∧(∀j u,(c.toList.take (l.length*ty.size))[j]? = some u→w.cell? ((⟨g,0,none⟩:Addr).add j)=some u)∧
      ∀(i:Nat) x,l[i]? = some x→Rep ow w ty x (((c.toList.take (l.length*ty.size)).drop (i*ty.size)).take ty.size):=by
     intro g cap c fz hv hb hc hn;have hle:l.length*ty.size≤c.size:=by rw[hc];exact El2 _ hn
     refine⟨by rw[En7,V4 c,El9 hle],fun j u hj=> ?_,fun i x hx=> ?_⟩
     ·rw[Z3,AE8 hb,El3]
      rw[El0] at hj;split at hj
      ·simpa using hj
      ·cases hj
     ·exact hXc g cap c fz hv hb i x hx
    by_cases hl0:l'=[]
    ·subst hl0
     have hf:(Builtin.firstCells i.size 0 (.slice adY 0 capY)).run P w = .ok #[] w:=by
      cases adY with
      |none=>exact run_firstCells_none w i.size 0 0 capY
      |some a'=>exact run_firstCells_some w i.size 0 a' 0 capY [] (by simp) (by intro j v h';simp at h')
     have r0:(Builtin.append_ #[t,t] o.type #[a.eval x,a.eval y]).run P w = .ok (.slice adX l.length capX) w:=by rw[hvX,hvY];cases adX <;> simp[Builtin.append_,run_underlying hu,sizeOf,typeInfo,hinf,Builtin.lenOf,hX2,hf,storeCells]
     rcases hXo with⟨hnil,hln⟩|⟨g,cap,cc,fz,hv,hown,hb,hlz,hc,hn,_⟩
     ·intro K Q hK
      unfold Oper.wp;rw[hrun _ _ r0,← hvX];have hkeep:E0 ow bx w ow ⟨bx.f,fun j=>bx.dead j||Eq9 k j,bx.tb⟩ w:=by
       refine⟨.refl ow w,fun _ _ _ h _=>⟨h,rfl⟩,fun j h=> ?_,fun _ h=>⟨rfl,h⟩,fun _ _ h=>h⟩
       simp only[Eo0] at h;exact h.1
      refine hK _ ow ⟨bx.f,fun j=>bx.dead j||Eq9 k j,bx.tb⟩ _ hkeep (.own (fun _=> ?_) (fun _=>.inl ⟨hnil,by simp[hln]⟩) fun h=>(by rw[hsB] at h;cases h)) ?_ (fun j=>by simp[F4]) (fun p hp=>by simp at hp)
      ·subst hln
       rw[hnil];exact AK2 ty
      ·exact⟨fun b cs hcs=>by obtain⟨g1,c1,T1,g2,g3⟩:=hi.box b cs hcs;exact⟨g1,c1,T1,g2,g3.keep hkeep⟩,hi.back,hi.here,hi.old,hi.size,hi.env,hi.kept,hi.st.trans hkeep.st,fun j h=>(hi.born j h).imp (fun h=>h) fun h=>⟨by simp only[h.1,Bool.true_or],h.2⟩⟩
     ·obtain⟨o1,o2,o3⟩:=hO g cap cc fz hv hb hc hn
      have hr:(.slice adX l.length capX:Value) = .slice (some ⟨g,0,none⟩) (l++[]).length cap:=by rw[← hvX,hv,En2]
      rw[hr] at r0;rw[hk5] at hb;refine fin w g cap cc fz _ [] hlz r0 (.inr ⟨rfl,_,cc,hown,hb,by rw[En2];exact hfr _,rfl⟩) hb (fun _ _ _=>rfl) ⟨rfl,rfl,rfl⟩ (by simp) o1 hc (by simpa using hn) (by simp;omega) o3 (fun i x hx=>by simp at hx)
    ·obtain⟨blk,off,cY,TY,fzY,y1,y2,y3,y4,y5,y6⟩:=hY3 hl0
     have hposY:0<l'.length:=Eq5.2 hl0;obtain⟨news,hnewsdef⟩:∃news,news=(cY.toList.drop off).take (l'.length*ty.size):=⟨_,rfl⟩;rw[← hnewsdef] at y5;have hnl:news.length=l'.length*ty.size:=by rw[hnewsdef,En7,En0,V4 cY,El9 (by omega)]
     have hnews:∀j u,news[j]? = some u→w.cell? ((⟨blk,off,none⟩:Addr).add j)=some u:=by
      intro j u hj;rw[Z3,AE8 y3];rw[hnewsdef,El0] at hj;split at hj
      ·rw[El5] at hj
       simpa using hj
      ·cases hj
     have y6':∀(i:Nat) x,l'[i]? = some x→Rep ow w ty x ((news.drop (i*ty.size)).take ty.size):=by rw[hnewsdef];exact y6
     have hnl':news.length=l'.length*i.size:=by rw[hnl,hsz]
     have hbytes:(l.length+l'.length)*i.bytes≤140737488355328:=by rw[hby];exact hroom
     rw[y1] at hvY;rcases hXo with⟨hnil,hln⟩|⟨g,cap,cc,fz,hv,hown,hb,hlz,hc,hn,_⟩
     ·have hl:l=[]:=hln
      subst hl;have hr:=run_append_nil (P:=P) w t o.type e i z hu hinf hz ⟨blk,off,none⟩ l'.length capY news hnl' hnews hposY (by omega) (by simp at hbytes;omega)
      rw[← hvY,← hnil] at hr;have hge:=grownCap_ge w l'.length 0 e;refine fin _ w.heap.size (grownCap w l'.length 0 e) (news.toArray++Builtin.zeroCells z.cells (grownCap w l'.length 0 e-l'.length)) (0,0) [] news (AY4 _) hr (.inl ⟨rfl,At9 w _⟩) (heap_alloc_new w.drew _) (fun b hb _=>heap_alloc_old w.drew _ hb) ⟨rfl,rfl,rfl⟩ ?_ (by simp) ?_ (by simpa using hge) (by simp;omega) (fun i x hx=>by simp at hx) y6'
      ·simp only[Eq7,Ep0,En1]
       rw[← hnl];exact Ep7
      ·rw[Em7,El7,size_zeroCells,hzs,hnl,← Em3,Eq8 hge]
     ·obtain⟨o1,o2,o3⟩:=hO g cap cc fz hv hb hc hn
      rw[hk5] at hb;have hle:l.length*ty.size≤cc.size:=by rw[hc];exact El2 _ hn
      by_cases hroom2:l.length+l'.length≤cap
      ·have hfit:l.length*ty.size+news.length≤cc.size:=by rw[hnl,hc,← Em3];exact El2 _ hroom2
       have hr:=Ba4 (P:=P) w t o.type e i hu hinf g l.length cap cc fz hb hlz ⟨blk,off,none⟩ l'.length capY news hnl' hnews (fun u hu=>y5 u hu) hroom2 (by rw[hsz];exact hfit)
       rw[← hvY,← hv,hsz,← hlen] at hr;have hsame:(cc.toList.take (l.length*ty.size)++news++cc.toList.drop (l.length*ty.size+news.length)).toArray.size=cc.size:=by rw[El7,El4,El4,o1,En0,V4 cc];omega
       refine fin _ g cap _ fz (cc.toList.take (l.length*ty.size)) news (by rw[hsame];exact hlz) hr (.inr ⟨setRow_size _ _ _,_,cc,hown,hb,Nat.le_trans (hfr _) (El2 _ (by omega)),?_⟩) (setRow_heap w g cc _ e fz hb) (fun b _ hne=>setRow_other w g b _ hne) ⟨rfl,rfl,rfl⟩ ?_ o1 ?_ (by omega) (by omega) o3 y6'
       ·rw[Em0,Em6 (by rw[o1];exact hfr _),Em8,El9 (hfr _)]
       ·have:(l++l').length*ty.size=(cc.toList.take (l.length*ty.size)++news).length:=by rw[hlen,Em3,El4 (as:=cc.toList.take (l.length*ty.size)),o1,hnl]
        rw[this];exact Ep7
       ·rw[El7,El4,El4,o1,En0,V4 cc,← hc]
        omega
      ·have hfitb:Builtin.nextslicecap (l.length+l'.length) cap*i.bytes≤281474976710656:=growslice_fits (by omega) hbytes
       have hr:=run_append_grow (P:=P) w t o.type e i z hu hinf hz ⟨g,0,none⟩ l.length cap (cc.toList.take (l.length*ty.size)) (by rw[o1,hsz]) o2 ⟨blk,off,none⟩ l'.length capY news hnl' hnews (by omega) (by omega) hfitb
       rw[← hvY,← hv,← hlen] at hr;have hge:=grownCap_ge w (l++l').length cap e;refine fin _ w.heap.size (grownCap w (l++l').length cap e) _ (0,0) (cc.toList.take (l.length*ty.size)) news (AY4 _) hr (.inl ⟨rfl,At9 w _⟩) (heap_alloc_new w.drew _) (fun b hb _=>heap_alloc_old w.drew _ hb) ⟨rfl,rfl,rfl⟩ ?_ o1 ?_ hge (by omega) o3 y6'
       ·have:(l++l').length*ty.size=(cc.toList.take (l.length*ty.size)++news).length:=by rw[hlen,Em3,El4 (as:=cc.toList.take (l.length*ty.size)),o1,hnl]
        rw[this];simp only[Eq7];exact Ep7
       ·rw[Em7,Em7,El7,El7,size_zeroCells,hzs,hnl,o1,← Em3,← Em3,← hlen,Eq8 hge]
   ·cases h
  ·cases h
 ·cases h
theorem CU3 {w:World}{g n:Nat}{c:Array Value}{e:TypeId}{fz:Nat×Nat}(hg:w.heap[g]? = some (.cells c e fz)):
  (w.freeze ⟨g,n,none⟩ 1).heap[g]? = some (.cells c e (if fz.1==fz.2 then (n,n+1) else (min fz.1 n,max fz.2 (n+1))))∧(w.freeze ⟨g,n,none⟩ 1).heap.size=w.heap.size∧
   (∀blk,blk≠g→(w.freeze ⟨g,n,none⟩ 1).heap[blk]? = w.heap[blk]?)∧(w.freeze ⟨g,n,none⟩ 1).tape=w.tape∧(w.freeze ⟨g,n,none⟩ 1).os=w.os∧(w.freeze ⟨g,n,none⟩ 1).output=w.output:=by
 unfold World.freeze;rw[if_neg (by decide)]
 refine⟨?_,by simp,fun blk hb=> ?_,rfl,rfl,rfl⟩
 ·simp only[Ep8,hg,if_true,Ek6]
 ·simp only[Ep8]
  exact if_neg (fun h=>hb h.symm)
theorem CU4 {fz:Nat×Nat}{n:Nat}(h:X1 fz n):X1 (if fz.1==fz.2 then (n,n+1) else (min fz.1 n,max fz.2 (n+1))) n:=by
 split
 ·exact .inr (Em2 _)
 ·rename_i hne
  rcases h with h | h
  ·exact absurd (by simp[h]) hne
  ·exact .inr (by simp only;omega)
theorem CU5 {ρ:Type}{P:Program}{Γ:Cx}(hΓ:E3 P Γ){dead:List Nat}{o:Oper}{A:Operand→EV}{x:Operand}{t:Nat}{q:EV→Nat→Option ρ}{r:ρ}(hm:BE6 Γ o.op=some (t,x))
  (h:BE7 Γ dead t (A x) q=some r):∃v k,q v k=some r∧k∉dead∧
   ∀id B ow bx nb bg w (a:Act),Inv B ow bx nb bg w→F5 ow bx w A a.eval o.op→bx.dead k=false→AC4 P B ow bx nb bg w a o id v none [] [k] []:=by
 have hop:o.op = .convert t t x:=by
  unfold BE6 at hm;split at hm
  ·rename_i s d y ho
   split at hm
   ·rename_i hb
    cases hm;simp only[Ek0] at hb;have:=Ej9 hb.1;subst this;exact ho
   ·cases hm
  ·cases hm
 unfold BE7 at h;split at h
 ·rename_i k ty l he
  split at h
  ·cases h
  ·rename_i l y ls
   split at h
   ·rename_i hc
    simp only[Ek0,Er0,decide_eq_true_eq] at hc;obtain⟨⟨⟨hsl,hty⟩,hnd⟩,hsf⟩:=hc;subst hty;obtain⟨d,e,s,bb,gi,q1,q2,q3,_⟩:=AZ1 hΓ hsl;have hE:P.underlying e=some (.int .u8):=by unfold W4 at hsl;rw[q1] at hsl;simp only[q2] at hsl;exact AZ7 hΓ hsl
    refine⟨_,k,h,P9 hnd,fun id B ow bx nb bg w a hi hA hd=> ?_⟩
    rw[hop] at hA;have hx:=I1 hA (by intros;simp) x (by simp[Op.operands])
    rw[he] at hx;have hsB:soft (k+BIG)=false:=by rw[← hsf];unfold soft;rw[show (k+BIG) % 100000=k % 100000 by unfold BIG;omega]
    generalize hv:a.eval x=v at hx;cases hx with
    |own hR hO _=>
    have hR:=hR hsf;rcases hO hd with⟨_,h1⟩|⟨g,cap,c,fz,h1,h2,h3,h4,h5,h6,_⟩
    ·cases h1
    subst h1;have hfr:∀n,H6 k n=n:=fun n=>by unfold H6;rw[hsf];rfl
    have hfB:∀n,H6 (k+BIG) n=n:=fun n=>by unfold H6;rw[hsB];rfl
    have hkB:(k+BIG) % 25000=k % 25000:=by unfold BIG;omega
    rw[hfr] at h2;obtain⟨f1,f2,f3,f4⟩:=CU3 (n:=c.size) h3;generalize hfz':(if fz.1==fz.2 then (c.size,c.size+1) else (min fz.1 c.size,max fz.2 (c.size+1)))=fz' at f1
    have hlz:X1 fz' c.size:=by rw[← hfz'];exact CU4 h4
    have hsh:w.shape? g=some (k % 25000,c.size):=by unfold World.shape?;rw[h3]
    have hrun:(execOp a.eval o).run P w = .ok (.value (.slice (some ⟨g,0,none⟩) (y::ls).length cap)) (w.freeze ⟨g,c.size,none⟩ 1):=by unfold execOp;rw[hop];simp[hv,convert,run_underlying q3,run_underlying hE,markStringish,hsh]
    intro K Q hK;unfold Oper.wp;rw[hrun];obtain⟨hkeep,hinv⟩:=Ah8 hi (k:=k) (k':=k+BIG) (g:=g) (fr:=(y::ls).length*(Ty.int .u8).size) (fz₀:=fz) (.inr ⟨f2,_,c,h2,h3,Em2 _,rfl⟩) f1 (fun blk _ hb=>f3 blk hb) f4 hd
    refine hK _ _ _ _ hkeep (.own (fun _=>hR.keep hkeep.st) (fun _=>.inr ⟨g,cap,c,fz',rfl,by simp[hfB],by rw[hkB];exact f1,hlz,h5,h6,fun h=>(by rw[hsB] at h;cases h)⟩) fun h=>(by rw[hsB] at h;cases h)) hinv (fun j=>by simp[F4]) (fun p hp=>by simp at hp)
   ·cases h
 ·cases h
end Go.Proofs.YthfjpkdadjemcaaGreat
