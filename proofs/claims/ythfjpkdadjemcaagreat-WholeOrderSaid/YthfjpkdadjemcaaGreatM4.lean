/- Code does what the reading says: states, and what is handed on. No program in sight. -/
import Derived.Test.YthfjpkdadjemcaaGreatM3
import Derived.LoopN
import Derived.Scope
set_option linter.unusedSimpArgs false
set_option linter.unusedVariables false
namespace Go.Proofs.YthfjpkdadjemcaaGreat
def M3 (B:E9)(σ:St)(a:Act)(w:World):Prop:=
 ∃ow bx,Inv B ow bx σ.boxes.length (A4 σ.boxes) w∧(σ.C6.length=a.tmps.size∧∀t e,σ.C6[t]? = some e→A0 ow bx w e (a.tmps.getD t undef))∧a.defers=[]∧∀k,bx.dead k=false
def Be1 (dead:List Nat)(up:N4)(B:E9)(σ:St)(a:Act)(w:World):Prop:=
 ∃ow bx,Inv B ow bx σ.boxes.length (A4 σ.boxes) w∧(σ.C6.length=a.tmps.size∧∀t e,σ.C6[t]? = some e→A0 ow bx w e (a.tmps.getD t undef))∧a.defers=[]∧(∀k,bx.dead k=true↔k∈dead)∧∀p∈up,p.1<BIG∧p.1∈dead∧∃v,A0 ow bx w (.fre p.1 p.2.1 p.2.2) v
structure Evo (σ σ':St):Prop where
 C6:σ'.C6.length=σ.C6.length
 boxes:σ.boxes.length≤σ'.boxes.length
 jr:∃j,σ'.jr=j++σ.jr∧(∀t,(0,t)∉j→σ'.C6[t]? = σ.C6[t]?)∧
  (∀b,b<σ.boxes.length→∀cs,A4 σ.boxes b=some cs→∃cs',A4 σ'.boxes b=some cs'∧cs'.length=cs.length∧∀i,(b+1,i)∉j→cs'[i]? = cs[i]?)∧
  (∀b,b<σ.boxes.length→A4 σ.boxes b=none→A4 σ'.boxes b=none)
theorem Evo.refl (σ:St):Evo σ σ:=⟨rfl,Nat.le_refl _,[],rfl,fun _ _=>rfl,fun b _ cs h=>⟨cs,h,rfl,fun _ _=>rfl⟩,fun _ _ h=>h⟩
theorem Evo.trans {σ σ' σ'':St}(h:Evo σ σ')(k:Evo σ' σ''):Evo σ σ'':=by
 obtain⟨h1,h2,j,h3,h4,h5,h6⟩:=h;obtain⟨k1,k2,j',k3,k4,k5,k6⟩:=k;refine⟨by rw[k1,h1],by omega,j'++j,by rw[k3,h3,List.append_assoc],fun t ht=> ?_,fun b hb cs hcs=> ?_,fun b hb hn=>k6 b (by omega) (h6 b hb hn)⟩
 ·rw[k4 t (fun h=>ht (List.mem_append_left _ h)),h4 t (fun h=>ht (List.mem_append_right _ h))]
 ·obtain⟨cs',g1,g2,g3⟩:=h5 b hb cs hcs
  obtain⟨cs'',q1,q2,q3⟩:=k5 b (by omega) cs' g1
  exact⟨cs'',q1,by rw[q2,g2],fun i hi=>by rw[q3 i (fun h=>hi (List.mem_append_left _ h)),g3 i (fun h=>hi (List.mem_append_right _ h))]⟩
theorem Be2 (r:Rec)(sl:List EV):(Ap7 r sl).length=sl.length:=by unfold Ap7;split <;> simp
theorem BJ9:∀(rs:List Rec) (sl:List EV),(AO9 rs sl).length=sl.length
 | [],sl=>rfl
 |r::rs,sl=>by simp only[AO9];rw[BJ9,Be2]
theorem Be3:∀(rs:List Rec) (sl:List EV) (t:Nat),(AO9 rs sl)[t]? = (match I6 rs t rs.length with
  |some (_,r)=>if t<sl.length then some (BH1 r) else none
  |none=>sl[t]?):=by
 have shift:∀(r:Rec) (rs:List Rec) (t m:Nat),I6 (r::rs) t (m+1)=match I6 rs t m with
   |some (j,x)=>some (j+1,x)
   |none=>match r.dst with
    |some d=>if d=t then some (0,r) else none
    |none=>none:=by
  intro r rs t m
  induction m with
  |zero=>
   simp only[I6,List.getElem?_cons_zero];cases hd:r.dst with
   |none=>rfl
   |some d=>
    simp only;by_cases he:d=t
    ·subst he;simp[Nat.beq_refl]
    ·rw[if_neg he]
     split
     ·rename_i hb;exact absurd (Nat.eq_of_beq_eq_true hb) he
     ·rfl
  |succ m ih=>
   rw[I6,ih];simp only[List.getElem?_cons_succ,I6];cases hm:rs[m]? with
   |none=>rfl
   |some x=>
    simp only;cases hd:x.dst with
    |none=>rfl
    |some d=>
     simp only;split <;> rfl
 intro rs
 induction rs with
 |nil=>intro sl t;simp[AO9,I6]
 |cons r rs ih=>
  intro sl t;simp only[AO9,List.length_cons];rw[ih,shift];cases hl:I6 rs t rs.length with
  |some p=>
   obtain⟨j,x⟩:=p;simp only;rw[Be2]
  |none=>
   simp only;unfold Ap7;cases hd:r.dst with
   |none=>rfl
   |some d=>
    simp only;by_cases he:d=t
    ·subst he
     rw[if_pos rfl];simp only;rw[List.getElem?_set];simp only[if_true]
    ·rw[if_neg he]
     simp only;rw[List.getElem?_set_ne he]
theorem Be4:∀(rs:List Rec) (t:Nat),(0,t)∉AP0 rs→∀k,F3 rs k≠some t
 | [],t,_,k=>by simp[F3]
 |r::rs,t,h,k=>by
  simp only[AP0] at h;cases k with
  |zero=>
   unfold F3;simp only[List.getElem?_cons_zero];intro hd;rw[hd] at h;simp at h
  |succ k=>
   have:(0,t)∉AP0 rs:=by
    cases hd:r.dst with
    |none=>rw [hd] at h;exact h
    |some d=>rw [hd] at h;exact fun hm=>h (List.mem_cons_of_mem _ hm)
   have:=Be4 rs t this k;unfold F3 at this ⊢;simpa using this
theorem Be5 {bx:List (Option (List EV))}{x:Wr}{cs0:List EV}(hx:A4 bx x.b=some cs0)(hle:x.off+x.new.length≤cs0.length)(b:Nat)(cs:List EV)(h:A4 bx b=some cs):
  ∃cs',A4 (K8 bx x) b=some cs'∧cs'.length=cs.length∧∀i,(b+1,i)∉jrW bx x→cs'[i]? = cs[i]? := by
 unfold K8;rw[hx];simp only;by_cases hb:b=x.b
 ·subst hb
  have hcc:cs=cs0:=by rw[hx] at h;cases h;rfl
  subst hcc;have hlt:=(List.getElem?_eq_some_iff.1 (N8.1 hx)).1;refine⟨L9 cs x.off x.new,N8.2 (by simp[hlt]),by simp only[L9,List.length_append,List.length_take,List.length_drop];omega,fun i hi=> ?_⟩
  unfold L9;by_cases hsame:(x.off≤i∧i<x.off+x.new.length)
  ·have hs:Ap3 cs[i]? x.new[i-x.off]? = true:=by
    cases hsp:Ap3 cs[i]? x.new[i-x.off]? with
    |true=>rfl
    |false=>
     exfalso;apply hi;unfold jrW;rw[hx];simp only;rw[List.mem_filter];refine⟨?_,by simp only[hsp,Bool.not_false]⟩
     unfold BF3;rw[List.mem_map];exact⟨i-x.off,List.mem_range.2 (by omega),by rw[show x.off+(i-x.off)=i by omega]⟩
   rw[List.append_assoc,List.getElem?_append_right (by simp;omega),List.getElem?_append_left (by simp;omega)]
   have e:i-(cs.take x.off).length=i-x.off:=by simp;omega
   rw[e];unfold Ap3 at hs;split at hs
   ·rename_i b o b' o' e1 e2
    rw[e1,e2];rw[Bool.and_eq_true] at hs;rw[Nat.eq_of_beq_eq_true hs.1,Nat.eq_of_beq_eq_true hs.2]
   ·cases hs
  have hnot:=hsame;by_cases h1:i<x.off
  ·rw[List.append_assoc,List.getElem?_append_left (by simp;omega),List.getElem?_take,if_pos h1]
  ·rw[List.getElem?_append_right (by simp;omega),List.getElem?_drop]
   congr 1;simp
   omega
 ·refine⟨cs,?_,rfl,fun _ _=>rfl⟩
  unfold A4 at h ⊢;rw[List.getElem?_set_ne (fun e=>hb e.symm)]
  exact h
theorem Be6:∀(ws:List Wr) (bx:List (Option (List EV))) (j0:List Pl),(∀x∈ws,∃cs,A4 bx x.b=some cs∧x.off+x.new.length≤cs.length)→∃j,Ap4 bx ws j0=j++j0∧
  ∀b cs,A4 bx b=some cs→∃cs',A4 (ws.foldl K8 bx) b=some cs'∧cs'.length=cs.length∧∀i,(b+1,i)∉j→cs'[i]? = cs[i]?
 | [],bx,j0,_=>⟨[],rfl,fun b cs h=>⟨cs,h,rfl,fun _ _=>rfl⟩⟩
 |x::ws,bx,j0,h=>by
  obtain⟨cs0,hx,hle⟩:=h x (by simp)
  obtain⟨j,hj,hb⟩:=Be6 ws (K8 bx x) (jrW bx x++j0) (fun y hy=>by
   obtain⟨cs,h1,h2⟩:=h y (by simp[hy])
   obtain⟨cs',g1,g2,_⟩:=Be5 hx hle y.b cs h1;exact⟨cs',g1,by omega⟩)
  refine⟨j++jrW bx x,by simp only[Ap4];rw[hj,List.append_assoc],fun b cs hcs=> ?_⟩
  obtain⟨cs',g1,g2,g3⟩:=Be5 hx hle b cs hcs;obtain⟨cs'',k1,k2,k3⟩:=hb b cs' g1;exact⟨cs'',k1,by omega,fun i hi=>by rw[k3 i (fun hm=>hi (List.mem_append_left _ hm)),g3 i (fun hm=>hi (List.mem_append_right _ hm))]⟩
theorem Be7:∀(ws:List Wr) (bx:List (Option (List EV))) (b:Nat),A4 bx b=none→A4 (ws.foldl K8 bx) b=none
 | [],bx,b,h=>h
 |x::ws,bx,b,h=>by
  simp only[List.foldl_cons];refine Be7 ws _ b ?_;unfold K8;split
  ·rename_i cs hx
   have hne:x.b≠b:=fun e=>by rw[e,h] at hx;cases hx
   unfold A4 at h ⊢;rw[List.getElem?_set_ne hne];exact h
  ·exact h
theorem CV0:∀(ws:List Wr) (bx:List (Option (List EV))),(ws.foldl K8 bx).length=bx.length:=by
 intro ws
 induction ws with
 |nil=>intro bx;rfl
 |cons x r ih=>intro bx;simp only[List.foldl_cons];rw[ih];unfold K8;split <;> simp
section
variable {P:Program}{base:List EV}
theorem D7.evo:∀{l:List Oper} {s:Rg} {ts:List TI} {s':Rg},D7 P base l s ts s'→s.bx.length≤s'.bx.length∧∃j,s'.jr=j++s.jr∧
  (∀b,b<s.bx.length→∀cs,A4 s.bx b=some cs→∃cs',A4 s'.bx b=some cs'∧cs'.length=cs.length∧∀i,(b+1,i)∉j→cs'[i]? = cs[i]?)∧
  (∀b,b<s.bx.length→A4 s.bx b=none→A4 s'.bx b=none)
 | [],s,[],s',h=>by cases h;exact⟨Nat.le_refl _,[],rfl,fun b _ cs h=>⟨cs,h,rfl,fun _ _=>rfl⟩,fun _ _ h=>h⟩
 |o::os,s,t::ts,s',h=>by
  obtain⟨h1,h2,h3⟩:=h;subst h1;obtain⟨g0,j,g1,g2,g3⟩:=D7.evo h3;have hn:=Bd2 t o;obtain⟨j',k1,k2⟩:=Be6 t.ws t.s.bx t.s.jr (fun x hx=>(h2.wr x hx).2)
  have hnb:∀b,b<t.s.bx.length→A4 (t.next o).bx b=A4 (t.ws.foldl K8 t.s.bx) b:=by
   intro b hb;unfold TI.next Rg.next AX3;cases t.n with
   |none=>rfl
   |some cs=>
    simp only;unfold A4;rw[List.getElem?_append_left (by rw[CV0];exact hb)]
  refine⟨by omega,j++j',?_,fun b hb cs hcs=> ?_,fun b hb hnone=> ?_⟩
  ·rw[g1]
   unfold TI.next Rg.next;simp only;rw[k1,List.append_assoc]
  ·obtain⟨cs',q1,q2,q3⟩:=k2 b cs hcs
   obtain⟨cs'',r1,r2,r3⟩:=g2 b (by omega) cs' (by rw[hnb b hb];exact q1)
   exact⟨cs'',r1,by omega,fun i hi=>by rw[r3 i (fun hm=>hi (List.mem_append_left _ hm)),q3 i (fun hm=>hi (List.mem_append_right _ hm))]⟩
  ·refine g3 b (by omega) ?_
   rw[hnb b hb];exact Be7 _ _ b hnone
end
section
variable {P:Program}{B:E9}{σ:St}{ops:Array Oper}{ts:List TI}{s':Rg}
theorem CV1 (hL:D7 P σ.C6 ops.toList ⟨[],σ.boxes,σ.jr,[],[],[]⟩ ts s'):Evo σ (s'.AC0 σ):=by
 obtain⟨g0,j,g1,g2,g3⟩:=hL.evo;refine⟨BJ9 _ _,g0,AP0 s'.rs++j,by simp only[Rg.AC0];rw[g1,List.append_assoc],fun t ht=> ?_,fun b hb cs hcs=> ?_,g3⟩
 ·simp only[Rg.AC0]
  rw[Be3];have hno:=Be4 s'.rs t (fun h=>ht (List.mem_append_left _ h))
  cases hl:I6 s'.rs t s'.rs.length with
  |none=>rfl
  |some p=>
   obtain⟨m,r⟩:=p;obtain⟨k1,k2,k3,_⟩:=(Ah8 s'.rs t s'.rs.length).1 m r hl;exact absurd (by unfold F3;rw[k2];exact k3) (hno m)
 ·obtain⟨cs',q1,q2,q3⟩:=g2 b hb cs hcs
  exact⟨cs',q1,q2,fun i hi=>q3 i (fun h=>hi (List.mem_append_right _ h))⟩
theorem CV2 (hL:D7 P σ.C6 ops.toList ⟨[],σ.boxes,σ.jr,[],[],[]⟩ ts s'){a:Act}{w:World}(hst:StD B σ.C6 ts s' (A4 σ.boxes) (fun k=>decide (k<ts.length)) a w):Be1 s'.dead s'.upd B (s'.AC0 σ) a w:=by
 obtain⟨ow,bx,h1,h2,h3,h4,h5,h6⟩:=hst;have hlen:=hL.length;have hrl:s'.rs.length=ts.length:=by
  have:∀{l:List Oper} {s:Rg} {ts:List TI} {s':Rg},D7 P σ.C6 l s ts s'→s'.rs.length=s.rs.length+ts.length:=by
   intro l
   induction l with
   |nil=>intro s ts s' h;cases ts with
    |nil=>cases h;rfl
    |cons t ts=>exact absurd h id
   |cons o os ih=>intro s ts s' h;cases ts with
    |nil=>exact absurd h id
    |cons t ts=>
     obtain⟨q1,q2,q3⟩:=h;rw[ih q3];unfold TI.next Rg.next;simp[q1];omega
  have:=this hL;simpa using this
 have hdead:∀k,bx.dead k=true↔k∈s'.dead:=by
  intro k;rw[h5 k];constructor
  ·rintro⟨i,t,q1,_,q3⟩
   exact hL.Aa1.2.2.2 i t q1 k q3
  ·intro hk
   rcases hL.Aa1.2.2.1 k hk with h |⟨i,t,q1,q2⟩
   ·simp at h
   ·exact⟨i,t,q1,decide_eq_true (List.getElem?_eq_some_iff.1 q1).1,q2⟩
 have hupd:∀{l:List Oper} {s:Rg} {ts:List TI} {s':Rg},D7 P σ.C6 l s ts s'→∀p∈s'.upd,p∈s.upd∨∃(i:Nat) (t:TI),ts[i]? = some t∧p∈t.up∧p.1∈t.k∧p.1<BIG:=by
  intro l
  induction l with
  |nil=>intro s ts s' h p hp;cases ts with
   |nil=>cases h;exact .inl hp
   |cons t ts=>exact absurd h id
  |cons o os ih=>intro s ts s' h p hp;cases ts with
   |nil=>exact absurd h id
   |cons t ts=>
    obtain⟨q1,q2,q3⟩:=h;rcases ih q3 p hp with h |⟨i,u,h1,h2⟩
    ·unfold TI.next Rg.next at h
     rcases List.mem_append.1 h with h | h
     ·exact .inr ⟨0,t,rfl,h,(q2.upk p h).1,(q2.upk p h).2⟩
     ·rw[q1] at h;exact .inl h
    ·exact .inr ⟨i+1,u,by simpa using h1,h2⟩
 have hwit:∀p∈s'.upd,p.1<BIG∧p.1∈s'.dead∧∃v,A0 ow bx w (.fre p.1 p.2.1 p.2.2) v:=by
  intro p hp;rcases hupd hL p hp with h |⟨i,t,q1,q2,q3,q5⟩
  ·simp at h
  ·exact⟨q5,hL.Aa1.2.2.2 i t q1 _ q3,h6 i t q1 (decide_eq_true (List.getElem?_eq_some_iff.1 q1).1) p q2⟩
 refine⟨ow,bx,?_,⟨by simp only[Rg.AC0];rw[BJ9];exact h3.symm,fun t e he=> ?_⟩,h4,hdead,hwit⟩
 ·have:A4 (s'.AC0 σ).boxes=fun b=>foldI (fun k=>decide (k<ts.length)) ts 0 b (A4 σ.boxes b):=by
   funext b;simp only[Rg.AC0];rw[hL.boxes 0 b];refine Ah7 ts 0 _ fun j t ht _=> ?_
   have:=(List.getElem?_eq_some_iff.1 ht).1;rw[Nat.zero_add];exact (decide_eq_true this).symm
  simp only[Rg.AC0] at this ⊢;rw[this];exact h1
 ·simp only[Rg.AC0] at he
  rw[Be3] at he;obtain⟨sp1,sp2⟩:=Ah8 s'.rs t s'.rs.length;cases hl:I6 s'.rs t s'.rs.length with
  |none=>
   rw[hl] at he;simp only at he;have hlt:t<σ.C6.length:=(List.getElem?_eq_some_iff.1 he).1;rcases h2 t hlt with⟨m,r,⟨q1,q2,q3,q4⟩,_⟩|⟨_,q2⟩
   ·exact absurd q3 (sp2 hl m (by omega))
   ·exact q2 e he
  |some p=>
   obtain⟨m,r⟩:=p;rw[hl] at he;simp only at he;split at he
   ·rename_i hlt
    obtain⟨k1,k2,k3,k4⟩:=sp1 m r hl;have hdm:F3 s'.rs m=some t:=by unfold F3;rw[k2];exact k3
    rcases h2 t hlt with⟨m',r',⟨q1,q2,q3,q4⟩,q5,q6,_⟩|⟨q1,_⟩
    ·have:m'=m:=by
      apply Classical.byContradiction;intro hn;by_cases hlt2:m'<m
      ·exact q4 m hlt2 (by omega) (decide_eq_true (by omega)) hdm
      ·exact k4 m' (by omega) (by omega) q3
     subst this;rw[k2] at q5;cases q5;cases he;unfold BH1;split
     ·rename_i hch
      exact q6 (by rw[hch];simp[guardOf])
     ·exact .undef _
    ·exact absurd hdm (q1 m (by omega) (decide_eq_true (by omega)))
   ·cases he
theorem AA5 (f:List EV→List EV)(l:List (Option (List EV)))(b:Nat):A4 (l.map (Option.map f)) b=(A4 l b).map f:=by
 unfold A4;rw[List.getElem?_map];cases l[b]? with
 |none=>rfl
 |some x=>cases x <;> rfl
theorem BK0 {dead:List Nat}{up:N4}{b:Nat}:∀(es:List EV) (i0 i:Nat) (e:EV),es[i]? = some e→steady dead up e=false→(b,i0+i)∈AP1 dead up b es i0
 | [],i0,i,e,h,_=>by simp at h
 |x::es,i0,i,e,h,hs=>by
  cases i with
  |zero=>
   simp at h;subst h;simp only[AP1,hs];simp
  |succ i=>
   have:=BK0 (b:=b) es (i0+1) i e (by simpa using h) hs
   rw[show i0+1+i=i0+(i+1) by omega] at this
   simp only[AP1];split
   ·exact this
   ·exact List.mem_cons_of_mem _ this
theorem Be8 {dead:List Nat}{up:N4}:∀(l:List (Option (List EV))) (b0 b:Nat) (cs:List EV) (i:Nat) (e:EV),A4 l b=some cs→cs[i]? = some e→steady dead up e=false→(b0+b+1,i)∈AP2 dead up l b0
 | [],b0,b,cs,i,e,h,_,_=>by simp[A4] at h
 |x::l,b0,b,cs,i,e,h,hi,hs=>by
  cases b with
  |zero=>
   rw[N8] at h;simp at h;subst h;simp only[AP2,List.mem_append]
   left
   have:=BK0 (b:=b0+1) cs 0 i e hi hs;simpa using this
  |succ b=>
   have:=Be8 l (b0+1) b cs i e (by rw[N8] at h ⊢;simpa using h) hi hs
   rw[show b0+1+b+1=b0+(b+1)+1 by omega] at this
   cases x with
   |none=>simpa only[AP2] using this
   |some cs'=>simp only[AP2,List.mem_append];exact .inr this
theorem Be9 {dead:List Nat}{up:N4}{e:EV}(h:steady dead up e=true):settle dead up e=e:=by
 cases e with
 |own k t l=>
  simp only[steady,Bool.and_eq_true,Bool.not_eq_true'] at h;have hk:k<BIG:=by have:=Nat.le_of_ble_eq_true h.1.2;omega
  have hu:AE3 up k=none:=by
   have h2:=h.2;rw[Nat.mod_eq_of_lt hk] at h2;cases hg:AE3 up k with
   |none=>rfl
   |some x=>rw [hg] at h2;cases h2
  simp only[settle,h.1.1,Nat.mod_eq_of_lt hk,hu]
 |_=>
  simp only[steady,Bool.not_eq_true'] at h;simp only[settle,h]
theorem CV3 (dead:List Nat)(up:N4)(τ:St):Evo τ (V0 dead up τ):=by
 cases dead with
 |nil=>exact Evo.refl τ
 |cons d ds=>
  refine⟨by simp[V0],by simp[V0],_,rfl,fun t ht=> ?_,fun b hb cs hcs=> ?_,fun b hb hn=> ?_⟩
  ·simp only[V0,List.getElem?_map]
   cases he:τ.C6[t]? with
   |none=>rfl
   |some e=>
    simp only[Option.map_some];cases hs:steady (d::ds) up e with
    |true=>rw [Be9 hs]
    |false=>
     exfalso;apply ht;have:=BK0 (b:=0) τ.C6 0 t e he hs;rw[Nat.zero_add] at this;exact List.mem_append_left _ this
  ·refine⟨cs.map (settle (d::ds) up),by simp only[V0];rw[AA5,hcs];rfl,by simp,fun i hi=> ?_⟩
   rw[List.getElem?_map];cases he:cs[i]? with
   |none=>rfl
   |some e=>
    simp only[Option.map_some];cases hs:steady (d::ds) up e with
    |true=>rw [Be9 hs]
    |false=>
     exfalso;apply hi;have:=Be8 τ.boxes 0 b cs i e hcs he hs;rw[Nat.zero_add] at this;exact List.mem_append_right _ this
  ·simp only[V0];rw[AA5,hn];rfl
def R9 (ow:Nat→A1):Nat→A1:=fun blk=>match ow blk with
 | .tok k fr=>.tok (k % BIG) fr
 |o=>o
theorem CV4 {ow:Nat→A1}{blk n:Nat}(h:A8 ow blk n):A8 (R9 ow) blk n:=by
 rcases L1 h with h |⟨k,fr,h,hn⟩|⟨fr,h,hn⟩
 ·exact L0 (by simp[R9,h])
 ·exact z7 (k:=k % BIG) (fr:=fr) (by simp[R9,h]) hn
 ·exact X2 (by simp[R9,h]) hn
theorem BK1 {ow:Nat→A1}{blk b:Nat}:R9 ow blk = .box b↔ow blk = .box b:=by
 unfold R9;split
 ·rename_i k fr h;rw[h];simp
 ·exact Iff.rfl
theorem Aa2 (ow:Nat→A1)(w:World):F1 ow w (R9 ow) w:=.of fun _ _ h=>⟨CV4 h,rfl⟩
theorem BK2 {ow ow':Nat→A1}{bx bx':Bx}{w:World}(hst:F1 ow w ow' w)(hbo:∀b,ow (bx b) = .box b→bx' b=bx b∧ow' (bx b) = .box b):∀(n:Nat) (e:EV) (v:Value),I0 n e=false→A0 ow bx w e v→A0 ow' bx' w e v:=by
 intro n
 induction n with
 |zero=>intro e v h;simp[I0] at h
 |succ n ih=>
  intro e v h hv;cases hv with
  |own=>simp [I0] at h
  |elo=>simp [I0] at h
  |fre=>simp [I0] at h
  |undef=>exact .undef _
  |dat hq=>exact .dat (hq.keep hst)
  |nil=>exact .nil
  |ptr hq=>
   obtain⟨h1,h2⟩:=hbo _ hq;rw[← h1];exact .ptr (by rw[h1];exact h2)
  |pix hq h0 hn=>
   obtain⟨h1,h2⟩:=hbo _ hq;rw[← h1];exact .pix (by rw[h1];exact h2) h0 hn
  |elt h0 h1 hs hb hc=>
   obtain⟨g1,c',fz',g2,g3⟩:=hst _ _ _ _ _ hs hb;rw[hb] at g2;cases g2;exact .elt h0 h1 g1 hb fun j x hx=>Rep.keep hst _ _ _ (hc j x hx)
  |elx h0 h1 hs hb hc m0 m1=>
   obtain⟨g1,c',fz',g2,g3⟩:=hst _ _ _ _ _ hs hb;rw[hb] at g2;cases g2;exact .elx h0 h1 g1 hb (fun j x hx=>Rep.keep hst _ _ _ (hc j x hx)) m0 m1
  |clo h1 h2 h3 h4=>
   simp only[I0,Bool.or_eq_false_iff,List.any_eq_false] at h;exact .clo h1 h2 (fun i e v he hv=>ih e v (by simpa using h.1 e (List.mem_of_getElem? he)) (h3 i e v he hv)) (fun i e v he hv=>ih e v (by simpa using h.2 e (List.mem_of_getElem? he)) (h4 i e v he hv))
  |sl h0 h1 hs hb h2 h3=>
   simp only[I0,List.any_eq_false] at h;obtain⟨g1,_⟩:=hst _ _ _ _ _ hs hb;exact .sl h0 h1 g1 hb (fun i e v he hv=>ih e v (by simpa using h e (List.mem_of_getElem? he)) (h2 i e v he hv)) h3
  |cp hs hb hv h1 hq=>
   simp only[I0] at h;obtain⟨g1,_⟩:=hst _ _ _ _ _ hs hb;exact .cp g1 hb hv h1 (ih _ _ h hq)
  |rp h1 hs hb h2 h3=>
   simp only[I0,List.any_eq_false] at h;obtain⟨g1,_⟩:=hst _ _ _ _ _ hs hb;exact .rp h1 g1 hb (fun i e v he hv=>ih e v (by simpa using h e (List.mem_of_getElem? he)) (h2 i e v he hv)) h3
  |tup h1 h2=>
   simp only[I0,List.any_eq_false] at h;exact .tup h1 (fun i e v he hv=>ih e v (by simpa using h e (List.mem_of_getElem? he)) (h2 i e v he hv))
  |row h1 h2 h3=>
   simp only[I0,List.any_eq_false] at h;exact .row h1 (fun i e v he hv=>ih e v (by simpa using h e (List.mem_of_getElem? he)) (h2 i e v he hv)) h3
theorem BK3 {k:Nat}{l:List Nat}:G6 k l=true↔k∈l:=by unfold G6;rw[List.any_eq_true];exact⟨fun ⟨x,h1,h2⟩=>by rw[Nat.eq_of_beq_eq_true h2];exact h1,fun h=>⟨k,h,Nat.beq_refl k⟩⟩
def tbS (dead:List Nat)(up:N4)(tb:Nat→Option (Nat×(Nat×Nat))):Nat→Option (Nat×(Nat×Nat)):=fun j=>if j<BIG then (match G6 j dead,AE3 up j with
 |true,none=>tb (j+BIG)
 |_,_=>tb j) else none
theorem Bf0:∀(l:N4) (k:Nat) (d:(t:Ty)×List t.den),AE3 l k=some d→(k,d)∈l
 | [],_,_,h=>by cases h
 | (j,x)::r,k,d,h=>by
  simp only[AE3] at h;split at h
  ·rename_i hj
   cases h;have:=Nat.eq_of_beq_eq_true hj;subst this;simp
  ·exact List.mem_cons_of_mem _ (Bf0 r k d h)
theorem Bf1 {dead:List Nat}{up:N4}{ow:Nat→A1}{bx:Bx}{w:World}{e:EV}{v:Value}(hd:∀k,bx.dead k=true↔k∈dead)(hborn:∀j,(bx.tb j).isSome=true→j<BIG∨(bx.dead (j-BIG)=true∧j<2*BIG))
  (hup:∀p∈up,p.1<BIG∧p.1∈dead∧∃v,A0 ow bx w (.fre p.1 p.2.1 p.2.2) v) (h:A0 ow bx w e v):A0 (R9 ow) ⟨bx.f,fun _=>false,tbS dead up bx.tb⟩ w (settle dead up e) v:=by
 have gen:∀e,A0 ow bx w e v→settle dead up e=(match I0 20 e with | true=>.undef | false=>e)→A0 (R9 ow) ⟨bx.f,fun _=>false,tbS dead up bx.tb⟩ w (settle dead up e) v:=by
  intro e h hs;rw[hs];cases hb:I0 20 e with
  |true=>exact .undef _
  |false=>exact BK2 (bx:=bx) (bx':=⟨bx.f,fun _=>false,tbS dead up bx.tb⟩) (Aa2 ow w) (fun b h=>⟨rfl,BK1.2 h⟩) 20 e v hb h
 have hsk:∀k,soft (k % BIG)=soft k:=fun k=>by unfold soft;rw[show k % BIG % 100000=k % 100000 by unfold BIG;omega]
 have hfk:∀k n,H9 (k % BIG) n=H9 k n:=fun k n=>by unfold H9;rw[hsk]
 have hfm:∀k,L8 (k % BIG)=L8 k:=fun k=>by unfold L8;rw[show k % BIG % 100000=k % 100000 by unfold BIG;omega]
 cases e with
 |own k t l=>
  cases h with
  |own h h' hh=>
   simp only[settle];cases hk:G6 k dead with
   |true=>
    simp only;split
    ·rename_i hsf
     split
     ·rename_i d hu
      obtain⟨hkB,q2,v',q3⟩:=hup _ (Bf0 _ _ _ hu);simp only at q3 hkB;cases q3 with
      |fre _ hb hdk hc hn=>
       rename_i blk cap0;have htb:tbS dead up bx.tb k=some (blk,d.2.length,cap0):=by unfold tbS;rw[if_pos hkB,hk,hu];exact hb
       rcases hh hsf with⟨hf,hv0,hl0⟩|⟨blk',cap,p1,p2,p3,p4⟩
       ·rw[hf]
        simp only;have hne:Nat.beq l.length d.2.length=false:=by
         cases hq:Nat.beq l.length d.2.length with
         |false=>rfl
         |true=>
          have:=Nat.eq_of_beq_eq_true hq;rcases hn with hn | hn
          ·rw[hf] at hn;cases hn
          ·exact absurd (List.length_eq_zero_iff.1 (by omega)) hn
        rw[hne];exact .own (fun hs=>(by rw[hsf] at hs;cases hs)) (fun _=>.inl ⟨hv0,rfl⟩) fun _=>.inl ⟨hf,hv0,rfl⟩
       ·rw[hb] at p1
        simp only[Option.some.injEq,Prod.mk.injEq] at p1;obtain⟨rfl,hln,rfl⟩:=p1;subst p2
        suffices hX:A0 (R9 ow) ⟨bx.f,fun _=>false,tbS dead up bx.tb⟩ w (.own k d.1 d.2) (.slice (some ⟨blk,0,none⟩) l.length cap0) by
         have hbq:Nat.beq l.length d.2.length=true:=by rw[← hln];exact Nat.beq_refl _
         cases hfk:L8 k with
         |true=>exact hX
         |false=>
          simp only;rw[hbq];exact hX
        obtain⟨c1,c,fz,c2,c3,⟨c4,c4'⟩,c5⟩:=hc;refine .own (fun hs=>(by rw[hsf] at hs;cases hs)) (fun _=>.inr ⟨blk,cap0,c,fz,by rw[hln],?_,c2,c3,c4,c4',fun _=>⟨by omega,fun i x hx=>Rep.keep (Aa2 ow w) _ _ _ (c5 i x hx)⟩⟩) fun _=>.inr ⟨blk,cap0,htb,by rw[hln],by omega,by omega⟩
        simp[R9,c1,H9,hsf,Nat.mod_eq_of_lt hkB]
     ·exact .undef _
    ·rename_i hsf;exact .dat ((h hsf).keep (Aa2 ow w))
   |false=>
    simp only;split
    ·exact .undef _
    ·rename_i hu
     have hdk:bx.dead k=false:=by
      cases hb:bx.dead k with
      |false=>rfl
      |true=>rw [BK3.2 ((hd k).1 hb)] at hk;cases hk
     refine .own (fun hs=>(h (by rw[← hsk k];exact hs)).keep (Aa2 ow w)) (fun _=> ?_) fun hs=> ?_
     ·rcases h' hdk with⟨h1,h2⟩|⟨blk,cap,c,fz,h1,h2,h3,h3',h4,h5,h6⟩
      ·exact .inl ⟨h1,h2⟩
      ·refine .inr ⟨blk,cap,c,fz,h1,by simp[R9,h2,hfk],?_,h3',h4,h5,fun hs=>⟨(h6 (by rw[← hsk k];exact hs)).1,fun i x hx=>Rep.keep (Aa2 ow w) _ _ _ ((h6 (by rw[← hsk k];exact hs)).2 i x hx)⟩⟩
       rw[h3,show k % BIG % 25000=k % 25000 by unfold BIG;omega]
     ·rcases hh (by rw[← hsk k];exact hs) with⟨q1,q2⟩|⟨blk,cap,q1,q2⟩
      ·exact .inl ⟨by rw[hfm];exact q1,q2⟩
      ·refine .inr ⟨blk,cap,?_,q2⟩
       have hlt:k % BIG<BIG:=Nat.mod_lt _ (by unfold BIG;decide)
       simp only[tbS,if_pos hlt,hu];rcases hborn k (by rw[q1];rfl) with hkB |⟨b1,b2⟩
       ·rw[Nat.mod_eq_of_lt hkB,hk]
        exact q1
       ·by_cases hkB:k<BIG
        ·rw[Nat.mod_eq_of_lt hkB,hk]
         exact q1
        ·have hm:k % BIG=k-BIG:=by
          rw[Nat.mod_eq_sub_mod (Nat.le_of_not_lt hkB)];exact Nat.mod_eq_of_lt (by omega)
         rw[hm,BK3.2 ((hd _).1 b1),show k-BIG+BIG=k by omega]
         exact q1
 |_=>exact gen _ h rfl
theorem CV5 {dead:List Nat}{up:N4}{B:E9}{τ:St}{a:Act}{w:World}(h:Be1 dead up B τ a w):M3 B (V0 dead up τ) a w:=by
 obtain⟨ow,bx,h1,⟨h2,h3⟩,h4,h5,h6⟩:=h;cases dead with
 |nil=>
  refine⟨ow,bx,h1,⟨h2,h3⟩,h4,fun k=> ?_⟩
  cases hb:bx.dead k with
  |false=>rfl
  |true=>have:=(h5 k).1 hb;simp at this
 |cons d ds=>
  refine⟨R9 ow,⟨bx.f,fun _=>false,tbS (d::ds) up bx.tb⟩,?_,⟨by simp only[V0,List.length_map];exact h2,fun t e he=> ?_⟩,h4,fun _=>rfl⟩
  ·constructor
   ·intro b cs hb
    simp only[V0] at hb;rw[AA5] at hb;cases hg:A4 τ.boxes b with
    |none=>rw [hg] at hb;cases hb
    |some cs0=>
     rw[hg] at hb;cases hb;obtain⟨g1,c,T,g2,g3⟩:=h1.box b cs0 hg;refine⟨BK1.2 g1,c,T,g2,by simpa using g3.1,fun i e v he hv=> ?_⟩
     rw[List.getElem?_map] at he;cases hc:cs0[i]? with
     |none=>rw [hc] at he;cases he
     |some e0=>
      rw[hc] at he;cases he;exact⟨Bf1 h5 h1.born h6 (g3.2 i e0 v hc hv).1,(g3.2 i e0 v hc hv).2⟩
   ·intro blk b hb
    obtain⟨g1,g2,g3⟩:=h1.back blk b (BK1.1 hb);refine⟨g1,?_,by simp only[V0,List.length_map];exact g3⟩
    simp only[V0];rw[AA5];cases hg:A4 τ.boxes b with
    |none=>rw [hg] at g2;cases g2
    |some cs0=>rfl
   ·intro blk hb
    refine h1.here blk fun e=>hb ?_
    simp[R9,e]
   ·intro blk hb hm
    obtain⟨g1,g2,g3,g4⟩:=h1.old blk hb hm;have hr:R9 ow blk=ow blk:=by
     unfold R9;split
     ·rename_i k fr h;exact absurd h (g4 k fr)
     ·rfl
    exact⟨g1,by rw[hr];exact g2,by rw[hr];exact⟨g3,g4⟩⟩
   ·exact h1.size
   ·exact h1.env
   ·intro b hb
    obtain⟨g1,g2⟩:=h1.kept b hb;refine⟨g1,?_⟩;simp only[V0];rw[AA5];cases hg:A4 τ.boxes b with
    |none=>rw [hg] at g2;cases g2
    |some cs0=>rfl
   ·exact h1.st.trans (Aa2 ow w)
   ·intro j hj
    left
    simp only[tbS] at hj;split at hj
    ·assumption
    ·cases hj
  ·simp only[V0] at he
   rw[List.getElem?_map] at he;cases hc:τ.C6[t]? with
   |none=>rw [hc] at he;cases he
   |some e0=>
    rw[hc] at he;cases he;exact Bf1 h5 h1.born h6 (h3 t e0 hc)
theorem Bf2 (hL:D7 P σ.C6 ops.toList ⟨[],σ.boxes,σ.jr,[],[],[]⟩ ts s'):Evo σ (s'.out σ):=(CV1 hL).trans (CV3 _ _ _)
theorem Bf3 (hL:D7 P σ.C6 ops.toList ⟨[],σ.boxes,σ.jr,[],[],[]⟩ ts s'){a:Act}{w:World}(hst:StD B σ.C6 ts s' (A4 σ.boxes) (fun k=>decide (k<ts.length)) a w):M3 B (s'.out σ) a w:=CV5 (CV2 hL hst)
theorem Bf4 {a:Act}{w:World}(hL:D7 P σ.C6 ops.toList ⟨[],σ.boxes,σ.jr,[],[],[]⟩ ts s')(h:M3 B σ a w)(w':World)(hw:w'.heap=w.heap∧w'.tape=w.tape∧w'.os=w.os∧w'.output=w.output)(D:Nat→Bool)(hD:∀k,k<ts.length→D k=false):
  StD B σ.C6 ts s' (A4 σ.boxes) D a w':=by
 obtain⟨ow,bx,h1,⟨h2,h3⟩,h4,h5⟩:=h;have hk:E4 ow bx w ow bx w':=⟨.of fun _ _ h=>⟨h,by rw[hw.1]⟩,fun _ _ _ h _=>⟨h,by rw[hw.1]⟩,fun _ h=>h,fun _ h=>⟨rfl,h⟩,fun _ _ h=>h⟩
 refine⟨ow,bx,?_,fun u hu=>.inr ⟨fun k k1 k2=>(by rw[hD k k1] at k2;cases k2),fun e he=>(h3 u e he).keep hk⟩,h2.symm,h4,fun j=>⟨fun hb=>(by rw[h5] at hb;cases hb),fun ⟨i,t,q1,q2,_⟩=>(by rw[hD i (List.getElem?_eq_some_iff.1 q1).1] at q2;cases q2)⟩,fun i t q1 q2=>(by rw[hD i (List.getElem?_eq_some_iff.1 q1).1] at q2;cases q2)⟩
 have:(fun b=>foldI D ts 0 b (A4 σ.boxes b))=A4 σ.boxes:=by funext b;exact As9 ts 0 _ fun j t ht hd=>by rw[Nat.zero_add,hD j (List.getElem?_eq_some_iff.1 ht).1] at hd;cases hd
 rw[this];have hle:σ.boxes.length≤s'.bx.length:=hL.evo.1;constructor
 ·intro b cs hb
  obtain⟨q1,c,T,q2,q3⟩:=h1.box b cs hb;exact⟨q1,c,T,by rw[hw.1];exact q2,q3.keep hk⟩
 ·intro blk b hb
  obtain⟨q1,q2,q3⟩:=h1.back blk b hb;exact⟨q1,q2,by omega⟩
 ·intro blk hb;rw[hw.1];exact h1.here blk hb
 ·intro blk hb hm;rw[hw.1];exact h1.old blk hb hm
 ·rw[hw.1];exact h1.size
 ·obtain⟨e1,e2,e3⟩:=h1.env
  exact⟨by rw[hw.2.1];exact e1,by rw[hw.2.2.1];exact e2,by rw[hw.2.2.2];exact e3⟩
 ·exact h1.kept
 ·exact h1.st.trans hk.st
 ·exact h1.born
end
end Go.Proofs.YthfjpkdadjemcaaGreat

set_option linter.unusedSimpArgs false
set_option linter.unusedVariables false
namespace Go.Proofs.YthfjpkdadjemcaaGreat
def P4 (n:Nat)(ow:Nat→A1):Nat→A1:=fun blk=>match ow blk with
 | .box b=>if b<n then .box b else .C1
 |x=>x
theorem Aa3 {n m:Nat}{ow:Nat→A1}{blk:Nat}(h:A8 ow blk m):A8 (P4 n ow) blk m:=by
 rcases L1 h with h |⟨k,fr,h,hn⟩|⟨fr,h,hn⟩
 ·exact L0 (by simp[P4,h])
 ·exact z7 (k:=k) (fr:=fr) (by simp[P4,h]) hn
 ·exact X2 (by simp[P4,h]) hn
theorem AA6 (n:Nat)(ow:Nat→A1)(w:World):F1 ow w (P4 n ow) w:=.of fun _ _ h=>⟨Aa3 h,rfl⟩
theorem At1 {n k fr:Nat}{ow:Nat→A1}{blk:Nat}(h:ow blk = .tok k fr):P4 n ow blk = .tok k fr:=by simp[P4,h]
theorem Aa4 {n b:Nat}{ow:Nat→A1}{blk:Nat}:P4 n ow blk = .box b↔ow blk = .box b∧b<n:=by
 unfold P4;cases h:ow blk with
 |box b'=>
  simp only;split
  ·rename_i hlt
   constructor
   ·intro h;cases h;exact⟨rfl,hlt⟩
   ·rintro⟨h,_⟩;exact h
  ·rename_i hlt
   constructor
   ·intro h;cases h
   ·rintro⟨h,h2⟩;cases h;exact absurd h2 hlt
 |E8=>simp
 |tok k fr=>simp
 |part fr=>simp
 |C1=>simp
theorem ground {n:Nat}{ow₀ ow:Nat→A1}{bx₀ bx:Bx}{w₀ w:World}{e:EV}{v₀:Value}(h₀:A0 ow₀ bx₀ w₀ e v₀)(hb:∀b,ow₀ (bx₀ b) = .box b→b<n):
  ∀v,A0 ow bx w e v→A0 (P4 n ow) bx w e v:=by
 induction h₀ with
 |undef v=>exact fun v _=>.undef v
 |dat h=>intro v h;cases h with | dat h=>exact .dat (h.keep (AA6 _ _ _))
 |nil=>intro v h;cases h;exact .nil
 |own h h' hh=>intro v h;cases h with | own h h' hh=>exact .own (fun hs=>(h hs).keep (AA6 _ _ _)) (fun hd=>(h' hd).keep (AA6 _ _ _) fun blk fr hs=>⟨At1 hs,rfl⟩) hh
 |elo hb h0 h1 h'=>intro v h;cases h with | elo hb h0 h1 h'=>exact .elo hb h0 h1 fun hd=>(h' hd).keep (AA6 _ _ _) fun blk fr hs=>⟨At1 hs,rfl⟩
 |fre v hb hd h hn=>intro v h;cases h with | fre _ hb hd h hn=>exact .fre v hb hd (h.keep (AA6 _ _ _) fun blk fr hs=>⟨At1 hs,rfl⟩) hn
 |ptr h=>intro v h';cases h' with | ptr h'=>exact .ptr (Aa4.2 ⟨h',hb _ h⟩)
 |pix h h0 h1=>intro v h';cases h' with | pix h' h0 h1=>exact .pix (Aa4.2 ⟨h',hb _ h⟩) h0 h1
 |elt h0 h1 hs hbk hc=>
  intro v h;cases h with
  |elt h0 h1 hs hbk hc=>exact .elt h0 h1 (Aa3 hs) hbk fun j x hx=>Rep.keep (AA6 _ _ _) _ _ _ (hc j x hx)
 |elx h0 h1 hs hbk hc m0 m1=>
  intro v h;cases h with
  |elx h0 h1 hs hbk hc m0 m1=>exact .elx h0 h1 (Aa3 hs) hbk (fun j x hx=>Rep.keep (AA6 _ _ _) _ _ _ (hc j x hx)) m0 m1
 |clo h1 h2 h3 h4 ih3 ih4=>
  intro v h;cases h with
  |clo g1 g2 g3 g4=>
   refine .clo g1 g2 (fun i e v he hv=> ?_) (fun i e v he hv=> ?_)
   ·have hlt:=(List.getElem?_eq_some_iff.1 he).1
    exact ih3 i e _ he (Array.getElem?_eq_getElem (by omega)) v (g3 i e v he hv)
   ·have hlt:=(List.getElem?_eq_some_iff.1 he).1
    exact ih4 i e _ he (Array.getElem?_eq_getElem (by omega)) v (g4 i e v he hv)
 |sl h0 h1 hs hbk h2 h3 ih=>
  intro v h;cases h with
  |sl g0 g1 gs gb g2 g3=>
   refine .sl g0 g1 (Aa3 gs) gb (fun i e v he hv=> ?_) g3
   have hlt:=(List.getElem?_eq_some_iff.1 he).1;exact ih i e _ he (Array.getElem?_eq_getElem (by omega)) v (g2 i e v he hv)
 |cp hs hbk hv h1 h ih=>
  intro v h;cases h with
  |cp gs gb gv g1 g=>exact .cp (Aa3 gs) gb gv g1 (ih _ g)
 |rp h1 hs hbk h2 h3 ih=>
  intro v h;cases h with
  |rp g1 gs gb g2 g3=>
   refine .rp g1 (Aa3 gs) gb (fun i e v he hv=> ?_) g3
   have hlt:=(List.getElem?_eq_some_iff.1 he).1;exact ih i e _ he (Array.getElem?_eq_getElem (by omega)) v (g2 i e v he hv)
 |tup h1 h2 ih=>
  intro v h;cases h with
  |tup g1 g2=>
   refine .tup g1 fun i e v he hv=> ?_
   have hlt:=(List.getElem?_eq_some_iff.1 he).1;exact ih i e _ he (Array.getElem?_eq_getElem (by omega)) v (g2 i e v he hv)
 |row h1 h2 h3 ih=>
  intro v h;cases h with
  |row g1 g2 g3=>
   refine .row g1 (fun i e v he hv=> ?_) g3
   have hlt:=(List.getElem?_eq_some_iff.1 he).1;exact ih i e _ he (Array.getElem?_eq_getElem (by omega)) v (g2 i e v he hv)
theorem D0.cut {n:Nat}{ow:Nat→A1}{w:World}{t:Ty}{x:t.den}{v:Value}(h:D0 ow w t x v):D0 (P4 n ow) w t x v:=h.keep (AA6 _ _ _)
structure K0 (ow:Nat→A1)(bx:Bx)(w:World)(a:Act)(n:Nat)(S:Pl→Prop)(τ:St):Prop where
 len:τ.C6.length=a.tmps.size
 bl:τ.boxes.length=n
 slot:∀t e,¬S (0,t)→τ.C6[t]? = some e→A0 ow bx w e (a.tmps.getD t undef)
 box:∀b cs,A4 τ.boxes b=some cs→ow (bx b) = .box b∧∃c T,w.heap[bx b]? = some (.cells c T (0,0))∧cs.length=c.size∧(∀(i:Nat) v,c[i]? = some v→v.oneCell'=true)∧
  ∀(i:Nat) e v,¬S (b+1,i)→cs[i]? = some e→c[i]? = some v→A0 ow bx w e v
 there:∀b,ow (bx b) = .box b→b<n→(A4 τ.boxes b).isSome=true
section
variable {ow:Nat→A1}{bx:Bx}{w:World}{a:Act}{n:Nat}{S:Pl→Prop}{τ:St}
theorem AJ8 {l:List (Option (List EV))}{b b':Nat}{x:Option (List EV)}:A4 (l.set b x) b'=if b=b'∧b<l.length then x else A4 l b':=by
 unfold A4;rw[List.getElem?_set];by_cases h:b=b'
 ·subst h
  by_cases hl:b<l.length
  ·simp only[hl,if_true,true_and]
   cases x <;> rfl
  ·simp only[hl,if_true,if_false,true_and,and_false]
   rw[List.getElem?_eq_none (by omega)]
 ·simp only[h,if_false,false_and]
theorem K0.Bf5 (h:K0 ow bx w a n S τ)(t:Nat)(e:EV)(he:A0 ow bx w e (a.tmps.getD t undef)):K0 ow bx w a n (fun q=>S q∧q≠(0,t)) {τ with C6:=τ.C6.set t e}:=by
 refine⟨by simp[h.len],h.bl,fun t' e' hS ht'=> ?_,fun b cs hb=> ?_,h.there⟩
 ·rw[List.getElem?_set] at ht'
  split at ht'
  ·rename_i htt
   subst htt;split at ht'
   ·cases ht';exact he
   ·cases ht'
  ·rename_i htt
   exact h.slot t' e' (fun hs=>hS ⟨hs,fun e=>htt (by cases e;rfl)⟩) ht'
 ·obtain⟨h1,c,T,h2,h3,h4,h5⟩:=h.box b cs hb
  exact⟨h1,c,T,h2,h3,h4,fun i e v hS he hv=>h5 i e v (fun hs=>hS ⟨hs,by simp⟩) he hv⟩
theorem K0.BK4 (h:K0 ow bx w a n S τ)(b:Nat)(cs new:List EV)(hb:A4 τ.boxes b=some cs)(hl:new.length=cs.length)(S':Pl→Prop)(hS0:∀t,S (0,t)→S' (0,t))(hSb:∀b' i,b'≠b→S (b'+1,i)→S' (b'+1,i))
  (hn:∀c T,w.heap[bx b]? = some (.cells c T (0,0))→c.size=cs.length→(∀(i:Nat) v,c[i]? = some v→v.oneCell'=true)→(∀(i:Nat) e v,¬S (b+1,i)→cs[i]? = some e→c[i]? = some v→A0 ow bx w e v)→
   ∀(i:Nat) e v,¬S' (b+1,i)→new[i]? = some e→c[i]? = some v→A0 ow bx w e v):K0 ow bx w a n S' {τ with boxes:=τ.boxes.set b (some new)}:=by
 refine⟨h.len,by simp[h.bl],fun t e hS ht=>h.slot t e (fun hs=>hS (hS0 t hs)) ht,fun b' cs' hb'=> ?_,fun b' h1 h2=> ?_⟩
 ·simp only[AJ8] at hb'
  split at hb'
  ·rename_i hbb
   obtain⟨rfl,_⟩:=hbb;cases hb';obtain⟨h1,c,T,h2,h3,h4,h5⟩:=h.box b cs hb;exact⟨h1,c,T,h2,by omega,h4,hn c T h2 (by omega) h4 h5⟩
  ·rename_i hbb
   have hne:b'≠b:=by intro e;subst e;exact hbb ⟨rfl,(List.getElem?_eq_some_iff.1 (N8.1 hb)).1⟩
   obtain⟨h1,c,T,h2,h3,h4,h5⟩:=h.box b' cs' hb';exact⟨h1,c,T,h2,h3,h4,fun i e v hS he hv=>h5 i e v (fun hs=>hS (hSb b' i hne hs)) he hv⟩
 ·simp only[AJ8]
  split
  ·rfl
  ·exact h.there b' h1 h2
theorem K0.Ai0 (h:K0 ow bx w a n S τ){S':Pl→Prop}(hs:∀q,S q→S' q):K0 ow bx w a n S' τ:=
 ⟨h.len,h.bl,fun t e hS ht=>h.slot t e (fun x=>hS (hs _ x)) ht,fun b cs hb=>by obtain⟨h1,c,T,h2,h3,h4,h5⟩:=h.box b cs hb;exact⟨h1,c,T,h2,h3,h4,fun i e v hS he hv=>h5 i e v (fun x=>hS (hs _ x)) he hv⟩,h.there⟩
theorem K0.Z4 (h:K0 ow bx w a n S τ)(p:Pl):K0 ow bx w a n (fun q=>S q∧q≠p) (Z4 τ p):=by
 obtain⟨x,i⟩:=p;cases x with
 |zero=>exact h.Bf5 i .undef (.undef _)
 |succ b=>
  unfold Go.Proofs.YthfjpkdadjemcaaGreat.Z4;simp only;cases hb:A4 τ.boxes b with
  |none=>
   simp only;refine⟨h.len,h.bl,fun t e hS ht=>h.slot t e (fun hs=>hS ⟨hs,by simp⟩) ht,fun b' cs hb'=> ?_,h.there⟩
   obtain⟨h1,c,T,h2,h3,h4,h5⟩:=h.box b' cs hb';refine⟨h1,c,T,h2,h3,h4,fun j e v hS he hv=>h5 j e v (fun hs=>hS ⟨hs,fun e=> ?_⟩) he hv⟩
   simp only[Prod.mk.injEq] at e;have:b'=b:=by omega
   subst this;rw[hb] at hb';cases hb'
  |some cs=>
   simp only;refine h.BK4 b cs _ hb (by simp) _ (fun t hs=>⟨hs,by simp⟩) (fun b' j hne hs=>⟨hs,fun e=>hne (by simp only[Prod.mk.injEq] at e;omega)⟩) fun c T h1 h2 h3 h4 j e v hS he hv=> ?_
   rw[List.getElem?_set] at he;split at he
   ·split at he
    ·cases he;exact .undef _
    ·cases he
   ·rename_i hij
    exact h4 j e v (fun hs=>hS ⟨hs,fun e=>hij (by simp only[Prod.mk.injEq] at e;omega)⟩) he hv
theorem K0.V1:∀(ps:List Pl) (S:Pl→Prop) (τ:St),K0 ow bx w a n S τ→K0 ow bx w a n (fun q=>S q∧q∉ps) (V1 ps τ)
 | [],S,τ,h=>h.Ai0 fun q hq=>⟨hq,by simp⟩
 |p::r,S,τ,h=>by have:=K0.V1 r _ _ (h.Z4 p);simp only[Go.Proofs.YthfjpkdadjemcaaGreat.V1];exact this.Ai0 fun q ⟨⟨h1,h2⟩,h3⟩=>⟨h1,by simp[h2,h3]⟩
def Ai1 (ow:Nat→A1)(bx:Bx)(w:World)(a:Act)(it:It)(x:it.ty.den):Prop:=match it.at_ with
 | .slot i=>A0 ow bx w (Ag3 it.own (.dat it.ty x)) (a.tmps.getD i undef)
 | .box b=>∀c T,w.heap[bx b]? = some (.cells c T (0,0))→C4 ow bx w (flat it.ty x) c.toList
 | .cell b i=>∀c T v,w.heap[bx b]? = some (.cells c T (0,0))→c[i]? = some v→A0 ow bx w (Ag3 it.own (.dat it.ty x)) v
theorem K0.Z3 (h:K0 ow bx w a n S τ)(it:It)(x:it.ty.den)(hx:Ai1 ow bx w a it x):K0 ow bx w a n (fun q=>S q∧Aq0 q it=false) (Z3 τ it (.dat it.ty x)):=by
 unfold Ai1 at hx;unfold Go.Proofs.YthfjpkdadjemcaaGreat.Z3 Aq0;cases hat:it.at_ with
 |slot i=>
  rw[hat] at hx;simp only at hx ⊢;refine (h.Bf5 i _ hx).Ai0 fun q ⟨h1,h2⟩=>⟨h1,?_⟩
  obtain⟨a,b⟩:=q;cases hb:(Nat.beq a 0&&Nat.beq b i) with
  |false=>rfl
  |true=>
   simp only[Bool.and_eq_true] at hb;exact absurd (by rw[Nat.eq_of_beq_eq_true hb.1,Nat.eq_of_beq_eq_true hb.2]) h2
 |box b=>
  rw[hat] at hx;simp only[EV.cells] at hx ⊢;have hp:∀q:Pl,Nat.beq q.1 (b+1)=false↔q.1≠b+1:=by
   intro q;constructor
   ·intro h e;rw[e,Nat.beq_refl] at h;cases h
   ·intro h
    cases hb:Nat.beq q.1 (b+1) with
    |false=>rfl
    |true=>exact absurd (Nat.eq_of_beq_eq_true hb) h
  cases hb:A4 τ.boxes b with
  |none=>
   simp only;refine⟨h.len,h.bl,fun t e hS ht=>h.slot t e (fun hs=>hS ⟨hs,by rw[hp];simp⟩) ht,fun b' cs hb'=> ?_,h.there⟩
   obtain⟨h1,c,T,h2,h3,h4,h5⟩:=h.box b' cs hb';refine⟨h1,c,T,h2,h3,h4,fun j e v hS he hv=>h5 j e v (fun hs=>hS ⟨hs,?_⟩) he hv⟩
   rw[hp];intro e;have:b'=b:=by simpa using e
   subst this;rw[hb] at hb';cases hb'
  |some cs=>
   simp only;obtain⟨h1,c,T,h2,h3,h4,h5⟩:=h.box b cs hb;have hr:=hx c T h2;have hl:(flat it.ty x).length=cs.length:=by rw[hr.1,h3];simp
   refine h.BK4 b cs _ hb hl _ (fun t hs=>⟨hs,by rw[hp];simp⟩) (fun b' j hne hs=>⟨hs,by rw[hp];simpa using hne⟩) fun c' T' g1 g2 g3 g4 j e v hS he hv=> ?_
   rw[h2] at g1;cases g1;exact (hr.2 j e v he (by simpa using hv)).1
 |cell b i=>
  rw[hat] at hx;simp only at hx ⊢;have hp:∀q:Pl,(Nat.beq q.1 (b+1)&&Nat.beq q.2 i)=false↔q≠(b+1,i):=by
   intro q;obtain⟨x,y⟩:=q;constructor
   ·intro h e;cases e;simp[Nat.beq_refl] at h
   ·intro h
    cases hb:(Nat.beq x (b+1)&&Nat.beq y i) with
    |false=>rfl
    |true=>
     simp only[Bool.and_eq_true] at hb;exact absurd (by rw[Nat.eq_of_beq_eq_true hb.1,Nat.eq_of_beq_eq_true hb.2]) h
  cases hb:A4 τ.boxes b with
  |none=>
   simp only;refine⟨h.len,h.bl,fun t e hS ht=>h.slot t e (fun hs=>hS ⟨hs,by rw[hp];simp⟩) ht,fun b' cs hb'=> ?_,h.there⟩
   obtain⟨h1,c,T,h2,h3,h4,h5⟩:=h.box b' cs hb';refine⟨h1,c,T,h2,h3,h4,fun j e v hS he hv=>h5 j e v (fun hs=>hS ⟨hs,?_⟩) he hv⟩
   rw[hp];intro e;simp only[Prod.mk.injEq] at e;have:b'=b:=by omega
   subst this;rw[hb] at hb';cases hb'
  |some cs=>
   simp only;refine h.BK4 b cs _ hb (by simp) _ (fun t hs=>⟨hs,by rw[hp];simp⟩) (fun b' j hne hs=>⟨hs,by rw[hp];intro e;exact hne (by simp only[Prod.mk.injEq] at e;omega)⟩) fun c T h1 h2 h3 h4 j e v hS he hv=> ?_
   rw[List.getElem?_set] at he;split at he
   ·rename_i hij
    subst hij;split at he
    ·cases he;exact hx c T v h1 hv
    ·cases he
   ·rename_i hij
    exact h4 j e v (fun hs=>hS ⟨hs,by rw[hp];intro e;exact hij (by simp only[Prod.mk.injEq] at e;omega)⟩) he hv
theorem Bf6 {o:Option Nat}{ty:Ty}{y:ty.den}{e₀ e:EV}{v:Value}{m:Nat}(h:Ag2 o (some e₀)=some e)(ht:e.to ty=some y)(hv:A0 ow bx w e₀ v):A0 (P4 m ow) bx w (Ag3 o (.dat ty y)) v:=by
 cases o with
 |none=>
  simp only[Ag2] at h;cases h;exact .dat (z8 ht hv).cut
 |some k=>
  simp only[Ag2] at h;cases e₀ with
  |own k' t l=>
   simp only[Ap8] at h;split at h
   ·rename_i hk
    have hk:=Nat.eq_of_beq_eq_true hk;subst hk;cases h;rcases Ag6 ht with h1 |⟨h1,_⟩|⟨_,_,_,h1,_⟩
    ·cases h1
     cases hv with
     |own h2 h3 h4=>exact .own (fun hs=>(h2 hs).cut) (fun hd=>(h3 hd).keep (AA6 _ _ _) fun blk fr hs=>⟨At1 hs,rfl⟩) h4
    ·cases h1
    ·cases h1
   ·cases h
  |nil=>
   simp only[Ap8] at h;split at h
   ·cases h
   rename_i hfirm;cases h;rcases Ag6 ht with h1 |⟨_,a,h1,h2⟩|⟨_,_,_,h1,_⟩
   ·cases h1
   ·subst h1
    cases eq_of_heq h2;cases hv;exact .own (fun _=>AJ4 a) (fun _=>.inl ⟨rfl,rfl⟩) fun _=>.inl ⟨hfirm,rfl,rfl⟩
   ·cases h1
  |_=>simp [Ap8] at h
theorem BK5:∀(its:List It) (es:List EV) (x:(G8 its).den),J1 (G8 its) es=some x→es.length=its.length→
  ∀(i:Nat) it e,its[i]? = some it→es[i]? = some e→∃y,e.to it.ty=some y∧(B3 (G8 its) its.length x)[i]? = some (.dat it.ty y)
 | [],es,x,h,hl,i,it,e,hi,he=>by simp at hi
 | [t],es,x,h,hl,i,it,e,hi,he=>by
  obtain⟨e0,rfl⟩:=List.length_eq_one_iff.1 hl;cases i with
  |succ i=>simp at hi
  |zero=>
   simp at hi he;subst hi he;have hto:∀(t:Ty) (e:EV) (x:t.den),J1 t [e]=some x→e.to t=some x:=by
    intro t e x h;cases t <;> simp only[J1] at h <;> first | exact h | cases h
   have hun:∀(t:Ty) (x:t.den),B3 t 1 x=[.dat t x]:=by intro t x;cases t <;> rfl
   exact⟨x,hto _ _ _ h,congrArg (fun l:List EV=>l[0]?) (hun _ x)⟩
 |t::u::r,es,x,h,hl,i,it,e,hi,he=>by
  match es,hl with
  |e0::e1::es',hl=>
   change J1 (.pair t.ty (G8 (u::r))) (e0::e1::es')=some x at h;simp only[J1] at h;split at h
   ·rename_i x0 h0
    split at h
    ·rename_i x1 h1
     cases h;have hun:B3 (G8 (t::u::r)) (t::u::r).length (x0,x1) = .dat t.ty x0::B3 (G8 (u::r)) (u::r).length x1:=rfl;rw[hun];cases i with
     |zero=>simp at hi he;subst hi he;exact⟨x0,h0,rfl⟩
     |succ i=>
      obtain⟨y,k1,k2⟩:=BK5 (u::r) (e1::es') x1 h1 (by simpa using hl) i it e (by simpa using hi) (by simpa using he)
      exact⟨y,k1,by simpa using k2⟩
    ·cases h
   ·cases h
theorem BK6 {σ:St}:∀(its:List It) (l:List EV),AC1 σ its=some l→l.length=its.length∧∀(i:Nat) it e,its[i]? = some it→l[i]? = some e→Ap9 σ it=some e
 | [],l,h=>by simp only[AC1] at h;cases h;exact⟨rfl,fun i it e hi=>by simp at hi⟩
 |t::r,l,h=>by
  simp only[AC1] at h;split at h
  ·rename_i e0 h0
   split at h
   ·rename_i l0 h1
    cases h;obtain⟨k1,k2⟩:=BK6 r l0 h1;refine⟨by simp[k1],fun i it e hi he=> ?_⟩
    cases i with
    |zero=>simp at hi he;subst hi he;exact h0
    |succ i=>exact k2 i it e (by simpa using hi) (by simpa using he)
   ·cases h
  ·cases h
theorem K0.X1 {ow:Nat→A1}{bx:Bx}{w:World}{a:Act}{n:Nat}:∀(its:List It) (vs:List EV) (S:Pl→Prop) (τ:St),K0 ow bx w a n S τ→vs.length=its.length→
  (∀(i:Nat) it,its[i]? = some it→∃x,vs[i]? = some (.dat it.ty x)∧Ai1 ow bx w a it x)→K0 ow bx w a n (fun q=>S q∧AE8 q its=false) (X1 its vs τ)
 | [],vs,S,τ,h,hl,_=>by have:vs=[]:=List.eq_nil_of_length_eq_zero hl;subst this;exact h.Ai0 fun q hq=>⟨hq,rfl⟩
 |it::r,vs,S,τ,h,hl,hx=>by
  match vs,hl with
  |v::vs',hl=>
   obtain⟨x,h1,h2⟩:=hx 0 it rfl;simp at h1;subst h1;have:=K0.X1 r vs' _ _ (h.Z3 it x h2) (by simpa using hl) fun i it' hi=>by
    obtain⟨y,k1,k2⟩:=hx (i+1) it' (by simpa using hi)
    exact⟨y,by simpa using k1,k2⟩
   simp only[Go.Proofs.YthfjpkdadjemcaaGreat.X1];exact this.Ai0 fun q ⟨⟨q1,q2⟩,q3⟩=>⟨q1,by simp[AE8,q2,q3]⟩
theorem Bf7:∀(l:List Pl) (p:Pl),Ag4 p l=true↔p∈l
 | [],p=>by simp[Ag4]
 |x::r,p=>by
  simp only[Ag4,Bool.or_eq_true,Bool.and_eq_true,List.mem_cons,Bf7 r p];constructor
  ·rintro (⟨h1,h2⟩ | h)
   ·left
    have a:=Nat.eq_of_beq_eq_true h1;have b:=Nat.eq_of_beq_eq_true h2;obtain⟨p1,p2⟩:=p;obtain⟨x1,x2⟩:=x;simp only at a b;rw[a,b]
   ·exact .inr h
  ·rintro (rfl | h)
   ·exact .inl ⟨Nat.beq_refl _,Nat.beq_refl _⟩
   ·exact .inr h
theorem At2 {nb:Nat}{its:List It}{drop:List Pl}:∀(l:List Pl),covered nb its drop l=true→∀p∈l,nb+1≤p.1∨AE8 p its=true∨p∈drop
 | [],_,p,hp=>by simp at hp
 |x::r,h,p,hp=>by
  simp only[covered,Bool.and_eq_true,Bool.or_eq_true] at h;rcases List.mem_cons.1 hp with rfl | hp
  ·rcases h.1 with (h | h) | h
   ·exact .inl (Nat.le_of_ble_eq_true h)
   ·exact .inr (.inl h)
   ·exact .inr (.inr ((Bf7 _ _).1 h))
  ·exact At2 r h.2 p hp
structure I2 (σ σ':St)(j:List Pl):Prop where
 C6:σ'.C6.length=σ.C6.length
 boxes:σ.boxes.length≤σ'.boxes.length
 slot:∀t,(0,t)∉j→σ'.C6[t]? = σ.C6[t]?
 box:∀b,b<σ.boxes.length→∀cs,A4 σ.boxes b=some cs→∃cs',A4 σ'.boxes b=some cs'∧cs'.length=cs.length∧∀i,(b+1,i)∉j→cs'[i]? = cs[i]?
 none:∀b,b<σ.boxes.length→A4 σ.boxes b=none→A4 σ'.boxes b=none
theorem I2.refl (σ:St):I2 σ σ []:=⟨rfl,Nat.le_refl _,fun _ _=>rfl,fun b _ cs h=>⟨cs,h,rfl,fun _ _=>rfl⟩,fun _ _ h=>h⟩
theorem I2.trans {σ σ' σ'':St}{j j':List Pl}(h:I2 σ σ' j)(k:I2 σ' σ'' j'):I2 σ σ'' (j'++j):=by
 obtain⟨h1,h2,h4,h5,h6⟩:=h;obtain⟨k1,k2,k4,k5,k6⟩:=k;refine⟨by rw[k1,h1],by omega,fun t ht=> ?_,fun b hb cs hcs=> ?_,fun b hb hn=>k6 b (by omega) (h6 b hb hn)⟩
 ·rw[k4 t (fun h=>ht (List.mem_append_left _ h)),h4 t (fun h=>ht (List.mem_append_right _ h))]
 ·obtain⟨cs',g1,g2,g3⟩:=h5 b hb cs hcs
  obtain⟨cs'',q1,q2,q3⟩:=k5 b (by omega) cs' g1
  exact⟨cs'',q1,by rw[q2,g2],fun i hi=>by rw[q3 i (fun h=>hi (List.mem_append_left _ h)),g3 i (fun h=>hi (List.mem_append_right _ h))]⟩
theorem I2.mono {σ σ':St}{j j':List Pl}(h:I2 σ σ' j)(hs:∀p∈j,p∈j'):I2 σ σ' j':=
 ⟨h.C6,h.boxes,fun t ht=>h.slot t fun x=>ht (hs _ x),fun b hb cs hcs=>by obtain⟨cs',g1,g2,g3⟩:=h.box b hb cs hcs;exact⟨cs',g1,g2,fun i hi=>g3 i fun x=>hi (hs _ x)⟩,h.none⟩
theorem Evo.toJ {σ σ':St}(h:Evo σ σ')(hj:σ.jr=[]):I2 σ σ' σ'.jr:=by obtain⟨h1,h2,j,h3,h4,h5,h6⟩:=h;rw[hj,List.append_nil] at h3;subst h3;exact⟨h1,h2,h4,h5,h6⟩
end
end Go.Proofs.YthfjpkdadjemcaaGreat

set_option linter.unusedSimpArgs false
set_option linter.unusedVariables false
namespace Go.Proofs.YthfjpkdadjemcaaGreat
def Bf8:Ex→Exit
 | .normal=>.normal
 | .exit id=>.exit id
 | .ret=>.ret
def AC6 {ρ:Type}(B:E9)(σ:St)(k:Ex→St→Option ρ)(r:ρ):Exit→Act→World→Prop:=fun e a w=>∃ex τ,e=Bf8 ex∧k ex τ=some r∧M3 B τ a w∧Evo σ τ
def Core (P:Program)(c:Code)(core:(ρ:Type)→St→(Ex→St→Option ρ)→Option ρ):Prop:=
 ∀(ρ:Type) (σ:St) (k:Ex→St→Option ρ) (r:ρ),core ρ σ k=some r→∀B a w,M3 B σ a w→c.wp P (AC6 B σ k r) a w
theorem CV6 {ρ:Type}{B:E9}{σ σ':St}{k:Ex→St→Option ρ}{r:ρ}(h:Evo σ σ'){e:Exit}{a:Act}{w:World}(hp:AC6 B σ' k r e a w):AC6 B σ k r e a w:=by obtain⟨ex,τ,h1,h2,h3,h4⟩:=hp;exact⟨ex,τ,h1,h2,h3,h.trans h4⟩
theorem Bf9:∀(t:Ty) (x:t.den),(flat t x).length=t.size:=by
 intro t
 induction t with
 |pair a b iha ihb=>intro x;simp[flat,Ty.size,iha,ihb]
 |agg a ih=>intro x;exact ih x
 |_=>intro x;rfl
theorem CV7:∀(t:Ty) (es r:List EV) (x:t.den),asm t es=some (x,r)→es.length=t.size+r.length:=by
 have one:∀(t:Ty) (es r:List EV) (x:t.den) (c:EV) (r':List EV),t.size=1→es=c::r'→r=r'→es.length=t.size+r.length:=by intro t es r x c r' h1 h2 h3;subst h2 h3;simp[h1];omega
 intro t
 induction t with
 |unit=>intro es r x h;cases h;simp[Ty.size]
 |pair a b iha ihb=>
  intro es r x h;simp only[asm] at h;split at h
  ·rename_i h1
   split at h
   ·rename_i h2
    cases h;have:=iha _ _ _ h1;have:=ihb _ _ _ h2;simp only[Ty.size];omega
   ·cases h
  ·cases h
 |agg a ih=>intro es r x h;exact ih es r x h
 |int k=>
  intro es r x h;cases es with
  |nil=>simp [asm] at h
  |cons c r'=>
   simp only[asm] at h;split at h
   ·cases h;exact one (.int k) _ _ x c _ rfl rfl rfl
   ·cases h
 |bool=>
  intro es r x h;cases es with
  |nil=>simp [asm] at h
  |cons c r'=>
   simp only[asm] at h;split at h
   ·cases h;exact one .bool _ _ x c _ rfl rfl rfl
   ·cases h
 |str=>
  intro es r x h;cases es with
  |nil=>simp [asm] at h
  |cons c r'=>
   simp only[asm] at h;split at h
   ·cases h;exact one .str _ _ x c _ rfl rfl rfl
   ·cases h
 |slice a _=>
  intro es r x h;cases es with
  |nil=>simp [asm] at h
  |cons c r'=>
   simp only[asm] at h;split at h
   ·cases h;exact one (.slice a) _ _ x c _ rfl rfl rfl
   ·cases h
theorem CV8 (τ:St)(p:Pl):I2 τ (Z4 τ p) [p]:=by
 obtain⟨x,i⟩:=p;cases x with
 |zero=>
  refine⟨by simp[Z4],Nat.le_refl _,fun t ht=> ?_,fun b _ cs h=>⟨cs,h,rfl,fun _ _=>rfl⟩,fun _ _ h=>h⟩
  simp only[Z4];rw[List.getElem?_set_ne (fun e=>ht (by simp[e]))]
 |succ b=>
  unfold Z4;simp only;cases hb:A4 τ.boxes b with
  |none=>exact (I2.refl τ).mono (by simp)
  |some cs=>
   simp only;refine⟨rfl,by simp,fun t _=>rfl,fun b' hb' cs' hcs'=> ?_,fun b' hb' hn=> ?_⟩
   ·simp only[AJ8]
    by_cases e:b=b'
    ·subst e
     rw[hb] at hcs';cases hcs';rw[if_pos ⟨rfl,hb'⟩];exact⟨_,rfl,by simp,fun j hj=>by rw[List.getElem?_set_ne (fun e=>hj (by simp[e]))]⟩
    ·rw[if_neg (fun h=>e h.1)]
     exact⟨cs',hcs',rfl,fun _ _=>rfl⟩
   ·simp only[AJ8]
    rw[if_neg]
    ·exact hn
    ·rintro⟨rfl,_⟩
     rw[hb] at hn;cases hn
theorem Bg0:∀(ps:List Pl) (τ:St),I2 τ (V1 ps τ) ps
 | [],τ=>I2.refl τ
 |p::r,τ=>by
  have:=(CV8 τ p).trans (Bg0 r (Z4 τ p));simp only[V1];exact this.mono fun q hq=>by
   rcases List.mem_append.1 hq with h | h
   ·exact List.mem_cons_of_mem _ h
   ·simp at h;simp[h]
theorem CV9 (τ:St)(it:It)(x:it.ty.den)(h:∀b cs,it.at_ = .box b→A4 τ.boxes b=some cs→it.ty.size=cs.length):I2 τ (Z3 τ it (.dat it.ty x)) (J3 [it] τ.boxes):=by
 unfold Z3 J3;cases hat:it.at_ with
 |slot i=>
  simp only;refine⟨by simp,Nat.le_refl _,fun t ht=> ?_,fun b _ cs h=>⟨cs,h,rfl,fun _ _=>rfl⟩,fun _ _ h=>h⟩
  rw[List.getElem?_set_ne (fun e=>ht (by simp[e]))]
 |box b=>
  simp only[EV.cells];cases hb:A4 τ.boxes b with
  |none=>exact (I2.refl τ).mono (by simp)
  |some cs=>
   simp only;have hl:=h b cs hat hb;refine⟨rfl,by simp,fun t _=>rfl,fun b' hb' cs' hcs'=> ?_,fun b' hb' hn=> ?_⟩
   ·simp only[AJ8]
    by_cases e:b=b'
    ·subst e
     rw[hb] at hcs';cases hcs';rw[if_pos ⟨rfl,hb'⟩];refine⟨_,rfl,by rw[Bf9,hl],fun j hj=> ?_⟩
     have:¬j<cs.length:=fun hlt=>hj (by simp[J3,hlt])
     rw[List.getElem?_eq_none (by rw[Bf9,hl];omega),List.getElem?_eq_none (by omega)]
    ·rw[if_neg (fun h=>e h.1)]
     exact⟨cs',hcs',rfl,fun _ _=>rfl⟩
   ·simp only[AJ8]
    rw[if_neg]
    ·exact hn
    ·rintro⟨rfl,_⟩
     rw[hb] at hn;cases hn
 |cell b i=>
  simp only;cases hb:A4 τ.boxes b with
  |none=>exact (I2.refl τ).mono (by simp)
  |some cs=>
   simp only;refine⟨rfl,by simp,fun t _=>rfl,fun b' hb' cs' hcs'=> ?_,fun b' hb' hn=> ?_⟩
   ·simp only[AJ8]
    by_cases e:b=b'
    ·subst e
     rw[hb] at hcs';cases hcs';rw[if_pos ⟨rfl,hb'⟩];exact⟨_,rfl,by simp,fun j hj=>by rw[List.getElem?_set_ne (fun e=>hj (by simp[e]))]⟩
    ·rw[if_neg (fun h=>e h.1)]
     exact⟨cs',hcs',rfl,fun _ _=>rfl⟩
   ·simp only[AJ8]
    rw[if_neg]
    ·exact hn
    ·rintro⟨rfl,_⟩
     rw[hb] at hn;cases hn
theorem BK7:∀(its:List It) (l l':List (Option (List EV))),(∀b,(A4 l b).map List.length=(A4 l' b).map List.length)→J3 its l=J3 its l'
 | [],_,_,_=>rfl
 |t::r,l,l',h=>by
  simp only[J3];rw[BK7 r l l' h];congr 1;cases t.at_ with
  |slot i=>rfl
  |cell b i=>rfl
  |box b=>
   simp only;have:=h b;cases h1:A4 l b with
   |none=>rw [h1] at this;cases h2:A4 l' b with
    |none=>rfl
    |some y=>rw [h2] at this;cases this
   |some x=>rw [h1] at this;cases h2:A4 l' b with
    |none=>rw [h2] at this;cases this
    |some y=>
     rw[h2] at this;simp only[Option.map_some,Option.some.injEq] at this;simp only[this]
theorem I2.lens {σ σ':St}{j:List Pl}(h:I2 σ σ' j)(hb:σ'.boxes.length=σ.boxes.length)(b:Nat):(A4 σ'.boxes b).map List.length=(A4 σ.boxes b).map List.length:=by
 by_cases hlt:b<σ.boxes.length
 ·cases hc:A4 σ.boxes b with
  |none=>rw [h.none b hlt hc]
  |some cs=>
   obtain⟨cs',g1,g2,_⟩:=h.box b hlt cs hc;rw[g1];simp[g2]
 ·unfold A4
  rw[List.getElem?_eq_none (by omega),List.getElem?_eq_none (by omega)]
theorem CW0 (τ:St)(it:It)(v:EV):(Z3 τ it v).boxes.length=τ.boxes.length:=by
 unfold Z3;cases it.at_ with
 |slot i=>rfl
 |box b=>simp only;split <;> simp
 |cell b i=>simp only;split <;> simp
theorem Bg1:∀(ps:List Pl) (τ:St),(V1 ps τ).boxes.length=τ.boxes.length
 | [],_=>rfl
 |p::r,τ=>by
  simp only[V1];rw[Bg1];obtain⟨x,i⟩:=p;cases x with
  |zero=>rfl
  |succ b=>unfold Z4;simp only;split <;> simp
theorem Bg2:∀(its:List It) (vs:List EV) (τ:St),vs.length=its.length→(∀(i:Nat) it,its[i]? = some it→∃x,vs[i]? = some (EV.dat it.ty x))→
  (∀it∈its,∀b cs,it.at_ = .box b→A4 τ.boxes b=some cs→it.ty.size=cs.length)→I2 τ (X1 its vs τ) (J3 its τ.boxes)∧(X1 its vs τ).boxes.length=τ.boxes.length
 | [],vs,τ,hl,_,_=>by have:vs=[]:=List.eq_nil_of_length_eq_zero hl;subst this;exact⟨I2.refl τ,rfl⟩
 |it::r,vs,τ,hl,hv,hb=>by
  match vs,hl with
  |v::vs',hl=>
   obtain⟨x,hx⟩:=hv 0 it rfl;simp at hx;subst hx;have h1:=CV9 τ it x (fun b cs=>hb it (by simp) b cs)
   have hlen:=CW0 τ it (.dat it.ty x);have hlens:=h1.lens hlen;obtain⟨h2,h3⟩:=Bg2 r vs' (Z3 τ it (.dat it.ty x)) (by simpa using hl) (fun i it' hi=>by
    obtain⟨y,hy⟩:=hv (i+1) it' (by simpa using hi)
    exact⟨y,by simpa using hy⟩) (fun it' hit b cs hat hcs=>by
    have:=hlens b;rw[hcs] at this;cases hc:A4 τ.boxes b with
    |none=>rw [hc] at this;cases this
    |some cs0=>
     rw[hc] at this;simp only[Option.map_some,Option.some.injEq] at this;rw[this];exact hb it' (by simp[hit]) b cs0 hat hc)
   simp only[X1];refine⟨(h1.trans h2).mono fun q hq=> ?_,by rw[h3,hlen]⟩
   have hpl:J3 (it::r) τ.boxes=J3 [it] τ.boxes++J3 r τ.boxes:=by simp[J3]
   rw[hpl];rcases List.mem_append.1 hq with h | h
   ·rw[BK7 r _ _ hlens] at h
    exact List.mem_append_right _ h
   ·exact List.mem_append_left _ h
theorem Ai2 {σ σ':St}{its:List It}{drop j:List Pl}{v:(G8 its).den}(hev:I2 σ σ' j)(hp:pack σ' its=some v):I2 σ (unpack σ its drop v) (J3 its σ.boxes++drop)∧(unpack σ its drop v).boxes.length=σ.boxes.length:=by
 unfold pack at hp;cases hg:AC1 σ' its with
 |none=>rw [hg] at hp;cases hp
 |some l=>
  rw[hg] at hp;simp only at hp;obtain⟨l1,l2⟩:=BK6 its l hg;have h1:=Bg0 drop σ;have hbl:=Bg1 drop σ;have hlens:=h1.lens hbl;have hun:(B3 (G8 its) its.length v).length=its.length:=by
   have:∀(its:List It) (v:(G8 its).den),(B3 (G8 its) its.length v).length=its.length:=by
    intro its
    induction its with
    |nil=>intro v;rfl
    |cons t r ih=>
     intro v;cases r with
     |nil=>
      have:∀(t:Ty) (v:t.den),(B3 t 1 v).length=1:=by intro t v;cases t <;> rfl
      exact this _ v
     |cons u r=>
      have:B3 (G8 (t::u::r)) (t::u::r).length v = .dat t.ty v.1::B3 (G8 (u::r)) (u::r).length v.2:=rfl;rw[this];have:=ih v.2;simp only[List.length_cons] at this ⊢;omega
   exact this its v
  obtain⟨h2,h3⟩:=Bg2 its (B3 (G8 its) its.length v) (V1 drop σ) hun (fun i it hi=>by
   have hil:i<l.length:=by rw[l1];exact (List.getElem?_eq_some_iff.1 hi).1
   obtain⟨y,_,k2⟩:=BK5 its l v hp l1 i it _ hi (List.getElem?_eq_getElem hil);exact⟨y,k2⟩) (fun it hit b cs hat hcs=>by
   obtain⟨i,hi⟩:=List.getElem?_of_mem hit;have hil:i<l.length:=by rw[l1];exact (List.getElem?_eq_some_iff.1 hi).1
   have hget:=l2 i it _ hi (List.getElem?_eq_getElem hil);unfold Ap9 at hget;rw[hat] at hget;simp only at hget;split at hget
   ·rename_i cs' hcs'
    split at hget
    ·rename_i v' hv'
     have:=CV7 _ _ _ _ hv';have hl:=hlens b;rw[hcs] at hl;cases hc:A4 σ.boxes b with
     |none=>rw [hc] at hl;cases hl
     |some cs0=>
      rw[hc] at hl;simp only[Option.map_some,Option.some.injEq] at hl;obtain⟨cs'',k1,k2,_⟩:=hev.box b (List.getElem?_eq_some_iff.1 (N8.1 hc)).1 cs0 hc;rw[hcs'] at k1;cases k1;simp at this;omega
    ·cases hget
   ·cases hget)
  refine⟨?_,by rw[← hbl,← h3];rfl⟩
  have:=h1.trans h2;rw[BK7 its _ _ hlens] at this;exact this
theorem At3 {B:E9}{σ σ':St}{a a₀:Act}{w w₀:World}{its:List It}{drop:List Pl}{v:(G8 its).den}{j:List Pl}(h₀:M3 B σ a₀ w₀)(hev:I2 σ σ' j)(h:M3 B σ' a w)
  (hc:∀p∈j,σ.boxes.length+1≤p.1∨AE8 p its=true∨p∈drop) (hp:pack σ' its=some v):M3 B (unpack σ its drop v) a w:=by
 have hevo:=(Ai2 (drop:=drop) hev hp).1;obtain⟨ow₀,bx₀,i₀,⟨s₀,r₀⟩,_⟩:=h₀;obtain⟨ow,bx,i1,⟨s1,r1⟩,hd⟩:=h;obtain⟨e1,e2,e4,e5,e6⟩:=hev;have hb₀:∀b,ow₀ (bx₀ b) = .box b→b<σ.boxes.length:=fun b h=>(i₀.back _ b h).2.2
 have g0:K0 (P4 σ.boxes.length ow) bx w a σ.boxes.length (fun q=>q∈j) σ:=by
  refine⟨by rw[← e1,s1],rfl,fun t e hS ht=> ?_,fun b cs hb=> ?_,fun b h1 h2=> ?_⟩
  ·have ht':σ'.C6[t]? = some e:=by rw[e4 t hS];exact ht
   exact ground (r₀ t e ht) hb₀ _ (r1 t e ht')
  ·have hlt:=(List.getElem?_eq_some_iff.1 (N8.1 hb)).1
   obtain⟨cs',k1,k2,k3⟩:=e5 b hlt cs hb;obtain⟨q1,c,T,q2,q3⟩:=i1.box b cs' k1;obtain⟨p1,c₀,T₀,p2,p3⟩:=i₀.box b cs hb;refine⟨Aa4.2 ⟨q1,hlt⟩,c,T,q2,by rw[← k2,q3.1];simp,fun i v hv=>q3.AY9 v (by simpa using List.mem_of_getElem? (show c.toList[i]? = some v by simpa using hv)),fun i e v hS he hv=> ?_⟩
   have he':cs'[i]? = some e:=by rw[k3 i hS];exact he
   have hil:i<c₀.toList.length:=by rw[← p3.1];exact (List.getElem?_eq_some_iff.1 he).1
   exact ground (p3.2 i e _ he (List.getElem?_eq_getElem hil)).1 hb₀ _ (q3.2 i e v he' (by simpa using hv)).1
  ·obtain⟨hq,hlt⟩:=Aa4.1 h1
   have:=(i1.back _ b hq).2.1;cases hb:A4 σ.boxes b with
   |some cs=>rfl
   |none=>rw [e6 b h2 hb] at this;cases this
 have g1:=g0.V1 drop;unfold pack at hp;cases hg:AC1 σ' its with
 |none=>rw [hg] at hp;cases hp
 |some l=>
  rw[hg] at hp;simp only at hp;obtain⟨l1,l2⟩:=BK6 its l hg;have hun:(B3 (G8 its) its.length v).length=its.length:=by
   have:∀(its:List It) (v:(G8 its).den),(B3 (G8 its) its.length v).length=its.length:=by
    intro its
    induction its with
    |nil=>intro v;rfl
    |cons t r ih=>
     intro v;cases r with
     |nil=>
      have:∀(t:Ty) (v:t.den),(B3 t 1 v).length=1:=by intro t v;cases t <;> rfl
      exact this _ v
     |cons u r=>
      have:B3 (G8 (t::u::r)) (t::u::r).length v = .dat t.ty v.1::B3 (G8 (u::r)) (u::r).length v.2:=rfl;rw[this];have:=ih v.2;simp only[List.length_cons] at this ⊢;omega
   exact this its v
  have hvals:∀(i:Nat) it,its[i]? = some it→∃x,(B3 (G8 its) its.length v)[i]? = some (.dat it.ty x)∧Ai1 (P4 σ.boxes.length ow) bx w a it x:=by
   intro i it hi;have hil:i<l.length:=by rw[l1];exact (List.getElem?_eq_some_iff.1 hi).1
   obtain⟨y,k1,k2⟩:=BK5 its l v hp l1 i it _ hi (List.getElem?_eq_getElem hil);refine⟨y,k2,?_⟩;have hget:=l2 i it _ hi (List.getElem?_eq_getElem hil);generalize l[i]'hil=e at k1 hget;unfold Ap9 at hget;unfold Ai1;cases hat:it.at_ with
   |slot t=>
    rw[hat] at hget;simp only at hget ⊢;cases he₀:σ'.C6[t]? with
    |none=>rw [he₀] at hget;cases ho:it.own <;> rw[ho] at hget <;> cases hget
    |some e₀=>
     rw[he₀] at hget;exact Bf6 hget k1 (r1 t e₀ he₀)
   |box b=>
    rw[hat] at hget;simp only at hget ⊢;intro c T hct;split at hget
    ·rename_i cs hcs
     split at hget
     ·rename_i v' hv'
      cases hget;have hy:v'=y:=by
       rcases Ag6 k1 with h |⟨h,_⟩|⟨_,_,_,h,_⟩
       ·cases h;rfl
       ·cases h
       ·cases h
      subst hy;obtain⟨q1,c',T',q2,q3⟩:=i1.box b cs hcs;rw[hct] at q2;cases q2;obtain⟨p1,p2,p3⟩:=AP3 it.ty _ _ _ _ hv' q3;have hle:c.toList.length≤it.ty.size:=by have:=congrArg List.length p2;have h3:=q3.1;simp at this h3 ⊢;omega
      rw[List.take_of_length_le hle] at p1;exact AE9 _ _ _ (Rep.keep (AA6 _ _ _) _ _ _ p1)
     ·cases hget
    ·cases hget
   |cell b i'=>
    rw[hat] at hget;simp only at hget ⊢;intro c T v' hct hv';split at hget
    ·rename_i cs hcs
     obtain⟨q1,c',T',q2,q3⟩:=i1.box b cs hcs;rw[hct] at q2;cases q2;cases he₀:cs[i']? with
     |none=>rw [he₀] at hget;cases ho:it.own <;> rw[ho] at hget <;> cases hget
     |some e₀=>
      rw[he₀] at hget;exact Bf6 hget k1 (q3.2 i' e₀ v' he₀ (by simpa using hv')).1
    ·cases hget
  have g2:=K0.X1 its _ _ _ g1 hun hvals;have hnone:∀q:Pl,q.1≤σ.boxes.length→¬((q∈j∧q∉drop)∧AE8 q its=false):=by
   intro q hq ⟨⟨h1,h2⟩,h3⟩;rcases hc q h1 with h | h | h
   ·omega
   ·rw[h3] at h;cases h
   ·exact h2 h
  refine⟨P4 σ.boxes.length ow,bx,?_,⟨g2.len,fun t e ht=>g2.slot t e (hnone _ (Nat.zero_le _)) ht⟩,hd⟩
  have hbl:(unpack σ its drop v).boxes.length=σ.boxes.length:=g2.bl;constructor
  ·intro b cs hb
   obtain⟨k1,c,T,k2,k3,k4,k5⟩:=g2.box b cs hb;have hlt:=(Aa4.1 k1).2;exact⟨k1,c,T,k2,by simp[k3],fun i e v he hv=>⟨k5 i e v (hnone _ (by simp only;omega)) he (by simpa using hv),k4 i v (by simpa using hv)⟩⟩
  ·intro blk b hb
   obtain⟨q1,q2⟩:=Aa4.1 hb;obtain⟨q3,_,_⟩:=i1.back blk b q1;exact⟨q3,g2.there b (by rw[← q3];exact hb) q2,by rw[hbl];exact q2⟩
  ·intro blk hb
   refine i1.here blk fun e=>hb ?_
   unfold P4;rw[e]
  ·intro blk hb hm
   obtain⟨q1,q2,q3⟩:=i1.old blk hb hm;have:P4 σ.boxes.length ow blk=ow blk:=by
    unfold P4;split
    ·rename_i b hb;exact absurd hb (q3.1 b)
    ·rfl
   exact⟨q1,by rw[this];exact q2,by rw[this];exact q3⟩
  ·exact i1.size
  ·exact i1.env
  ·intro b hb
   obtain⟨h1,h2⟩:=i1.kept b hb;refine⟨h1,?_⟩;have h3:=(i₀.kept b hb).2;cases hc:A4 σ.boxes b with
   |none=>rw [hc] at h3;cases h3
   |some cs=>
    obtain⟨cs',k1,_⟩:=hevo.box b (List.getElem?_eq_some_iff.1 (N8.1 hc)).1 cs hc;rw[k1];rfl
  ·exact i1.st.trans (AA6 _ _ _)
  ·exact i1.born
end Go.Proofs.YthfjpkdadjemcaaGreat

set_option linter.unusedSimpArgs false
set_option linter.unusedVariables false
namespace Go.Proofs.YthfjpkdadjemcaaGreat
theorem BK8 {nb:Nat}{all:List Pl}{ex:Ex}{σ':St}:∀(outs:List (Ex×List It)) (x:AI9 outs),AJ0 nb all ex σ' outs=some x→
  ∃(its:List It) (v:(G8 its).den),(ex,its)∈outs∧covered nb its all σ'.jr=true∧pack σ' its=some v∧
   ∀(ρ:Type) (base:St) (drop:List Pl) (K:Ex→St→Option ρ),Aq1 base drop K outs x=K ex (unpack base its drop v)
 | [],x,h=>by cases h
 | [(y,its)],x,h=>by
  simp only[AJ0] at h;split at h
  ·rename_i hc
   rw[Bool.and_eq_true,decide_eq_true_eq] at hc;obtain⟨rfl,hc⟩:=hc;exact⟨its,x,by simp,hc,h,fun ρ base drop K=>rfl⟩
  ·cases h
 | (y,its)::z::r,x,h=>by
  simp only[AJ0] at h;split at h
  ·rename_i he
   have he:=of_decide_eq_true he;subst he;split at h
   ·rename_i hc
    split at h
    ·rename_i v hv
     cases h;exact⟨its,v,by simp,hc,hv,fun ρ base drop K=>rfl⟩
    ·cases h
   ·cases h
  ·split at h
   ·rename_i v hv
    cases h;obtain⟨its',v',h1,h2,h3,h4⟩:=BK8 (z::r) v hv;exact⟨its',v',List.mem_cons_of_mem _ h1,h2,h3,fun ρ base drop K=>h4 ρ base drop K⟩
   ·cases h
theorem BK9 {B:E9}{σ:St}{a:Act}{w:World}(h:M3 B σ a w):M3 B σ.fresh a w:=h
theorem Bg3 {σ τ:St}{j js:List Pl}(h:I2 σ.fresh τ j)(hs:∀p∈j,p∈js):Evo σ (τ.after σ js):=by have h:=h.mono hs;exact⟨h.C6,h.boxes,js,rfl,h.slot,h.box,h.none⟩
section
variable {P:Program}{c:Code}{core:(ρ:Type)→St→(Ex→St→Option ρ)→Option ρ}
theorem At4 {sp:Sp}(h:Core P c core):Core P c (fun ρ σ k=>AX8 sp σ k core):=by
 intro ρ σ k r hr B a w hrel;unfold AX8 at hr;split at hr
 ·rename_i drop outs
  obtain⟨x,h1,h2⟩:=Option.bind_eq_some_iff.1 hr;refine wp_mono (h _ _ _ x h1 B a w (BK9 hrel)) ?_
  rintro e a' w' ⟨ex,τ,he,hk,hrel',hevo⟩
  obtain⟨its,v,hm,hcov,hp,hun⟩:=BK8 outs x hk;rw[hun] at h2;have hJ:=hevo.toJ rfl;have hrel2:=At3 (drop:=drop) (BK9 hrel) hJ hrel' (At2 _ hcov) hp;obtain⟨hE,_⟩:=Ai2 (drop:=drop) hJ hp;refine⟨ex,_,he,h2,hrel2,Bg3 hE fun p hp=> ?_⟩
  rcases List.mem_append.1 hp with h | h
  ·exact List.mem_append_right _ (List.mem_flatMap.2 ⟨_,hm,h⟩)
  ·exact List.mem_append_left _ h
 ·exact h ρ σ k r hr B a w hrel
theorem CW1 {S X:Type}{f:S→Option (S ⊕ X)}{s:S}{x:X}(h:AJ1 f s=some x):∃n,G3 f n s=some x:=by
 unfold AJ1 at h;split at h
 ·exact⟨_,h⟩
 ·cases h
theorem Bg4:∀(its:List It) (bx:List (Option (List EV))) (p:Pl),p∈J3 its bx→AE8 p its=true
 | [],_,p,h=>by simp[J3] at h
 |t::r,bx,p,h=>by
  simp only[J3] at h;simp only[AE8,Bool.or_eq_true];rcases List.mem_append.1 h with h | h
  ·left
   unfold Aq0;cases hat:t.at_ with
   |slot i=>
    rw[hat] at h;simp at h;subst h;simp
   |cell b i=>
    rw[hat] at h;simp at h;subst h;simp
   |box b=>
    rw[hat] at h;simp only at h ⊢;split at h
    ·obtain⟨i,_,rfl⟩:=List.mem_map.1 h
     simp
    ·simp at h
  ·exact .inr (Bg4 r bx p h)
theorem Bg5 (σ:St):∀(its:List It),AC1 σ.fresh its=AC1 σ its
 | []=>rfl
 |t::r=>by simp only[AC1,Bg5 σ r];rfl
theorem CW2 (σ:St)(its:List It):pack σ.fresh its=pack σ its:=by unfold pack;rw[Bg5]
theorem CW3 (τ:St)(it:It)(v:EV):(Z3 τ it v).jr=τ.jr:=by
 unfold Z3;cases it.at_ with
 |slot i=>rfl
 |box b=>simp only;split <;> rfl
 |cell b i=>simp only;split <;> rfl
theorem Bg6:∀(its:List It) (vs:List EV) (τ:St),(X1 its vs τ).jr=τ.jr
 | [],vs,τ=>by simp[X1]
 |t::r,[],τ=>rfl
 |t::r,v::vs,τ=>by simp only[X1];rw[Bg6,CW3]
theorem Bg7:∀(ps:List Pl) (τ:St),(V1 ps τ).jr=τ.jr
 | [],_=>rfl
 |p::r,τ=>by
  simp only[V1];rw[Bg7];obtain⟨x,i⟩:=p;cases x with
  |zero=>rfl
  |succ b=>unfold Z4;simp only;split <;> rfl
theorem CW4 (σ:St)(its:List It)(drop:List Pl)(v:(G8 its).den):(unpack σ its drop v).jr=σ.jr:=by unfold unpack;rw[Bg6,Bg7]
theorem CW5 {sp:Sp}(h:Core P c core):Core P (.loop c) (fun ρ σ k=>Aq3 sp σ k core):=by
 intro ρ σ k r hr B a w hrel
 replace hr:Aq3 sp σ k core=some r:=hr
 unfold Aq3 at hr;split at hr
 ·rename_i S drop outs
  split at hr
  ·cases hr
  ·rename_i s₀ hs₀
   obtain⟨x,h1,h2⟩:=Option.bind_eq_some_iff.1 hr;obtain⟨n,hn⟩:=CW1 h1;refine wp_loop_rounds n ?_;have hrf:=BK9 hrel;rw[← CW2] at hs₀;have key:∀(kb:Ex→St→Option ((G8 S).den ⊕ AI9 outs)),(∀τ y,kb .normal τ=some y→∃v,y = .inl v∧covered σ.boxes.length S drop τ.jr=true∧pack τ S=some v)→
     (∀ex τ y,ex≠ .normal→kb ex τ=some y→∃z,y = .inr z∧AJ0 σ.boxes.length (J3 S σ.boxes++drop) ex τ outs=some z)→
     ∀(n:Nat) (s:(G8 S).den) (a':Act) (w':World),G3 (fun s=>core _ (unpack σ.fresh S drop s) kb) n s=some x→M3 B (unpack σ.fresh S drop s) a' w'→I2 σ.fresh (unpack σ.fresh S drop s) (J3 S σ.boxes++drop)→
      Code.rounds P c (AC6 B σ k r) n a' w':=by
    intro kb hkn hkx n
    induction n with
    |zero=>intro s a' w' hl _ _;cases hl
    |succ n ih=>
     intro s a' w' hl hrs hes;rw[rounds_succ];simp only[G3] at hl;have step:∀y,core _ (unpack σ.fresh S drop s) kb=some y→(∀s',y = .inl s'→G3 (fun s=>core _ (unpack σ.fresh S drop s) kb) n s'=some x)→(∀z,y = .inr z→z=x)→
       c.wp P (Exit.then (Code.rounds P c (AC6 B σ k r) n) (AC6 B σ k r)) a' w':=by
      intro y hy hl1 hl2;refine wp_mono (h _ _ _ y hy B a' w' hrs) ?_
      rintro e a2 w2 ⟨ex,τ,he,hk,hrel',hevo⟩
      have hJ:=hes.trans (hevo.toJ (by rw[CW4];rfl))
      have leave:∀z,AJ0 σ.boxes.length (J3 S σ.boxes++drop) ex τ outs=some z→z=x→AC6 B σ k r e a2 w2:=by
       intro z hz hzx;subst hzx;obtain⟨its,v,hm,hcov,hp,hun⟩:=BK8 outs z hz;rw[hun] at h2;have hrel2:=At3 (drop:=J3 S σ.boxes++drop) hrf hJ hrel' (fun p hp=>by
        rcases List.mem_append.1 hp with h | h
        ·exact At2 _ hcov p h
        ·exact .inr (.inr h)) hp
       obtain⟨hE,_⟩:=Ai2 (drop:=J3 S σ.boxes++drop) hJ hp;refine⟨ex,_,he,h2,hrel2,Bg3 hE fun p hp=> ?_⟩
       rcases List.mem_append.1 hp with h | h
       ·exact List.mem_append_right _ (List.mem_flatMap.2 ⟨_,hm,h⟩)
       ·exact List.mem_append_left _ h
      cases ex with
      |normal=>
       subst he;obtain⟨v,hy',hcov,hv⟩:=hkn τ y hk;exact ih v a2 w2 (hl1 v hy') (At3 hrf hJ hrel' (fun p hp=>by
        rcases List.mem_append.1 hp with h | h
        ·exact At2 _ hcov p h
        ·rcases List.mem_append.1 h with h | h
         ·exact .inr (.inl (Bg4 _ _ _ h))
         ·exact .inr (.inr h)) hv) (Ai2 hJ hv).1
      |exit id=>
       obtain⟨z,hy',hz⟩:=hkx _ τ y (by simp) hk
       subst he;exact leave z hz (hl2 z hy')
      |ret=>
       obtain⟨z,hy',hz⟩:=hkx _ τ y (by simp) hk
       subst he;exact leave z hz (hl2 z hy')
     split at hl
     ·rename_i s' hs'
      exact step _ hs' (fun s'' e=>by cases e;exact hl) (fun z e=>by cases e)
     ·rename_i z hz
      cases hl;exact step _ hz (fun s'' e=>by cases e) (fun z e=>by cases e;rfl)
     ·cases hl
   refine key _ ?_ ?_ n s₀ a w hn (At3 hrf (I2.refl _) hrf (by simp) hs₀) (Ai2 (I2.refl _) hs₀).1
   ·intro τ y hy
    simp only at hy;split at hy
    ·rename_i hcov
     split at hy
     ·rename_i v hv
      cases hy;exact⟨v,rfl,hcov,hv⟩
     ·cases hy
    ·cases hy
   ·intro ex τ y hne hy
    cases ex with
    |normal=>exact absurd rfl hne
    |exit id=>
     simp only at hy;split at hy
     ·rename_i v hv
      cases hy;exact⟨v,rfl,hv⟩
     ·cases hy
    |ret=>
     simp only at hy;split at hy
     ·rename_i v hv
      cases hy;exact⟨v,rfl,hv⟩
     ·cases hy
 ·rename_i n
  refine wp_loop_rounds n ?_;have key:∀(n:Nat) (σ₁:St) (a':Act) (w':World),Aq2 (core ρ) n σ₁ k=some r→M3 B σ₁ a' w'→Evo σ σ₁→Code.rounds P c (AC6 B σ k r) n a' w':=by
   intro n
   induction n with
   |zero=>intro σ₁ a' w' hl _ _;cases hl
   |succ n ih=>
    intro σ₁ a' w' hl hr1 he1;rw[rounds_succ];simp only[Aq2] at hl;refine wp_mono (h _ _ _ r hl B a' w' hr1) ?_
    rintro e a2 w2 ⟨ex,τ,he,hk,hrel',hevo⟩
    cases ex with
    |normal=>subst he;exact ih τ a2 w2 hk hrel' (he1.trans hevo)
    |exit id=>subst he;exact⟨.exit id,τ,rfl,hk,hrel',he1.trans hevo⟩
    |ret=>subst he;exact⟨.ret,τ,rfl,hk,hrel',he1.trans hevo⟩
  exact key n σ a w hr hrel (Evo.refl σ)
 ·cases hr
end
theorem BL0 {P:Program}{Γ:Cx}(hΓ:F8 P Γ)(hm:P.follows .mixedOrders=true):∀(c:Code) (h:Hint),Core P c (fun ρ σ k=>R6 Γ c h ρ σ k):=by
 intro c
 induction c with
 |skip=>
  intro h ρ σ k r hr B a w hrel;exact wp_skip ⟨.normal,σ,rfl,hr,hrel,Evo.refl σ⟩
 |ret=>
  intro h ρ σ k r hr B a w hrel;exact wp_ret ⟨.ret,σ,rfl,hr,hrel,Evo.refl σ⟩
 |exit id=>
  intro h ρ σ k r hr B a w hrel;exact wp_exit ⟨.exit id,σ,rfl,hr,hrel,Evo.refl σ⟩
 |region id ops draw=>
  intro h;have:Core P (.region id ops draw) (fun _ σ k=>match draw with
   |false=>Q3 Γ σ.C6 ops.toList ⟨[],σ.boxes,σ.jr,[],[],[]⟩ fun s=>k .normal (s.out σ)
   |true=>match AX6 ops.toList 0&&BH0 ops.toList with
    |true=>Q3 Γ σ.C6 ops.toList ⟨[],σ.boxes,σ.jr,[],[],[]⟩ fun s=>match AI8 ops 0 ops.toList s.tw (Region.before ops).toList with
     |true=>k .normal (s.out σ)
     |false=>none
    |false=>none):=by
   intro ρ σ k r hr B a w hrel;cases draw with
   |false=>
    simp only at hr;obtain⟨ts,s',hL,hq⟩:=X5 hΓ _ _ hr;have hlen:=hL.length;refine wp_region ?_;have:=CU8 (B:=B) hL rfl (Q:=AC6 B σ k r) (fun a' w' hst=>⟨.normal,_,rfl,hq,Bf3 hL hst,Bf2 hL⟩) ts.length 0 a w (by omega)
     (Bf4 hL hrel w ⟨rfl,rfl,rfl,rfl⟩ (fun k=>decide (k<0)) fun k _=>by simp)
    rw[show ts.length=ops.size by simpa using hlen,← List.range_eq_range'] at this
    exact this
   |true=>
    simp only at hr;split at hr
    ·rename_i hb
     rw[Bool.and_eq_true] at hb;obtain⟨ts,s',hL,hq⟩:=X5 hΓ _ _ hr;have hlen:=hL.length;split at hq
     ·rename_i hd
      refine wp_region_any hm ?_;refine CU9 (B:=B) hL rfl rfl hb.1 hd (Q:=AC6 B σ k r) (fun a' w' hst=>⟨.normal,_,rfl,hq,Bf3 hL hst,Bf2 hL⟩) ops.size (Array.replicate ops.size false) a _ (by simp) ?_ ?_
       (Bf4 hL hrel {w with drawn:=w.drawn+1} ⟨rfl,rfl,rfl,rfl⟩ (fun k=>(Array.replicate ops.size false).getD k false) fun k hk=> ?_)
      ·have:((List.range ops.size).filter fun k=> !(Array.replicate ops.size false).getD k true)=List.range ops.size:=by
        apply List.filter_eq_self.2;intro k hk;have:=List.mem_range.1 hk;simp[Array.getD,this]
       rw[this];simp
      ·intro i o ho hi e he hb'
       have:∀k,(Array.replicate ops.size false).getD k false=false:=fun k=>by unfold Array.getD;split <;> simp
       exact absurd (hi.symm.trans (this i)) (by simp)
      ·unfold Array.getD
       split <;> simp
     ·cases hq
    ·cases hr
  exact At4 this
 |seq x y ihx ihy=>
  intro h;have:Core P (.seq x y) (fun ρ' σ' k'=>R6 Γ x (h.kid 0) ρ' σ' fun ex σ''=>match ex with
    | .normal=>R6 Γ y (h.kid 1) ρ' σ'' k'
    |ex=>k' ex σ''):=by
   intro ρ σ k r hr B a w hrel;refine wp_seq (wp_mono (ihx _ _ _ _ r hr B a w hrel) ?_)
   rintro e a' w' ⟨ex,τ,he,hk,hrel',hevo⟩
   subst he;cases ex with
   |normal=>exact wp_mono (ihy _ _ _ _ r hk B a' w' hrel') fun e a w hp=>CV6 hevo hp
   |exit id=>exact ⟨.exit id,τ,rfl,hk,hrel',hevo⟩
   |ret=>exact ⟨.ret,τ,rfl,hk,hrel',hevo⟩
  exact At4 this
 |cond c x y ihx ihy=>
  intro h;have:Core P (.cond c x y) (fun ρ' σ' k'=>match AB7 σ'.C6 [] [] c with
    | .dat .bool t=>bif t then R6 Γ x (h.kid 0) ρ' σ' k' else R6 Γ y (h.kid 1) ρ' σ' k'
    |_=>none):=by
   intro ρ σ k r hr B a w hrel;simp only at hr;split at hr
   ·rename_i t ht
    have hv:a.eval c = .bool t:=by
     obtain⟨ow,bx,hi,⟨h2,h3⟩,_⟩:=hrel;have hrep:A0 ow bx w (AB7 σ.C6 [] [] c) (a.eval c):=by
      cases c with
      |tmp t'=>
       simp only[AB7,u9,I6,List.length_nil];cases hs:σ.C6[t']? with
       |none=>exact .undef _
       |some e=>exact h3 t' e hs
      |const v=>exact Bc8 v
      |func f=>exact .clo (by simp) (by simp) (fun i e v he=>by simp at he) (fun i e v he=>by simp at he)
      |global g=>exact BY1 hi.AY4 g
     rw[ht] at hrep;exact Ag8 hrep
    refine wp_cond hv ?_;cases t with
    |true=>exact ihx _ _ _ _ r hr B a w hrel
    |false=>exact ihy _ _ _ _ r hr B a w hrel
   ·cases hr
  exact At4 this
 |block id x ih=>
  intro h;have:Core P (.block id x) (fun ρ' σ' k'=>R6 Γ x (h.kid 0) ρ' σ' fun ex σ''=>match ex with
    | .exit id'=>match Nat.beq id' id with
     |true=>k' .normal σ''
     |false=>k' ex σ''
    |ex=>k' ex σ''):=by
   intro ρ σ k r hr B a w hrel;refine wp_block (wp_mono (ih _ _ _ _ r hr B a w hrel) ?_)
   rintro e a' w' ⟨ex,τ,he,hk,hrel',hevo⟩
   subst he;cases ex with
   |normal=>exact ⟨.normal,τ,rfl,hk,hrel',hevo⟩
   |ret=>exact ⟨.ret,τ,rfl,hk,hrel',hevo⟩
   |exit id'=>
    simp only at hk;simp only[Bf8,Exit.inBlock];split at hk
    ·rename_i hb
     rw[if_pos (Nat.eq_of_beq_eq_true hb)];exact⟨.normal,τ,rfl,hk,hrel',hevo⟩
    ·rename_i hb
     rw[if_neg (fun e=>by rw[e,Nat.beq_refl] at hb;cases hb)]
     exact⟨.exit id',τ,rfl,hk,hrel',hevo⟩
  exact At4 this
 |loop x ih=>
  intro h;exact CW5 (ih _)
 |scope x ih=>
  intro h ρ σ k r hr B a w hrel;refine wp_scope_straight (wp_mono (ih _ _ _ _ r hr B a w hrel) ?_)
  rintro e a' w' ⟨ex,τ,he,hk,hrel',hevo⟩
  subst he;cases ex with
  |normal=>exact ⟨.normal,τ,rfl,hk,hrel',hevo⟩
  |exit id=>exact ⟨.exit id,τ,rfl,hk,hrel',hevo⟩
  |ret=>exact ⟨.ret,τ,rfl,hk,hrel',hevo⟩
 |label l=>
  intro h ρ σ k r hr B a w hrel;exact wp_label ⟨.normal,σ,rfl,hr,hrel,Evo.refl σ⟩
 |_=>intro h ρ σ k r hr;cases hr
end Go.Proofs.YthfjpkdadjemcaaGreat

set_option linter.unusedSimpArgs false
set_option linter.unusedVariables false
namespace Go.Proofs.YthfjpkdadjemcaaGreat
def S0 (ow:Nat→A1):Nat→A1:=fun blk=>match ow blk with
 | .tok k fr=>bif soft k then .E8 else .tok k fr
 |o=>o
theorem CW6 {ow:Nat→A1}{blk n:Nat}(h:A8 ow blk n):A8 (S0 ow) blk n:=by
 rcases L1 h with h |⟨k,fr,h,hn⟩|⟨fr,h,hn⟩
 ·exact L0 (by simp[S0,h])
 ·cases hs:soft k with
  |true=>exact L0 (by simp[S0,h,hs])
  |false=>exact z7 (k:=k) (fr:=fr) (by simp[S0,h,hs]) hn
 ·exact X2 (by simp[S0,h]) hn
theorem BL1 {ow:Nat→A1}{blk b:Nat}:S0 ow blk = .box b↔ow blk = .box b:=by
 unfold S0;split
 ·rename_i k fr h
  rw[h];cases soft k <;> simp
 ·exact Iff.rfl
theorem At5 (ow:Nat→A1)(w:World):F1 ow w (S0 ow) w:=.of fun _ _ h=>⟨CW6 h,rfl⟩
theorem Bg8 {ow:Nat→A1}{bx:Bx}{w:World}{e:EV}{v:Value}(hd:∀k,bx.dead k=false)(h:A0 ow bx w e v):A0 (S0 ow) ⟨bx.f,fun _=>false,bx.tb⟩ w (frz e) v:=by
 have gen:∀e,A0 ow bx w e v→frz e=(match I0 20 e with | true=>.undef | false=>e)→A0 (S0 ow) ⟨bx.f,fun _=>false,bx.tb⟩ w (frz e) v:=by
  intro e h hs;rw[hs];cases hb:I0 20 e with
  |true=>exact .undef _
  |false=>exact BK2 (bx:=bx) (bx':=⟨bx.f,fun _=>false,bx.tb⟩) (At5 ow w) (fun b h=>⟨rfl,BL1.2 h⟩) 20 e v hb h
 cases e with
 |own k t l=>
  cases h with
  |own h h' hh=>
   simp only[frz];split
   ·rename_i hsf
    rcases h' (hd k) with⟨h1,h2⟩|⟨blk,cap,c,fz,h1,h2,h3,h3',h4,h5,h6⟩
    ·subst h1
     subst h2;exact .dat (AJ4 t)
    ·subst h1
     obtain⟨h7,h8⟩:=h6 hsf;refine .dat ⟨some ⟨blk,0,none⟩,cap,rfl,⟨h7,h5⟩,fun _=>⟨blk,0,c,_,fz,rfl,L0 (by simp[S0,h2,hsf]),h3,fun i x hx=> ?_⟩⟩
     rw[Nat.zero_add];exact Rep.keep (At5 ow w) _ _ _ (h8 i x hx)
   ·rename_i hsf
    refine .own (fun hs=>(h hs).keep (At5 ow w)) (fun _=> ?_) hh
    rcases h' (hd k) with⟨h1,h2⟩|⟨blk,cap,c,fz,h1,h2,h3,h3',h4,h5,h6⟩
    ·exact .inl ⟨h1,h2⟩
    ·exact .inr ⟨blk,cap,c,fz,h1,by simp[S0,h2,hsf],h3,h3',h4,h5,fun hs=>(by rw[hsf] at hs;cases hs)⟩
 |_=>exact gen _ h rfl
theorem Bg9 {B:E9}{τ:St}{a:Act}{w:World}(h:M3 B τ a w):M3 B (w9 τ) a w:=by
 obtain⟨ow,bx,h1,⟨h2,h3⟩,h4,h5⟩:=h;refine⟨S0 ow,⟨bx.f,fun _=>false,bx.tb⟩,?_,⟨by simp only[w9,List.length_map];exact h2,fun t e he=> ?_⟩,h4,fun _=>rfl⟩
 ·constructor
  ·intro b cs hb
   simp only[w9] at hb;rw[AA5] at hb;cases hg:A4 τ.boxes b with
   |none=>rw [hg] at hb;cases hb
   |some cs0=>
    rw[hg] at hb;cases hb;obtain⟨g1,c,T,g2,g3⟩:=h1.box b cs0 hg;refine⟨BL1.2 g1,c,T,g2,by simpa using g3.1,fun i e v he hv=> ?_⟩
    rw[List.getElem?_map] at he;cases hc:cs0[i]? with
    |none=>rw [hc] at he;cases he
    |some e0=>
     rw[hc] at he;cases he;exact⟨Bg8 h5 (g3.2 i e0 v hc hv).1,(g3.2 i e0 v hc hv).2⟩
  ·intro blk b hb
   obtain⟨g1,g2,g3⟩:=h1.back blk b (BL1.1 hb);refine⟨g1,?_,by simp only[w9,List.length_map];exact g3⟩
   simp only[w9];rw[AA5];cases hg:A4 τ.boxes b with
   |none=>rw [hg] at g2;cases g2
   |some cs0=>rfl
  ·intro blk hb
   refine h1.here blk fun e=>hb ?_
   simp[S0,e]
  ·intro blk hb hm
   obtain⟨g1,g2,g3,g4⟩:=h1.old blk hb hm;have hr:S0 ow blk=ow blk:=by
    unfold S0;split
    ·rename_i k fr h;exact absurd h (g4 k fr)
    ·rfl
   exact⟨g1,by rw[hr];exact g2,by rw[hr];exact⟨g3,g4⟩⟩
  ·exact h1.size
  ·exact h1.env
  ·intro b hb
   obtain⟨g1,g2⟩:=h1.kept b hb;refine⟨g1,?_⟩;simp only[w9];rw[AA5];cases hg:A4 τ.boxes b with
   |none=>rw [hg] at g2;cases g2
   |some cs0=>rfl
  ·exact h1.st.trans (At5 ow w)
  ·exact fun j hj=>(h1.born j hj).imp (fun h=>h) fun h=>(by rw[h5] at h;exact absurd h.1 (by simp))
 ·simp only[w9] at he
  rw[List.getElem?_map] at he;cases hc:τ.C6[t]? with
  |none=>rw [hc] at he;cases he
  |some e0=>
   rw[hc] at he;cases he;exact Bg8 h5 (h3 t e0 hc)
theorem Bh0 {ks:List Nat}{ow:Nat→A1}{bx:Bx}{w:World}{e:EV}{v:Value}(hs:∀k∈ks,soft k=true)(hd:∀k,bx.dead k=false)(h:A0 ow bx w e v):A0 (I7 ks ow) ⟨bx.f,fun _=>false,bx.tb⟩ w (AJ2 ks e) v:=by
 have hst:F1 ow w (I7 ks ow) w:=.of fun _ _ h=>⟨BJ4 h,rfl⟩
 have gen:∀e,A0 ow bx w e v→AJ2 ks e=(match I0 20 e with | true=>.undef | false=>e)→A0 (I7 ks ow) ⟨bx.f,fun _=>false,bx.tb⟩ w (AJ2 ks e) v:=by
  intro e h hs;rw[hs];cases hb:I0 20 e with
  |true=>exact .undef _
  |false=>exact BK2 (bx:=bx) (bx':=⟨bx.f,fun _=>false,bx.tb⟩) hst (fun b h=>⟨rfl,AP6.2 h⟩) 20 e v hb h
 cases e with
 |own k t l=>
  cases h with
  |own h h' hh=>
   simp only[AJ2];split
   ·rename_i hin
    obtain⟨hm,hkb⟩:=Bb6 hin;rcases h' (hd k) with⟨h1,h2⟩|⟨blk,cap,c,fz,h1,h2,h3,h3',h4,h5,h6⟩
    ·subst h1
     subst h2;exact .dat (AJ4 t)
    ·subst h1
     obtain⟨h7,h8⟩:=h6 (hs k hm);refine .dat ⟨some ⟨blk,0,none⟩,cap,rfl,⟨h7,h5⟩,fun _=>⟨blk,0,c,_,fz,rfl,L0 (by simp[I7,h2,hkb]),h3,fun i x hx=> ?_⟩⟩
     rw[Nat.zero_add];exact Rep.keep hst _ _ _ (h8 i x hx)
   ·rename_i hin
    have hkb:F6 ks k=false:=by
     cases hk:F6 ks k with
     |false=>rfl
     |true=>
      unfold F6 at hk;obtain⟨z,hz,hzk⟩:=List.any_eq_true.1 hk;have:=Nat.eq_of_beq_eq_true hzk;subst this;exact absurd (BK3.2 hz) (by simpa using hin)
    refine .own (fun hs=>(h hs).keep hst) (fun _=> ?_) hh
    rcases h' (hd k) with⟨h1,h2⟩|⟨blk,cap,c,fz,h1,h2,h3,h3',h4,h5,h6⟩
    ·exact .inl ⟨h1,h2⟩
    ·exact .inr ⟨blk,cap,c,fz,h1,by simp[I7,h2,hkb],h3,h3',h4,h5,fun hs=>⟨(h6 hs).1,fun i x hx=>Rep.keep hst _ _ _ ((h6 hs).2 i x hx)⟩⟩
 |_=>exact gen _ h rfl
theorem CW7 {B:E9}{ks:List Nat}{τ:St}{a:Act}{w:World}(hs:∀k∈ks,soft k=true)(h:M3 B τ a w):M3 B ⟨τ.C6.map (AJ2 ks),τ.boxes.map (Option.map (List.map (AJ2 ks))),τ.jr⟩ a w:=by
 obtain⟨ow,bx,h1,⟨h2,h3⟩,h4,h5⟩:=h;refine⟨I7 ks ow,⟨bx.f,fun _=>false,bx.tb⟩,?_,⟨by simp only[List.length_map];exact h2,fun t e he=> ?_⟩,h4,fun _=>rfl⟩
 ·constructor
  ·intro b cs hb
   simp only at hb;rw[AA5] at hb;cases hg:A4 τ.boxes b with
   |none=>rw [hg] at hb;cases hb
   |some cs0=>
    rw[hg] at hb;cases hb;obtain⟨g1,c,T,g2,g3⟩:=h1.box b cs0 hg;refine⟨AP6.2 g1,c,T,g2,by simpa using g3.1,fun i e v he hv=> ?_⟩
    rw[List.getElem?_map] at he;cases hc:cs0[i]? with
    |none=>rw [hc] at he;cases he
    |some e0=>
     rw[hc] at he;cases he;exact⟨Bh0 hs h5 (g3.2 i e0 v hc hv).1,(g3.2 i e0 v hc hv).2⟩
  ·intro blk b hb
   obtain⟨g1,g2,g3⟩:=h1.back blk b (AP6.1 hb);refine⟨g1,?_,by simp only[List.length_map];exact g3⟩
   simp only;rw[AA5];cases hg:A4 τ.boxes b with
   |none=>rw [hg] at g2;cases g2
   |some cs0=>rfl
  ·intro blk hb
   refine h1.here blk fun e=>hb ?_
   simp[I7,e]
  ·intro blk hb hm
   obtain⟨g1,g2,g3,g4⟩:=h1.old blk hb hm;have hr:I7 ks ow blk=ow blk:=by
    unfold I7;split
    ·rename_i k fr h;exact absurd h (g4 k fr)
    ·rfl
   exact⟨g1,by rw[hr];exact g2,by rw[hr];exact⟨g3,g4⟩⟩
  ·exact h1.size
  ·exact h1.env
  ·intro b hb
   obtain⟨g1,g2⟩:=h1.kept b hb;refine⟨g1,?_⟩;simp only;rw[AA5];cases hg:A4 τ.boxes b with
   |none=>rw [hg] at g2;cases g2
   |some cs0=>rfl
  ·exact h1.st.trans (.of fun _ _ h=>⟨BJ4 h,rfl⟩)
  ·exact fun j hj=>(h1.born j hj).imp (fun h=>h) fun h=>(by rw[h5] at h;exact absurd h.1 (by simp))
 ·simp only at he
  rw[List.getElem?_map] at he;cases hc:τ.C6[t]? with
  |none=>rw [hc] at he;cases he
  |some e0=>
   rw[hc] at he;cases he;exact Bh0 hs h5 (h3 t e0 hc)
theorem Aa5:∀(ps:List OP) (es:List EV),∀k∈z6 ps es,soft k=true
 | [],_,k,hk=>by simp[z6] at hk
 |p::ps,[],k,hk=>by cases p <;> simp[z6] at hk
 |p::ps,e::es,k,hk=>by
  cases p with
  |dat t=>
   simp only[z6] at hk;split at hk
   ·split at hk
    ·rename_i hsf
     rcases List.mem_cons.1 hk with h | h
     ·rw[h];exact hsf
     ·exact Aa5 ps es k h
    ·exact Aa5 ps es k hk
   ·exact Aa5 ps es k hk
  |own κ t=>simp only[z6] at hk;exact Aa5 ps es k hk
  |ref i off=>simp only[z6] at hk;exact Aa5 ps es k hk
theorem CW8 {B:E9}{Γ:Cx}{c:G2}{rv:List ResultVar}{τ:St}{a:Act}{w:World}(h:M3 B τ a w):M3 B (Aq4 Γ c rv τ) a w:=by
 unfold Aq4;split
 ·rename_i vs _
  have hs:=Aa5 c.rs vs;unfold BX9;split
  ·exact h
  ·exact CW7 hs h
 ·exact h
end Go.Proofs.YthfjpkdadjemcaaGreat

set_option linter.unusedSimpArgs false
set_option linter.unusedVariables false
namespace Go.Proofs.YthfjpkdadjemcaaGreat
theorem Bh1:∀(bs:List (List PT)) (d:List EV),(O4 bs d).length=bs.length
 | [],_=>rfl
 |p::r,d=>by simp[O4,Bh1 r]
theorem Bh2 (n:Nat):F2 (AX9 n):=by
 have mem:∀i b,(i,b)∈AX9 n→b=i:=by intro i b h;obtain⟨j,_,hj⟩:=List.mem_map.1 h;cases hj;rfl
 refine⟨fun i b h=> ?_,fun i j b h1 h2=>by rw[← mem i b h1,mem j b h2]⟩
 have:=mem i b h;subst this;have:∀(l:List (Nat×Nat)) (i:Nat),(i,i)∈l→(∀j c,(j,c)∈l→c=j)→J2 l i=some i:=by
  intro l i
  induction l with
  |nil=>intro h;simp at h
  |cons p r ih=>
   intro hm hall;obtain⟨k,c⟩:=p;have:=hall k c (by simp)
   subst this;simp only[J2];cases hb:Nat.beq c i with
   |true=>
    have:=Nat.eq_of_beq_eq_true hb;subst this;rfl
   |false=>
    rcases List.mem_cons.1 hm with e | e
    ·cases e;rw[Nat.beq_refl] at hb;cases hb
    ·exact ih e fun j c h=>hall j c (by simp[h])
 exact this _ _ h mem
theorem At6 {n i:Nat}(h:i<n):(i,i)∈AX9 n:=List.mem_map.2 ⟨i,List.mem_range.2 h,rfl⟩
theorem CW9 {rd:Nat→Option (List EV)}:∀(bs:List (List PT)) (i:Nat) (a:List (Nat×Nat)) (l:List EV) (a':List (Nat×Nat)),W6 rd i bs a=some (l,a')→∀e∈l,∃t v,e=EV.dat t v:=by
 intro bs
 induction bs with
 |nil=>intro i a l a' h;simp only[W6] at h;cases h;simp
 |cons pts r ih=>
  intro i a l a' h;simp only[W6] at h;split at h
  ·split at h
   ·split at h
    ·rename_i hm
     split at h
     ·rename_i hr
      cases h;intro e he;rcases List.mem_append.1 he with he | he
      ·exact AF4 _ _ _ _ _ _ hm e he
      ·exact ih _ _ _ _ hr e he
     ·cases h
    ·cases h
   ·cases h
  ·cases h
theorem CX0 {ow:Nat→A1}{bx:Bx}{w:World}:∀(n:Nat) (rs:List PT) (vs:List EV) (a:List (Nat×Nat)) (l:List EV) (a':List (Nat×Nat)),C0 n rs vs a=some (l,a')→N5 rs=true→
  l.length=vs.length∧∀(i:Nat) e e' v,vs[i]? = some e→l[i]? = some e'→A0 ow bx w e v→A0 ow bx w e' v:=by
 intro n
 induction n with
 |zero=>intro rs vs a l a' h;simp only[C0] at h;cases h
 |succ n ih=>
  intro rs vs a l a' h hd;cases rs with
  |nil=>
   cases vs with
   |nil=>simp only[C0] at h;cases h;exact⟨rfl,fun i e e' v he=>by simp at he⟩
   |cons v vs=>simp only[C0] at h;cases h
  |cons p ps=>
   cases p with
   |dat t=>
    cases vs with
    |nil=>simp only[C0] at h;cases h
    |cons e0 es=>
     simp only[C0] at h;split at h
     ·rename_i x hx
      split at h
      ·rename_i h1
       cases h;obtain⟨k1,k2⟩:=ih _ _ _ _ _ h1 hd;refine⟨by simp[k1],fun i e e' v he he' hr=> ?_⟩
       cases i with
       |zero=>
        simp at he he';subst he he';exact .dat (Ar0 hx hr)
       |succ i=>exact k2 i e e' v (by simpa using he) (by simpa using he') hr
      ·cases h
     ·cases h
   |own t=>simp [N5] at hd
   |ref i off=>simp [N5] at hd
   |clo f x y=>simp [N5] at hd
   |sl x=>simp [N5] at hd
   |rp x off=>simp [N5] at hd
   |skip=>simp [N5] at hd
theorem BL2 {a:Array Value}{i:Nat}{v:Value}(h:a[i]? = some v):a.getD i undef=v:=by simp[h]
def Ai3 (tmps:Array Value):ResultVar→Sem Value
 | .tmp t=>pure (tmps.getD t undef)
 | .cell a t=>do loadVar t (← asAddr (tmps.getD a undef))
theorem BL3 (fn:Func)(tmps:Array Value):results fn tmps=(do
  let vs ← fn.results.mapM (Ai3 tmps)
  pure (if h:vs.size=1 then vs[0] else .tuple vs)):=by
 unfold results;congr 1
theorem Ai4 {P:Program}{Γ:Cx}(hΓ:F8 P Γ){τ:St}{a:Act}{w:World}{B:E9}{ow:Nat→A1}{bx:Bx}{nb:Nat}(hi:Inv B ow bx nb (A4 τ.boxes) w)(hs:∀t e,τ.C6[t]? = some e→A0 ow bx w e (a.tmps.getD t undef)):
  ∀(rv:List ResultVar) (vs:List EV),AC2 Γ τ rv=some vs→∃us:List Value,(rv.mapM (Ai3 a.tmps)).run P w = .ok us w∧us.length=vs.length∧∀(i:Nat) e u,vs[i]? = some e→us[i]? = some u→A0 ow bx w e u
 | [],vs,h=>by simp only[AC2] at h;cases h;exact⟨[],by simp,rfl,fun i e u he=>by simp at he⟩
 | .tmp t::r,vs,h=>by
  simp only[AC2] at h;split at h
  ·rename_i e he
   split at h
   ·rename_i l hl
    cases h;obtain⟨us,h1,h2,h3⟩:=Ai4 hΓ hi hs r l hl;refine⟨a.tmps.getD t undef::us,?_,by simp[h2],fun i e' u he' hu=> ?_⟩
    ·rw[List.mapM_cons]
     simp only[Ai3,Sem.run_bind,Sem.run_pure,Result.andThen_ok];rw[h1];simp
    ·cases i with
     |zero=>simp at he' hu;subst he' hu;have:=hs t e he;simpa using this
     |succ i=>exact h3 i e' u (by simpa using he') (by simpa using hu)
   ·cases h
  ·cases h
 | .cell b t::r,vs,h=>by
  simp only[AC2] at h;split at h
  ·rename_i bb off he
   split at h
   ·rename_i cs hcs
    split at h
    ·rename_i d hd
     split at h
     ·rename_i e hre
      split at h
      ·rename_i l hl
       cases h;obtain⟨us,h1,h2,h3⟩:=Ai4 hΓ hi hs r l hl;have hp:=hs b _ he;obtain⟨w1,c,U,hc,hr⟩:=hi.box bb cs hcs;obtain⟨u,g1,g2,_⟩:=AJ5 (P:=P) (hΓ.td t d hd) (base:=0) hre hc (vs:=c.toList) (fun i v h=>by rw[Nat.zero_add];exact AA0 h) hr
       rw[Nat.zero_add] at g1;refine⟨u::us,?_,by simp[h2],fun i e' u' he' hu=> ?_⟩
       ·rw[List.mapM_cons,Sem.run_bind]
        have hf:(Ai3 a.tmps (.cell b t)).run P w = .ok u w:=by
         simp only[Ai3,Sem.run_bind];generalize a.tmps.getD b undef=pv at hp ⊢;cases hp with
         |ptr hq=>simp only[asAddr,Sem.run_pure,Result.andThen_ok,g1]
        rw[hf];simp only[Result.andThen_ok,Sem.run_bind];rw[h1];simp
       ·cases i with
        |zero=>simp at he' hu;subst he' hu;exact g2
        |succ i=>exact h3 i e' u' (by simpa using he') (by simpa using hu)
      ·cases h
     ·cases h
    ·cases h
   ·cases h
  ·cases h
theorem BL4 {P:Program}{Γ:Cx}(hΓ:F8 P Γ)(hm:P.follows .mixedOrders=true){c:Con}{fn:Func}{code:Code}{h:Hint}(hf:P.funcs[c.f]? = some fn)(hb:fn.body=some code)
  (hn:(fn.name == "runtime.NumGoroutine")=false) (hrun:AY0 Γ c fn h=c.F):A3 P c:=by
 refine⟨⟨fn,hf,by rw[hb];rfl,hn⟩,?_⟩
 intro x y hy w ow bx args hg hbd hinv hargs;have hr:AY0 Γ c fn h x=some y:=by rw[hrun];exact hy
 unfold AY0 at hr;rw[hb] at hr;simp only at hr;have hσ:BH2 c fn.ntmps x=⟨c.H2 x++List.replicate (fn.ntmps-(c.H2 x).length) .undef,c.K9 x,[]⟩:=rfl;have hbl:(c.K9 x).length=c.boxes.length:=Bh1 _ _;have hrel:M3 ⟨w,fun blk=>∃b,ow blk = .box b,ow,c.boxes.length,bx,hg⟩ (BH2 c fn.ntmps x) {tmps:=args++Array.replicate (fn.ntmps-args.size) undef,defers:=[]} w:=by
  rw[hσ];refine⟨ow,bx,by simp only[hbl];exact hinv,⟨?_,fun t e he=> ?_⟩,rfl,hbd⟩
  ·have:=hargs.1
   simp[this]
  ·simp only at he
   have hl:=hargs.1;by_cases hlt:t<(c.H2 x).length
   ·rw[List.getElem?_append_left hlt] at he
    obtain⟨v,hv⟩:∃v,args[t]? = some v:=⟨_,Array.getElem?_eq_getElem (by omega)⟩
    have:(args++Array.replicate (fn.ntmps-args.size) undef).getD t undef=v:=by
     apply BL2;rw[Array.getElem?_append_left (by omega)]
     exact hv
    rw[this];exact hargs.2 t e v he hv
   ·rw[List.getElem?_append_right (by omega),List.getElem?_replicate] at he
    split at he
    ·cases he;exact .undef _
    ·cases he
 refine calls_of_wp hf hb (wp_mono (BL0 hΓ hm code h _ _ _ y hr _ _ w hrel) ?_)
 rintro e a' w' ⟨ex,τ₀,rfl,hk,hrel₀,_⟩
 obtain⟨ow',bx',i1,⟨s1,r1⟩,hd,hdd⟩:=Bg9 hrel₀;generalize hτ:w9 τ₀=τ at i1 s1 r1;have main:BH3 Γ c fn.results.toList τ=some y→a'.defers=[]∧∃v,(results fn a'.tmps).run P w' = .ok v w'∧
   ∃v' ow'',Ending.returned v = .returned v'∧Inv ⟨w,fun blk=>∃b,ow blk = .box b,ow,c.boxes.length,bx,hg⟩ ow'' bx c.boxes.length (A4 (c.R5 y)) w'∧A0 ow'' bx w' (c.res y) v':=by
  intro hfin;refine⟨hd,?_⟩;unfold BH3 at hfin;split at hfin
  ·rename_i vs hvs
   split at hfin
   ·rename_i l a1 hm1
    split at hfin
    ·rename_i l' af hm2
     split at hfin
     ·rename_i hc
      simp only[BX7,Bool.and_eq_true] at hc;obtain⟨⟨⟨⟨⟨hbs,hlt⟩,hrs⟩,hno⟩,hbel⟩,hnl⟩:=hc;have hno:=Nat.eq_of_beq_eq_true hno;have hnl:=Nat.eq_of_beq_eq_true hnl;have hbelow:=AZ2 _ _ hbel;obtain⟨us,g1,g2,g3⟩:=Ai4 hΓ i1 r1 fn.results.toList vs hvs;obtain⟨k1,k2⟩:=CX0 (ow:=ow') (bx:=bx') (w:=w') _ _ _ _ _ _ hm1 hrs;obtain⟨b1,b2,b3,b4⟩:=BI5 c.boxes 0 _ l' af hm2 hbs;have hok:F2 af:=b1 (Bh2 _)
      have htr:=Ar6 hok ow' bx';have hsame:∀i b,(i,b)∈af→b=i:=by intro i b h;have h1:=hok.key i b h;have h2:=hok.key i i (b2 _ (At6 (hbelow i b h)));rw[h1] at h2;cases h2;rfl
      have hun:B3 c.outs c.A2 y=l++l':=by
       have:=AP4 c.outs (l++l') y hfin (fun e he=>by
        rcases List.mem_append.1 he with he | he
        ·exact AF4 _ _ _ _ _ _ hm1 e he
        ·exact CW9 _ _ _ _ _ hm2 e he)
       rw[hno] at this;exact this
      have hres:c.res y=H7 l:=by unfold Con.res;rw[hun,← hnl,List.take_left]
      have hboxes:c.R5 y=O4 c.boxes l':=by unfold Con.R5;rw[hun,← hnl,List.drop_left]
      have hdatl:∀e∈l,∃t v,e=EV.dat t v:=AF4 _ _ _ _ _ _ hm1;have hbx:∀b,b<c.boxes.length→bx' b=bx b:=fun b hb=>(i1.kept b hb).1
      have hbc:∀b,b<c.boxes.length→H8 af bx' b=bx b:=by intro b hb;have:=hok.key b b (b2 _ (At6 hb));simp[H8,this,hbx b hb]
      have hcall:∀blk i,B8 af ow' blk = .box i→ow' blk = .box i∧i<c.boxes.length∧blk=bx i:=by
       intro blk i h;unfold B8 at h;split at h
       ·cases h
       ·rename_i b hb
        split at h
        ·rename_i j hj
         cases h;have hmem:=AA2 _ _ _ hj;have:=hsame _ _ hmem;subst this;have hlt:=hbelow _ _ hmem;exact⟨hb,hlt,by rw[← hbx _ hlt];exact (i1.back blk _ hb).1⟩
        ·cases h
       ·cases h
       ·cases h
       ·cases h
      have hkeep:E4 (B8 af ow') (H8 af bx') w' (B8 af ow') bx w':=
       ⟨.refl _ _,fun blk k fr h _=>⟨h,rfl⟩,fun _ _=>rfl,fun b h=>by obtain⟨_,q2,q3⟩:=hcall _ _ h;exact⟨(hbc b q2).symm,h⟩,fun k x h=>by simp[H8] at h⟩
      have hvals:∀(i:Nat) e u,l[i]? = some e→us[i]? = some u→A0 (B8 af ow') bx w' e u:=by
       intro i e u he hu;have hil:i<vs.length:=by rw[← k1];exact (List.getElem?_eq_some_iff.1 he).1
       have h2:=k2 i _ e u (List.getElem?_eq_getElem hil) he (g3 i _ u (List.getElem?_eq_getElem hil) hu);obtain⟨t,z,rfl⟩:=hdatl e (List.mem_of_getElem? he);cases h2 with
       |dat h2=>exact .dat (h2.keep (F1.of fun blk n hs=>⟨htr.st blk n hs,rfl⟩))
      have hlus:us.length=l.length:=by rw[g2,k1]
      have hval:∃v,(results fn a'.tmps).run P w' = .ok v w'∧A0 (B8 af ow') bx w' (H7 l) v:=by
       refine⟨if h:us.toArray.size=1 then us.toArray[0] else .tuple us.toArray,?_,?_⟩
       ·rw[BL3,Array.mapM_eq_mapM_toList]
        simp only[Sem.run_bind,map_eq_pure_bind,Sem.run_pure];rw[g1];simp
       ·match l,us,hlus,hvals with
        | [],[],_,_=>exact .tup rfl fun i e v he=>by simp at he
        | [e],[u],_,hv=>exact hv 0 e u rfl rfl
        |e1::e2::l,u1::u2::us,hl,hv=>
         rw[dif_neg (by simp)]
         exact .tup (by simpa using hl.symm) fun i e v he hu=>hv i e v he (by simpa using hu)
      obtain⟨v,hv1,hv2⟩:=hval;refine⟨v,hv1,v,B8 af ow',rfl,?_,by rw[hres];exact hv2⟩
      rw[hboxes];constructor
      ·intro i cs' hcs'
       rw[N8] at hcs';have hlt':i<c.boxes.length:=by rw[← b3];exact (List.getElem?_eq_some_iff.1 hcs').1
       obtain⟨b,cs,cs'',q1,q2,q3,q4,q5,_⟩:=b4 i hlt';rw[hcs'] at q3;cases q3;rw[Nat.zero_add] at q1;have:=hsame _ _ q1;subst this;obtain⟨w1,c0,T,w2,w3⟩:=i1.box b cs q2;obtain⟨t1,t2⟩:=htr.bo b b q1 w1;rw[hbx b hlt'] at t2 w2;refine⟨t2,c0,T,w2,by rw[q4,w3.1],fun k e v he hv=> ?_⟩
       have hkl:k<cs.length:=by rw[← q4];exact (List.getElem?_eq_some_iff.1 he).1
       obtain⟨z1,z2⟩:=w3.2 k _ v (List.getElem?_eq_getElem hkl) hv;exact⟨(q5 ow' _ bx' _ w' htr k _ e v (List.getElem?_eq_getElem hkl) he z1).keep hkeep,z2⟩
      ·intro blk i h
       obtain⟨q1,q2,q3⟩:=hcall blk i h;obtain⟨b,cs,cs'',z1,z2,z3,_⟩:=b4 i q2;exact⟨q3,by rw[N8.2 z3];rfl,q2⟩
      ·intro blk h
       refine i1.here blk fun e=>h ?_
       simp[B8,e]
      ·intro blk hb hnm
       obtain⟨q1,q2,q3⟩:=i1.old blk hb hnm;have:B8 af ow' blk=ow' blk:=by
        unfold B8;cases hob:ow' blk with
        |box b=>exact absurd hob (q3.1 b)
        |tok k fr=>exact absurd hob (q3.2 k fr)
        |_=>rfl
       exact⟨q1,by rw[this];exact q2,by rw[this];exact q3⟩
      ·exact i1.size
      ·exact i1.env
      ·intro b hb'
       obtain⟨b',cs,cs'',z1,z2,z3,_⟩:=b4 b hb';exact⟨rfl,by rw[N8.2 z3];rfl⟩
      ·exact i1.st.trans (.of fun blk n h=>⟨AZ3 h,rfl⟩)
      ·exact hinv.born
     ·cases hfin
    ·cases hfin
   ·cases hfin
  ·cases hfin
 cases ex with
 |normal=>exact main (by rw[← hτ];exact hk)
 |ret=>exact main (by rw[← hτ];exact hk)
 |exit id=>cases hk
theorem Bh3 {P:Program}{Γ:Cx}(hΓ:F8 P Γ)(hm:P.follows .mixedOrders=true){c:J0}{fn:Func}{code:Code}{h:Hint}(hf:P.funcs[c.f]? = some fn)(hb:fn.body=some code)
  (hn:(fn.name == "runtime.NumGoroutine")=false) (hrun:runN Γ c fn h=c.F):NOK P c:=by
 refine⟨⟨fn,hf,by rw[hb];rfl,hn⟩,?_⟩
 intro x y hy w ow bx args hg hbd hinv hargs;have hr:runN Γ c fn h x=some y:=by rw[hrun];exact hy
 unfold runN at hr;rw[hb] at hr;simp only at hr;have hσ:BH5 c fn.ntmps x=⟨c.H2 x++List.replicate (fn.ntmps-(c.H2 x).length) .undef,[],[]⟩:=rfl;have hrel:M3 ⟨w,fun _=>False,ow,0,bx,hg⟩ (BH5 c fn.ntmps x) {tmps:=args++Array.replicate (fn.ntmps-args.size) undef,defers:=[]} w:=by
  rw[hσ];refine⟨ow,bx,hinv,⟨?_,fun t e he=> ?_⟩,rfl,hbd⟩
  ·have:=hargs.1
   simp[this]
  ·simp only at he
   have hl:=hargs.1;by_cases hlt:t<(c.H2 x).length
   ·rw[List.getElem?_append_left hlt] at he
    obtain⟨v,hv⟩:∃v,args[t]? = some v:=⟨_,Array.getElem?_eq_getElem (by omega)⟩
    have:(args++Array.replicate (fn.ntmps-args.size) undef).getD t undef=v:=by
     apply BL2;rw[Array.getElem?_append_left (by omega)]
     exact hv
    rw[this];exact hargs.2 t e v he hv
   ·rw[List.getElem?_append_right (by omega),List.getElem?_replicate] at he
    split at he
    ·cases he;exact .undef _
    ·cases he
 refine calls_of_wp hf hb (wp_mono (BL0 hΓ hm code h _ _ _ y hr _ _ w hrel) ?_)
 rintro e a' w' ⟨ex,τ₀,rfl,hk,hrel₀,_⟩
 obtain⟨ow',bx',i1,⟨s1,r1⟩,hd,hdd⟩:=Bg9 hrel₀;generalize hτ:w9 τ₀=τ at i1 s1 r1;have main:BH4 Γ c fn.results.toList τ=some y→a'.defers=[]∧∃v,(results fn a'.tmps).run P w' = .ok v w'∧
   ∃v' ow'' bx'',Ending.returned v = .returned v'∧(∀k,bx''.dead k=false)∧Inv ⟨w,fun _=>False,ow,0,bx,hg⟩ ow'' bx'' 1 (A4 [some (c.AB6 y)]) w'∧A0 ow'' bx'' w' (c.res y) v':=by
  intro hfin;refine⟨hd,?_⟩;unfold BH4 at hfin;split at hfin
  ·rename_i vs hvs
   split at hfin
   ·rename_i l a1 hm1
    split at hfin
    ·rename_i b hab
     split at hfin
     ·rename_i cs hcs
      split at hfin
      ·rename_i l' af hm2
       split at hfin
       ·rename_i hc
        simp only[BX8,Bool.and_eq_true] at hc;obtain⟨⟨⟨hrs,hnw⟩,hno⟩,hbel⟩:=hc;have hno:=Nat.eq_of_beq_eq_true hno;have hbelow:=AZ2 _ _ hbel;obtain⟨us,g1,g2,g3⟩:=Ai4 hΓ i1 r1 fn.results.toList vs hvs;obtain⟨k1,k2,k3⟩:=AJ7 (ow:=ow') (ow':=B8 af ow') (bx:=bx') (bx':=H8 af bx') (w:=w') 200 true c.rs vs [] l a1 hm1 hrs;obtain⟨n1,n2,n3⟩:=AJ7 (ow:=ow') (ow':=B8 af ow') (bx:=bx') (bx':=H8 af bx') (w:=w') 200 false c.new cs a1 l' af hm2 hnw
        have hok:F2 af:=n1 (k1 .nil);have htr:=Ar6 hok ow' bx';have hmem:(0,b)∈af:=n2 _ (V4 _ _ _ hab);have hun:B3 c.outs c.A2 y=l++l':=by
         have:=AP4 c.outs (l++l') y hfin (fun e he=>by
          rcases List.mem_append.1 he with he | he
          ·exact AF4 _ _ _ _ _ _ hm1 e he
          ·exact AF4 _ _ _ _ _ _ hm2 e he)
         rwa [hno] at this
        obtain⟨es',f1,f2,f3⟩:=k3 l';obtain⟨ns',f4,f5,f6⟩:=n3 [];rw[List.append_nil] at f4;have hres:c.res y=H7 es':=by unfold J0.res;rw[hun,f1]
        have hnew:c.AB6 y=ns':=by unfold J0.AB6;rw[hun,f1];simp only;rw[f4]
        have hvals:∀(i:Nat) e u,es'[i]? = some e→us[i]? = some u→A0 (B8 af ow') (H8 af bx') w' e u:=by
         intro i e u he hu;have hil:i<vs.length:=by rw[← f2];exact (List.getElem?_eq_some_iff.1 he).1
         exact f3 af n2 htr i _ e u (List.getElem?_eq_getElem hil) he (g3 i _ u (List.getElem?_eq_getElem hil) hu)
        have hlus:us.length=es'.length:=by rw[g2,f2]
        have hval:∃v,(results fn a'.tmps).run P w' = .ok v w'∧A0 (B8 af ow') (H8 af bx') w' (H7 es') v:=by
         refine⟨if h:us.toArray.size=1 then us.toArray[0] else .tuple us.toArray,?_,?_⟩
         ·rw[BL3,Array.mapM_eq_mapM_toList]
          simp only[Sem.run_bind,map_eq_pure_bind,Sem.run_pure];rw[g1];simp
         ·match es',us,hlus,hvals with
          | [],[],_,_=>exact .tup rfl fun i e v he=>by simp at he
          | [e],[u],_,hv=>exact hv 0 e u rfl rfl
          |e1::e2::l,u1::u2::us,hl,hv=>
           rw[dif_neg (by simp)]
           exact .tup (by simpa using hl.symm) fun i e v he hu=>hv i e v he (by simpa using hu)
        obtain⟨v,hv1,hv2⟩:=hval;refine⟨v,hv1,v,B8 af ow',H8 af bx',rfl,fun _=>rfl,?_,by rw[hres];exact hv2⟩
        rw[hnew];obtain⟨w1,c0,T,w2,w3⟩:=i1.box b cs hcs;obtain⟨t1,t2⟩:=htr.bo 0 b hmem w1;have hcall:∀blk i,B8 af ow' blk = .box i→i=0∧ow' blk = .box b∧blk=bx' b:=by
         intro blk i h;unfold B8 at h;split at h
         ·cases h
         ·rename_i b' hb'
          split at h
          ·rename_i j hj
           simp only[A1.box.injEq] at h;have hmj:=AA2 _ _ _ hj;have hj0:=hbelow _ _ hmj;have hj0:j=0:=by omega
           subst hj0;subst h;have q1:=hok.key 0 b' hmj;rw[hok.key 0 b hmem] at q1;cases q1;exact⟨rfl,hb',(i1.back blk _ hb').1⟩
          ·cases h
         ·cases h
         ·cases h
         ·cases h
        constructor
        ·intro i cs' hcs'
         rw[N8] at hcs';cases i with
         |succ i=>simp at hcs'
         |zero=>
          simp only[List.getElem?_cons_zero,Option.some.injEq] at hcs';subst hcs';rw[t1];refine⟨t2,c0,T,w2,by rw[f5,w3.1],fun k e v he hv=> ?_⟩
          have hkl:k<cs.length:=by rw[← f5];exact (List.getElem?_eq_some_iff.1 he).1
          obtain⟨z1,z2⟩:=w3.2 k _ v (List.getElem?_eq_getElem hkl) hv;exact⟨f6 af (fun p hp=>hp) htr k _ e v (List.getElem?_eq_getElem hkl) he z1,z2⟩
        ·intro blk i h
         obtain⟨rfl,_,q3⟩:=hcall blk i h;exact⟨by rw[t1];exact q3,rfl,by omega⟩
        ·intro blk h
         refine i1.here blk fun e=>h ?_
         simp[B8,e]
        ·intro blk hb hnm
         obtain⟨q1,q2,q3⟩:=i1.old blk hb hnm;have:B8 af ow' blk=ow' blk:=by
          unfold B8;cases hob:ow' blk with
          |box b=>exact absurd hob (q3.1 b)
          |tok k fr=>exact absurd hob (q3.2 k fr)
          |_=>rfl
         exact⟨q1,by rw[this];exact q2,by rw[this];exact q3⟩
        ·exact i1.size
        ·exact i1.env
        ·intro b hb';simp at hb'
        ·exact i1.st.trans (.of fun blk n h=>⟨AZ3 h,rfl⟩)
        ·exact fun j h=>by simp[H8] at h
       ·cases hfin
      ·cases hfin
     ·cases hfin
    ·cases hfin
   ·cases hfin
  ·cases hfin
 cases ex with
 |normal=>exact main (by rw[← hτ];exact hk)
 |ret=>exact main (by rw[← hτ];exact hk)
 |exit id=>cases hk
end Go.Proofs.YthfjpkdadjemcaaGreat

set_option linter.unusedSimpArgs false
set_option linter.unusedVariables false
namespace Go.Proofs.YthfjpkdadjemcaaGreat
theorem CX1 {P:Program}{Γ:Cx}(hΓ:F8 P Γ)(hm:P.follows .mixedOrders=true){c:G2}{fn:Func}{code:Code}{h:Hint}(hf:P.funcs[c.f]? = some fn)(hb:fn.body=some code)
  (hn:(fn.name == "runtime.NumGoroutine")=false) (hnb:c.aft.length=c.boxes.length) (hrun:Aq5 Γ c fn h=c.F):Aq9 P c:=by
 refine⟨⟨fn,hf,by rw[hb];rfl,hn⟩,?_⟩
 intro x y hy w ow bx args hg hbd hinv hargs;have hr:Aq5 Γ c fn h x=some y:=by rw[hrun];exact hy
 unfold Aq5 at hr;rw[hb] at hr;simp only at hr;have hfl:∀(bs:List (List OP)) (d:List EV),(G7 id id bs d).length=bs.length:=by
  intro bs
  induction bs with
  |nil=>intro d;rfl
  |cons p r ih=>intro d;simp[G7,ih]
 have hbl:(c.K9 x).length=c.boxes.length:=by unfold G2.K9;rw[List.length_map,hfl]
 have hrel:M3 ⟨w,fun blk=>(∃b,ow blk = .box b)∨∃k fr,ow blk = .tok k fr,ow,c.boxes.length,bx,hg⟩ (BH6 c fn.ntmps x) {tmps:=args++Array.replicate (fn.ntmps-args.size) undef,defers:=[]} w:=by
  unfold BH6;refine⟨ow,bx,by simp only[hbl];exact hinv,⟨?_,fun t e he=> ?_⟩,rfl,hbd⟩
  ·have:=hargs.1
   simp[this]
  ·simp only at he
   have hl:=hargs.1;by_cases hlt:t<(c.H2 x).length
   ·rw[List.getElem?_append_left hlt] at he
    obtain⟨v,hv⟩:∃v,args[t]? = some v:=⟨_,Array.getElem?_eq_getElem (by omega)⟩
    have:(args++Array.replicate (fn.ntmps-args.size) undef).getD t undef=v:=by
     apply BL2;rw[Array.getElem?_append_left (by omega)]
     exact hv
    rw[this];exact hargs.2 t e v he hv
   ·rw[List.getElem?_append_right (by omega),List.getElem?_replicate] at he
    split at he
    ·cases he;exact .undef _
    ·cases he
 refine calls_of_wp hf hb (wp_mono (BL0 hΓ hm code h _ _ _ y hr _ _ w hrel) ?_)
 rintro e a' w' ⟨ex,τ₀,rfl,hk,hrel₀,_⟩
 obtain⟨ow',bx',i1,⟨s1,r1⟩,hd,hdd⟩:=CW8 (Γ:=Γ) (c:=c) (rv:=fn.results.toList) hrel₀;generalize hτ:Aq4 Γ c fn.results.toList τ₀=τ at i1 s1 r1;have main:BH7 Γ c fn.results.toList τ=some y→a'.defers=[]∧∃v,(results fn a'.tmps).run P w' = .ok v w'∧
   ∃v' ow'' tb'',Ending.returned v = .returned v'∧Inv ⟨w,fun blk=>(∃b,ow blk = .box b)∨∃k fr,ow blk = .tok k fr,ow,c.boxes.length,bx,hg⟩ ow'' ⟨bx.f,bx.dead,tb''⟩ c.boxes.length (A4 (c.R5 y)) w'∧A0 ow'' ⟨bx.f,bx.dead,tb''⟩ w' (c.res y) v':=by
  intro hfin;refine⟨hd,?_⟩;unfold BH7 at hfin;split at hfin
  ·rename_i vs hvs
   split at hfin
   ·rename_i l a1 t1 hm1
    split at hfin
    ·rename_i l' af tf hm2
     split at hfin
     ·rename_i hc
      simp only[Bool.and_eq_true] at hc;obtain⟨⟨hno,hbel⟩,haft⟩:=hc;have hno:=Nat.eq_of_beq_eq_true hno;have hbelow:=AZ2 _ _ hbel;obtain⟨us,g1,g2,g3⟩:=Ai4 hΓ i1 r1 fn.results.toList vs hvs;obtain⟨m1,m2,m3,m4,m5,m6⟩:=Ah5 (ow:=ow') (ow':=owO af tf ow') (bx:=bx') (bx':=bxO af tf bx') (w:=w') c.rs vs _ _ l a1 t1 hm1;obtain⟨b1,b2,b3,b4,b5,b6,b7,b8⟩:=As1 c.aft 0 _ _ l' af tf hm2
      have hok:F2 af:=b1 (m1 (Bh2 _));have htok:F2 tf:=b2 (m2 .nil);have htr:=trO hok htok ow' bx';have hdl:∀k,k∉([]:List Nat)→(∃κ,(κ,k)∈tf)→bx'.dead k=false:=fun k _ _=>hdd k
      have hsame:∀i b,(i,b)∈af→b=i:=by intro i b h;have h1:=hok.key i b h;have h2:=hok.key i i (b3 _ (m3 _ (At6 (hbelow i b h))));rw[h1] at h2;cases h2;rfl
      have hun:B3 c.outs c.A2 y=l++l':=by
       have:=AP4 c.outs (l++l') y hfin (fun e he=>by
        rcases List.mem_append.1 he with he | he
        ·exact BJ1 _ _ _ _ _ _ _ hm1 e he
        ·exact b6 e he)
       rw[hno] at this;exact this
      obtain⟨es',f1,f2,f3⟩:=m6 l';have hres:c.res y=H7 es':=by unfold G2.res;rw[hun,f1]
      have hboxes:c.R5 y=(G7 id id c.aft l').map some:=by unfold G2.R5;rw[hun,f1]
      have hbx:∀b,b<c.boxes.length→bx' b=bx b:=fun b hb=>(i1.kept b hb).1
      have hbc:∀b,b<c.boxes.length→bxO af tf bx' b=bx b:=by intro b hb;have:=hok.key b b (b3 _ (m3 _ (At6 hb)));simp[bxO,H8,this,hbx b hb]
      have hcall:∀blk i,owO af tf ow' blk = .box i→ow' blk = .box i∧i<c.boxes.length∧blk=bx i:=by intro blk i h;obtain⟨b,hmem,hb⟩:=As3 h;have:=hsame _ _ hmem;subst this;have hlt:=hbelow _ _ hmem;exact⟨hb,hlt,by rw[← hbx _ hlt];exact (i1.back blk _ hb).1⟩
      have hkeep:E4 (owO af tf ow') (bxO af tf bx') w' (owO af tf ow') ⟨bx.f,bx.dead,(bxO af tf bx').tb⟩ w':=
       ⟨.refl _ _,fun blk k fr h _=>⟨h,rfl⟩,fun k _=>rfl,(fun b h=>by obtain⟨_,q2,q3⟩:=hcall _ _ h;exact⟨(hbc b q2).symm,h⟩),fun _ _ h=>h⟩
      have hvals:∀(i:Nat) e u,es'[i]? = some e→us[i]? = some u→A0 (owO af tf ow') ⟨bx.f,bx.dead,(bxO af tf bx').tb⟩ w' e u:=by
       intro i e u he hu;have hil:i<vs.length:=by rw[← f2];exact (List.getElem?_eq_some_iff.1 he).1
       exact (f3 af tf b3 b4 htr hdl i _ e u (List.getElem?_eq_getElem hil) he (g3 i _ u (List.getElem?_eq_getElem hil) hu)).keep hkeep
      have hlus:us.length=es'.length:=by rw[g2,f2]
      have hval:∃v,(results fn a'.tmps).run P w' = .ok v w'∧A0 (owO af tf ow') ⟨bx.f,bx.dead,(bxO af tf bx').tb⟩ w' (H7 es') v:=by
       refine⟨if h:us.toArray.size=1 then us.toArray[0] else .tuple us.toArray,?_,?_⟩
       ·rw[BL3,Array.mapM_eq_mapM_toList]
        simp only[Sem.run_bind,map_eq_pure_bind,Sem.run_pure];rw[g1];simp
       ·match es',us,hlus,hvals with
        | [],[],_,_=>exact .tup rfl fun i e v he=>by simp at he
        | [e],[u],_,hv=>exact hv 0 e u rfl rfl
        |e1::e2::l,u1::u2::us,hl,hv=>
         rw[dif_neg (by simp)]
         exact .tup (by simpa using hl.symm) fun i e v he hu=>hv i e v he (by simpa using hu)
      obtain⟨v,hv1,hv2⟩:=hval;refine⟨v,hv1,v,owO af tf ow',(bxO af tf bx').tb,rfl,?_,by rw[hres];exact hv2⟩
      rw[hboxes];constructor
      ·intro i cs' hcs'
       rw[AP5] at hcs';have hlt':i<c.aft.length:=by rw[← b7];exact (List.getElem?_eq_some_iff.1 hcs').1
       have hlt2:i<c.boxes.length:=by rw[← hnb];exact hlt'
       obtain⟨b,cs,cs'',q1,q2,q3,q4,q5⟩:=b8 i hlt';rw[hcs'] at q3;cases q3;rw[Nat.zero_add] at q1;have:=hsame _ _ q1;subst this;obtain⟨w1,c0,T,w2,w3⟩:=i1.box b cs q2;obtain⟨t1,t2⟩:=htr.bo b b q1 w1;rw[hbx b hlt2] at t2 w2;refine⟨t2,c0,T,w2,by rw[q4,w3.1],fun k e v he hv=> ?_⟩
       have hkl:k<cs.length:=by rw[← q4];exact (List.getElem?_eq_some_iff.1 he).1
       obtain⟨z1,z2⟩:=w3.2 k _ v (List.getElem?_eq_getElem hkl) hv;exact⟨(q5 ow' _ bx' _ w' htr hdl k _ e v (List.getElem?_eq_getElem hkl) he z1).keep hkeep,z2⟩
      ·intro blk i h
       obtain⟨q1,q2,q3⟩:=hcall blk i h;obtain⟨b,cs,cs'',z1,z2,z3,_⟩:=b8 i (by rw[hnb];exact q2)
       exact⟨q3,by rw[AP5.2 z3];rfl,q2⟩
      ·intro blk h
       refine i1.here blk fun e=>h ?_
       simp[owO,e]
      ·intro blk hb hnm
       obtain⟨q1,q2,q3⟩:=i1.old blk hb hnm;have:owO af tf ow' blk=ow' blk:=by
        unfold owO;cases hob:ow' blk with
        |box b=>exact absurd hob (q3.1 b)
        |tok k fr=>exact absurd hob (q3.2 k fr)
        |_=>rfl
       exact⟨q1,by rw[this];exact q2,by rw[this];exact q3⟩
      ·exact i1.size
      ·exact i1.env
      ·intro b hb'
       obtain⟨b',cs,cs'',z1,z2,z3,_⟩:=b8 b (by rw[hnb];exact hb')
       exact⟨rfl,by rw[AP5.2 z3];rfl⟩
      ·exact i1.st.trans (.of fun blk n h=>⟨As2 h,rfl⟩)
      ·intro j hj
       left
       simp only[bxO] at hj;split at hj
       ·rename_i k hk;exact (b5 (m5 fun p hp=>by simp at hp) _ (V4 _ _ _ hk)).2.2
       ·cases hj
     ·cases hfin
    ·cases hfin
   ·cases hfin
  ·cases hfin
 cases ex with
 |normal=>exact main (by rw[← hτ];exact hk)
 |ret=>exact main (by rw[← hτ];exact hk)
 |exit id=>cases hk
end Go.Proofs.YthfjpkdadjemcaaGreat

set_option linter.unusedSimpArgs false
set_option linter.unusedVariables false
namespace Go.Proofs.YthfjpkdadjemcaaGreat
def AF5 (e:EV)(v:Value):Bool:=match e with
 | .undef=>v.oneCell'
 | .nil=>match v with
  | .slice none 0 0=>true
  |_=>false
 | .dat (.int k) n=>match v with
  | .int k' m=>decide (k=k')&&decide ((n:Int)=m)&&fits k n
  |_=>false
 | .dat .bool b=>match v with
  | .bool b'=>(b:Bool)==b'
  |_=>false
 | .dat .str s=>match v with
  | .string s'=>Nat.beq s.size 0&&Nat.beq s'.size 0
  |_=>false
 | .dat (.slice _) l=>match v with
  | .slice none 0 0=>l.isEmpty
  |_=>false
 |_=>false
def At7:List EV→List Value→Bool
 | [],[]=>true
 |e::es,v::vs=>AF5 e v&&At7 es vs
 |_,_=>false
def fsB (P:Program):List Field→List (Nat×Nat×Nat)→Bool
 | [],[]=>true
 |g::gs,(ft,off,size)::fs=>Nat.beq g.type ft&&Nat.beq g.offset off&&(match P.info? g.type with
  |some i=>Nat.beq i.size size
  |none=>false)&&fsB P gs fs
 |_,_=>false
def Bh4 (u:TypeDesc)(ty:Option Ty):Bool:=match u with
 | .struct _=>false
 | .array _ _=>false
 | .int k=>match ty with
  |some (.int k')=>decide (k'=k)
  |some .str=>false
  |some .bool=>false
  |_=>true
 | .string=>match ty with
  |some (.int _)=>false
  |some .bool=>false
  |_=>true
 | .bool=>match ty with
  |some (.int _)=>false
  |some .str=>false
  |_=>true
 |_=>match ty with
  |some (.int _)=>false
  |some .str=>false
  |some .bool=>false
  |_=>true
def Bh5 (ty:Option Ty):Bool:=match ty with
 |some (.int _)=>false
 |some .str=>false
 |some .bool=>false
 |_=>true
def Bh6 (P:Program)(T:Nat)(d:TD):Bool:=match d.how with
 | .scalar=>Nat.beq d.zero.length 1&&(match P.underlying T with
  |some u=>Bh4 u d.ty
  |none=>false)
 | .struct fs=>match P.underlying T with
  |some (.struct gs)=>fsB P gs.toList fs
  |_=>false
 | .array n e s=>match P.underlying T with
  |some (.array n' e')=>Nat.beq n n'&&Nat.beq e e'&&(match P.info? e with
   |some i=>Nat.beq i.size s
   |none=>false)
  |_=>false
 | .slice e s b=>Nat.beq d.zero.length 1&&(match P.underlying T with
  |some (.slice e')=>Nat.beq e e'
  |_=>false)&&(match P.info? e with
  |some i=>Nat.beq i.size s&&Nat.beq i.bytes b&&i.zero.isSome
  |none=>false)&&Bh5 d.ty
def BL5 (P:Program)(T:Nat):Option Bool:=match P.underlying T with
 |some (.struct _)=>some true
 |some (.array _ _)=>some true
 |some _=>some false
 |none=>none
def AC7 (P:Program)(T:Nat)(t:Ty):Bool:=(match BL5 P T with
 |some b=>b==t.isAgg
 |none=>false)&&(match P.info? T with
 |some i=>Nat.beq i.size t.size
 |none=>false)&&(match t with
 | .pair _ _=>false
 | .unit=>false
 |_=>true)
def AP8 (P:Program)(ok:Nat→Ty→Bool):List Field→Ty→Nat→Bool
 | [],.unit,_=>true
 | [f],t,off=>(f.name != "_")&&Nat.beq f.offset off&&AC7 P f.type t&&ok f.type t
 |f::r,.pair a b,off=>(f.name != "_")&&Nat.beq f.offset off&&AC7 P f.type a&&ok f.type a&&AP8 P ok r b (off+a.size)
 |_,_,_=>false
def AP9 (P:Program)(ok:Nat→Ty→Bool)(e s:Nat):Nat→Ty→Bool
 |0,.unit=>true
 |1,t=>Nat.beq t.size s&&AC7 P e t&&ok e t
 |m+2,.pair a b=>Nat.beq a.size s&&AC7 P e a&&ok e a&&AP9 P ok e s (m+1) b
 |_,_=>false
def eqB (P:Program):Nat→Nat→Ty→Bool
 |0,_,_=>false
 |n+1,T,t=>match t with
  | .int k=>match P.underlying T with
   |some (.int k')=>decide (k=k')
   |_=>false
  | .bool=>match P.underlying T with
   |some .bool=>true
   |_=>false
  | .str=>match P.underlying T with
   |some .string=>true
   |_=>false
  | .agg t'=>match P.underlying T with
   |some (.struct gs)=> !P.stoodInHeld T&&AP8 P (eqB P n) gs.toList t' 0
   |some (.array m e)=>match P.info? e with
    |some i=>AP9 P (eqB P n) e i.size m t'
    |none=>false
   |_=>false
  |_=>false
def tyB (P:Program)(T:Nat)(d:TD):Bool:=
 (match P.info? T with
  |some i=>match i.zero with
   |some z=>Nat.beq i.size d.zero.length&&At7 d.zero z.cells.toList
   |none=>false
  |none=>false)&&Bh6 P T d&&(match d.ty with
  |some t=>Nat.beq t.size d.zero.length&&(t.isAgg==I5 d)&&(match t.isAgg&&t.plain with
   |true=> !P.eqGuardType P.depth T&&eqB P 20 T t
   |false=>true)
  |none=>true)
theorem CX2 {e:EV}{v:Value}(h:AF5 e v=true){ow:Nat→A1}{bx:Bx}{w:World}:A0 ow bx w e v∧v.oneCell'=true:=by
 cases e with
 |undef=>exact ⟨.undef _,h⟩
 |nil=>
  simp only[AF5] at h;split at h
  ·exact⟨.nil,rfl⟩
  ·cases h
 |dat t x=>
  cases t with
  |int k=>
   simp only[AF5] at h;split at h
   ·simp only[Bool.and_eq_true,decide_eq_true_eq] at h
    obtain⟨⟨rfl,h1⟩,h2⟩:=h;subst h1;exact⟨.dat ⟨rfl,h2⟩,rfl⟩
   ·cases h
  |bool=>
   simp only[AF5] at h;split at h
   ·rename_i b'
    have:x=b':=by simpa using h
    subst this;exact⟨.dat rfl,rfl⟩
   ·cases h
  |str=>
   simp only[AF5] at h;split at h
   ·rename_i s'
    simp only[Bool.and_eq_true] at h;have h1:=Nat.eq_of_beq_eq_true h.1;have h2:=Nat.eq_of_beq_eq_true h.2;have:x=s':=by obtain⟨a⟩:=x;obtain⟨b⟩:=s';have ha:a=#[]:=Array.eq_empty_of_size_eq_zero h1;have hb:b=#[]:=Array.eq_empty_of_size_eq_zero h2;rw[ha,hb]
    subst this;exact⟨.dat ⟨rfl,by rw[h1];omega⟩,rfl⟩
   ·cases h
  |slice a=>
   simp only[AF5] at h;split at h
   ·have:x=[]:=by simpa using h
    subst this;exact⟨.dat ⟨none,0,rfl,⟨by simp,by simp⟩,fun h=>absurd rfl h⟩,rfl⟩
   ·cases h
  |_=>simp [AF5] at h
 |_=>simp [AF5] at h
theorem Bh7 {ow:Nat→A1}{bx:Bx}{w:World}:∀(es:List EV) (vs:List Value),At7 es vs=true→C4 ow bx w es vs
 | [],[],_=>⟨rfl,fun i e v he=>by simp at he⟩
 |e::es,v::vs,h=>by
  simp only[At7,Bool.and_eq_true] at h;obtain⟨h1,h2⟩:=Bh7 (ow:=ow) (bx:=bx) (w:=w) es vs h.2;refine⟨by simp[h1],fun i e' v' he hv=> ?_⟩
  cases i with
  |zero=>simp at he hv;subst he hv;exact CX2 h.1
  |succ i=>exact h2 i e' v' (by simpa using he) (by simpa using hv)
 | [],v::vs,h=>by cases h
 |e::es,[],h=>by cases h
theorem Bh8 {P:Program}:∀(gs:List Field) (fs:List (Nat×Nat×Nat)),fsB P gs fs=true→
  gs.mapM (fun f=>(P.info? f.type).map fun i=>(f.offset,i.size))=some (fs.map (·.2))∧gs.map (·.type)=fs.map (·.1)
 | [],[],_=>⟨by simp,rfl⟩
 |g::gs,(ft,off,size)::fs,h=>by
  simp only[fsB,Bool.and_eq_true] at h;obtain⟨⟨⟨h1,h2⟩,h3⟩,h4⟩:=h;have h1:=Nat.eq_of_beq_eq_true h1;have h2:=Nat.eq_of_beq_eq_true h2;obtain⟨k1,k2⟩:=Bh8 gs fs h4;split at h3
  ·rename_i i hi
   have h3:=Nat.eq_of_beq_eq_true h3;refine⟨?_,by simp[h1,k2]⟩
   rw[List.mapM_cons];simp only[hi,Option.map_some,Option.bind_eq_bind,Option.bind_some];rw[k1];simp[h2,h3]
  ·cases h3
 | [],_::_,h=>by cases h
 |_::_,[],h=>by cases h
section
variable {P:Program}{ow:Nat→A1}{w:World}
theorem CX3 {T:Nat}{b:Bool}(h:BL5 P T=some b):(isAgg T).run P w = .ok b w:=by
 unfold BL5 at h;unfold Go.isAgg underlying;cases hu:P.underlying T with
 |none=>rw [hu] at h;cases h
 |some u=>
  rw[hu] at h;cases u <;> simp only[Option.some.injEq] at h <;> subst h <;> simp[hu]
theorem At8 {T:Nat}{t:Ty}{x:t.den}{xs:Array Value}{off:Nat}(hp:AC7 P T t=true)(h:Rep ow w t x ((xs.toList.drop off).take t.size)):∃v,(part T xs off).run P w = .ok v w∧D0 ow w t x v:=by
 simp only[AC7,Bool.and_eq_true] at hp;obtain⟨⟨h1,h2⟩,h3⟩:=hp;split at h1
 ·rename_i b hb
  have hag:=CX3 (w:=w) hb;have hbt:b=t.isAgg:=by simpa using h1
  split at h2
  ·rename_i i hi
   have h2:=Nat.eq_of_beq_eq_true h2;have hlen:=V2 _ _ _ h;unfold part;rw[Sem.run_bind,hag];simp only[Result.andThen_ok];cases t with
   |agg a=>
    rw[hbt];simp only[Ty.isAgg,if_true,Sem.run_bind];have:(sizeOf T).run P w = .ok i.size w:=by simp[Go.sizeOf,typeInfo,hi]
    rw[this];simp only[Result.andThen_ok,Sem.run_pure];refine⟨_,rfl,_,rfl,?_⟩;rw[h2];have e:(xs.extract off (off+(Ty.agg a).size)).toList=(xs.toList.drop off).take (Ty.agg a).size:=by simp[List.take_drop]
    rw[e];exact h
   |pair a b=>cases h3
   |unit=>cases h3
   |int k | bool | str | slice a=>
    rw[hbt];simp only[Ty.isAgg,Bool.false_eq_true,if_false];simp only[Ty.size] at h hlen;have hl:off<xs.size:=by simp at hlen;omega
    have e:(xs.toList.drop off).take 1=[xs[off]]:=by
     rw[List.drop_eq_getElem_cons (by simpa using hl)]
     simp
    rw[e] at h;rw[Array.getElem?_eq_getElem hl];exact⟨_,rfl,h⟩
  ·cases h2
 ·cases h1
theorem At9 {xs:List Value}{off n:Nat}{c₁ c₂:List Value}(h:(xs.drop off).take n=c₁++c₂)(hl:n=c₁.length+c₂.length):(xs.drop off).take c₁.length=c₁∧(xs.drop (off+c₁.length)).take c₂.length=c₂:=by
 constructor
 ·have:=congrArg (List.take c₁.length) h
  rw[List.take_take,List.take_left,Nat.min_eq_left (by omega)] at this
  exact this
 ·have:=congrArg (List.drop c₁.length) h
  rw[List.drop_left,List.drop_take,List.drop_drop] at this;rw[show n-c₁.length=c₂.length by omega] at this
  exact this
theorem CX4 {ok:Nat→Ty→Bool}{d:Nat}(hok:∀T t,ok T t=true→∀(x y:t.den) vx vy,D0 ow w t x vx→D0 ow w t y vy→(Op.equalIn d T vx vy).run P w = .ok (eqT t x y) w):
  ∀(gs:List Field) (t:Ty) (off:Nat),AP8 P ok gs t off=true→∀(x y:t.den) (xs ys:Array Value),Rep ow w t x ((xs.toList.drop off).take t.size)→Rep ow w t y ((ys.toList.drop off).take t.size)→
   (Op.eqFields d xs ys gs).run P w = .ok (eqT t x y) w:=by
 have one:∀(f:Field) (t:Ty) (off:Nat),f.name≠ "_" →f.offset=off→AC7 P f.type t=true→ok f.type t=true→∀(gs:List Field) (x y:t.den) (xs ys:Array Value) (b:Bool),Rep ow w t x ((xs.toList.drop off).take t.size)→Rep ow w t y ((ys.toList.drop off).take t.size)→
   (Op.eqFields d xs ys gs).run P w = .ok b w→(Op.eqFields d xs ys (f::gs)).run P w = .ok (eqT t x y&&b) w:=by
  intro f t off h1 h2 h3 h4 gs x y xs ys b hx hy hgs;subst h2;obtain⟨vx,p1,p2⟩:=At8 h3 hx;obtain⟨vy,q1,q2⟩:=At8 h3 hy;have:=hok _ _ h4 x y vx vy p2 q2;simp only[Op.eqFields,Sem.run_ite,if_pos h1,Sem.run_bind,p1,q1,this,Result.andThen_ok];cases eqT t x y with
  |false=>simp
  |true=>simp [hgs]
 intro gs
 induction gs with
 |nil=>
  intro t off h x y xs ys hx hy;cases t with
  |unit=>simp [Op.eqFields,eqT]
  |_=>simp [AP8] at h
 |cons f r ih=>
  intro t off h x y xs ys hx hy;cases r with
  |nil=>
   have h':(f.name != "_")=true∧Nat.beq f.offset off=true∧AC7 P f.type t=true∧ok f.type t=true:=by cases t <;> simpa[AP8,Bool.and_eq_true,and_assoc] using h
   obtain⟨h1,h2,h3,h4⟩:=h';have:=one f t off (by simpa using h1) (Nat.eq_of_beq_eq_true h2) h3 h4 [] x y xs ys true hx hy (by simp[Op.eqFields])
   simpa using this
  |cons f2 r2=>
   cases t with
   |pair a b=>
    simp only[AP8,Bool.and_eq_true] at h;obtain⟨⟨⟨⟨h1,h2⟩,h3⟩,h4⟩,h5⟩:=h;obtain⟨c₁,c₂,e1,e2,e3⟩:=hx;obtain⟨d₁,d₂,g1,g2,g3⟩:=hy;have l1:=V2 _ _ _ e2;have l2:=V2 _ _ _ e3;have m1:=V2 _ _ _ g2;have m2:=V2 _ _ _ g3;obtain⟨k1,k2⟩:=At9 e1 (by simp[Ty.size,l1,l2])
    obtain⟨k3,k4⟩:=At9 g1 (by simp[Ty.size,m1,m2])
    rw[l1] at k1 k2;rw[l2] at k2;rw[m1] at k3 k4;rw[m2] at k4;refine one f a off (by simpa using h1) (Nat.eq_of_beq_eq_true h2) h3 h4 (f2::r2) x.1 y.1 xs ys _ (by rw[k1];exact e2) (by rw[k3];exact g2) ?_
    exact ih b (off+a.size) h5 x.2 y.2 xs ys (by rw[k2];exact e3) (by rw[k4];exact g3)
   |_=>simp [AP8] at h
theorem CX5 {ok:Nat→Ty→Bool}{d e s:Nat}(hok:∀T t,ok T t=true→∀(x y:t.den) vx vy,D0 ow w t x vx→D0 ow w t y vy→(Op.equalIn d T vx vy).run P w = .ok (eqT t x y) w):
  ∀(m:Nat) (t:Ty) (i:Nat),AP9 P ok e s m t=true→∀(x y:t.den) (xs ys:Array Value),Rep ow w t x ((xs.toList.drop (i*s)).take t.size)→Rep ow w t y ((ys.toList.drop (i*s)).take t.size)→
   (Op.eqItems d e s xs ys (List.range' i m)).run P w = .ok (eqT t x y) w:=by
 have one:∀(t:Ty) (i:Nat),AC7 P e t=true→ok e t=true→∀(is:List Nat) (x y:t.den) (xs ys:Array Value) (b:Bool),Rep ow w t x ((xs.toList.drop (i*s)).take t.size)→Rep ow w t y ((ys.toList.drop (i*s)).take t.size)→
   (Op.eqItems d e s xs ys is).run P w = .ok b w→(Op.eqItems d e s xs ys (i::is)).run P w = .ok (eqT t x y&&b) w:=by
  intro t i h3 h4 is x y xs ys b hx hy hgs;obtain⟨vx,p1,p2⟩:=At8 h3 hx;obtain⟨vy,q1,q2⟩:=At8 h3 hy;have:=hok _ _ h4 x y vx vy p2 q2;simp only[Op.eqItems,Sem.run_bind,p1,q1,this,Result.andThen_ok];cases eqT t x y with
  |false=>simp
  |true=>simp [hgs]
 intro m
 induction m with
 |zero=>
  intro t i h x y xs ys hx hy;cases t with
  |unit=>simp [Op.eqItems,eqT]
  |_=>simp [AP9] at h
 |succ m ih=>
  intro t i h x y xs ys hx hy;cases m with
  |zero=>
   have h':Nat.beq t.size s=true∧AC7 P e t=true∧ok e t=true:=by cases t <;> simpa[AP9,Bool.and_eq_true,and_assoc] using h
   obtain⟨h1,h3,h4⟩:=h';have:=one t i h3 h4 [] x y xs ys true hx hy (by simp[Op.eqItems])
   simpa using this
  |succ m=>
   cases t with
   |pair a b=>
    simp only[AP9,Bool.and_eq_true] at h;obtain⟨⟨⟨h1,h3⟩,h4⟩,h5⟩:=h;have h1:=Nat.eq_of_beq_eq_true h1;obtain⟨c₁,c₂,e1,e2,e3⟩:=hx;obtain⟨d₁,d₂,g1,g2,g3⟩:=hy;have l1:=V2 _ _ _ e2;have l2:=V2 _ _ _ e3;have m1:=V2 _ _ _ g2;have m2:=V2 _ _ _ g3;obtain⟨k1,k2⟩:=At9 e1 (by simp[Ty.size,l1,l2])
    obtain⟨k3,k4⟩:=At9 g1 (by simp[Ty.size,m1,m2])
    rw[l1] at k1 k2;rw[l2] at k2;rw[m1] at k3 k4;rw[m2] at k4;rw[List.range'_succ];have ho:i*s+a.size=(i+1)*s:=by rw[h1,Nat.succ_mul]
    refine one a i h3 h4 _ x.1 y.1 xs ys _ (by rw[k1];exact e2) (by rw[k3];exact g2) ?_
    exact ih b (i+1) h5 x.2 y.2 xs ys (by rw[← ho,k2];exact e3) (by rw[← ho,k4];exact g3)
   |_=>simp [AP9] at h
theorem Bh9:∀(n T:Nat) (t:Ty),eqB P n T t=true→∀(k:Nat) (x y:t.den) vx vy,D0 ow w t x vx→D0 ow w t y vy→(Op.equalIn (n+k) T vx vy).run P w = .ok (eqT t x y) w:=by
 intro n
 induction n with
 |zero=>intro T t h;simp[eqB] at h
 |succ n ih=>
  intro T t h k x y vx vy hx hy;rw[show n+1+k=(n+k)+1 by omega]
  have hok:=fun T t h (x y:t.den) vx vy=>ih T t h k x y vx vy
  cases t with
  |int kk=>
   simp only[eqB] at h;split at h
   ·rename_i k' hu
    simp only[D0,Rep,List.cons.injEq,and_true] at hx hy;rw[hx.1,hy.1];exact run_equalIn_int w _ T kk k' x y hu
   ·cases h
  |bool=>
   simp only[eqB] at h;split at h
   ·rename_i hu
    simp only[D0,Rep,List.cons.injEq,and_true] at hx hy;rw[hx,hy];exact run_equalIn_bool' w _ T x y hu
   ·cases h
  |str=>
   simp only[eqB] at h;split at h
   ·rename_i hu
    simp only[D0,Rep,List.cons.injEq,and_true] at hx hy;rw[hx.1,hy.1];exact run_equalIn_string w _ T x y hu
   ·cases h
  |agg t'=>
   obtain⟨xs,rfl,hx⟩:=hx;obtain⟨ys,rfl,hy⟩:=hy;have l1:=V2 _ _ _ hx;have l2:=V2 _ _ _ hy;have hx0:Rep ow w t' x ((xs.toList.drop 0).take t'.size):=by rw[List.drop_zero,List.take_of_length_le (by omega)];exact hx
   have hy0:Rep ow w t' y ((ys.toList.drop 0).take t'.size):=by rw[List.drop_zero,List.take_of_length_le (by omega)];exact hy
   simp only[eqB] at h;split at h
   ·rename_i gs hu
    simp only[Bool.and_eq_true,Bool.not_eq_true'] at h;have hf:P.fieldsOf T=gs:=by simp[Program.fieldsOf,hu]
    rw[run_equalIn_struct w _ T xs ys (by rw[hf];exact hu) h.1,hf]
    exact CX4 hok gs.toList t' 0 h.2 x y xs ys hx0 hy0
   ·rename_i m e hu
    split at h
    ·rename_i i hi
     rw[run_equalIn_array w _ xs ys hu hi,List.range_eq_range'];have hc:P.cellsOf e=i.size:=by simp[Program.cellsOf,hi]
     rw[hc];exact CX5 hok m t' 0 h x y xs ys (by rw[Nat.zero_mul];exact hx0) (by rw[Nat.zero_mul];exact hy0)
    ·cases h
   ·cases h
  |_=>simp [eqB] at h
end
theorem CX6 {P:Program}{T:Nat}{d:TD}(h:tyB P T d=true):AC3 P T d:=by
 simp only[tyB,Bool.and_eq_true] at h;obtain⟨⟨h1,h2⟩,h3⟩:=h;constructor
 ·split at h1
  ·rename_i i hi
   split at h1
   ·rename_i z hz
    rw[Bool.and_eq_true] at h1;have hs:=Nat.eq_of_beq_eq_true h1.1;have hr:∀(ow:Nat→A1) (bx:Bx) (w:World),C4 ow bx w d.zero z.cells.toList:=fun ow bx w=>Bh7 _ _ h1.2
    have hl:=(hr (fun _=>.C1) ⟨id,fun _=>false,fun _=>none⟩ default).1
    exact⟨i,z,hi,hz,hs,by simpa using hl.symm,hr⟩
   ·cases h1
  ·cases h1
 ·unfold Bh6 at h2
  cases hd:d.how with
  |scalar=>
   rw[hd] at h2;simp only[Bool.and_eq_true] at h2 ⊢;refine⟨Nat.eq_of_beq_eq_true h2.1,?_⟩;have h2:=h2.2;split at h2
   ·rename_i u hu
    refine⟨u,hu,?_⟩;cases u <;> simp only[Bh4] at h2 <;> (first | cases h2 | skip) <;>
     refine⟨by intros;simp,by intros;simp,fun k e=> ?_,fun e=> ?_,fun e=> ?_⟩ <;> rw[e] at h2 <;> simp at h2 <;> (first | rfl | (subst h2;rfl) | cases h2)
   ·cases h2
  |struct fs=>
   rw[hd] at h2;simp only at h2 ⊢;split at h2
   ·rename_i gs hu
    exact⟨gs,hu,Bh8 _ _ h2⟩
   ·cases h2
  |array n e s=>
   rw[hd] at h2;simp only at h2 ⊢;split at h2
   ·rename_i n' e' hu
    simp only[Bool.and_eq_true] at h2;obtain⟨⟨g1,g2⟩,g3⟩:=h2;have g1:=Nat.eq_of_beq_eq_true g1;have g2:=Nat.eq_of_beq_eq_true g2;subst g1 g2;split at g3
    ·rename_i i hi
     exact⟨hu,i,hi,Nat.eq_of_beq_eq_true g3⟩
    ·cases g3
   ·cases h2
  |slice e s b=>
   rw[hd] at h2;simp only[Bool.and_eq_true] at h2 ⊢;obtain⟨⟨⟨g1,g2⟩,g3⟩,g4⟩:=h2;refine⟨Nat.eq_of_beq_eq_true g1,?_,?_,?_⟩
   ·split at g2
    ·rename_i e' hu
     have:=Nat.eq_of_beq_eq_true g2;subst this;exact hu
    ·cases g2
   ·split at g3
    ·rename_i i hi
     simp only[Bool.and_eq_true] at g3;obtain⟨z,hz⟩:=Option.isSome_iff_exists.1 g3.2;exact⟨i,z,hi,Nat.eq_of_beq_eq_true g3.1.1,Nat.eq_of_beq_eq_true g3.1.2,hz⟩
    ·cases g3
   ·unfold Bh5 at g4
    refine⟨fun e=> ?_,fun k e=> ?_,fun e=> ?_⟩ <;> rw[e] at g4 <;> cases g4
 ·intro t ht ha hp
  rw[ht] at h3;simp only[ha,hp,Bool.and_true,Bool.and_eq_true,Bool.not_eq_true'] at h3;refine⟨h3.2.1,fun ow w x y vx vy hx hy=>Bh9 20 T t h3.2.2 9980 x y vx vy hx hy⟩
 ·intro t ht
  rw[ht] at h3;simp only[Bool.and_eq_true] at h3;refine⟨Nat.eq_of_beq_eq_true h3.1.1,?_⟩;have:t.isAgg=I5 d:=by simpa using h3.1.2
  rw[this];exact Iff.rfl
def Au0 (P:Program):List (Nat×TD)→Bool
 | []=>true
 | (T,d)::r=>tyB P T d&&Au0 P r
theorem AQ0 {P:Program}:∀(l:List (Nat×TD)),Au0 P l=true→∀T d,T5 l T=some d→AC3 P T d
 | [],_,T,d,h=>by cases h
 | (k,d0)::r,h,T,d,hg=>by
  simp only[Au0,Bool.and_eq_true] at h;simp only[T5] at hg;split at hg
  ·rename_i hb
   have:=Nat.eq_of_beq_eq_true hb;subst this;cases hg;exact CX6 h.1
  ·exact AQ0 r h.2 T d hg
end Go.Proofs.YthfjpkdadjemcaaGreat
