/- Code does what the reading says: states, and what is handed on. No program in sight. -/
import Derived.Test.YthfjpkdadjemcaaGreatM3
import Derived.LoopN
import Derived.Scope
set_option linter.unusedSimpArgs false
set_option linter.unusedVariables false
namespace Go.Proofs.YthfjpkdadjemcaaGreat
open _root_.Nat renaming eq_of_beq_eq_true → Ey9, beq → Ez6, zero_add → FA5, beq_refl → FA7, mod_eq_of_lt → FB2, le_refl → FC5, le_of_ble_eq_true → FD3
open _root_.List renaming getElem?_eq_some_iff → Ez0, getElem?_eq_getElem → Ez2, mem_append_right → Ez4, mem_append → Ez5, mem_append_left → Ez7, mem_of_getElem? → Ez8, getElem?_map → Ez9, getElem?_append_left → FA0, getElem?_set_ne → FA2, getElem?_append_right → FA4, length_map → FA8, getElem?_eq_none → FA9, append_assoc → FB0, mem_cons_of_mem → FB1, getElem?_set → FB4, any_eq_false → FB5, getElem?_cons_zero → FB9, getElem?_replicate → FC0, take_of_length_le → FC2, eq_nil_of_length_eq_zero → FC4, length → FC6, mem_cons → FC7, length_cons → FC8, mem_map → FC9, mem_range → FD2, mapM_cons → FD4, range_eq_range' → FD5
open _root_.Bool renaming and_eq_true → Ez1, not_eq_true' → FC1, or_eq_true → FD1
open _root_.Array renaming getElem?_eq_getElem → Ez3, replicate → FA1, getElem?_append_left → FB6, mapM_eq_mapM_toList → FB7, eq_empty_of_size_eq_zero → FC3, getD → FD6
open Go.Sem renaming run_bind → FA3, run_pure → FB8
open Go.Result renaming andThen_ok → FA6
open _root_.Option renaming map_some → FB3, bind_eq_some_iff → FD0
def M8 (B:E5)(σ:St)(a:Act)(w:World):Prop:=
 ∃ow bx,Inv B ow bx σ.boxes.length (A3 σ.boxes) w∧(σ.C1.length=a.tmps.size∧∀t e,σ.C1[t]? = some e→A0 ow bx w e (a.tmps.getD t undef))∧a.defers=[]∧∀k,bx.dead k=false
def Bd4 (dead:List Nat)(up:N9)(B:E5)(σ:St)(a:Act)(w:World):Prop:=
 ∃ow bx,Inv B ow bx σ.boxes.length (A3 σ.boxes) w∧(σ.C1.length=a.tmps.size∧∀t e,σ.C1[t]? = some e→A0 ow bx w e (a.tmps.getD t undef))∧a.defers=[]∧(∀k,bx.dead k=true↔k∈dead)∧∀p∈up,p.1<BIG∧p.1∈dead∧∃v,A0 ow bx w (.fre p.1 p.2.1 p.2.2) v
structure Evo (σ σ':St):Prop where
 C1:σ'.C1.length=σ.C1.length
 boxes:σ.boxes.length≤σ'.boxes.length
 jr:∃j,σ'.jr=j++σ.jr∧(∀t,(0,t)∉j→σ'.C1[t]? = σ.C1[t]?)∧
  (∀b,b<σ.boxes.length→∀cs,A3 σ.boxes b=some cs→∃cs',A3 σ'.boxes b=some cs'∧cs'.length=cs.length∧∀i,(b+1,i)∉j→cs'[i]? = cs[i]?)∧
  (∀b,b<σ.boxes.length→A3 σ.boxes b=none→A3 σ'.boxes b=none)
theorem Evo.refl (σ:St):Evo σ σ:=⟨rfl,FC5 _,[],rfl,fun _ _=>rfl,fun b _ cs h=>⟨cs,h,rfl,fun _ _=>rfl⟩,fun _ _ h=>h⟩
theorem Evo.trans {σ σ' σ'':St}(h:Evo σ σ')(k:Evo σ' σ''):Evo σ σ'':=by
 obtain⟨h1,h2,j,h3,h4,h5,h6⟩:=h;obtain⟨k1,k2,j',k3,k4,k5,k6⟩:=k;refine⟨by rw[k1,h1],by omega,j'++j,by rw[k3,h3,FB0],fun t ht=> ?_,fun b hb cs hcs=> ?_,fun b hb hn=>k6 b (by omega) (h6 b hb hn)⟩
 ·rw[k4 t (fun h=>ht (Ez7 _ h)),h4 t (fun h=>ht (Ez4 _ h))]
 ·obtain⟨cs',g1,g2,g3⟩:=h5 b hb cs hcs
  obtain⟨cs'',q1,q2,q3⟩:=k5 b (by omega) cs' g1
  exact⟨cs'',q1,by rw[q2,g2],fun i hi=>by rw[q3 i (fun h=>hi (Ez7 _ h)),g3 i (fun h=>hi (Ez4 _ h))]⟩
theorem Bd5 (r:Rec)(sl:List EV):(Ar8 r sl).length=sl.length:=by unfold Ar8;split <;> simp
theorem BJ1:∀(rs:List Rec) (sl:List EV),(AQ1 rs sl).length=sl.length
 | [],sl=>rfl
 |r::rs,sl=>by simp only[AQ1];rw[BJ1,Bd5]
theorem Bd6:∀(rs:List Rec) (sl:List EV) (t:Nat),(AQ1 rs sl)[t]? = (match I0 rs t rs.length with
  |some (_,r)=>if t<sl.length then some (BG0 r) else none
  |none=>sl[t]?):=by
 have shift:∀(r:Rec) (rs:List Rec) (t m:Nat),I0 (r::rs) t (m+1)=match I0 rs t m with
   |some (j,x)=>some (j+1,x)
   |none=>match r.dst with
    |some d=>if d=t then some (0,r) else none
    |none=>none:=by
  intro r rs t m
  induction m with
  |zero=>
   simp only[I0,FB9];cases hd:r.dst with
   |none=>rfl
   |some d=>
    simp only;by_cases he:d=t
    ·subst he;simp[FA7]
    ·rw[if_neg he]
     split
     ·rename_i hb;exact absurd (Ey9 hb) he
     ·rfl
  |succ m ih=>
   rw[I0,ih];simp only[List.getElem?_cons_succ,I0];cases hm:rs[m]? with
   |none=>rfl
   |some x=>
    simp only;cases hd:x.dst with
    |none=>rfl
    |some d=>
     simp only;split <;> rfl
 intro rs
 induction rs with
 |nil=>intro sl t;simp[AQ1,I0]
 |cons r rs ih=>
  intro sl t;simp only[AQ1,FC8];rw[ih,shift];cases hl:I0 rs t rs.length with
  |some p=>
   obtain⟨j,x⟩:=p;simp only;rw[Bd5]
  |none=>
   simp only;unfold Ar8;cases hd:r.dst with
   |none=>rfl
   |some d=>
    simp only;by_cases he:d=t
    ·subst he
     rw[if_pos rfl];simp only;rw[FB4];simp only[if_true]
    ·rw[if_neg he]
     simp only;rw[FA2 he]
theorem Bd7:∀(rs:List Rec) (t:Nat),(0,t)∉AQ2 rs→∀k,F1 rs k≠some t
 | [],t,_,k=>by simp[F1]
 |r::rs,t,h,k=>by
  simp only[AQ2] at h;cases k with
  |zero=>
   unfold F1;simp only[FB9];intro hd;rw[hd] at h;simp at h
  |succ k=>
   have:(0,t)∉AQ2 rs:=by
    cases hd:r.dst with
    |none=>rw [hd] at h;exact h
    |some d=>rw [hd] at h;exact fun hm=>h (FB1 _ hm)
   have:=Bd7 rs t this k;unfold F1 at this ⊢;simpa using this
theorem Bd8 {bx:List (Option (List EV))}{x:Wr}{cs0:List EV}(hx:A3 bx x.b=some cs0)(hle:x.off+x.new.length≤cs0.length)(b:Nat)(cs:List EV)(h:A3 bx b=some cs):
  ∃cs',A3 (K9 bx x) b=some cs'∧cs'.length=cs.length∧∀i,(b+1,i)∉jrW bx x→cs'[i]? = cs[i]? := by
 unfold K9;rw[hx];simp only;by_cases hb:b=x.b
 ·subst hb
  have hcc:cs=cs0:=by rw[hx] at h;cases h;rfl
  subst hcc;have hlt:=(Ez0.1 (O3.1 hx)).1;refine⟨M1 cs x.off x.new,O3.2 (by simp[hlt]),by simp only[M1,List.length_append,List.length_take,List.length_drop];omega,fun i hi=> ?_⟩
  unfold M1;by_cases hsame:(x.off≤i∧i<x.off+x.new.length)
  ·have hs:Ar4 cs[i]? x.new[i-x.off]? = true:=by
    cases hsp:Ar4 cs[i]? x.new[i-x.off]? with
    |true=>rfl
    |false=>
     exfalso;apply hi;unfold jrW;rw[hx];simp only;rw[List.mem_filter];refine⟨?_,by simp only[hsp,Bool.not_false]⟩
     unfold BE2;rw[FC9];exact⟨i-x.off,FD2.2 (by omega),by rw[show x.off+(i-x.off)=i by omega]⟩
   rw[FB0,FA4 (by simp;omega),FA0 (by simp;omega)]
   have e:i-(cs.take x.off).length=i-x.off:=by simp;omega
   rw[e];unfold Ar4 at hs;split at hs
   ·rename_i b o b' o' e1 e2
    rw[e1,e2];rw[Ez1] at hs;rw[Ey9 hs.1,Ey9 hs.2]
   ·cases hs
  have hnot:=hsame;by_cases h1:i<x.off
  ·rw[FB0,FA0 (by simp;omega),List.getElem?_take,if_pos h1]
  ·rw[FA4 (by simp;omega),List.getElem?_drop]
   congr 1;simp
   omega
 ·refine⟨cs,?_,rfl,fun _ _=>rfl⟩
  unfold A3 at h ⊢;rw[FA2 (fun e=>hb e.symm)]
  exact h
theorem Bd9:∀(ws:List Wr) (bx:List (Option (List EV))) (j0:List Pl),(∀x∈ws,∃cs,A3 bx x.b=some cs∧x.off+x.new.length≤cs.length)→∃j,Ar5 bx ws j0=j++j0∧
  ∀b cs,A3 bx b=some cs→∃cs',A3 (ws.foldl K9 bx) b=some cs'∧cs'.length=cs.length∧∀i,(b+1,i)∉j→cs'[i]? = cs[i]?
 | [],bx,j0,_=>⟨[],rfl,fun b cs h=>⟨cs,h,rfl,fun _ _=>rfl⟩⟩
 |x::ws,bx,j0,h=>by
  obtain⟨cs0,hx,hle⟩:=h x (by simp)
  obtain⟨j,hj,hb⟩:=Bd9 ws (K9 bx x) (jrW bx x++j0) (fun y hy=>by
   obtain⟨cs,h1,h2⟩:=h y (by simp[hy])
   obtain⟨cs',g1,g2,_⟩:=Bd8 hx hle y.b cs h1;exact⟨cs',g1,by omega⟩)
  refine⟨j++jrW bx x,by simp only[Ar5];rw[hj,FB0],fun b cs hcs=> ?_⟩
  obtain⟨cs',g1,g2,g3⟩:=Bd8 hx hle b cs hcs;obtain⟨cs'',k1,k2,k3⟩:=hb b cs' g1;exact⟨cs'',k1,by omega,fun i hi=>by rw[k3 i (fun hm=>hi (Ez7 _ hm)),g3 i (fun hm=>hi (Ez4 _ hm))]⟩
theorem Be0:∀(ws:List Wr) (bx:List (Option (List EV))) (b:Nat),A3 bx b=none→A3 (ws.foldl K9 bx) b=none
 | [],bx,b,h=>h
 |x::ws,bx,b,h=>by
  simp only[List.foldl_cons];refine Be0 ws _ b ?_;unfold K9;split
  ·rename_i cs hx
   have hne:x.b≠b:=fun e=>by rw[e,h] at hx;cases hx
   unfold A3 at h ⊢;rw[FA2 hne];exact h
  ·exact h
theorem CY3:∀(ws:List Wr) (bx:List (Option (List EV))),(ws.foldl K9 bx).length=bx.length:=by
 intro ws
 induction ws with
 |nil=>intro bx;rfl
 |cons x r ih=>intro bx;simp only[List.foldl_cons];rw[ih];unfold K9;split <;> simp
section
variable {P:Program}{base:List EV}
theorem D6.evo:∀{l:List Oper} {s:Rg} {ts:List TI} {s':Rg},D6 P base l s ts s'→s.bx.length≤s'.bx.length∧∃j,s'.jr=j++s.jr∧
  (∀b,b<s.bx.length→∀cs,A3 s.bx b=some cs→∃cs',A3 s'.bx b=some cs'∧cs'.length=cs.length∧∀i,(b+1,i)∉j→cs'[i]? = cs[i]?)∧
  (∀b,b<s.bx.length→A3 s.bx b=none→A3 s'.bx b=none)
 | [],s,[],s',h=>by cases h;exact⟨FC5 _,[],rfl,fun b _ cs h=>⟨cs,h,rfl,fun _ _=>rfl⟩,fun _ _ h=>h⟩
 |o::os,s,t::ts,s',h=>by
  obtain⟨h1,h2,h3⟩:=h;subst h1;obtain⟨g0,j,g1,g2,g3⟩:=D6.evo h3;have hn:=Bc5 t o;obtain⟨j',k1,k2⟩:=Bd9 t.ws t.s.bx t.s.jr (fun x hx=>(h2.wr x hx).2)
  have hnb:∀b,b<t.s.bx.length→A3 (t.next o).bx b=A3 (t.ws.foldl K9 t.s.bx) b:=by
   intro b hb;unfold TI.next Rg.next AX7;cases t.n with
   |none=>rfl
   |some cs=>
    simp only;unfold A3;rw[FA0 (by rw[CY3];exact hb)]
  refine⟨by omega,j++j',?_,fun b hb cs hcs=> ?_,fun b hb hnone=> ?_⟩
  ·rw[g1]
   unfold TI.next Rg.next;simp only;rw[k1,FB0]
  ·obtain⟨cs',q1,q2,q3⟩:=k2 b cs hcs
   obtain⟨cs'',r1,r2,r3⟩:=g2 b (by omega) cs' (by rw[hnb b hb];exact q1)
   exact⟨cs'',r1,by omega,fun i hi=>by rw[r3 i (fun hm=>hi (Ez7 _ hm)),q3 i (fun hm=>hi (Ez4 _ hm))]⟩
  ·refine g3 b (by omega) ?_
   rw[hnb b hb];exact Be0 _ _ b hnone
end
section
variable {P:Program}{B:E5}{σ:St}{ops:Array Oper}{ts:List TI}{s':Rg}
theorem CY4 (hL:D6 P σ.C1 ops.toList ⟨[],σ.boxes,σ.jr,[],[],[]⟩ ts s'):Evo σ (s'.AB8 σ):=by
 obtain⟨g0,j,g1,g2,g3⟩:=hL.evo;refine⟨BJ1 _ _,g0,AQ2 s'.rs++j,by simp only[Rg.AB8];rw[g1,FB0],fun t ht=> ?_,fun b hb cs hcs=> ?_,g3⟩
 ·simp only[Rg.AB8]
  rw[Bd6];have hno:=Bd7 s'.rs t (fun h=>ht (Ez7 _ h))
  cases hl:I0 s'.rs t s'.rs.length with
  |none=>rfl
  |some p=>
   obtain⟨m,r⟩:=p;obtain⟨k1,k2,k3,_⟩:=(Ai2 s'.rs t s'.rs.length).1 m r hl;exact absurd (by unfold F1;rw[k2];exact k3) (hno m)
 ·obtain⟨cs',q1,q2,q3⟩:=g2 b hb cs hcs
  exact⟨cs',q1,q2,fun i hi=>q3 i (fun h=>hi (Ez4 _ h))⟩
theorem CY5 (hL:D6 P σ.C1 ops.toList ⟨[],σ.boxes,σ.jr,[],[],[]⟩ ts s'){a:Act}{w:World}(hst:StD B σ.C1 ts s' (A3 σ.boxes) (fun k=>decide (k<ts.length)) a w):Bd4 s'.dead s'.upd B (s'.AB8 σ) a w:=by
 obtain⟨ow,bx,h1,h2,h3,h4,h5,h6⟩:=hst;have hlen:=hL.length;have hrl:s'.rs.length=ts.length:=by
  have:∀{l:List Oper} {s:Rg} {ts:List TI} {s':Rg},D6 P σ.C1 l s ts s'→s'.rs.length=s.rs.length+ts.length:=by
   intro l
   induction l with
   |nil=>intro s ts s' h;cases ts with
    |nil=>cases h;rfl
    |cons t ts=>exact absurd h id
   |cons o os ih=>intro s ts s' h;cases ts with
    |nil=>exact absurd h id
    |cons t ts=>
     obtain⟨q1,q2,q3⟩:=h;rw[ih q3];unfold TI.next Rg.next;simp[q1];omega
  have:=this hL;simpa using this
 have hdead:∀k,bx.dead k=true↔k∈s'.dead:=by
  intro k;rw[h5 k];constructor
  ·rintro⟨i,t,q1,_,q3⟩
   exact hL.Aa2.2.2.2 i t q1 k q3
  ·intro hk
   rcases hL.Aa2.2.2.1 k hk with h |⟨i,t,q1,q2⟩
   ·simp at h
   ·exact⟨i,t,q1,decide_eq_true (Ez0.1 q1).1,q2⟩
 have hupd:∀{l:List Oper} {s:Rg} {ts:List TI} {s':Rg},D6 P σ.C1 l s ts s'→∀p∈s'.upd,p∈s.upd∨∃(i:Nat) (t:TI),ts[i]? = some t∧p∈t.up∧p.1∈t.k∧p.1<BIG:=by
  intro l
  induction l with
  |nil=>intro s ts s' h p hp;cases ts with
   |nil=>cases h;exact .inl hp
   |cons t ts=>exact absurd h id
  |cons o os ih=>intro s ts s' h p hp;cases ts with
   |nil=>exact absurd h id
   |cons t ts=>
    obtain⟨q1,q2,q3⟩:=h;rcases ih q3 p hp with h |⟨i,u,h1,h2⟩
    ·unfold TI.next Rg.next at h
     rcases Ez5.1 h with h | h
     ·exact .inr ⟨0,t,rfl,h,(q2.upk p h).1,(q2.upk p h).2⟩
     ·rw[q1] at h;exact .inl h
    ·exact .inr ⟨i+1,u,by simpa using h1,h2⟩
 have hwit:∀p∈s'.upd,p.1<BIG∧p.1∈s'.dead∧∃v,A0 ow bx w (.fre p.1 p.2.1 p.2.2) v:=by
  intro p hp;rcases hupd hL p hp with h |⟨i,t,q1,q2,q3,q5⟩
  ·simp at h
  ·exact⟨q5,hL.Aa2.2.2.2 i t q1 _ q3,h6 i t q1 (decide_eq_true (Ez0.1 q1).1) p q2⟩
 refine⟨ow,bx,?_,⟨by simp only[Rg.AB8];rw[BJ1];exact h3.symm,fun t e he=> ?_⟩,h4,hdead,hwit⟩
 ·have:A3 (s'.AB8 σ).boxes=fun b=>foldI (fun k=>decide (k<ts.length)) ts 0 b (A3 σ.boxes b):=by
   funext b;simp only[Rg.AB8];rw[hL.boxes 0 b];refine Ai1 ts 0 _ fun j t ht _=> ?_
   have:=(Ez0.1 ht).1;rw[FA5];exact (decide_eq_true this).symm
  simp only[Rg.AB8] at this ⊢;rw[this];exact h1
 ·simp only[Rg.AB8] at he
  rw[Bd6] at he;obtain⟨sp1,sp2⟩:=Ai2 s'.rs t s'.rs.length;cases hl:I0 s'.rs t s'.rs.length with
  |none=>
   rw[hl] at he;simp only at he;have hlt:t<σ.C1.length:=(Ez0.1 he).1;rcases h2 t hlt with⟨m,r,⟨q1,q2,q3,q4⟩,_⟩|⟨_,q2⟩
   ·exact absurd q3 (sp2 hl m (by omega))
   ·exact q2 e he
  |some p=>
   obtain⟨m,r⟩:=p;rw[hl] at he;simp only at he;split at he
   ·rename_i hlt
    obtain⟨k1,k2,k3,k4⟩:=sp1 m r hl;have hdm:F1 s'.rs m=some t:=by unfold F1;rw[k2];exact k3
    rcases h2 t hlt with⟨m',r',⟨q1,q2,q3,q4⟩,q5,q6,_⟩|⟨q1,_⟩
    ·have:m'=m:=by
      apply Classical.byContradiction;intro hn;by_cases hlt2:m'<m
      ·exact q4 m hlt2 (by omega) (decide_eq_true (by omega)) hdm
      ·exact k4 m' (by omega) (by omega) q3
     subst this;rw[k2] at q5;cases q5;cases he;unfold BG0;split
     ·rename_i hch
      exact q6 (by rw[hch];simp[guardOf])
     ·exact .undef _
    ·exact absurd hdm (q1 m (by omega) (decide_eq_true (by omega)))
   ·cases he
theorem AA2 (f:List EV→List EV)(l:List (Option (List EV)))(b:Nat):A3 (l.map (Option.map f)) b=(A3 l b).map f:=by
 unfold A3;rw[Ez9];cases l[b]? with
 |none=>rfl
 |some x=>cases x <;> rfl
theorem BJ2 {dead:List Nat}{up:N9}{b:Nat}:∀(es:List EV) (i0 i:Nat) (e:EV),es[i]? = some e→steady dead up e=false→(b,i0+i)∈AQ3 dead up b es i0
 | [],i0,i,e,h,_=>by simp at h
 |x::es,i0,i,e,h,hs=>by
  cases i with
  |zero=>
   simp at h;subst h;simp only[AQ3,hs];simp
  |succ i=>
   have:=BJ2 (b:=b) es (i0+1) i e (by simpa using h) hs
   rw[show i0+1+i=i0+(i+1) by omega] at this
   simp only[AQ3];split
   ·exact this
   ·exact FB1 _ this
theorem Be1 {dead:List Nat}{up:N9}:∀(l:List (Option (List EV))) (b0 b:Nat) (cs:List EV) (i:Nat) (e:EV),A3 l b=some cs→cs[i]? = some e→steady dead up e=false→(b0+b+1,i)∈AQ4 dead up l b0
 | [],b0,b,cs,i,e,h,_,_=>by simp[A3] at h
 |x::l,b0,b,cs,i,e,h,hi,hs=>by
  cases b with
  |zero=>
   rw[O3] at h;simp at h;subst h;simp only[AQ4,Ez5]
   left
   have:=BJ2 (b:=b0+1) cs 0 i e hi hs;simpa using this
  |succ b=>
   have:=Be1 l (b0+1) b cs i e (by rw[O3] at h ⊢;simpa using h) hi hs
   rw[show b0+1+b+1=b0+(b+1)+1 by omega] at this
   cases x with
   |none=>simpa only[AQ4] using this
   |some cs'=>simp only[AQ4,Ez5];exact .inr this
theorem Be2 {dead:List Nat}{up:N9}{e:EV}(h:steady dead up e=true):settle dead up e=e:=by
 cases e with
 |own k t l=>
  simp only[steady,Ez1,FC1] at h;have hk:k<BIG:=by have:=FD3 h.1.2;omega
  have hu:AE1 up k=none:=by
   have h2:=h.2;rw[FB2 hk] at h2;cases hg:AE1 up k with
   |none=>rfl
   |some x=>rw [hg] at h2;cases h2
  simp only[settle,h.1.1,FB2 hk,hu]
 |_=>
  simp only[steady,FC1] at h;simp only[settle,h]
theorem CY6 (dead:List Nat)(up:N9)(τ:St):Evo τ (U9 dead up τ):=by
 cases dead with
 |nil=>exact Evo.refl τ
 |cons d ds=>
  refine⟨by simp[U9],by simp[U9],_,rfl,fun t ht=> ?_,fun b hb cs hcs=> ?_,fun b hb hn=> ?_⟩
  ·simp only[U9,Ez9]
   cases he:τ.C1[t]? with
   |none=>rfl
   |some e=>
    simp only[FB3];cases hs:steady (d::ds) up e with
    |true=>rw [Be2 hs]
    |false=>
     exfalso;apply ht;have:=BJ2 (b:=0) τ.C1 0 t e he hs;rw[FA5] at this;exact Ez7 _ this
  ·refine⟨cs.map (settle (d::ds) up),by simp only[U9];rw[AA2,hcs];rfl,by simp,fun i hi=> ?_⟩
   rw[Ez9];cases he:cs[i]? with
   |none=>rfl
   |some e=>
    simp only[FB3];cases hs:steady (d::ds) up e with
    |true=>rw [Be2 hs]
    |false=>
     exfalso;apply hi;have:=Be1 τ.boxes 0 b cs i e hcs he hs;rw[FA5] at this;exact Ez4 _ this
  ·simp only[U9];rw[AA2,hn];rfl
def S3 (ow:Nat→A1):Nat→A1:=fun blk=>match ow blk with
 | .tok k fr=>.tok (k % BIG) fr
 |o=>o
theorem CY7 {ow:Nat→A1}{blk n:Nat}(h:A5 ow blk n):A5 (S3 ow) blk n:=by
 rcases L4 h with h |⟨k,fr,h,hn⟩|⟨fr,h,hn⟩
 ·exact L3 (by simp[S3,h])
 ·exact u7 (k:=k % BIG) (fr:=fr) (by simp[S3,h]) hn
 ·exact X0 (by simp[S3,h]) hn
theorem BJ3 {ow:Nat→A1}{blk b:Nat}:S3 ow blk = .box b↔ow blk = .box b:=by
 unfold S3;split
 ·rename_i k fr h;rw[h];simp
 ·exact Iff.rfl
theorem Aa3 (ow:Nat→A1)(w:World):E9 ow w (S3 ow) w:=.of fun _ _ h=>⟨CY7 h,rfl⟩
theorem BJ4 {ow ow':Nat→A1}{bx bx':Bx}{w:World}(hst:E9 ow w ow' w)(hbo:∀b,ow (bx b) = .box b→bx' b=bx b∧ow' (bx b) = .box b):∀(n:Nat) (e:EV) (v:Value),H9 n e=false→A0 ow bx w e v→A0 ow' bx' w e v:=by
 intro n
 induction n with
 |zero=>intro e v h;simp[H9] at h
 |succ n ih=>
  intro e v h hv;cases hv with
  |own=>simp [H9] at h
  |elo=>simp [H9] at h
  |fre=>simp [H9] at h
  |undef=>exact .undef _
  |dat hq=>exact .dat (hq.keep hst)
  |nil=>exact .nil
  |ptr hq=>
   obtain⟨h1,h2⟩:=hbo _ hq;rw[← h1];exact .ptr (by rw[h1];exact h2)
  |pix hq h0 hn=>
   obtain⟨h1,h2⟩:=hbo _ hq;rw[← h1];exact .pix (by rw[h1];exact h2) h0 hn
  |elt h0 h1 hs hb hc=>
   obtain⟨g1,c',fz',g2,g3⟩:=hst _ _ _ _ _ hs hb;rw[hb] at g2;cases g2;exact .elt h0 h1 g1 hb fun j x hx=>Rep.keep hst _ _ _ (hc j x hx)
  |elx h0 h1 hs hb hc m0 m1=>
   obtain⟨g1,c',fz',g2,g3⟩:=hst _ _ _ _ _ hs hb;rw[hb] at g2;cases g2;exact .elx h0 h1 g1 hb (fun j x hx=>Rep.keep hst _ _ _ (hc j x hx)) m0 m1
  |clo h1 h2 h3 h4=>
   simp only[H9,Bool.or_eq_false_iff,FB5] at h;exact .clo h1 h2 (fun i e v he hv=>ih e v (by simpa using h.1 e (Ez8 he)) (h3 i e v he hv)) (fun i e v he hv=>ih e v (by simpa using h.2 e (Ez8 he)) (h4 i e v he hv))
  |sl h0 h1 hs hb h2 h3=>
   simp only[H9,FB5] at h;obtain⟨g1,_⟩:=hst _ _ _ _ _ hs hb;exact .sl h0 h1 g1 hb (fun i e v he hv=>ih e v (by simpa using h e (Ez8 he)) (h2 i e v he hv)) h3
  |cp hs hb hv h1 hq=>
   simp only[H9] at h;obtain⟨g1,_⟩:=hst _ _ _ _ _ hs hb;exact .cp g1 hb hv h1 (ih _ _ h hq)
  |rp h1 hs hb h2 h3=>
   simp only[H9,FB5] at h;obtain⟨g1,_⟩:=hst _ _ _ _ _ hs hb;exact .rp h1 g1 hb (fun i e v he hv=>ih e v (by simpa using h e (Ez8 he)) (h2 i e v he hv)) h3
  |tup h1 h2=>
   simp only[H9,FB5] at h;exact .tup h1 (fun i e v he hv=>ih e v (by simpa using h e (Ez8 he)) (h2 i e v he hv))
  |row h1 h2 h3=>
   simp only[H9,FB5] at h;exact .row h1 (fun i e v he hv=>ih e v (by simpa using h e (Ez8 he)) (h2 i e v he hv)) h3
theorem BJ5 {k:Nat}{l:List Nat}:E8 k l=true↔k∈l:=by unfold E8;rw[List.any_eq_true];exact⟨fun ⟨x,h1,h2⟩=>by rw[Ey9 h2];exact h1,fun h=>⟨k,h,FA7 k⟩⟩
def tbS (dead:List Nat)(up:N9)(tb:Nat→Option (Nat×(Nat×Nat))):Nat→Option (Nat×(Nat×Nat)):=fun j=>if j<BIG then (match E8 j dead,AE1 up j with
 |true,none=>tb (j+BIG)
 |_,_=>tb j) else none
theorem Be3:∀(l:N9) (k:Nat) (d:(t:Ty)×List t.den),AE1 l k=some d→(k,d)∈l
 | [],_,_,h=>by cases h
 | (j,x)::r,k,d,h=>by
  simp only[AE1] at h;split at h
  ·rename_i hj
   cases h;have:=Ey9 hj;subst this;simp
  ·exact FB1 _ (Be3 r k d h)
theorem Be4 {dead:List Nat}{up:N9}{ow:Nat→A1}{bx:Bx}{w:World}{e:EV}{v:Value}(hd:∀k,bx.dead k=true↔k∈dead)(hborn:∀j,(bx.tb j).isSome=true→j<BIG∨(bx.dead (j-BIG)=true∧j<2*BIG))
  (hup:∀p∈up,p.1<BIG∧p.1∈dead∧∃v,A0 ow bx w (.fre p.1 p.2.1 p.2.2) v) (h:A0 ow bx w e v):A0 (S3 ow) ⟨bx.f,fun _=>false,tbS dead up bx.tb⟩ w (settle dead up e) v:=by
 have gen:∀e,A0 ow bx w e v→settle dead up e=(match H9 20 e with | true=>.undef | false=>e)→A0 (S3 ow) ⟨bx.f,fun _=>false,tbS dead up bx.tb⟩ w (settle dead up e) v:=by
  intro e h hs;rw[hs];cases hb:H9 20 e with
  |true=>exact .undef _
  |false=>exact BJ4 (bx:=bx) (bx':=⟨bx.f,fun _=>false,tbS dead up bx.tb⟩) (Aa3 ow w) (fun b h=>⟨rfl,BJ3.2 h⟩) 20 e v hb h
 have hsk:∀k,soft (k % BIG)=soft k:=fun k=>by unfold soft;rw[show k % BIG % 100000=k % 100000 by unfold BIG;omega]
 have hfk:∀k n,H6 (k % BIG) n=H6 k n:=fun k n=>by unfold H6;rw[hsk]
 have hfm:∀k,K4 (k % BIG)=K4 k:=fun k=>by unfold K4;rw[show k % BIG % 100000=k % 100000 by unfold BIG;omega]
 cases e with
 |own k t l=>
  cases h with
  |own h h' hh=>
   simp only[settle];cases hk:E8 k dead with
   |true=>
    simp only;split
    ·rename_i hsf
     split
     ·rename_i d hu
      obtain⟨hkB,q2,v',q3⟩:=hup _ (Be3 _ _ _ hu);simp only at q3 hkB;cases q3 with
      |fre _ hb hdk hc hn=>
       rename_i blk cap0;have htb:tbS dead up bx.tb k=some (blk,d.2.length,cap0):=by unfold tbS;rw[if_pos hkB,hk,hu];exact hb
       rcases hh hsf with⟨hf,hv0,hl0⟩|⟨blk',cap,p1,p2,p3,p4⟩
       ·rw[hf]
        simp only;have hne:Ez6 l.length d.2.length=false:=by
         cases hq:Ez6 l.length d.2.length with
         |false=>rfl
         |true=>
          have:=Ey9 hq;rcases hn with hn | hn
          ·rw[hf] at hn;cases hn
          ·exact absurd (List.length_eq_zero_iff.1 (by omega)) hn
        rw[hne];exact .own (fun hs=>(by rw[hsf] at hs;cases hs)) (fun _=>.inl ⟨hv0,rfl⟩) fun _=>.inl ⟨hf,hv0,rfl⟩
       ·rw[hb] at p1
        simp only[Option.some.injEq,Prod.mk.injEq] at p1;obtain⟨rfl,hln,rfl⟩:=p1;subst p2
        suffices hX:A0 (S3 ow) ⟨bx.f,fun _=>false,tbS dead up bx.tb⟩ w (.own k d.1 d.2) (.slice (some ⟨blk,0,none⟩) l.length cap0) by
         have hbq:Ez6 l.length d.2.length=true:=by rw[← hln];exact FA7 _
         cases hfk:K4 k with
         |true=>exact hX
         |false=>
          simp only;rw[hbq];exact hX
        obtain⟨c1,c,fz,c2,c3,⟨c4,c4'⟩,c5⟩:=hc;refine .own (fun hs=>(by rw[hsf] at hs;cases hs)) (fun _=>.inr ⟨blk,cap0,c,fz,by rw[hln],?_,c2,c3,c4,c4',fun _=>⟨by omega,fun i x hx=>Rep.keep (Aa3 ow w) _ _ _ (c5 i x hx)⟩⟩) fun _=>.inr ⟨blk,cap0,htb,by rw[hln],by omega,by omega⟩
        simp[S3,c1,H6,hsf,FB2 hkB]
     ·exact .undef _
    ·rename_i hsf;exact .dat ((h hsf).keep (Aa3 ow w))
   |false=>
    simp only;split
    ·exact .undef _
    ·rename_i hu
     have hdk:bx.dead k=false:=by
      cases hb:bx.dead k with
      |false=>rfl
      |true=>rw [BJ5.2 ((hd k).1 hb)] at hk;cases hk
     refine .own (fun hs=>(h (by rw[← hsk k];exact hs)).keep (Aa3 ow w)) (fun _=> ?_) fun hs=> ?_
     ·rcases h' hdk with⟨h1,h2⟩|⟨blk,cap,c,fz,h1,h2,h3,h3',h4,h5,h6⟩
      ·exact .inl ⟨h1,h2⟩
      ·refine .inr ⟨blk,cap,c,fz,h1,by simp[S3,h2,hfk],?_,h3',h4,h5,fun hs=>⟨(h6 (by rw[← hsk k];exact hs)).1,fun i x hx=>Rep.keep (Aa3 ow w) _ _ _ ((h6 (by rw[← hsk k];exact hs)).2 i x hx)⟩⟩
       rw[h3,show k % BIG % 25000=k % 25000 by unfold BIG;omega]
     ·rcases hh (by rw[← hsk k];exact hs) with⟨q1,q2⟩|⟨blk,cap,q1,q2⟩
      ·exact .inl ⟨by rw[hfm];exact q1,q2⟩
      ·refine .inr ⟨blk,cap,?_,q2⟩
       have hlt:k % BIG<BIG:=Nat.mod_lt _ (by unfold BIG;decide)
       simp only[tbS,if_pos hlt,hu];rcases hborn k (by rw[q1];rfl) with hkB |⟨b1,b2⟩
       ·rw[FB2 hkB,hk]
        exact q1
       ·by_cases hkB:k<BIG
        ·rw[FB2 hkB,hk]
         exact q1
        ·have hm:k % BIG=k-BIG:=by
          rw[Nat.mod_eq_sub_mod (Nat.le_of_not_lt hkB)];exact FB2 (by omega)
         rw[hm,BJ5.2 ((hd _).1 b1),show k-BIG+BIG=k by omega]
         exact q1
 |_=>exact gen _ h rfl
theorem CY8 {dead:List Nat}{up:N9}{B:E5}{τ:St}{a:Act}{w:World}(h:Bd4 dead up B τ a w):M8 B (U9 dead up τ) a w:=by
 obtain⟨ow,bx,h1,⟨h2,h3⟩,h4,h5,h6⟩:=h;cases dead with
 |nil=>
  refine⟨ow,bx,h1,⟨h2,h3⟩,h4,fun k=> ?_⟩
  cases hb:bx.dead k with
  |false=>rfl
  |true=>have:=(h5 k).1 hb;simp at this
 |cons d ds=>
  refine⟨S3 ow,⟨bx.f,fun _=>false,tbS (d::ds) up bx.tb⟩,?_,⟨by simp only[U9,FA8];exact h2,fun t e he=> ?_⟩,h4,fun _=>rfl⟩
  ·constructor
   ·intro b cs hb
    simp only[U9] at hb;rw[AA2] at hb;cases hg:A3 τ.boxes b with
    |none=>rw [hg] at hb;cases hb
    |some cs0=>
     rw[hg] at hb;cases hb;obtain⟨g1,c,T,g2,g3⟩:=h1.box b cs0 hg;refine⟨BJ3.2 g1,c,T,g2,by simpa using g3.1,fun i e v he hv=> ?_⟩
     rw[Ez9] at he;cases hc:cs0[i]? with
     |none=>rw [hc] at he;cases he
     |some e0=>
      rw[hc] at he;cases he;exact⟨Be4 h5 h1.born h6 (g3.2 i e0 v hc hv).1,(g3.2 i e0 v hc hv).2⟩
   ·intro blk b hb
    obtain⟨g1,g2,g3⟩:=h1.back blk b (BJ3.1 hb);refine⟨g1,?_,by simp only[U9,FA8];exact g3⟩
    simp only[U9];rw[AA2];cases hg:A3 τ.boxes b with
    |none=>rw [hg] at g2;cases g2
    |some cs0=>rfl
   ·intro blk hb
    refine h1.here blk fun e=>hb ?_
    simp[S3,e]
   ·intro blk hb hm
    obtain⟨g1,g2,g3,g4⟩:=h1.old blk hb hm;have hr:S3 ow blk=ow blk:=by
     unfold S3;split
     ·rename_i k fr h;exact absurd h (g4 k fr)
     ·rfl
    exact⟨g1,by rw[hr];exact g2,by rw[hr];exact⟨g3,g4⟩⟩
   ·exact h1.size
   ·exact h1.env
   ·intro b hb
    obtain⟨g1,g2⟩:=h1.kept b hb;refine⟨g1,?_⟩;simp only[U9];rw[AA2];cases hg:A3 τ.boxes b with
    |none=>rw [hg] at g2;cases g2
    |some cs0=>rfl
   ·exact h1.st.trans (Aa3 ow w)
   ·intro j hj
    left
    simp only[tbS] at hj;split at hj
    ·assumption
    ·cases hj
  ·simp only[U9] at he
   rw[Ez9] at he;cases hc:τ.C1[t]? with
   |none=>rw [hc] at he;cases he
   |some e0=>
    rw[hc] at he;cases he;exact Be4 h5 h1.born h6 (h3 t e0 hc)
theorem Av0 (hL:D6 P σ.C1 ops.toList ⟨[],σ.boxes,σ.jr,[],[],[]⟩ ts s'):Evo σ (s'.out σ):=(CY4 hL).trans (CY6 _ _ _)
theorem Av1 (hL:D6 P σ.C1 ops.toList ⟨[],σ.boxes,σ.jr,[],[],[]⟩ ts s'){a:Act}{w:World}(hst:StD B σ.C1 ts s' (A3 σ.boxes) (fun k=>decide (k<ts.length)) a w):M8 B (s'.out σ) a w:=CY8 (CY5 hL hst)
theorem Av2 {a:Act}{w:World}(hL:D6 P σ.C1 ops.toList ⟨[],σ.boxes,σ.jr,[],[],[]⟩ ts s')(h:M8 B σ a w)(w':World)(hw:w'.heap=w.heap∧w'.tape=w.tape∧w'.os=w.os∧w'.output=w.output)(D:Nat→Bool)(hD:∀k,k<ts.length→D k=false):
  StD B σ.C1 ts s' (A3 σ.boxes) D a w':=by
 obtain⟨ow,bx,h1,⟨h2,h3⟩,h4,h5⟩:=h;have hk:E0 ow bx w ow bx w':=⟨.of fun _ _ h=>⟨h,by rw[hw.1]⟩,fun _ _ _ h _=>⟨h,by rw[hw.1]⟩,fun _ h=>h,fun _ h=>⟨rfl,h⟩,fun _ _ h=>h⟩
 refine⟨ow,bx,?_,fun u hu=>.inr ⟨fun k k1 k2=>(by rw[hD k k1] at k2;cases k2),fun e he=>(h3 u e he).keep hk⟩,h2.symm,h4,fun j=>⟨fun hb=>(by rw[h5] at hb;cases hb),fun ⟨i,t,q1,q2,_⟩=>(by rw[hD i (Ez0.1 q1).1] at q2;cases q2)⟩,fun i t q1 q2=>(by rw[hD i (Ez0.1 q1).1] at q2;cases q2)⟩
 have:(fun b=>foldI D ts 0 b (A3 σ.boxes b))=A3 σ.boxes:=by funext b;exact Au8 ts 0 _ fun j t ht hd=>by rw[FA5,hD j (Ez0.1 ht).1] at hd;cases hd
 rw[this];have hle:σ.boxes.length≤s'.bx.length:=hL.evo.1;constructor
 ·intro b cs hb
  obtain⟨q1,c,T,q2,q3⟩:=h1.box b cs hb;exact⟨q1,c,T,by rw[hw.1];exact q2,q3.keep hk⟩
 ·intro blk b hb
  obtain⟨q1,q2,q3⟩:=h1.back blk b hb;exact⟨q1,q2,by omega⟩
 ·intro blk hb;rw[hw.1];exact h1.here blk hb
 ·intro blk hb hm;rw[hw.1];exact h1.old blk hb hm
 ·rw[hw.1];exact h1.size
 ·obtain⟨e1,e2,e3⟩:=h1.env
  exact⟨by rw[hw.2.1];exact e1,by rw[hw.2.2.1];exact e2,by rw[hw.2.2.2];exact e3⟩
 ·exact h1.kept
 ·exact h1.st.trans hk.st
 ·exact h1.born
end

def Q0 (n:Nat)(ow:Nat→A1):Nat→A1:=fun blk=>match ow blk with
 | .box b=>if b<n then .box b else .B8
 |x=>x
theorem Aa4 {n m:Nat}{ow:Nat→A1}{blk:Nat}(h:A5 ow blk m):A5 (Q0 n ow) blk m:=by
 rcases L4 h with h |⟨k,fr,h,hn⟩|⟨fr,h,hn⟩
 ·exact L3 (by simp[Q0,h])
 ·exact u7 (k:=k) (fr:=fr) (by simp[Q0,h]) hn
 ·exact X0 (by simp[Q0,h]) hn
theorem AA3 (n:Nat)(ow:Nat→A1)(w:World):E9 ow w (Q0 n ow) w:=.of fun _ _ h=>⟨Aa4 h,rfl⟩
theorem Av3 {n k fr:Nat}{ow:Nat→A1}{blk:Nat}(h:ow blk = .tok k fr):Q0 n ow blk = .tok k fr:=by simp[Q0,h]
theorem Aa5 {n b:Nat}{ow:Nat→A1}{blk:Nat}:Q0 n ow blk = .box b↔ow blk = .box b∧b<n:=by
 unfold Q0;cases h:ow blk with
 |box b'=>
  simp only;split
  ·rename_i hlt
   constructor
   ·intro h;cases h;exact⟨rfl,hlt⟩
   ·rintro⟨h,_⟩;exact h
  ·rename_i hlt
   constructor
   ·intro h;cases h
   ·rintro⟨h,h2⟩;cases h;exact absurd h2 hlt
 |E4=>simp
 |tok k fr=>simp
 |part fr=>simp
 |B8=>simp
theorem ground {n:Nat}{ow₀ ow:Nat→A1}{bx₀ bx:Bx}{w₀ w:World}{e:EV}{v₀:Value}(h₀:A0 ow₀ bx₀ w₀ e v₀)(hb:∀b,ow₀ (bx₀ b) = .box b→b<n):
  ∀v,A0 ow bx w e v→A0 (Q0 n ow) bx w e v:=by
 induction h₀ with
 |undef v=>exact fun v _=>.undef v
 |dat h=>intro v h;cases h with | dat h=>exact .dat (h.keep (AA3 _ _ _))
 |nil=>intro v h;cases h;exact .nil
 |own h h' hh=>intro v h;cases h with | own h h' hh=>exact .own (fun hs=>(h hs).keep (AA3 _ _ _)) (fun hd=>(h' hd).keep (AA3 _ _ _) fun blk fr hs=>⟨Av3 hs,rfl⟩) hh
 |elo hb h0 h1 h'=>intro v h;cases h with | elo hb h0 h1 h'=>exact .elo hb h0 h1 fun hd=>(h' hd).keep (AA3 _ _ _) fun blk fr hs=>⟨Av3 hs,rfl⟩
 |fre v hb hd h hn=>intro v h;cases h with | fre _ hb hd h hn=>exact .fre v hb hd (h.keep (AA3 _ _ _) fun blk fr hs=>⟨Av3 hs,rfl⟩) hn
 |ptr h=>intro v h';cases h' with | ptr h'=>exact .ptr (Aa5.2 ⟨h',hb _ h⟩)
 |pix h h0 h1=>intro v h';cases h' with | pix h' h0 h1=>exact .pix (Aa5.2 ⟨h',hb _ h⟩) h0 h1
 |elt h0 h1 hs hbk hc=>
  intro v h;cases h with
  |elt h0 h1 hs hbk hc=>exact .elt h0 h1 (Aa4 hs) hbk fun j x hx=>Rep.keep (AA3 _ _ _) _ _ _ (hc j x hx)
 |elx h0 h1 hs hbk hc m0 m1=>
  intro v h;cases h with
  |elx h0 h1 hs hbk hc m0 m1=>exact .elx h0 h1 (Aa4 hs) hbk (fun j x hx=>Rep.keep (AA3 _ _ _) _ _ _ (hc j x hx)) m0 m1
 |clo h1 h2 h3 h4 ih3 ih4=>
  intro v h;cases h with
  |clo g1 g2 g3 g4=>
   refine .clo g1 g2 (fun i e v he hv=> ?_) (fun i e v he hv=> ?_)
   ·have hlt:=(Ez0.1 he).1
    exact ih3 i e _ he (Ez3 (by omega)) v (g3 i e v he hv)
   ·have hlt:=(Ez0.1 he).1
    exact ih4 i e _ he (Ez3 (by omega)) v (g4 i e v he hv)
 |sl h0 h1 hs hbk h2 h3 ih=>
  intro v h;cases h with
  |sl g0 g1 gs gb g2 g3=>
   refine .sl g0 g1 (Aa4 gs) gb (fun i e v he hv=> ?_) g3
   have hlt:=(Ez0.1 he).1;exact ih i e _ he (Ez3 (by omega)) v (g2 i e v he hv)
 |cp hs hbk hv h1 h ih=>
  intro v h;cases h with
  |cp gs gb gv g1 g=>exact .cp (Aa4 gs) gb gv g1 (ih _ g)
 |rp h1 hs hbk h2 h3 ih=>
  intro v h;cases h with
  |rp g1 gs gb g2 g3=>
   refine .rp g1 (Aa4 gs) gb (fun i e v he hv=> ?_) g3
   have hlt:=(Ez0.1 he).1;exact ih i e _ he (Ez3 (by omega)) v (g2 i e v he hv)
 |tup h1 h2 ih=>
  intro v h;cases h with
  |tup g1 g2=>
   refine .tup g1 fun i e v he hv=> ?_
   have hlt:=(Ez0.1 he).1;exact ih i e _ he (Ez3 (by omega)) v (g2 i e v he hv)
 |row h1 h2 h3 ih=>
  intro v h;cases h with
  |row g1 g2 g3=>
   refine .row g1 (fun i e v he hv=> ?_) g3
   have hlt:=(Ez0.1 he).1;exact ih i e _ he (Ez3 (by omega)) v (g2 i e v he hv)
theorem C7.cut {n:Nat}{ow:Nat→A1}{w:World}{t:Ty}{x:t.den}{v:Value}(h:C7 ow w t x v):C7 (Q0 n ow) w t x v:=h.keep (AA3 _ _ _)
structure J8 (ow:Nat→A1)(bx:Bx)(w:World)(a:Act)(n:Nat)(S:Pl→Prop)(τ:St):Prop where
 len:τ.C1.length=a.tmps.size
 bl:τ.boxes.length=n
 slot:∀t e,¬S (0,t)→τ.C1[t]? = some e→A0 ow bx w e (a.tmps.getD t undef)
 box:∀b cs,A3 τ.boxes b=some cs→ow (bx b) = .box b∧∃c T,w.heap[bx b]? = some (.cells c T (0,0))∧cs.length=c.size∧(∀(i:Nat) v,c[i]? = some v→v.oneCell'=true)∧
  ∀(i:Nat) e v,¬S (b+1,i)→cs[i]? = some e→c[i]? = some v→A0 ow bx w e v
 there:∀b,ow (bx b) = .box b→b<n→(A3 τ.boxes b).isSome=true
section
variable {ow:Nat→A1}{bx:Bx}{w:World}{a:Act}{n:Nat}{S:Pl→Prop}{τ:St}
theorem AK7 {l:List (Option (List EV))}{b b':Nat}{x:Option (List EV)}:A3 (l.set b x) b'=if b=b'∧b<l.length then x else A3 l b':=by
 unfold A3;rw[FB4];by_cases h:b=b'
 ·subst h
  by_cases hl:b<l.length
  ·simp only[hl,if_true,true_and]
   cases x <;> rfl
  ·simp only[hl,if_true,if_false,true_and,and_false]
   rw[FA9 (by omega)]
 ·simp only[h,if_false,false_and]
theorem J8.Be5 (h:J8 ow bx w a n S τ)(t:Nat)(e:EV)(he:A0 ow bx w e (a.tmps.getD t undef)):J8 ow bx w a n (fun q=>S q∧q≠(0,t)) {τ with C1:=τ.C1.set t e}:=by
 refine⟨by simp[h.len],h.bl,fun t' e' hS ht'=> ?_,fun b cs hb=> ?_,h.there⟩
 ·rw[FB4] at ht'
  split at ht'
  ·rename_i htt
   subst htt;split at ht'
   ·cases ht';exact he
   ·cases ht'
  ·rename_i htt
   exact h.slot t' e' (fun hs=>hS ⟨hs,fun e=>htt (by cases e;rfl)⟩) ht'
 ·obtain⟨h1,c,T,h2,h3,h4,h5⟩:=h.box b cs hb
  exact⟨h1,c,T,h2,h3,h4,fun i e v hS he hv=>h5 i e v (fun hs=>hS ⟨hs,by simp⟩) he hv⟩
theorem J8.BJ6 (h:J8 ow bx w a n S τ)(b:Nat)(cs new:List EV)(hb:A3 τ.boxes b=some cs)(hl:new.length=cs.length)(S':Pl→Prop)(hS0:∀t,S (0,t)→S' (0,t))(hSb:∀b' i,b'≠b→S (b'+1,i)→S' (b'+1,i))
  (hn:∀c T,w.heap[bx b]? = some (.cells c T (0,0))→c.size=cs.length→(∀(i:Nat) v,c[i]? = some v→v.oneCell'=true)→(∀(i:Nat) e v,¬S (b+1,i)→cs[i]? = some e→c[i]? = some v→A0 ow bx w e v)→
   ∀(i:Nat) e v,¬S' (b+1,i)→new[i]? = some e→c[i]? = some v→A0 ow bx w e v):J8 ow bx w a n S' {τ with boxes:=τ.boxes.set b (some new)}:=by
 refine⟨h.len,by simp[h.bl],fun t e hS ht=>h.slot t e (fun hs=>hS (hS0 t hs)) ht,fun b' cs' hb'=> ?_,fun b' h1 h2=> ?_⟩
 ·simp only[AK7] at hb'
  split at hb'
  ·rename_i hbb
   obtain⟨rfl,_⟩:=hbb;cases hb';obtain⟨h1,c,T,h2,h3,h4,h5⟩:=h.box b cs hb;exact⟨h1,c,T,h2,by omega,h4,hn c T h2 (by omega) h4 h5⟩
  ·rename_i hbb
   have hne:b'≠b:=by intro e;subst e;exact hbb ⟨rfl,(Ez0.1 (O3.1 hb)).1⟩
   obtain⟨h1,c,T,h2,h3,h4,h5⟩:=h.box b' cs' hb';exact⟨h1,c,T,h2,h3,h4,fun i e v hS he hv=>h5 i e v (fun hs=>hS (hSb b' i hne hs)) he hv⟩
 ·simp only[AK7]
  split
  ·rfl
  ·exact h.there b' h1 h2
theorem J8.Ai4 (h:J8 ow bx w a n S τ){S':Pl→Prop}(hs:∀q,S q→S' q):J8 ow bx w a n S' τ:=
 ⟨h.len,h.bl,fun t e hS ht=>h.slot t e (fun x=>hS (hs _ x)) ht,fun b cs hb=>by obtain⟨h1,c,T,h2,h3,h4,h5⟩:=h.box b cs hb;exact⟨h1,c,T,h2,h3,h4,fun i e v hS he hv=>h5 i e v (fun x=>hS (hs _ x)) he hv⟩,h.there⟩
theorem J8.Z1 (h:J8 ow bx w a n S τ)(p:Pl):J8 ow bx w a n (fun q=>S q∧q≠p) (Z1 τ p):=by
 obtain⟨x,i⟩:=p;cases x with
 |zero=>exact h.Be5 i .undef (.undef _)
 |succ b=>
  unfold Go.Proofs.YthfjpkdadjemcaaGreat.Z1;simp only;cases hb:A3 τ.boxes b with
  |none=>
   simp only;refine⟨h.len,h.bl,fun t e hS ht=>h.slot t e (fun hs=>hS ⟨hs,by simp⟩) ht,fun b' cs hb'=> ?_,h.there⟩
   obtain⟨h1,c,T,h2,h3,h4,h5⟩:=h.box b' cs hb';refine⟨h1,c,T,h2,h3,h4,fun j e v hS he hv=>h5 j e v (fun hs=>hS ⟨hs,fun e=> ?_⟩) he hv⟩
   simp only[Prod.mk.injEq] at e;have:b'=b:=by omega
   subst this;rw[hb] at hb';cases hb'
  |some cs=>
   simp only;refine h.BJ6 b cs _ hb (by simp) _ (fun t hs=>⟨hs,by simp⟩) (fun b' j hne hs=>⟨hs,fun e=>hne (by simp only[Prod.mk.injEq] at e;omega)⟩) fun c T h1 h2 h3 h4 j e v hS he hv=> ?_
   rw[FB4] at he;split at he
   ·split at he
    ·cases he;exact .undef _
    ·cases he
   ·rename_i hij
    exact h4 j e v (fun hs=>hS ⟨hs,fun e=>hij (by simp only[Prod.mk.injEq] at e;omega)⟩) he hv
theorem J8.V0:∀(ps:List Pl) (S:Pl→Prop) (τ:St),J8 ow bx w a n S τ→J8 ow bx w a n (fun q=>S q∧q∉ps) (V0 ps τ)
 | [],S,τ,h=>h.Ai4 fun q hq=>⟨hq,by simp⟩
 |p::r,S,τ,h=>by have:=J8.V0 r _ _ (h.Z1 p);simp only[Go.Proofs.YthfjpkdadjemcaaGreat.V0];exact this.Ai4 fun q ⟨⟨h1,h2⟩,h3⟩=>⟨h1,by simp[h2,h3]⟩
def Ai5 (ow:Nat→A1)(bx:Bx)(w:World)(a:Act)(it:It)(x:it.ty.den):Prop:=match it.at_ with
 | .slot i=>A0 ow bx w (Ag6 it.own (.dat it.ty x)) (a.tmps.getD i undef)
 | .box b=>∀c T,w.heap[bx b]? = some (.cells c T (0,0))→C3 ow bx w (flat it.ty x) c.toList
 | .cell b i=>∀c T v,w.heap[bx b]? = some (.cells c T (0,0))→c[i]? = some v→A0 ow bx w (Ag6 it.own (.dat it.ty x)) v
theorem J8.Z0 (h:J8 ow bx w a n S τ)(it:It)(x:it.ty.den)(hx:Ai5 ow bx w a it x):J8 ow bx w a n (fun q=>S q∧As1 q it=false) (Z0 τ it (.dat it.ty x)):=by
 unfold Ai5 at hx;unfold Go.Proofs.YthfjpkdadjemcaaGreat.Z0 As1;cases hat:it.at_ with
 |slot i=>
  rw[hat] at hx;simp only at hx ⊢;refine (h.Be5 i _ hx).Ai4 fun q ⟨h1,h2⟩=>⟨h1,?_⟩
  obtain⟨a,b⟩:=q;cases hb:(Ez6 a 0&&Ez6 b i) with
  |false=>rfl
  |true=>
   simp only[Ez1] at hb;exact absurd (by rw[Ey9 hb.1,Ey9 hb.2]) h2
 |box b=>
  rw[hat] at hx;simp only[EV.cells] at hx ⊢;have hp:∀q:Pl,Ez6 q.1 (b+1)=false↔q.1≠b+1:=by
   intro q;constructor
   ·intro h e;rw[e,FA7] at h;cases h
   ·intro h
    cases hb:Ez6 q.1 (b+1) with
    |false=>rfl
    |true=>exact absurd (Ey9 hb) h
  cases hb:A3 τ.boxes b with
  |none=>
   simp only;refine⟨h.len,h.bl,fun t e hS ht=>h.slot t e (fun hs=>hS ⟨hs,by rw[hp];simp⟩) ht,fun b' cs hb'=> ?_,h.there⟩
   obtain⟨h1,c,T,h2,h3,h4,h5⟩:=h.box b' cs hb';refine⟨h1,c,T,h2,h3,h4,fun j e v hS he hv=>h5 j e v (fun hs=>hS ⟨hs,?_⟩) he hv⟩
   rw[hp];intro e;have:b'=b:=by simpa using e
   subst this;rw[hb] at hb';cases hb'
  |some cs=>
   simp only;obtain⟨h1,c,T,h2,h3,h4,h5⟩:=h.box b cs hb;have hr:=hx c T h2;have hl:(flat it.ty x).length=cs.length:=by rw[hr.1,h3];simp
   refine h.BJ6 b cs _ hb hl _ (fun t hs=>⟨hs,by rw[hp];simp⟩) (fun b' j hne hs=>⟨hs,by rw[hp];simpa using hne⟩) fun c' T' g1 g2 g3 g4 j e v hS he hv=> ?_
   rw[h2] at g1;cases g1;exact (hr.2 j e v he (by simpa using hv)).1
 |cell b i=>
  rw[hat] at hx;simp only at hx ⊢;have hp:∀q:Pl,(Ez6 q.1 (b+1)&&Ez6 q.2 i)=false↔q≠(b+1,i):=by
   intro q;obtain⟨x,y⟩:=q;constructor
   ·intro h e;cases e;simp[FA7] at h
   ·intro h
    cases hb:(Ez6 x (b+1)&&Ez6 y i) with
    |false=>rfl
    |true=>
     simp only[Ez1] at hb;exact absurd (by rw[Ey9 hb.1,Ey9 hb.2]) h
  cases hb:A3 τ.boxes b with
  |none=>
   simp only;refine⟨h.len,h.bl,fun t e hS ht=>h.slot t e (fun hs=>hS ⟨hs,by rw[hp];simp⟩) ht,fun b' cs hb'=> ?_,h.there⟩
   obtain⟨h1,c,T,h2,h3,h4,h5⟩:=h.box b' cs hb';refine⟨h1,c,T,h2,h3,h4,fun j e v hS he hv=>h5 j e v (fun hs=>hS ⟨hs,?_⟩) he hv⟩
   rw[hp];intro e;simp only[Prod.mk.injEq] at e;have:b'=b:=by omega
   subst this;rw[hb] at hb';cases hb'
  |some cs=>
   simp only;refine h.BJ6 b cs _ hb (by simp) _ (fun t hs=>⟨hs,by rw[hp];simp⟩) (fun b' j hne hs=>⟨hs,by rw[hp];intro e;exact hne (by simp only[Prod.mk.injEq] at e;omega)⟩) fun c T h1 h2 h3 h4 j e v hS he hv=> ?_
   rw[FB4] at he;split at he
   ·rename_i hij
    subst hij;split at he
    ·cases he;exact hx c T v h1 hv
    ·cases he
   ·rename_i hij
    exact h4 j e v (fun hs=>hS ⟨hs,by rw[hp];intro e;exact hij (by simp only[Prod.mk.injEq] at e;omega)⟩) he hv
theorem Be6 {o:Option Nat}{ty:Ty}{y:ty.den}{e₀ e:EV}{v:Value}{m:Nat}(h:Ag5 o (some e₀)=some e)(ht:e.to ty=some y)(hv:A0 ow bx w e₀ v):A0 (Q0 m ow) bx w (Ag6 o (.dat ty y)) v:=by
 cases o with
 |none=>
  simp only[Ag5] at h;cases h;exact .dat (w9 ht hv).cut
 |some k=>
  simp only[Ag5] at h;cases e₀ with
  |own k' t l=>
   simp only[Ar9] at h;split at h
   ·rename_i hk
    have hk:=Ey9 hk;subst hk;cases h;rcases Ah1 ht with h1 |⟨h1,_⟩|⟨_,_,_,h1,_⟩
    ·cases h1
     cases hv with
     |own h2 h3 h4=>exact .own (fun hs=>(h2 hs).cut) (fun hd=>(h3 hd).keep (AA3 _ _ _) fun blk fr hs=>⟨Av3 hs,rfl⟩) h4
    ·cases h1
    ·cases h1
   ·cases h
  |nil=>
   simp only[Ar9] at h;split at h
   ·cases h
   rename_i hfirm;cases h;rcases Ah1 ht with h1 |⟨_,a,h1,h2⟩|⟨_,_,_,h1,_⟩
   ·cases h1
   ·subst h1
    cases eq_of_heq h2;cases hv;exact .own (fun _=>AK2 a) (fun _=>.inl ⟨rfl,rfl⟩) fun _=>.inl ⟨hfirm,rfl,rfl⟩
   ·cases h1
  |_=>simp [Ar9] at h
theorem BJ7:∀(its:List It) (es:List EV) (x:(G5 its).den),J2 (G5 its) es=some x→es.length=its.length→
  ∀(i:Nat) it e,its[i]? = some it→es[i]? = some e→∃y,e.to it.ty=some y∧(A8 (G5 its) its.length x)[i]? = some (.dat it.ty y)
 | [],es,x,h,hl,i,it,e,hi,he=>by simp at hi
 | [t],es,x,h,hl,i,it,e,hi,he=>by
  obtain⟨e0,rfl⟩:=List.length_eq_one_iff.1 hl;cases i with
  |succ i=>simp at hi
  |zero=>
   simp at hi he;subst hi he;have hto:∀(t:Ty) (e:EV) (x:t.den),J2 t [e]=some x→e.to t=some x:=by
    intro t e x h;cases t <;> simp only[J2] at h <;> first | exact h | cases h
   have hun:∀(t:Ty) (x:t.den),A8 t 1 x=[.dat t x]:=by intro t x;cases t <;> rfl
   exact⟨x,hto _ _ _ h,congrArg (fun l:List EV=>l[0]?) (hun _ x)⟩
 |t::u::r,es,x,h,hl,i,it,e,hi,he=>by
  match es,hl with
  |e0::e1::es',hl=>
   change J2 (.pair t.ty (G5 (u::r))) (e0::e1::es')=some x at h;simp only[J2] at h;split at h
   ·rename_i x0 h0
    split at h
    ·rename_i x1 h1
     cases h;have hun:A8 (G5 (t::u::r)) (t::u::r).length (x0,x1) = .dat t.ty x0::A8 (G5 (u::r)) (u::r).length x1:=rfl;rw[hun];cases i with
     |zero=>simp at hi he;subst hi he;exact⟨x0,h0,rfl⟩
     |succ i=>
      obtain⟨y,k1,k2⟩:=BJ7 (u::r) (e1::es') x1 h1 (by simpa using hl) i it e (by simpa using hi) (by simpa using he)
      exact⟨y,k1,by simpa using k2⟩
    ·cases h
   ·cases h
theorem BJ8 {σ:St}:∀(its:List It) (l:List EV),AB9 σ its=some l→l.length=its.length∧∀(i:Nat) it e,its[i]? = some it→l[i]? = some e→As0 σ it=some e
 | [],l,h=>by simp only[AB9] at h;cases h;exact⟨rfl,fun i it e hi=>by simp at hi⟩
 |t::r,l,h=>by
  simp only[AB9] at h;split at h
  ·rename_i e0 h0
   split at h
   ·rename_i l0 h1
    cases h;obtain⟨k1,k2⟩:=BJ8 r l0 h1;refine⟨by simp[k1],fun i it e hi he=> ?_⟩
    cases i with
    |zero=>simp at hi he;subst hi he;exact h0
    |succ i=>exact k2 i it e (by simpa using hi) (by simpa using he)
   ·cases h
  ·cases h
theorem J8.W9 {ow:Nat→A1}{bx:Bx}{w:World}{a:Act}{n:Nat}:∀(its:List It) (vs:List EV) (S:Pl→Prop) (τ:St),J8 ow bx w a n S τ→vs.length=its.length→
  (∀(i:Nat) it,its[i]? = some it→∃x,vs[i]? = some (.dat it.ty x)∧Ai5 ow bx w a it x)→J8 ow bx w a n (fun q=>S q∧AE6 q its=false) (W9 its vs τ)
 | [],vs,S,τ,h,hl,_=>by have:vs=[]:=FC4 hl;subst this;exact h.Ai4 fun q hq=>⟨hq,rfl⟩
 |it::r,vs,S,τ,h,hl,hx=>by
  match vs,hl with
  |v::vs',hl=>
   obtain⟨x,h1,h2⟩:=hx 0 it rfl;simp at h1;subst h1;have:=J8.W9 r vs' _ _ (h.Z0 it x h2) (by simpa using hl) fun i it' hi=>by
    obtain⟨y,k1,k2⟩:=hx (i+1) it' (by simpa using hi)
    exact⟨y,by simpa using k1,k2⟩
   simp only[Go.Proofs.YthfjpkdadjemcaaGreat.W9];exact this.Ai4 fun q ⟨⟨q1,q2⟩,q3⟩=>⟨q1,by simp[AE6,q2,q3]⟩
theorem Be7:∀(l:List Pl) (p:Pl),Ag7 p l=true↔p∈l
 | [],p=>by simp[Ag7]
 |x::r,p=>by
  simp only[Ag7,FD1,Ez1,FC7,Be7 r p];constructor
  ·rintro (⟨h1,h2⟩ | h)
   ·left
    have a:=Ey9 h1;have b:=Ey9 h2;obtain⟨p1,p2⟩:=p;obtain⟨x1,x2⟩:=x;simp only at a b;rw[a,b]
   ·exact .inr h
  ·rintro (rfl | h)
   ·exact .inl ⟨FA7 _,FA7 _⟩
   ·exact .inr h
theorem Av4 {nb:Nat}{its:List It}{drop:List Pl}:∀(l:List Pl),covered nb its drop l=true→∀p∈l,nb+1≤p.1∨AE6 p its=true∨p∈drop
 | [],_,p,hp=>by simp at hp
 |x::r,h,p,hp=>by
  simp only[covered,Ez1,FD1] at h;rcases FC7.1 hp with rfl | hp
  ·rcases h.1 with (h | h) | h
   ·exact .inl (FD3 h)
   ·exact .inr (.inl h)
   ·exact .inr (.inr ((Be7 _ _).1 h))
  ·exact Av4 r h.2 p hp
structure I2 (σ σ':St)(j:List Pl):Prop where
 C1:σ'.C1.length=σ.C1.length
 boxes:σ.boxes.length≤σ'.boxes.length
 slot:∀t,(0,t)∉j→σ'.C1[t]? = σ.C1[t]?
 box:∀b,b<σ.boxes.length→∀cs,A3 σ.boxes b=some cs→∃cs',A3 σ'.boxes b=some cs'∧cs'.length=cs.length∧∀i,(b+1,i)∉j→cs'[i]? = cs[i]?
 none:∀b,b<σ.boxes.length→A3 σ.boxes b=none→A3 σ'.boxes b=none
theorem I2.refl (σ:St):I2 σ σ []:=⟨rfl,FC5 _,fun _ _=>rfl,fun b _ cs h=>⟨cs,h,rfl,fun _ _=>rfl⟩,fun _ _ h=>h⟩
theorem I2.trans {σ σ' σ'':St}{j j':List Pl}(h:I2 σ σ' j)(k:I2 σ' σ'' j'):I2 σ σ'' (j'++j):=by
 obtain⟨h1,h2,h4,h5,h6⟩:=h;obtain⟨k1,k2,k4,k5,k6⟩:=k;refine⟨by rw[k1,h1],by omega,fun t ht=> ?_,fun b hb cs hcs=> ?_,fun b hb hn=>k6 b (by omega) (h6 b hb hn)⟩
 ·rw[k4 t (fun h=>ht (Ez7 _ h)),h4 t (fun h=>ht (Ez4 _ h))]
 ·obtain⟨cs',g1,g2,g3⟩:=h5 b hb cs hcs
  obtain⟨cs'',q1,q2,q3⟩:=k5 b (by omega) cs' g1
  exact⟨cs'',q1,by rw[q2,g2],fun i hi=>by rw[q3 i (fun h=>hi (Ez7 _ h)),g3 i (fun h=>hi (Ez4 _ h))]⟩
theorem I2.mono {σ σ':St}{j j':List Pl}(h:I2 σ σ' j)(hs:∀p∈j,p∈j'):I2 σ σ' j':=
 ⟨h.C1,h.boxes,fun t ht=>h.slot t fun x=>ht (hs _ x),fun b hb cs hcs=>by obtain⟨cs',g1,g2,g3⟩:=h.box b hb cs hcs;exact⟨cs',g1,g2,fun i hi=>g3 i fun x=>hi (hs _ x)⟩,h.none⟩
theorem Evo.toJ {σ σ':St}(h:Evo σ σ')(hj:σ.jr=[]):I2 σ σ' σ'.jr:=by obtain⟨h1,h2,j,h3,h4,h5,h6⟩:=h;rw[hj,List.append_nil] at h3;subst h3;exact⟨h1,h2,h4,h5,h6⟩
end

def BJ9:Ex→Exit
 | .normal=>.normal
 | .exit id=>.exit id
 | .ret=>.ret
def X3 {ρ:Type}(B:E5)(σ:St)(k:Ex→St→Option ρ)(r:ρ):Exit→Act→World→Prop:=fun e a w=>∃ex τ,e=BJ9 ex∧k ex τ=some r∧M8 B τ a w∧Evo σ τ
def Core (P:Program)(c:Code)(core:(ρ:Type)→St→(Ex→St→Option ρ)→Option ρ):Prop:=
 ∀(ρ:Type) (σ:St) (k:Ex→St→Option ρ) (r:ρ),core ρ σ k=some r→∀B a w,M8 B σ a w→c.wp P (X3 B σ k r) a w
theorem BK0 {ρ:Type}{B:E5}{σ σ':St}{k:Ex→St→Option ρ}{r:ρ}(h:Evo σ σ'){e:Exit}{a:Act}{w:World}(hp:X3 B σ' k r e a w):X3 B σ k r e a w:=by obtain⟨ex,τ,h1,h2,h3,h4⟩:=hp;exact⟨ex,τ,h1,h2,h3,h.trans h4⟩
theorem Be8:∀(t:Ty) (x:t.den),(flat t x).length=t.size:=by
 intro t
 induction t with
 |pair a b iha ihb=>intro x;simp[flat,Ty.size,iha,ihb]
 |agg a ih=>intro x;exact ih x
 |_=>intro x;rfl
theorem CY9:∀(t:Ty) (es r:List EV) (x:t.den),asm t es=some (x,r)→es.length=t.size+r.length:=by
 have one:∀(t:Ty) (es r:List EV) (x:t.den) (c:EV) (r':List EV),t.size=1→es=c::r'→r=r'→es.length=t.size+r.length:=by intro t es r x c r' h1 h2 h3;subst h2 h3;simp[h1];omega
 intro t
 induction t with
 |unit=>intro es r x h;cases h;simp[Ty.size]
 |pair a b iha ihb=>
  intro es r x h;simp only[asm] at h;split at h
  ·rename_i h1
   split at h
   ·rename_i h2
    cases h;have:=iha _ _ _ h1;have:=ihb _ _ _ h2;simp only[Ty.size];omega
   ·cases h
  ·cases h
 |agg a ih=>intro es r x h;exact ih es r x h
 |int k=>
  intro es r x h;cases es with
  |nil=>simp [asm] at h
  |cons c r'=>
   simp only[asm] at h;split at h
   ·cases h;exact one (.int k) _ _ x c _ rfl rfl rfl
   ·cases h
 |bool=>
  intro es r x h;cases es with
  |nil=>simp [asm] at h
  |cons c r'=>
   simp only[asm] at h;split at h
   ·cases h;exact one .bool _ _ x c _ rfl rfl rfl
   ·cases h
 |str=>
  intro es r x h;cases es with
  |nil=>simp [asm] at h
  |cons c r'=>
   simp only[asm] at h;split at h
   ·cases h;exact one .str _ _ x c _ rfl rfl rfl
   ·cases h
 |slice a _=>
  intro es r x h;cases es with
  |nil=>simp [asm] at h
  |cons c r'=>
   simp only[asm] at h;split at h
   ·cases h;exact one (.slice a) _ _ x c _ rfl rfl rfl
   ·cases h
theorem CZ0 (τ:St)(p:Pl):I2 τ (Z1 τ p) [p]:=by
 obtain⟨x,i⟩:=p;cases x with
 |zero=>
  refine⟨by simp[Z1],FC5 _,fun t ht=> ?_,fun b _ cs h=>⟨cs,h,rfl,fun _ _=>rfl⟩,fun _ _ h=>h⟩
  simp only[Z1];rw[FA2 (fun e=>ht (by simp[e]))]
 |succ b=>
  unfold Z1;simp only;cases hb:A3 τ.boxes b with
  |none=>exact (I2.refl τ).mono (by simp)
  |some cs=>
   simp only;refine⟨rfl,by simp,fun t _=>rfl,fun b' hb' cs' hcs'=> ?_,fun b' hb' hn=> ?_⟩
   ·simp only[AK7]
    by_cases e:b=b'
    ·subst e
     rw[hb] at hcs';cases hcs';rw[if_pos ⟨rfl,hb'⟩];exact⟨_,rfl,by simp,fun j hj=>by rw[FA2 (fun e=>hj (by simp[e]))]⟩
    ·rw[if_neg (fun h=>e h.1)]
     exact⟨cs',hcs',rfl,fun _ _=>rfl⟩
   ·simp only[AK7]
    rw[if_neg]
    ·exact hn
    ·rintro⟨rfl,_⟩
     rw[hb] at hn;cases hn
theorem Be9:∀(ps:List Pl) (τ:St),I2 τ (V0 ps τ) ps
 | [],τ=>I2.refl τ
 |p::r,τ=>by
  have:=(CZ0 τ p).trans (Be9 r (Z1 τ p));simp only[V0];exact this.mono fun q hq=>by
   rcases Ez5.1 hq with h | h
   ·exact FB1 _ h
   ·simp at h;simp[h]
theorem CZ1 (τ:St)(it:It)(x:it.ty.den)(h:∀b cs,it.at_ = .box b→A3 τ.boxes b=some cs→it.ty.size=cs.length):I2 τ (Z0 τ it (.dat it.ty x)) (J4 [it] τ.boxes):=by
 unfold Z0 J4;cases hat:it.at_ with
 |slot i=>
  simp only;refine⟨by simp,FC5 _,fun t ht=> ?_,fun b _ cs h=>⟨cs,h,rfl,fun _ _=>rfl⟩,fun _ _ h=>h⟩
  rw[FA2 (fun e=>ht (by simp[e]))]
 |box b=>
  simp only[EV.cells];cases hb:A3 τ.boxes b with
  |none=>exact (I2.refl τ).mono (by simp)
  |some cs=>
   simp only;have hl:=h b cs hat hb;refine⟨rfl,by simp,fun t _=>rfl,fun b' hb' cs' hcs'=> ?_,fun b' hb' hn=> ?_⟩
   ·simp only[AK7]
    by_cases e:b=b'
    ·subst e
     rw[hb] at hcs';cases hcs';rw[if_pos ⟨rfl,hb'⟩];refine⟨_,rfl,by rw[Be8,hl],fun j hj=> ?_⟩
     have:¬j<cs.length:=fun hlt=>hj (by simp[J4,hlt])
     rw[FA9 (by rw[Be8,hl];omega),FA9 (by omega)]
    ·rw[if_neg (fun h=>e h.1)]
     exact⟨cs',hcs',rfl,fun _ _=>rfl⟩
   ·simp only[AK7]
    rw[if_neg]
    ·exact hn
    ·rintro⟨rfl,_⟩
     rw[hb] at hn;cases hn
 |cell b i=>
  simp only;cases hb:A3 τ.boxes b with
  |none=>exact (I2.refl τ).mono (by simp)
  |some cs=>
   simp only;refine⟨rfl,by simp,fun t _=>rfl,fun b' hb' cs' hcs'=> ?_,fun b' hb' hn=> ?_⟩
   ·simp only[AK7]
    by_cases e:b=b'
    ·subst e
     rw[hb] at hcs';cases hcs';rw[if_pos ⟨rfl,hb'⟩];exact⟨_,rfl,by simp,fun j hj=>by rw[FA2 (fun e=>hj (by simp[e]))]⟩
    ·rw[if_neg (fun h=>e h.1)]
     exact⟨cs',hcs',rfl,fun _ _=>rfl⟩
   ·simp only[AK7]
    rw[if_neg]
    ·exact hn
    ·rintro⟨rfl,_⟩
     rw[hb] at hn;cases hn
theorem BK1:∀(its:List It) (l l':List (Option (List EV))),(∀b,(A3 l b).map FC6=(A3 l' b).map FC6)→J4 its l=J4 its l'
 | [],_,_,_=>rfl
 |t::r,l,l',h=>by
  simp only[J4];rw[BK1 r l l' h];congr 1;cases t.at_ with
  |slot i=>rfl
  |cell b i=>rfl
  |box b=>
   simp only;have:=h b;cases h1:A3 l b with
   |none=>rw [h1] at this;cases h2:A3 l' b with
    |none=>rfl
    |some y=>rw [h2] at this;cases this
   |some x=>rw [h1] at this;cases h2:A3 l' b with
    |none=>rw [h2] at this;cases this
    |some y=>
     rw[h2] at this;simp only[FB3,Option.some.injEq] at this;simp only[this]
theorem I2.lens {σ σ':St}{j:List Pl}(h:I2 σ σ' j)(hb:σ'.boxes.length=σ.boxes.length)(b:Nat):(A3 σ'.boxes b).map FC6=(A3 σ.boxes b).map FC6:=by
 by_cases hlt:b<σ.boxes.length
 ·cases hc:A3 σ.boxes b with
  |none=>rw [h.none b hlt hc]
  |some cs=>
   obtain⟨cs',g1,g2,_⟩:=h.box b hlt cs hc;rw[g1];simp[g2]
 ·unfold A3
  rw[FA9 (by omega),FA9 (by omega)]
theorem CZ2 (τ:St)(it:It)(v:EV):(Z0 τ it v).boxes.length=τ.boxes.length:=by
 unfold Z0;cases it.at_ with
 |slot i=>rfl
 |box b=>simp only;split <;> simp
 |cell b i=>simp only;split <;> simp
theorem Bf0:∀(ps:List Pl) (τ:St),(V0 ps τ).boxes.length=τ.boxes.length
 | [],_=>rfl
 |p::r,τ=>by
  simp only[V0];rw[Bf0];obtain⟨x,i⟩:=p;cases x with
  |zero=>rfl
  |succ b=>unfold Z1;simp only;split <;> simp
theorem Bf1:∀(its:List It) (vs:List EV) (τ:St),vs.length=its.length→(∀(i:Nat) it,its[i]? = some it→∃x,vs[i]? = some (EV.dat it.ty x))→
  (∀it∈its,∀b cs,it.at_ = .box b→A3 τ.boxes b=some cs→it.ty.size=cs.length)→I2 τ (W9 its vs τ) (J4 its τ.boxes)∧(W9 its vs τ).boxes.length=τ.boxes.length
 | [],vs,τ,hl,_,_=>by have:vs=[]:=FC4 hl;subst this;exact⟨I2.refl τ,rfl⟩
 |it::r,vs,τ,hl,hv,hb=>by
  match vs,hl with
  |v::vs',hl=>
   obtain⟨x,hx⟩:=hv 0 it rfl;simp at hx;subst hx;have h1:=CZ1 τ it x (fun b cs=>hb it (by simp) b cs)
   have hlen:=CZ2 τ it (.dat it.ty x);have hlens:=h1.lens hlen;obtain⟨h2,h3⟩:=Bf1 r vs' (Z0 τ it (.dat it.ty x)) (by simpa using hl) (fun i it' hi=>by
    obtain⟨y,hy⟩:=hv (i+1) it' (by simpa using hi)
    exact⟨y,by simpa using hy⟩) (fun it' hit b cs hat hcs=>by
    have:=hlens b;rw[hcs] at this;cases hc:A3 τ.boxes b with
    |none=>rw [hc] at this;cases this
    |some cs0=>
     rw[hc] at this;simp only[FB3,Option.some.injEq] at this;rw[this];exact hb it' (by simp[hit]) b cs0 hat hc)
   simp only[W9];refine⟨(h1.trans h2).mono fun q hq=> ?_,by rw[h3,hlen]⟩
   have hpl:J4 (it::r) τ.boxes=J4 [it] τ.boxes++J4 r τ.boxes:=by simp[J4]
   rw[hpl];rcases Ez5.1 hq with h | h
   ·rw[BK1 r _ _ hlens] at h
    exact Ez4 _ h
   ·exact Ez7 _ h
theorem Ai6 {σ σ':St}{its:List It}{drop j:List Pl}{v:(G5 its).den}(hev:I2 σ σ' j)(hp:pack σ' its=some v):I2 σ (unpack σ its drop v) (J4 its σ.boxes++drop)∧(unpack σ its drop v).boxes.length=σ.boxes.length:=by
 unfold pack at hp;cases hg:AB9 σ' its with
 |none=>rw [hg] at hp;cases hp
 |some l=>
  rw[hg] at hp;simp only at hp;obtain⟨l1,l2⟩:=BJ8 its l hg;have h1:=Be9 drop σ;have hbl:=Bf0 drop σ;have hlens:=h1.lens hbl;have hun:(A8 (G5 its) its.length v).length=its.length:=by
   have:∀(its:List It) (v:(G5 its).den),(A8 (G5 its) its.length v).length=its.length:=by
    intro its
    induction its with
    |nil=>intro v;rfl
    |cons t r ih=>
     intro v;cases r with
     |nil=>
      have:∀(t:Ty) (v:t.den),(A8 t 1 v).length=1:=by intro t v;cases t <;> rfl
      exact this _ v
     |cons u r=>
      have:A8 (G5 (t::u::r)) (t::u::r).length v = .dat t.ty v.1::A8 (G5 (u::r)) (u::r).length v.2:=rfl;rw[this];have:=ih v.2;simp only[FC8] at this ⊢;omega
   exact this its v
  obtain⟨h2,h3⟩:=Bf1 its (A8 (G5 its) its.length v) (V0 drop σ) hun (fun i it hi=>by
   have hil:i<l.length:=by rw[l1];exact (Ez0.1 hi).1
   obtain⟨y,_,k2⟩:=BJ7 its l v hp l1 i it _ hi (Ez2 hil);exact⟨y,k2⟩) (fun it hit b cs hat hcs=>by
   obtain⟨i,hi⟩:=List.getElem?_of_mem hit;have hil:i<l.length:=by rw[l1];exact (Ez0.1 hi).1
   have hget:=l2 i it _ hi (Ez2 hil);unfold As0 at hget;rw[hat] at hget;simp only at hget;split at hget
   ·rename_i cs' hcs'
    split at hget
    ·rename_i v' hv'
     have:=CY9 _ _ _ _ hv';have hl:=hlens b;rw[hcs] at hl;cases hc:A3 σ.boxes b with
     |none=>rw [hc] at hl;cases hl
     |some cs0=>
      rw[hc] at hl;simp only[FB3,Option.some.injEq] at hl;obtain⟨cs'',k1,k2,_⟩:=hev.box b (Ez0.1 (O3.1 hc)).1 cs0 hc;rw[hcs'] at k1;cases k1;simp at this;omega
    ·cases hget
   ·cases hget)
  refine⟨?_,by rw[← hbl,← h3];rfl⟩
  have:=h1.trans h2;rw[BK1 its _ _ hlens] at this;exact this
theorem Av5 {B:E5}{σ σ':St}{a a₀:Act}{w w₀:World}{its:List It}{drop:List Pl}{v:(G5 its).den}{j:List Pl}(h₀:M8 B σ a₀ w₀)(hev:I2 σ σ' j)(h:M8 B σ' a w)
  (hc:∀p∈j,σ.boxes.length+1≤p.1∨AE6 p its=true∨p∈drop) (hp:pack σ' its=some v):M8 B (unpack σ its drop v) a w:=by
 have hevo:=(Ai6 (drop:=drop) hev hp).1;obtain⟨ow₀,bx₀,i₀,⟨s₀,r₀⟩,_⟩:=h₀;obtain⟨ow,bx,i1,⟨s1,r1⟩,hd⟩:=h;obtain⟨e1,e2,e4,e5,e6⟩:=hev;have hb₀:∀b,ow₀ (bx₀ b) = .box b→b<σ.boxes.length:=fun b h=>(i₀.back _ b h).2.2
 have g0:J8 (Q0 σ.boxes.length ow) bx w a σ.boxes.length (fun q=>q∈j) σ:=by
  refine⟨by rw[← e1,s1],rfl,fun t e hS ht=> ?_,fun b cs hb=> ?_,fun b h1 h2=> ?_⟩
  ·have ht':σ'.C1[t]? = some e:=by rw[e4 t hS];exact ht
   exact ground (r₀ t e ht) hb₀ _ (r1 t e ht')
  ·have hlt:=(Ez0.1 (O3.1 hb)).1
   obtain⟨cs',k1,k2,k3⟩:=e5 b hlt cs hb;obtain⟨q1,c,T,q2,q3⟩:=i1.box b cs' k1;obtain⟨p1,c₀,T₀,p2,p3⟩:=i₀.box b cs hb;refine⟨Aa5.2 ⟨q1,hlt⟩,c,T,q2,by rw[← k2,q3.1];simp,fun i v hv=>q3.AZ0 v (by simpa using Ez8 (show c.toList[i]? = some v by simpa using hv)),fun i e v hS he hv=> ?_⟩
   have he':cs'[i]? = some e:=by rw[k3 i hS];exact he
   have hil:i<c₀.toList.length:=by rw[← p3.1];exact (Ez0.1 he).1
   exact ground (p3.2 i e _ he (Ez2 hil)).1 hb₀ _ (q3.2 i e v he' (by simpa using hv)).1
  ·obtain⟨hq,hlt⟩:=Aa5.1 h1
   have:=(i1.back _ b hq).2.1;cases hb:A3 σ.boxes b with
   |some cs=>rfl
   |none=>rw [e6 b h2 hb] at this;cases this
 have g1:=g0.V0 drop;unfold pack at hp;cases hg:AB9 σ' its with
 |none=>rw [hg] at hp;cases hp
 |some l=>
  rw[hg] at hp;simp only at hp;obtain⟨l1,l2⟩:=BJ8 its l hg;have hun:(A8 (G5 its) its.length v).length=its.length:=by
   have:∀(its:List It) (v:(G5 its).den),(A8 (G5 its) its.length v).length=its.length:=by
    intro its
    induction its with
    |nil=>intro v;rfl
    |cons t r ih=>
     intro v;cases r with
     |nil=>
      have:∀(t:Ty) (v:t.den),(A8 t 1 v).length=1:=by intro t v;cases t <;> rfl
      exact this _ v
     |cons u r=>
      have:A8 (G5 (t::u::r)) (t::u::r).length v = .dat t.ty v.1::A8 (G5 (u::r)) (u::r).length v.2:=rfl;rw[this];have:=ih v.2;simp only[FC8] at this ⊢;omega
   exact this its v
  have hvals:∀(i:Nat) it,its[i]? = some it→∃x,(A8 (G5 its) its.length v)[i]? = some (.dat it.ty x)∧Ai5 (Q0 σ.boxes.length ow) bx w a it x:=by
   intro i it hi;have hil:i<l.length:=by rw[l1];exact (Ez0.1 hi).1
   obtain⟨y,k1,k2⟩:=BJ7 its l v hp l1 i it _ hi (Ez2 hil);refine⟨y,k2,?_⟩;have hget:=l2 i it _ hi (Ez2 hil);generalize l[i]'hil=e at k1 hget;unfold As0 at hget;unfold Ai5;cases hat:it.at_ with
   |slot t=>
    rw[hat] at hget;simp only at hget ⊢;cases he₀:σ'.C1[t]? with
    |none=>rw [he₀] at hget;cases ho:it.own <;> rw[ho] at hget <;> cases hget
    |some e₀=>
     rw[he₀] at hget;exact Be6 hget k1 (r1 t e₀ he₀)
   |box b=>
    rw[hat] at hget;simp only at hget ⊢;intro c T hct;split at hget
    ·rename_i cs hcs
     split at hget
     ·rename_i v' hv'
      cases hget;have hy:v'=y:=by
       rcases Ah1 k1 with h |⟨h,_⟩|⟨_,_,_,h,_⟩
       ·cases h;rfl
       ·cases h
       ·cases h
      subst hy;obtain⟨q1,c',T',q2,q3⟩:=i1.box b cs hcs;rw[hct] at q2;cases q2;obtain⟨p1,p2,p3⟩:=AQ7 it.ty _ _ _ _ hv' q3;have hle:c.toList.length≤it.ty.size:=by have:=congrArg FC6 p2;have h3:=q3.1;simp at this h3 ⊢;omega
      rw[FC2 hle] at p1;exact AE7 _ _ _ (Rep.keep (AA3 _ _ _) _ _ _ p1)
     ·cases hget
    ·cases hget
   |cell b i'=>
    rw[hat] at hget;simp only at hget ⊢;intro c T v' hct hv';split at hget
    ·rename_i cs hcs
     obtain⟨q1,c',T',q2,q3⟩:=i1.box b cs hcs;rw[hct] at q2;cases q2;cases he₀:cs[i']? with
     |none=>rw [he₀] at hget;cases ho:it.own <;> rw[ho] at hget <;> cases hget
     |some e₀=>
      rw[he₀] at hget;exact Be6 hget k1 (q3.2 i' e₀ v' he₀ (by simpa using hv')).1
    ·cases hget
  have g2:=J8.W9 its _ _ _ g1 hun hvals;have hnone:∀q:Pl,q.1≤σ.boxes.length→¬((q∈j∧q∉drop)∧AE6 q its=false):=by
   intro q hq ⟨⟨h1,h2⟩,h3⟩;rcases hc q h1 with h | h | h
   ·omega
   ·rw[h3] at h;cases h
   ·exact h2 h
  refine⟨Q0 σ.boxes.length ow,bx,?_,⟨g2.len,fun t e ht=>g2.slot t e (hnone _ (Nat.zero_le _)) ht⟩,hd⟩
  have hbl:(unpack σ its drop v).boxes.length=σ.boxes.length:=g2.bl;constructor
  ·intro b cs hb
   obtain⟨k1,c,T,k2,k3,k4,k5⟩:=g2.box b cs hb;have hlt:=(Aa5.1 k1).2;exact⟨k1,c,T,k2,by simp[k3],fun i e v he hv=>⟨k5 i e v (hnone _ (by simp only;omega)) he (by simpa using hv),k4 i v (by simpa using hv)⟩⟩
  ·intro blk b hb
   obtain⟨q1,q2⟩:=Aa5.1 hb;obtain⟨q3,_,_⟩:=i1.back blk b q1;exact⟨q3,g2.there b (by rw[← q3];exact hb) q2,by rw[hbl];exact q2⟩
  ·intro blk hb
   refine i1.here blk fun e=>hb ?_
   unfold Q0;rw[e]
  ·intro blk hb hm
   obtain⟨q1,q2,q3⟩:=i1.old blk hb hm;have:Q0 σ.boxes.length ow blk=ow blk:=by
    unfold Q0;split
    ·rename_i b hb;exact absurd hb (q3.1 b)
    ·rfl
   exact⟨q1,by rw[this];exact q2,by rw[this];exact q3⟩
  ·exact i1.size
  ·exact i1.env
  ·intro b hb
   obtain⟨h1,h2⟩:=i1.kept b hb;refine⟨h1,?_⟩;have h3:=(i₀.kept b hb).2;cases hc:A3 σ.boxes b with
   |none=>rw [hc] at h3;cases h3
   |some cs=>
    obtain⟨cs',k1,_⟩:=hevo.box b (Ez0.1 (O3.1 hc)).1 cs hc;rw[k1];rfl
  ·exact i1.st.trans (AA3 _ _ _)
  ·exact i1.born

theorem BK2 {nb:Nat}{all:List Pl}{ex:Ex}{σ':St}:∀(outs:List (Ex×List It)) (x:AJ7 outs),AJ8 nb all ex σ' outs=some x→
  ∃(its:List It) (v:(G5 its).den),(ex,its)∈outs∧covered nb its all σ'.jr=true∧pack σ' its=some v∧
   ∀(ρ:Type) (base:St) (drop:List Pl) (K:Ex→St→Option ρ),As2 base drop K outs x=K ex (unpack base its drop v)
 | [],x,h=>by cases h
 | [(y,its)],x,h=>by
  simp only[AJ8] at h;split at h
  ·rename_i hc
   rw[Ez1,decide_eq_true_eq] at hc;obtain⟨rfl,hc⟩:=hc;exact⟨its,x,by simp,hc,h,fun ρ base drop K=>rfl⟩
  ·cases h
 | (y,its)::z::r,x,h=>by
  simp only[AJ8] at h;split at h
  ·rename_i he
   have he:=of_decide_eq_true he;subst he;split at h
   ·rename_i hc
    split at h
    ·rename_i v hv
     cases h;exact⟨its,v,by simp,hc,hv,fun ρ base drop K=>rfl⟩
    ·cases h
   ·cases h
  ·split at h
   ·rename_i v hv
    cases h;obtain⟨its',v',h1,h2,h3,h4⟩:=BK2 (z::r) v hv;exact⟨its',v',FB1 _ h1,h2,h3,fun ρ base drop K=>h4 ρ base drop K⟩
   ·cases h
theorem BK3 {B:E5}{σ:St}{a:Act}{w:World}(h:M8 B σ a w):M8 B σ.fresh a w:=h
theorem Bf2 {σ τ:St}{j js:List Pl}(h:I2 σ.fresh τ j)(hs:∀p∈j,p∈js):Evo σ (τ.after σ js):=by have h:=h.mono hs;exact⟨h.C1,h.boxes,js,rfl,h.slot,h.box,h.none⟩
section
variable {P:Program}{c:Code}{core:(ρ:Type)→St→(Ex→St→Option ρ)→Option ρ}
theorem AK8 {sp:Sp}(h:Core P c core):Core P c (fun ρ σ k=>AQ5 sp σ k core):=by
 intro ρ σ k r hr B a w hrel;unfold AQ5 at hr;split at hr
 ·rename_i drop outs
  obtain⟨x,h1,h2⟩:=FD0.1 hr;refine wp_mono (h _ _ _ x h1 B a w (BK3 hrel)) ?_
  rintro e a' w' ⟨ex,τ,he,hk,hrel',hevo⟩
  obtain⟨its,v,hm,hcov,hp,hun⟩:=BK2 outs x hk;rw[hun] at h2;have hJ:=hevo.toJ rfl;have hrel2:=Av5 (drop:=drop) (BK3 hrel) hJ hrel' (Av4 _ hcov) hp;obtain⟨hE,_⟩:=Ai6 (drop:=drop) hJ hp;refine⟨ex,_,he,h2,hrel2,Bf2 hE fun p hp=> ?_⟩
  rcases Ez5.1 hp with h | h
  ·exact Ez4 _ (List.mem_flatMap.2 ⟨_,hm,h⟩)
  ·exact Ez7 _ h
 ·exact h ρ σ k r hr B a w hrel
theorem CZ3 {S X:Type}{f:S→Option (S ⊕ X)}{s:S}{x:X}(h:AJ9 f s=some x):∃n,D2 f n s=some x:=by
 unfold AJ9 at h;split at h
 ·exact⟨_,h⟩
 ·cases h
theorem Bf3:∀(its:List It) (bx:List (Option (List EV))) (p:Pl),p∈J4 its bx→AE6 p its=true
 | [],_,p,h=>by simp[J4] at h
 |t::r,bx,p,h=>by
  simp only[J4] at h;simp only[AE6,FD1];rcases Ez5.1 h with h | h
  ·left
   unfold As1;cases hat:t.at_ with
   |slot i=>
    rw[hat] at h;simp at h;subst h;simp
   |cell b i=>
    rw[hat] at h;simp at h;subst h;simp
   |box b=>
    rw[hat] at h;simp only at h ⊢;split at h
    ·obtain⟨i,_,rfl⟩:=FC9.1 h
     simp
    ·simp at h
  ·exact .inr (Bf3 r bx p h)
theorem Bf4 (σ:St):∀(its:List It),AB9 σ.fresh its=AB9 σ its
 | []=>rfl
 |t::r=>by simp only[AB9,Bf4 σ r];rfl
theorem CZ4 (σ:St)(its:List It):pack σ.fresh its=pack σ its:=by unfold pack;rw[Bf4]
theorem CZ5 (τ:St)(it:It)(v:EV):(Z0 τ it v).jr=τ.jr:=by
 unfold Z0;cases it.at_ with
 |slot i=>rfl
 |box b=>simp only;split <;> rfl
 |cell b i=>simp only;split <;> rfl
theorem Bf5:∀(its:List It) (vs:List EV) (τ:St),(W9 its vs τ).jr=τ.jr
 | [],vs,τ=>by simp[W9]
 |t::r,[],τ=>rfl
 |t::r,v::vs,τ=>by simp only[W9];rw[Bf5,CZ5]
theorem Bf6:∀(ps:List Pl) (τ:St),(V0 ps τ).jr=τ.jr
 | [],_=>rfl
 |p::r,τ=>by
  simp only[V0];rw[Bf6];obtain⟨x,i⟩:=p;cases x with
  |zero=>rfl
  |succ b=>unfold Z1;simp only;split <;> rfl
theorem CZ6 (σ:St)(its:List It)(drop:List Pl)(v:(G5 its).den):(unpack σ its drop v).jr=σ.jr:=by unfold unpack;rw[Bf5,Bf6]
theorem Bf7 {sp:Sp}(h:Core P c core):Core P (.loop c) (fun ρ σ k=>As4 sp σ k core):=by
 intro ρ σ k r hr B a w hrel
 replace hr:As4 sp σ k core=some r:=hr
 unfold As4 at hr;split at hr
 ·rename_i S drop outs
  split at hr
  ·cases hr
  ·rename_i s₀ hs₀
   obtain⟨x,h1,h2⟩:=FD0.1 hr;obtain⟨n,hn⟩:=CZ3 h1;refine wp_loop_rounds n ?_;have hrf:=BK3 hrel;rw[← CZ4] at hs₀;have key:∀(kb:Ex→St→Option ((G5 S).den ⊕ AJ7 outs)),(∀τ y,kb .normal τ=some y→∃v,y = .inl v∧covered σ.boxes.length S drop τ.jr=true∧pack τ S=some v)→
     (∀ex τ y,ex≠ .normal→kb ex τ=some y→∃z,y = .inr z∧AJ8 σ.boxes.length (J4 S σ.boxes++drop) ex τ outs=some z)→
     ∀(n:Nat) (s:(G5 S).den) (a':Act) (w':World),D2 (fun s=>core _ (unpack σ.fresh S drop s) kb) n s=some x→M8 B (unpack σ.fresh S drop s) a' w'→I2 σ.fresh (unpack σ.fresh S drop s) (J4 S σ.boxes++drop)→
      Code.rounds P c (X3 B σ k r) n a' w':=by
    intro kb hkn hkx n
    induction n with
    |zero=>intro s a' w' hl _ _;cases hl
    |succ n ih=>
     intro s a' w' hl hrs hes;rw[rounds_succ];simp only[D2] at hl;have step:∀y,core _ (unpack σ.fresh S drop s) kb=some y→(∀s',y = .inl s'→D2 (fun s=>core _ (unpack σ.fresh S drop s) kb) n s'=some x)→(∀z,y = .inr z→z=x)→
       c.wp P (Exit.then (Code.rounds P c (X3 B σ k r) n) (X3 B σ k r)) a' w':=by
      intro y hy hl1 hl2;refine wp_mono (h _ _ _ y hy B a' w' hrs) ?_
      rintro e a2 w2 ⟨ex,τ,he,hk,hrel',hevo⟩
      have hJ:=hes.trans (hevo.toJ (by rw[CZ6];rfl))
      have leave:∀z,AJ8 σ.boxes.length (J4 S σ.boxes++drop) ex τ outs=some z→z=x→X3 B σ k r e a2 w2:=by
       intro z hz hzx;subst hzx;obtain⟨its,v,hm,hcov,hp,hun⟩:=BK2 outs z hz;rw[hun] at h2;have hrel2:=Av5 (drop:=J4 S σ.boxes++drop) hrf hJ hrel' (fun p hp=>by
        rcases Ez5.1 hp with h | h
        ·exact Av4 _ hcov p h
        ·exact .inr (.inr h)) hp
       obtain⟨hE,_⟩:=Ai6 (drop:=J4 S σ.boxes++drop) hJ hp;refine⟨ex,_,he,h2,hrel2,Bf2 hE fun p hp=> ?_⟩
       rcases Ez5.1 hp with h | h
       ·exact Ez4 _ (List.mem_flatMap.2 ⟨_,hm,h⟩)
       ·exact Ez7 _ h
      cases ex with
      |normal=>
       subst he;obtain⟨v,hy',hcov,hv⟩:=hkn τ y hk;exact ih v a2 w2 (hl1 v hy') (Av5 hrf hJ hrel' (fun p hp=>by
        rcases Ez5.1 hp with h | h
        ·exact Av4 _ hcov p h
        ·rcases Ez5.1 h with h | h
         ·exact .inr (.inl (Bf3 _ _ _ h))
         ·exact .inr (.inr h)) hv) (Ai6 hJ hv).1
      |exit id=>
       obtain⟨z,hy',hz⟩:=hkx _ τ y (by simp) hk
       subst he;exact leave z hz (hl2 z hy')
      |ret=>
       obtain⟨z,hy',hz⟩:=hkx _ τ y (by simp) hk
       subst he;exact leave z hz (hl2 z hy')
     split at hl
     ·rename_i s' hs'
      exact step _ hs' (fun s'' e=>by cases e;exact hl) (fun z e=>by cases e)
     ·rename_i z hz
      cases hl;exact step _ hz (fun s'' e=>by cases e) (fun z e=>by cases e;rfl)
     ·cases hl
   refine key _ ?_ ?_ n s₀ a w hn (Av5 hrf (I2.refl _) hrf (by simp) hs₀) (Ai6 (I2.refl _) hs₀).1
   ·intro τ y hy
    simp only at hy;split at hy
    ·rename_i hcov
     split at hy
     ·rename_i v hv
      cases hy;exact⟨v,rfl,hcov,hv⟩
     ·cases hy
    ·cases hy
   ·intro ex τ y hne hy
    cases ex with
    |normal=>exact absurd rfl hne
    |exit id=>
     simp only at hy;split at hy
     ·rename_i v hv
      cases hy;exact⟨v,rfl,hv⟩
     ·cases hy
    |ret=>
     simp only at hy;split at hy
     ·rename_i v hv
      cases hy;exact⟨v,rfl,hv⟩
     ·cases hy
 ·rename_i n
  refine wp_loop_rounds n ?_;have key:∀(n:Nat) (σ₁:St) (a':Act) (w':World),As3 (core ρ) n σ₁ k=some r→M8 B σ₁ a' w'→Evo σ σ₁→Code.rounds P c (X3 B σ k r) n a' w':=by
   intro n
   induction n with
   |zero=>intro σ₁ a' w' hl _ _;cases hl
   |succ n ih=>
    intro σ₁ a' w' hl hr1 he1;rw[rounds_succ];simp only[As3] at hl;refine wp_mono (h _ _ _ r hl B a' w' hr1) ?_
    rintro e a2 w2 ⟨ex,τ,he,hk,hrel',hevo⟩
    cases ex with
    |normal=>subst he;exact ih τ a2 w2 hk hrel' (he1.trans hevo)
    |exit id=>subst he;exact⟨.exit id,τ,rfl,hk,hrel',he1.trans hevo⟩
    |ret=>subst he;exact⟨.ret,τ,rfl,hk,hrel',he1.trans hevo⟩
  exact key n σ a w hr hrel (Evo.refl σ)
 ·cases hr
end
theorem Ai7 {P:Program}{Γ:Cx}(hΓ:E3 P Γ)(hm:P.follows .mixedOrders=true):∀(c:Code) (h:Hint),Core P c (fun ρ σ k=>I7 Γ c h ρ σ k):=by
 intro c
 induction c with
 |skip=>
  intro h ρ σ k r hr B a w hrel;exact wp_skip ⟨.normal,σ,rfl,hr,hrel,Evo.refl σ⟩
 |ret=>
  intro h ρ σ k r hr B a w hrel;exact wp_ret ⟨.ret,σ,rfl,hr,hrel,Evo.refl σ⟩
 |exit id=>
  intro h ρ σ k r hr B a w hrel;exact wp_exit ⟨.exit id,σ,rfl,hr,hrel,Evo.refl σ⟩
 |region id ops draw=>
  intro h;have:Core P (.region id ops draw) (fun _ σ k=>match draw with
   |false=>Q6 Γ σ.C1 ops.toList ⟨[],σ.boxes,σ.jr,[],[],[]⟩ fun s=>k .normal (s.out σ)
   |true=>match AY0 ops.toList 0&&BF9 ops.toList with
    |true=>Q6 Γ σ.C1 ops.toList ⟨[],σ.boxes,σ.jr,[],[],[]⟩ fun s=>match AJ6 ops 0 ops.toList s.tw (Region.before ops).toList with
     |true=>k .normal (s.out σ)
     |false=>none
    |false=>none):=by
   intro ρ σ k r hr B a w hrel;cases draw with
   |false=>
    simp only at hr;obtain⟨ts,s',hL,hq⟩:=T5 hΓ _ _ hr;have hlen:=hL.length;refine wp_region ?_;have:=BI9 (B:=B) hL rfl (Q:=X3 B σ k r) (fun a' w' hst=>⟨.normal,_,rfl,hq,Av1 hL hst,Av0 hL⟩) ts.length 0 a w (by omega)
     (Av2 hL hrel w ⟨rfl,rfl,rfl,rfl⟩ (fun k=>decide (k<0)) fun k _=>by simp)
    rw[show ts.length=ops.size by simpa using hlen,← FD5] at this
    exact this
   |true=>
    simp only at hr;split at hr
    ·rename_i hb
     rw[Ez1] at hb;obtain⟨ts,s',hL,hq⟩:=T5 hΓ _ _ hr;have hlen:=hL.length;split at hq
     ·rename_i hd
      refine wp_region_any hm ?_;refine CY2 (B:=B) hL rfl rfl hb.1 hd (Q:=X3 B σ k r) (fun a' w' hst=>⟨.normal,_,rfl,hq,Av1 hL hst,Av0 hL⟩) ops.size (FA1 ops.size false) a _ (by simp) ?_ ?_
       (Av2 hL hrel {w with drawn:=w.drawn+1} ⟨rfl,rfl,rfl,rfl⟩ (fun k=>(FA1 ops.size false).getD k false) fun k hk=> ?_)
      ·have:((List.range ops.size).filter fun k=> !(FA1 ops.size false).getD k true)=List.range ops.size:=by
        apply List.filter_eq_self.2;intro k hk;have:=FD2.1 hk;simp[FD6,this]
       rw[this];simp
      ·intro i o ho hi e he hb'
       have:∀k,(FA1 ops.size false).getD k false=false:=fun k=>by unfold FD6;split <;> simp
       exact absurd (hi.symm.trans (this i)) (by simp)
      ·unfold FD6
       split <;> simp
     ·cases hq
    ·cases hr
  exact AK8 this
 |seq x y ihx ihy=>
  intro h;have:Core P (.seq x y) (fun ρ' σ' k'=>I7 Γ x (h.kid 0) ρ' σ' fun ex σ''=>match ex with
    | .normal=>I7 Γ y (h.kid 1) ρ' σ'' k'
    |ex=>k' ex σ''):=by
   intro ρ σ k r hr B a w hrel;refine wp_seq (wp_mono (ihx _ _ _ _ r hr B a w hrel) ?_)
   rintro e a' w' ⟨ex,τ,he,hk,hrel',hevo⟩
   subst he;cases ex with
   |normal=>exact wp_mono (ihy _ _ _ _ r hk B a' w' hrel') fun e a w hp=>BK0 hevo hp
   |exit id=>exact ⟨.exit id,τ,rfl,hk,hrel',hevo⟩
   |ret=>exact ⟨.ret,τ,rfl,hk,hrel',hevo⟩
  exact AK8 this
 |cond c x y ihx ihy=>
  intro h;have:Core P (.cond c x y) (fun ρ' σ' k'=>match W6 σ'.C1 [] [] c with
    | .dat .bool t=>bif t then I7 Γ x (h.kid 0) ρ' σ' k' else I7 Γ y (h.kid 1) ρ' σ' k'
    |_=>none):=by
   intro ρ σ k r hr B a w hrel;simp only at hr;split at hr
   ·rename_i t ht
    have hv:a.eval c = .bool t:=by
     obtain⟨ow,bx,hi,⟨h2,h3⟩,_⟩:=hrel;have hrep:A0 ow bx w (W6 σ.C1 [] [] c) (a.eval c):=by
      cases c with
      |tmp t'=>
       simp only[W6,Y8,I0,List.length_nil];cases hs:σ.C1[t']? with
       |none=>exact .undef _
       |some e=>exact h3 t' e hs
      |const v=>exact BI8 v
      |func f=>exact .clo (by simp) (by simp) (fun i e v he=>by simp at he) (fun i e v he=>by simp at he)
      |global g=>exact BH0 hi.AQ6 g
     rw[ht] at hrep;exact AY8 hrep
    refine wp_cond hv ?_;cases t with
    |true=>exact ihx _ _ _ _ r hr B a w hrel
    |false=>exact ihy _ _ _ _ r hr B a w hrel
   ·cases hr
  exact AK8 this
 |block id x ih=>
  intro h;have:Core P (.block id x) (fun ρ' σ' k'=>I7 Γ x (h.kid 0) ρ' σ' fun ex σ''=>match ex with
    | .exit id'=>match Ez6 id' id with
     |true=>k' .normal σ''
     |false=>k' ex σ''
    |ex=>k' ex σ''):=by
   intro ρ σ k r hr B a w hrel;refine wp_block (wp_mono (ih _ _ _ _ r hr B a w hrel) ?_)
   rintro e a' w' ⟨ex,τ,he,hk,hrel',hevo⟩
   subst he;cases ex with
   |normal=>exact ⟨.normal,τ,rfl,hk,hrel',hevo⟩
   |ret=>exact ⟨.ret,τ,rfl,hk,hrel',hevo⟩
   |exit id'=>
    simp only at hk;simp only[BJ9,Exit.inBlock];split at hk
    ·rename_i hb
     rw[if_pos (Ey9 hb)];exact⟨.normal,τ,rfl,hk,hrel',hevo⟩
    ·rename_i hb
     rw[if_neg (fun e=>by rw[e,FA7] at hb;cases hb)]
     exact⟨.exit id',τ,rfl,hk,hrel',hevo⟩
  exact AK8 this
 |loop x ih=>
  intro h;exact Bf7 (ih _)
 |scope x ih=>
  intro h ρ σ k r hr B a w hrel;refine wp_scope_straight (wp_mono (ih _ _ _ _ r hr B a w hrel) ?_)
  rintro e a' w' ⟨ex,τ,he,hk,hrel',hevo⟩
  subst he;cases ex with
  |normal=>exact ⟨.normal,τ,rfl,hk,hrel',hevo⟩
  |exit id=>exact ⟨.exit id,τ,rfl,hk,hrel',hevo⟩
  |ret=>exact ⟨.ret,τ,rfl,hk,hrel',hevo⟩
 |label l=>
  intro h ρ σ k r hr B a w hrel;exact wp_label ⟨.normal,σ,rfl,hr,hrel,Evo.refl σ⟩
 |_=>intro h ρ σ k r hr;cases hr

def S4 (ow:Nat→A1):Nat→A1:=fun blk=>match ow blk with
 | .tok k fr=>bif soft k then .E4 else .tok k fr
 |o=>o
theorem CZ7 {ow:Nat→A1}{blk n:Nat}(h:A5 ow blk n):A5 (S4 ow) blk n:=by
 rcases L4 h with h |⟨k,fr,h,hn⟩|⟨fr,h,hn⟩
 ·exact L3 (by simp[S4,h])
 ·cases hs:soft k with
  |true=>exact L3 (by simp[S4,h,hs])
  |false=>exact u7 (k:=k) (fr:=fr) (by simp[S4,h,hs]) hn
 ·exact X0 (by simp[S4,h]) hn
theorem BK4 {ow:Nat→A1}{blk b:Nat}:S4 ow blk = .box b↔ow blk = .box b:=by
 unfold S4;split
 ·rename_i k fr h
  rw[h];cases soft k <;> simp
 ·exact Iff.rfl
theorem Av6 (ow:Nat→A1)(w:World):E9 ow w (S4 ow) w:=.of fun _ _ h=>⟨CZ7 h,rfl⟩
theorem Bf8 {ow:Nat→A1}{bx:Bx}{w:World}{e:EV}{v:Value}(hd:∀k,bx.dead k=false)(h:A0 ow bx w e v):A0 (S4 ow) ⟨bx.f,fun _=>false,bx.tb⟩ w (frz e) v:=by
 have gen:∀e,A0 ow bx w e v→frz e=(match H9 20 e with | true=>.undef | false=>e)→A0 (S4 ow) ⟨bx.f,fun _=>false,bx.tb⟩ w (frz e) v:=by
  intro e h hs;rw[hs];cases hb:H9 20 e with
  |true=>exact .undef _
  |false=>exact BJ4 (bx:=bx) (bx':=⟨bx.f,fun _=>false,bx.tb⟩) (Av6 ow w) (fun b h=>⟨rfl,BK4.2 h⟩) 20 e v hb h
 cases e with
 |own k t l=>
  cases h with
  |own h h' hh=>
   simp only[frz];split
   ·rename_i hsf
    rcases h' (hd k) with⟨h1,h2⟩|⟨blk,cap,c,fz,h1,h2,h3,h3',h4,h5,h6⟩
    ·subst h1
     subst h2;exact .dat (AK2 t)
    ·subst h1
     obtain⟨h7,h8⟩:=h6 hsf;refine .dat ⟨some ⟨blk,0,none⟩,cap,rfl,⟨h7,h5⟩,fun _=>⟨blk,0,c,_,fz,rfl,L3 (by simp[S4,h2,hsf]),h3,fun i x hx=> ?_⟩⟩
     rw[FA5];exact Rep.keep (Av6 ow w) _ _ _ (h8 i x hx)
   ·rename_i hsf
    refine .own (fun hs=>(h hs).keep (Av6 ow w)) (fun _=> ?_) hh
    rcases h' (hd k) with⟨h1,h2⟩|⟨blk,cap,c,fz,h1,h2,h3,h3',h4,h5,h6⟩
    ·exact .inl ⟨h1,h2⟩
    ·exact .inr ⟨blk,cap,c,fz,h1,by simp[S4,h2,hsf],h3,h3',h4,h5,fun hs=>(by rw[hsf] at hs;cases hs)⟩
 |_=>exact gen _ h rfl
theorem Bf9 {B:E5}{τ:St}{a:Act}{w:World}(h:M8 B τ a w):M8 B (u5 τ) a w:=by
 obtain⟨ow,bx,h1,⟨h2,h3⟩,h4,h5⟩:=h;refine⟨S4 ow,⟨bx.f,fun _=>false,bx.tb⟩,?_,⟨by simp only[u5,FA8];exact h2,fun t e he=> ?_⟩,h4,fun _=>rfl⟩
 ·constructor
  ·intro b cs hb
   simp only[u5] at hb;rw[AA2] at hb;cases hg:A3 τ.boxes b with
   |none=>rw [hg] at hb;cases hb
   |some cs0=>
    rw[hg] at hb;cases hb;obtain⟨g1,c,T,g2,g3⟩:=h1.box b cs0 hg;refine⟨BK4.2 g1,c,T,g2,by simpa using g3.1,fun i e v he hv=> ?_⟩
    rw[Ez9] at he;cases hc:cs0[i]? with
    |none=>rw [hc] at he;cases he
    |some e0=>
     rw[hc] at he;cases he;exact⟨Bf8 h5 (g3.2 i e0 v hc hv).1,(g3.2 i e0 v hc hv).2⟩
  ·intro blk b hb
   obtain⟨g1,g2,g3⟩:=h1.back blk b (BK4.1 hb);refine⟨g1,?_,by simp only[u5,FA8];exact g3⟩
   simp only[u5];rw[AA2];cases hg:A3 τ.boxes b with
   |none=>rw [hg] at g2;cases g2
   |some cs0=>rfl
  ·intro blk hb
   refine h1.here blk fun e=>hb ?_
   simp[S4,e]
  ·intro blk hb hm
   obtain⟨g1,g2,g3,g4⟩:=h1.old blk hb hm;have hr:S4 ow blk=ow blk:=by
    unfold S4;split
    ·rename_i k fr h;exact absurd h (g4 k fr)
    ·rfl
   exact⟨g1,by rw[hr];exact g2,by rw[hr];exact⟨g3,g4⟩⟩
  ·exact h1.size
  ·exact h1.env
  ·intro b hb
   obtain⟨g1,g2⟩:=h1.kept b hb;refine⟨g1,?_⟩;simp only[u5];rw[AA2];cases hg:A3 τ.boxes b with
   |none=>rw [hg] at g2;cases g2
   |some cs0=>rfl
  ·exact h1.st.trans (Av6 ow w)
  ·exact fun j hj=>(h1.born j hj).imp (fun h=>h) fun h=>(by rw[h5] at h;exact absurd h.1 (by simp))
 ·simp only[u5] at he
  rw[Ez9] at he;cases hc:τ.C1[t]? with
  |none=>rw [hc] at he;cases he
  |some e0=>
   rw[hc] at he;cases he;exact Bf8 h5 (h3 t e0 hc)
theorem Bg0 {ks:List Nat}{ow:Nat→A1}{bx:Bx}{w:World}{e:EV}{v:Value}(hs:∀k∈ks,soft k=true)(hd:∀k,bx.dead k=false)(h:A0 ow bx w e v):A0 (I8 ks ow) ⟨bx.f,fun _=>false,bx.tb⟩ w (AK0 ks e) v:=by
 have hst:E9 ow w (I8 ks ow) w:=.of fun _ _ h=>⟨BI4 h,rfl⟩
 have gen:∀e,A0 ow bx w e v→AK0 ks e=(match H9 20 e with | true=>.undef | false=>e)→A0 (I8 ks ow) ⟨bx.f,fun _=>false,bx.tb⟩ w (AK0 ks e) v:=by
  intro e h hs;rw[hs];cases hb:H9 20 e with
  |true=>exact .undef _
  |false=>exact BJ4 (bx:=bx) (bx':=⟨bx.f,fun _=>false,bx.tb⟩) hst (fun b h=>⟨rfl,AR0.2 h⟩) 20 e v hb h
 cases e with
 |own k t l=>
  cases h with
  |own h h' hh=>
   simp only[AK0];split
   ·rename_i hin
    obtain⟨hm,hkb⟩:=Bb0 hin;rcases h' (hd k) with⟨h1,h2⟩|⟨blk,cap,c,fz,h1,h2,h3,h3',h4,h5,h6⟩
    ·subst h1
     subst h2;exact .dat (AK2 t)
    ·subst h1
     obtain⟨h7,h8⟩:=h6 (hs k hm);refine .dat ⟨some ⟨blk,0,none⟩,cap,rfl,⟨h7,h5⟩,fun _=>⟨blk,0,c,_,fz,rfl,L3 (by simp[I8,h2,hkb]),h3,fun i x hx=> ?_⟩⟩
     rw[FA5];exact Rep.keep hst _ _ _ (h8 i x hx)
   ·rename_i hin
    have hkb:F4 ks k=false:=by
     cases hk:F4 ks k with
     |false=>rfl
     |true=>
      unfold F4 at hk;obtain⟨z,hz,hzk⟩:=List.any_eq_true.1 hk;have:=Ey9 hzk;subst this;exact absurd (BJ5.2 hz) (by simpa using hin)
    refine .own (fun hs=>(h hs).keep hst) (fun _=> ?_) hh
    rcases h' (hd k) with⟨h1,h2⟩|⟨blk,cap,c,fz,h1,h2,h3,h3',h4,h5,h6⟩
    ·exact .inl ⟨h1,h2⟩
    ·exact .inr ⟨blk,cap,c,fz,h1,by simp[I8,h2,hkb],h3,h3',h4,h5,fun hs=>⟨(h6 hs).1,fun i x hx=>Rep.keep hst _ _ _ ((h6 hs).2 i x hx)⟩⟩
 |_=>exact gen _ h rfl
theorem CZ8 {B:E5}{ks:List Nat}{τ:St}{a:Act}{w:World}(hs:∀k∈ks,soft k=true)(h:M8 B τ a w):M8 B ⟨τ.C1.map (AK0 ks),τ.boxes.map (Option.map (List.map (AK0 ks))),τ.jr⟩ a w:=by
 obtain⟨ow,bx,h1,⟨h2,h3⟩,h4,h5⟩:=h;refine⟨I8 ks ow,⟨bx.f,fun _=>false,bx.tb⟩,?_,⟨by simp only[FA8];exact h2,fun t e he=> ?_⟩,h4,fun _=>rfl⟩
 ·constructor
  ·intro b cs hb
   simp only at hb;rw[AA2] at hb;cases hg:A3 τ.boxes b with
   |none=>rw [hg] at hb;cases hb
   |some cs0=>
    rw[hg] at hb;cases hb;obtain⟨g1,c,T,g2,g3⟩:=h1.box b cs0 hg;refine⟨AR0.2 g1,c,T,g2,by simpa using g3.1,fun i e v he hv=> ?_⟩
    rw[Ez9] at he;cases hc:cs0[i]? with
    |none=>rw [hc] at he;cases he
    |some e0=>
     rw[hc] at he;cases he;exact⟨Bg0 hs h5 (g3.2 i e0 v hc hv).1,(g3.2 i e0 v hc hv).2⟩
  ·intro blk b hb
   obtain⟨g1,g2,g3⟩:=h1.back blk b (AR0.1 hb);refine⟨g1,?_,by simp only[FA8];exact g3⟩
   simp only;rw[AA2];cases hg:A3 τ.boxes b with
   |none=>rw [hg] at g2;cases g2
   |some cs0=>rfl
  ·intro blk hb
   refine h1.here blk fun e=>hb ?_
   simp[I8,e]
  ·intro blk hb hm
   obtain⟨g1,g2,g3,g4⟩:=h1.old blk hb hm;have hr:I8 ks ow blk=ow blk:=by
    unfold I8;split
    ·rename_i k fr h;exact absurd h (g4 k fr)
    ·rfl
   exact⟨g1,by rw[hr];exact g2,by rw[hr];exact⟨g3,g4⟩⟩
  ·exact h1.size
  ·exact h1.env
  ·intro b hb
   obtain⟨g1,g2⟩:=h1.kept b hb;refine⟨g1,?_⟩;simp only;rw[AA2];cases hg:A3 τ.boxes b with
   |none=>rw [hg] at g2;cases g2
   |some cs0=>rfl
  ·exact h1.st.trans (.of fun _ _ h=>⟨BI4 h,rfl⟩)
  ·exact fun j hj=>(h1.born j hj).imp (fun h=>h) fun h=>(by rw[h5] at h;exact absurd h.1 (by simp))
 ·simp only at he
  rw[Ez9] at he;cases hc:τ.C1[t]? with
  |none=>rw [hc] at he;cases he
  |some e0=>
   rw[hc] at he;cases he;exact Bg0 hs h5 (h3 t e0 hc)
theorem Aa6:∀(ps:List OP) (es:List EV),∀k∈u6 ps es,soft k=true
 | [],_,k,hk=>by simp[u6] at hk
 |p::ps,[],k,hk=>by cases p <;> simp[u6] at hk
 |p::ps,e::es,k,hk=>by
  cases p with
  |dat t=>
   simp only[u6] at hk;split at hk
   ·split at hk
    ·rename_i hsf
     rcases FC7.1 hk with h | h
     ·rw[h];exact hsf
     ·exact Aa6 ps es k h
    ·exact Aa6 ps es k hk
   ·exact Aa6 ps es k hk
  |own κ t=>simp only[u6] at hk;exact Aa6 ps es k hk
  |ref i off=>simp only[u6] at hk;exact Aa6 ps es k hk
theorem CZ9 {B:E5}{Γ:Cx}{c:F9}{rv:List ResultVar}{τ:St}{a:Act}{w:World}(h:M8 B τ a w):M8 B (As5 Γ c rv τ) a w:=by
 unfold As5;split
 ·rename_i vs _
  have hs:=Aa6 c.rs vs;unfold BX4;split
  ·exact h
  ·exact CZ8 hs h
 ·exact h

theorem Bg1:∀(bs:List (List PT)) (d:List EV),(P0 bs d).length=bs.length
 | [],_=>rfl
 |p::r,d=>by simp[P0,Bg1 r]
theorem Bg2 (n:Nat):F0 (AY2 n):=by
 have mem:∀i b,(i,b)∈AY2 n→b=i:=by intro i b h;obtain⟨j,_,hj⟩:=FC9.1 h;cases hj;rfl
 refine⟨fun i b h=> ?_,fun i j b h1 h2=>by rw[← mem i b h1,mem j b h2]⟩
 have:=mem i b h;subst this;have:∀(l:List (Nat×Nat)) (i:Nat),(i,i)∈l→(∀j c,(j,c)∈l→c=j)→J3 l i=some i:=by
  intro l i
  induction l with
  |nil=>intro h;simp at h
  |cons p r ih=>
   intro hm hall;obtain⟨k,c⟩:=p;have:=hall k c (by simp)
   subst this;simp only[J3];cases hb:Ez6 c i with
   |true=>
    have:=Ey9 hb;subst this;rfl
   |false=>
    rcases FC7.1 hm with e | e
    ·cases e;rw[FA7] at hb;cases hb
    ·exact ih e fun j c h=>hall j c (by simp[h])
 exact this _ _ h mem
theorem Av7 {n i:Nat}(h:i<n):(i,i)∈AY2 n:=FC9.2 ⟨i,FD2.2 h,rfl⟩
theorem Ca0 {rd:Nat→Option (List EV)}:∀(bs:List (List PT)) (i:Nat) (a:List (Nat×Nat)) (l:List EV) (a':List (Nat×Nat)),W3 rd i bs a=some (l,a')→∀e∈l,∃t v,e=EV.dat t v:=by
 intro bs
 induction bs with
 |nil=>intro i a l a' h;simp only[W3] at h;cases h;simp
 |cons pts r ih=>
  intro i a l a' h;simp only[W3] at h;split at h
  ·split at h
   ·split at h
    ·rename_i hm
     split at h
     ·rename_i hr
      cases h;intro e he;rcases Ez5.1 he with he | he
      ·exact AF2 _ _ _ _ _ _ hm e he
      ·exact ih _ _ _ _ hr e he
     ·cases h
    ·cases h
   ·cases h
  ·cases h
theorem Ca1 {ow:Nat→A1}{bx:Bx}{w:World}:∀(n:Nat) (rs:List PT) (vs:List EV) (a:List (Nat×Nat)) (l:List EV) (a':List (Nat×Nat)),B7 n rs vs a=some (l,a')→O0 rs=true→
  l.length=vs.length∧∀(i:Nat) e e' v,vs[i]? = some e→l[i]? = some e'→A0 ow bx w e v→A0 ow bx w e' v:=by
 intro n
 induction n with
 |zero=>intro rs vs a l a' h;simp only[B7] at h;cases h
 |succ n ih=>
  intro rs vs a l a' h hd;cases rs with
  |nil=>
   cases vs with
   |nil=>simp only[B7] at h;cases h;exact⟨rfl,fun i e e' v he=>by simp at he⟩
   |cons v vs=>simp only[B7] at h;cases h
  |cons p ps=>
   cases p with
   |dat t=>
    cases vs with
    |nil=>simp only[B7] at h;cases h
    |cons e0 es=>
     simp only[B7] at h;split at h
     ·rename_i x hx
      split at h
      ·rename_i h1
       cases h;obtain⟨k1,k2⟩:=ih _ _ _ _ _ h1 hd;refine⟨by simp[k1],fun i e e' v he he' hr=> ?_⟩
       cases i with
       |zero=>
        simp at he he';subst he he';exact .dat (As9 hx hr)
       |succ i=>exact k2 i e e' v (by simpa using he) (by simpa using he') hr
      ·cases h
     ·cases h
   |own t=>simp [O0] at hd
   |ref i off=>simp [O0] at hd
   |clo f x y=>simp [O0] at hd
   |sl x=>simp [O0] at hd
   |rp x off=>simp [O0] at hd
   |skip=>simp [O0] at hd
theorem BK5 {a:Array Value}{i:Nat}{v:Value}(h:a[i]? = some v):a.getD i undef=v:=by simp[h]
def Ai8 (tmps:Array Value):ResultVar→Sem Value
 | .tmp t=>pure (tmps.getD t undef)
 | .cell a t=>do loadVar t (← asAddr (tmps.getD a undef))
theorem BK6 (fn:Func)(tmps:Array Value):results fn tmps=(do
  let vs ← fn.results.mapM (Ai8 tmps)
  pure (if h:vs.size=1 then vs[0] else .tuple vs)):=by
 unfold results;congr 1
theorem Ai9 {P:Program}{Γ:Cx}(hΓ:E3 P Γ){τ:St}{a:Act}{w:World}{B:E5}{ow:Nat→A1}{bx:Bx}{nb:Nat}(hi:Inv B ow bx nb (A3 τ.boxes) w)(hs:∀t e,τ.C1[t]? = some e→A0 ow bx w e (a.tmps.getD t undef)):
  ∀(rv:List ResultVar) (vs:List EV),AC0 Γ τ rv=some vs→∃us:List Value,(rv.mapM (Ai8 a.tmps)).run P w = .ok us w∧us.length=vs.length∧∀(i:Nat) e u,vs[i]? = some e→us[i]? = some u→A0 ow bx w e u
 | [],vs,h=>by simp only[AC0] at h;cases h;exact⟨[],by simp,rfl,fun i e u he=>by simp at he⟩
 | .tmp t::r,vs,h=>by
  simp only[AC0] at h;split at h
  ·rename_i e he
   split at h
   ·rename_i l hl
    cases h;obtain⟨us,h1,h2,h3⟩:=Ai9 hΓ hi hs r l hl;refine⟨a.tmps.getD t undef::us,?_,by simp[h2],fun i e' u he' hu=> ?_⟩
    ·rw[FD4]
     simp only[Ai8,FA3,FB8,FA6];rw[h1];simp
    ·cases i with
     |zero=>simp at he' hu;subst he' hu;have:=hs t e he;simpa using this
     |succ i=>exact h3 i e' u (by simpa using he') (by simpa using hu)
   ·cases h
  ·cases h
 | .cell b t::r,vs,h=>by
  simp only[AC0] at h;split at h
  ·rename_i bb off he
   split at h
   ·rename_i cs hcs
    split at h
    ·rename_i d hd
     split at h
     ·rename_i e hre
      split at h
      ·rename_i l hl
       cases h;obtain⟨us,h1,h2,h3⟩:=Ai9 hΓ hi hs r l hl;have hp:=hs b _ he;obtain⟨w1,c,U,hc,hr⟩:=hi.box bb cs hcs;obtain⟨u,g1,g2,_⟩:=AK3 (P:=P) (hΓ.td t d hd) (base:=0) hre hc (vs:=c.toList) (fun i v h=>by rw[FA5];exact z6 h) hr
       rw[FA5] at g1;refine⟨u::us,?_,by simp[h2],fun i e' u' he' hu=> ?_⟩
       ·rw[FD4,FA3]
        have hf:(Ai8 a.tmps (.cell b t)).run P w = .ok u w:=by
         simp only[Ai8,FA3];generalize a.tmps.getD b undef=pv at hp ⊢;cases hp with
         |ptr hq=>simp only[asAddr,FB8,FA6,g1]
        rw[hf];simp only[FA6,FA3];rw[h1];simp
       ·cases i with
        |zero=>simp at he' hu;subst he' hu;exact g2
        |succ i=>exact h3 i e' u' (by simpa using he') (by simpa using hu)
      ·cases h
     ·cases h
    ·cases h
   ·cases h
  ·cases h
theorem Bg3 {P:Program}{Γ:Cx}(hΓ:E3 P Γ){c:Con}{fn:Func}{code code':Code}{h:Hint}(hf:P.funcs[c.f]? = some fn)(hb:fn.body=some code)
  (hn:(fn.name == "runtime.NumGoroutine")=false) (hcore:Core P code (fun ρ σ k=>I7 Γ code' h ρ σ k)) (hrun:AC1 Γ c {fn with body:=some code'} h=c.F):M4 P c:=by
 refine⟨⟨fn,hf,by rw[hb];rfl,hn⟩,?_⟩
 intro x y hy w ow bx args hg hbd hinv hargs;have hr:AC1 Γ c {fn with body:=some code'} h x=some y:=by rw[hrun];exact hy
 unfold AC1 at hr;simp only at hr;have hσ:BG1 c fn.ntmps x=⟨c.G7 x++List.replicate (fn.ntmps-(c.G7 x).length) .undef,c.L0 x,[]⟩:=rfl;have hbl:(c.L0 x).length=c.boxes.length:=Bg1 _ _;have hrel:M8 ⟨w,fun blk=>∃b,ow blk = .box b,ow,c.boxes.length,bx,hg⟩ (BG1 c fn.ntmps x) {tmps:=args++FA1 (fn.ntmps-args.size) undef,defers:=[]} w:=by
  rw[hσ];refine⟨ow,bx,by simp only[hbl];exact hinv,⟨?_,fun t e he=> ?_⟩,rfl,hbd⟩
  ·have:=hargs.1
   simp[this]
  ·simp only at he
   have hl:=hargs.1;by_cases hlt:t<(c.G7 x).length
   ·rw[FA0 hlt] at he
    obtain⟨v,hv⟩:∃v,args[t]? = some v:=⟨_,Ez3 (by omega)⟩
    have:(args++FA1 (fn.ntmps-args.size) undef).getD t undef=v:=by
     apply BK5;rw[FB6 (by omega)]
     exact hv
    rw[this];exact hargs.2 t e v he hv
   ·rw[FA4 (by omega),FC0] at he
    split at he
    ·cases he;exact .undef _
    ·cases he
 refine calls_of_wp hf hb (wp_mono (hcore _ _ _ y hr _ _ w hrel) ?_)
 rintro e a' w' ⟨ex,τ₀,rfl,hk,hrel₀,_⟩
 obtain⟨ow',bx',i1,⟨s1,r1⟩,hd,hdd⟩:=Bf9 hrel₀;generalize hτ:u5 τ₀=τ at i1 s1 r1;have main:BG2 Γ c fn.results.toList τ=some y→a'.defers=[]∧∃v,(results fn a'.tmps).run P w' = .ok v w'∧
   ∃v' ow'',Ending.returned v = .returned v'∧Inv ⟨w,fun blk=>∃b,ow blk = .box b,ow,c.boxes.length,bx,hg⟩ ow'' bx c.boxes.length (A3 (c.S1 y)) w'∧A0 ow'' bx w' (c.res y) v':=by
  intro hfin;refine⟨hd,?_⟩;unfold BG2 at hfin;split at hfin
  ·rename_i vs hvs
   split at hfin
   ·rename_i l a1 hm1
    split at hfin
    ·rename_i l' af hm2
     split at hfin
     ·rename_i hc
      simp only[BX2,Ez1] at hc;obtain⟨⟨⟨⟨⟨hbs,hlt⟩,hrs⟩,hno⟩,hbel⟩,hnl⟩:=hc;have hno:=Ey9 hno;have hnl:=Ey9 hnl;have hbelow:=AZ3 _ _ hbel;obtain⟨us,g1,g2,g3⟩:=Ai9 hΓ i1 r1 fn.results.toList vs hvs;obtain⟨k1,k2⟩:=Ca1 (ow:=ow') (bx:=bx') (w:=w') _ _ _ _ _ _ hm1 hrs;obtain⟨b1,b2,b3,b4⟩:=BH5 c.boxes 0 _ l' af hm2 hbs;have hok:F0 af:=b1 (Bg2 _)
      have htr:=At5 hok ow' bx';have hsame:∀i b,(i,b)∈af→b=i:=by intro i b h;have h1:=hok.key i b h;have h2:=hok.key i i (b2 _ (Av7 (hbelow i b h)));rw[h1] at h2;cases h2;rfl
      have hun:A8 c.outs c.A2 y=l++l':=by
       have:=AQ8 c.outs (l++l') y hfin (fun e he=>by
        rcases Ez5.1 he with he | he
        ·exact AF2 _ _ _ _ _ _ hm1 e he
        ·exact Ca0 _ _ _ _ _ hm2 e he)
       rw[hno] at this;exact this
      have hres:c.res y=H2 l:=by unfold Con.res;rw[hun,← hnl,List.take_left]
      have hboxes:c.S1 y=P0 c.boxes l':=by unfold Con.S1;rw[hun,← hnl,List.drop_left]
      have hdatl:∀e∈l,∃t v,e=EV.dat t v:=AF2 _ _ _ _ _ _ hm1;have hbx:∀b,b<c.boxes.length→bx' b=bx b:=fun b hb=>(i1.kept b hb).1
      have hbc:∀b,b<c.boxes.length→H7 af bx' b=bx b:=by intro b hb;have:=hok.key b b (b2 _ (Av7 hb));simp[H7,this,hbx b hb]
      have hcall:∀blk i,B5 af ow' blk = .box i→ow' blk = .box i∧i<c.boxes.length∧blk=bx i:=by
       intro blk i h;unfold B5 at h;split at h
       ·cases h
       ·rename_i b hb
        split at h
        ·rename_i j hj
         cases h;have hmem:=z8 _ _ _ hj;have:=hsame _ _ hmem;subst this;have hlt:=hbelow _ _ hmem;exact⟨hb,hlt,by rw[← hbx _ hlt];exact (i1.back blk _ hb).1⟩
        ·cases h
       ·cases h
       ·cases h
       ·cases h
      have hkeep:E0 (B5 af ow') (H7 af bx') w' (B5 af ow') bx w':=
       ⟨.refl _ _,fun blk k fr h _=>⟨h,rfl⟩,fun _ _=>rfl,fun b h=>by obtain⟨_,q2,q3⟩:=hcall _ _ h;exact⟨(hbc b q2).symm,h⟩,fun k x h=>by simp[H7] at h⟩
      have hvals:∀(i:Nat) e u,l[i]? = some e→us[i]? = some u→A0 (B5 af ow') bx w' e u:=by
       intro i e u he hu;have hil:i<vs.length:=by rw[← k1];exact (Ez0.1 he).1
       have h2:=k2 i _ e u (Ez2 hil) he (g3 i _ u (Ez2 hil) hu);obtain⟨t,z,rfl⟩:=hdatl e (Ez8 he);cases h2 with
       |dat h2=>exact .dat (h2.keep (E9.of fun blk n hs=>⟨htr.st blk n hs,rfl⟩))
      have hlus:us.length=l.length:=by rw[g2,k1]
      have hval:∃v,(results fn a'.tmps).run P w' = .ok v w'∧A0 (B5 af ow') bx w' (H2 l) v:=by
       refine⟨if h:us.toArray.size=1 then us.toArray[0] else .tuple us.toArray,?_,?_⟩
       ·rw[BK6,FB7]
        simp only[FA3,map_eq_pure_bind,FB8];rw[g1];simp
       ·match l,us,hlus,hvals with
        | [],[],_,_=>exact .tup rfl fun i e v he=>by simp at he
        | [e],[u],_,hv=>exact hv 0 e u rfl rfl
        |e1::e2::l,u1::u2::us,hl,hv=>
         rw[dif_neg (by simp)]
         exact .tup (by simpa using hl.symm) fun i e v he hu=>hv i e v he (by simpa using hu)
      obtain⟨v,hv1,hv2⟩:=hval;refine⟨v,hv1,v,B5 af ow',rfl,?_,by rw[hres];exact hv2⟩
      rw[hboxes];constructor
      ·intro i cs' hcs'
       rw[O3] at hcs';have hlt':i<c.boxes.length:=by rw[← b3];exact (Ez0.1 hcs').1
       obtain⟨b,cs,cs'',q1,q2,q3,q4,q5,_⟩:=b4 i hlt';rw[hcs'] at q3;cases q3;rw[FA5] at q1;have:=hsame _ _ q1;subst this;obtain⟨w1,c0,T,w2,w3⟩:=i1.box b cs q2;obtain⟨t1,t2⟩:=htr.bo b b q1 w1;rw[hbx b hlt'] at t2 w2;refine⟨t2,c0,T,w2,by rw[q4,w3.1],fun k e v he hv=> ?_⟩
       have hkl:k<cs.length:=by rw[← q4];exact (Ez0.1 he).1
       obtain⟨z1,z2⟩:=w3.2 k _ v (Ez2 hkl) hv;exact⟨(q5 ow' _ bx' _ w' htr k _ e v (Ez2 hkl) he z1).keep hkeep,z2⟩
      ·intro blk i h
       obtain⟨q1,q2,q3⟩:=hcall blk i h;obtain⟨b,cs,cs'',z1,z2,z3,_⟩:=b4 i q2;exact⟨q3,by rw[O3.2 z3];rfl,q2⟩
      ·intro blk h
       refine i1.here blk fun e=>h ?_
       simp[B5,e]
      ·intro blk hb hnm
       obtain⟨q1,q2,q3⟩:=i1.old blk hb hnm;have:B5 af ow' blk=ow' blk:=by
        unfold B5;cases hob:ow' blk with
        |box b=>exact absurd hob (q3.1 b)
        |tok k fr=>exact absurd hob (q3.2 k fr)
        |_=>rfl
       exact⟨q1,by rw[this];exact q2,by rw[this];exact q3⟩
      ·exact i1.size
      ·exact i1.env
      ·intro b hb'
       obtain⟨b',cs,cs'',z1,z2,z3,_⟩:=b4 b hb';exact⟨rfl,by rw[O3.2 z3];rfl⟩
      ·exact i1.st.trans (.of fun blk n h=>⟨AZ4 h,rfl⟩)
      ·exact hinv.born
     ·cases hfin
    ·cases hfin
   ·cases hfin
  ·cases hfin
 cases ex with
 |normal=>exact main (by rw[← hτ];exact hk)
 |ret=>exact main (by rw[← hτ];exact hk)
 |exit id=>cases hk
theorem BK7 {P:Program}{Γ:Cx}(hΓ:E3 P Γ)(hm:P.follows .mixedOrders=true){c:Con}{fn:Func}{code:Code}{h:Hint}(hf:P.funcs[c.f]? = some fn)(hb:fn.body=some code)
  (hn:(fn.name == "runtime.NumGoroutine")=false) (hrun:AC1 Γ c fn h=c.F):M4 P c:=
 Bg3 hΓ hf hb hn (Ai7 hΓ hm code h) (by rw[← hb];exact hrun)
theorem Bg4 {P:Program}{Γ:Cx}(hΓ:E3 P Γ)(hm:P.follows .mixedOrders=true){c:J1}{fn:Func}{code:Code}{h:Hint}(hf:P.funcs[c.f]? = some fn)(hb:fn.body=some code)
  (hn:(fn.name == "runtime.NumGoroutine")=false) (hrun:runN Γ c fn h=c.F):NOK P c:=by
 refine⟨⟨fn,hf,by rw[hb];rfl,hn⟩,?_⟩
 intro x y hy w ow bx args hg hbd hinv hargs;have hr:runN Γ c fn h x=some y:=by rw[hrun];exact hy
 unfold runN at hr;rw[hb] at hr;simp only at hr;have hσ:BG4 c fn.ntmps x=⟨c.G7 x++List.replicate (fn.ntmps-(c.G7 x).length) .undef,[],[]⟩:=rfl;have hrel:M8 ⟨w,fun _=>False,ow,0,bx,hg⟩ (BG4 c fn.ntmps x) {tmps:=args++FA1 (fn.ntmps-args.size) undef,defers:=[]} w:=by
  rw[hσ];refine⟨ow,bx,hinv,⟨?_,fun t e he=> ?_⟩,rfl,hbd⟩
  ·have:=hargs.1
   simp[this]
  ·simp only at he
   have hl:=hargs.1;by_cases hlt:t<(c.G7 x).length
   ·rw[FA0 hlt] at he
    obtain⟨v,hv⟩:∃v,args[t]? = some v:=⟨_,Ez3 (by omega)⟩
    have:(args++FA1 (fn.ntmps-args.size) undef).getD t undef=v:=by
     apply BK5;rw[FB6 (by omega)]
     exact hv
    rw[this];exact hargs.2 t e v he hv
   ·rw[FA4 (by omega),FC0] at he
    split at he
    ·cases he;exact .undef _
    ·cases he
 refine calls_of_wp hf hb (wp_mono (Ai7 hΓ hm code h _ _ _ y hr _ _ w hrel) ?_)
 rintro e a' w' ⟨ex,τ₀,rfl,hk,hrel₀,_⟩
 obtain⟨ow',bx',i1,⟨s1,r1⟩,hd,hdd⟩:=Bf9 hrel₀;generalize hτ:u5 τ₀=τ at i1 s1 r1;have main:BG3 Γ c fn.results.toList τ=some y→a'.defers=[]∧∃v,(results fn a'.tmps).run P w' = .ok v w'∧
   ∃v' ow'' bx'',Ending.returned v = .returned v'∧(∀k,bx''.dead k=false)∧Inv ⟨w,fun _=>False,ow,0,bx,hg⟩ ow'' bx'' 1 (A3 [some (c.AB5 y)]) w'∧A0 ow'' bx'' w' (c.res y) v':=by
  intro hfin;refine⟨hd,?_⟩;unfold BG3 at hfin;split at hfin
  ·rename_i vs hvs
   split at hfin
   ·rename_i l a1 hm1
    split at hfin
    ·rename_i b hab
     split at hfin
     ·rename_i cs hcs
      split at hfin
      ·rename_i l' af hm2
       split at hfin
       ·rename_i hc
        simp only[BX3,Ez1] at hc;obtain⟨⟨⟨hrs,hnw⟩,hno⟩,hbel⟩:=hc;have hno:=Ey9 hno;have hbelow:=AZ3 _ _ hbel;obtain⟨us,g1,g2,g3⟩:=Ai9 hΓ i1 r1 fn.results.toList vs hvs;obtain⟨k1,k2,k3⟩:=AK6 (ow:=ow') (ow':=B5 af ow') (bx:=bx') (bx':=H7 af bx') (w:=w') 200 true c.rs vs [] l a1 hm1 hrs;obtain⟨n1,n2,n3⟩:=AK6 (ow:=ow') (ow':=B5 af ow') (bx:=bx') (bx':=H7 af bx') (w:=w') 200 false c.new cs a1 l' af hm2 hnw
        have hok:F0 af:=n1 (k1 .nil);have htr:=At5 hok ow' bx';have hmem:(0,b)∈af:=n2 _ (V3 _ _ _ hab);have hun:A8 c.outs c.A2 y=l++l':=by
         have:=AQ8 c.outs (l++l') y hfin (fun e he=>by
          rcases Ez5.1 he with he | he
          ·exact AF2 _ _ _ _ _ _ hm1 e he
          ·exact AF2 _ _ _ _ _ _ hm2 e he)
         rwa [hno] at this
        obtain⟨es',f1,f2,f3⟩:=k3 l';obtain⟨ns',f4,f5,f6⟩:=n3 [];rw[List.append_nil] at f4;have hres:c.res y=H2 es':=by unfold J1.res;rw[hun,f1]
        have hnew:c.AB5 y=ns':=by unfold J1.AB5;rw[hun,f1];simp only;rw[f4]
        have hvals:∀(i:Nat) e u,es'[i]? = some e→us[i]? = some u→A0 (B5 af ow') (H7 af bx') w' e u:=by
         intro i e u he hu;have hil:i<vs.length:=by rw[← f2];exact (Ez0.1 he).1
         exact f3 af n2 htr i _ e u (Ez2 hil) he (g3 i _ u (Ez2 hil) hu)
        have hlus:us.length=es'.length:=by rw[g2,f2]
        have hval:∃v,(results fn a'.tmps).run P w' = .ok v w'∧A0 (B5 af ow') (H7 af bx') w' (H2 es') v:=by
         refine⟨if h:us.toArray.size=1 then us.toArray[0] else .tuple us.toArray,?_,?_⟩
         ·rw[BK6,FB7]
          simp only[FA3,map_eq_pure_bind,FB8];rw[g1];simp
         ·match es',us,hlus,hvals with
          | [],[],_,_=>exact .tup rfl fun i e v he=>by simp at he
          | [e],[u],_,hv=>exact hv 0 e u rfl rfl
          |e1::e2::l,u1::u2::us,hl,hv=>
           rw[dif_neg (by simp)]
           exact .tup (by simpa using hl.symm) fun i e v he hu=>hv i e v he (by simpa using hu)
        obtain⟨v,hv1,hv2⟩:=hval;refine⟨v,hv1,v,B5 af ow',H7 af bx',rfl,fun _=>rfl,?_,by rw[hres];exact hv2⟩
        rw[hnew];obtain⟨w1,c0,T,w2,w3⟩:=i1.box b cs hcs;obtain⟨t1,t2⟩:=htr.bo 0 b hmem w1;have hcall:∀blk i,B5 af ow' blk = .box i→i=0∧ow' blk = .box b∧blk=bx' b:=by
         intro blk i h;unfold B5 at h;split at h
         ·cases h
         ·rename_i b' hb'
          split at h
          ·rename_i j hj
           simp only[A1.box.injEq] at h;have hmj:=z8 _ _ _ hj;have hj0:=hbelow _ _ hmj;have hj0:j=0:=by omega
           subst hj0;subst h;have q1:=hok.key 0 b' hmj;rw[hok.key 0 b hmem] at q1;cases q1;exact⟨rfl,hb',(i1.back blk _ hb').1⟩
          ·cases h
         ·cases h
         ·cases h
         ·cases h
        constructor
        ·intro i cs' hcs'
         rw[O3] at hcs';cases i with
         |succ i=>simp at hcs'
         |zero=>
          simp only[FB9,Option.some.injEq] at hcs';subst hcs';rw[t1];refine⟨t2,c0,T,w2,by rw[f5,w3.1],fun k e v he hv=> ?_⟩
          have hkl:k<cs.length:=by rw[← f5];exact (Ez0.1 he).1
          obtain⟨z1,z2⟩:=w3.2 k _ v (Ez2 hkl) hv;exact⟨f6 af (fun p hp=>hp) htr k _ e v (Ez2 hkl) he z1,z2⟩
        ·intro blk i h
         obtain⟨rfl,_,q3⟩:=hcall blk i h;exact⟨by rw[t1];exact q3,rfl,by omega⟩
        ·intro blk h
         refine i1.here blk fun e=>h ?_
         simp[B5,e]
        ·intro blk hb hnm
         obtain⟨q1,q2,q3⟩:=i1.old blk hb hnm;have:B5 af ow' blk=ow' blk:=by
          unfold B5;cases hob:ow' blk with
          |box b=>exact absurd hob (q3.1 b)
          |tok k fr=>exact absurd hob (q3.2 k fr)
          |_=>rfl
         exact⟨q1,by rw[this];exact q2,by rw[this];exact q3⟩
        ·exact i1.size
        ·exact i1.env
        ·intro b hb';simp at hb'
        ·exact i1.st.trans (.of fun blk n h=>⟨AZ4 h,rfl⟩)
        ·exact fun j h=>by simp[H7] at h
       ·cases hfin
      ·cases hfin
     ·cases hfin
    ·cases hfin
   ·cases hfin
  ·cases hfin
 cases ex with
 |normal=>exact main (by rw[← hτ];exact hk)
 |ret=>exact main (by rw[← hτ];exact hk)
 |exit id=>cases hk

theorem Bg5 {P:Program}{Γ:Cx}(hΓ:E3 P Γ)(hm:P.follows .mixedOrders=true){c:F9}{fn:Func}{code:Code}{h:Hint}(hf:P.funcs[c.f]? = some fn)(hb:fn.body=some code)
  (hn:(fn.name == "runtime.NumGoroutine")=false) (hnb:c.aft.length=c.boxes.length) (hrun:Ag8 Γ c fn h=c.F):Ah0 P c:=by
 refine⟨⟨fn,hf,by rw[hb];rfl,hn⟩,?_⟩
 intro x y hy w ow bx args hg hbd hinv hargs;have hr:Ag8 Γ c fn h x=some y:=by rw[hrun];exact hy
 unfold Ag8 at hr;rw[hb] at hr;simp only at hr;have hfl:∀(bs:List (List OP)) (d:List EV),(G4 id id bs d).length=bs.length:=by
  intro bs
  induction bs with
  |nil=>intro d;rfl
  |cons p r ih=>intro d;simp[G4,ih]
 have hbl:(c.L0 x).length=c.boxes.length:=by unfold F9.L0;rw[FA8,hfl]
 have hrel:M8 ⟨w,fun blk=>(∃b,ow blk = .box b)∨∃k fr,ow blk = .tok k fr,ow,c.boxes.length,bx,hg⟩ (BG5 c fn.ntmps x) {tmps:=args++FA1 (fn.ntmps-args.size) undef,defers:=[]} w:=by
  unfold BG5;refine⟨ow,bx,by simp only[hbl];exact hinv,⟨?_,fun t e he=> ?_⟩,rfl,hbd⟩
  ·have:=hargs.1
   simp[this]
  ·simp only at he
   have hl:=hargs.1;by_cases hlt:t<(c.G7 x).length
   ·rw[FA0 hlt] at he
    obtain⟨v,hv⟩:∃v,args[t]? = some v:=⟨_,Ez3 (by omega)⟩
    have:(args++FA1 (fn.ntmps-args.size) undef).getD t undef=v:=by
     apply BK5;rw[FB6 (by omega)]
     exact hv
    rw[this];exact hargs.2 t e v he hv
   ·rw[FA4 (by omega),FC0] at he
    split at he
    ·cases he;exact .undef _
    ·cases he
 refine calls_of_wp hf hb (wp_mono (Ai7 hΓ hm code h _ _ _ y hr _ _ w hrel) ?_)
 rintro e a' w' ⟨ex,τ₀,rfl,hk,hrel₀,_⟩
 obtain⟨ow',bx',i1,⟨s1,r1⟩,hd,hdd⟩:=CZ9 (Γ:=Γ) (c:=c) (rv:=fn.results.toList) hrel₀;generalize hτ:As5 Γ c fn.results.toList τ₀=τ at i1 s1 r1;have main:BG6 Γ c fn.results.toList τ=some y→a'.defers=[]∧∃v,(results fn a'.tmps).run P w' = .ok v w'∧
   ∃v' ow'' tb'',Ending.returned v = .returned v'∧Inv ⟨w,fun blk=>(∃b,ow blk = .box b)∨∃k fr,ow blk = .tok k fr,ow,c.boxes.length,bx,hg⟩ ow'' ⟨bx.f,bx.dead,tb''⟩ c.boxes.length (A3 (c.S1 y)) w'∧A0 ow'' ⟨bx.f,bx.dead,tb''⟩ w' (c.res y) v':=by
  intro hfin;refine⟨hd,?_⟩;unfold BG6 at hfin;split at hfin
  ·rename_i vs hvs
   split at hfin
   ·rename_i l a1 t1 hm1
    split at hfin
    ·rename_i l' af tf hm2
     split at hfin
     ·rename_i hc
      simp only[Ez1] at hc;obtain⟨⟨hno,hbel⟩,haft⟩:=hc;have hno:=Ey9 hno;have hbelow:=AZ3 _ _ hbel;obtain⟨us,g1,g2,g3⟩:=Ai9 hΓ i1 r1 fn.results.toList vs hvs;obtain⟨m1,m2,m3,m4,m5,m6⟩:=Ah9 (ow:=ow') (ow':=owO af tf ow') (bx:=bx') (bx':=bxO af tf bx') (w:=w') c.rs vs _ _ l a1 t1 hm1;obtain⟨b1,b2,b3,b4,b5,b6,b7,b8⟩:=Au0 c.aft 0 _ _ l' af tf hm2
      have hok:F0 af:=b1 (m1 (Bg2 _));have htok:F0 tf:=b2 (m2 .nil);have htr:=trO hok htok ow' bx';have hdl:∀k,k∉([]:List Nat)→(∃κ,(κ,k)∈tf)→bx'.dead k=false:=fun k _ _=>hdd k
      have hsame:∀i b,(i,b)∈af→b=i:=by intro i b h;have h1:=hok.key i b h;have h2:=hok.key i i (b3 _ (m3 _ (Av7 (hbelow i b h))));rw[h1] at h2;cases h2;rfl
      have hun:A8 c.outs c.A2 y=l++l':=by
       have:=AQ8 c.outs (l++l') y hfin (fun e he=>by
        rcases Ez5.1 he with he | he
        ·exact BI1 _ _ _ _ _ _ _ hm1 e he
        ·exact b6 e he)
       rw[hno] at this;exact this
      obtain⟨es',f1,f2,f3⟩:=m6 l';have hres:c.res y=H2 es':=by unfold F9.res;rw[hun,f1]
      have hboxes:c.S1 y=(G4 id id c.aft l').map some:=by unfold F9.S1;rw[hun,f1]
      have hbx:∀b,b<c.boxes.length→bx' b=bx b:=fun b hb=>(i1.kept b hb).1
      have hbc:∀b,b<c.boxes.length→bxO af tf bx' b=bx b:=by intro b hb;have:=hok.key b b (b3 _ (m3 _ (Av7 hb)));simp[bxO,H7,this,hbx b hb]
      have hcall:∀blk i,owO af tf ow' blk = .box i→ow' blk = .box i∧i<c.boxes.length∧blk=bx i:=by intro blk i h;obtain⟨b,hmem,hb⟩:=Au2 h;have:=hsame _ _ hmem;subst this;have hlt:=hbelow _ _ hmem;exact⟨hb,hlt,by rw[← hbx _ hlt];exact (i1.back blk _ hb).1⟩
      have hkeep:E0 (owO af tf ow') (bxO af tf bx') w' (owO af tf ow') ⟨bx.f,bx.dead,(bxO af tf bx').tb⟩ w':=
       ⟨.refl _ _,fun blk k fr h _=>⟨h,rfl⟩,fun k _=>rfl,(fun b h=>by obtain⟨_,q2,q3⟩:=hcall _ _ h;exact⟨(hbc b q2).symm,h⟩),fun _ _ h=>h⟩
      have hvals:∀(i:Nat) e u,es'[i]? = some e→us[i]? = some u→A0 (owO af tf ow') ⟨bx.f,bx.dead,(bxO af tf bx').tb⟩ w' e u:=by
       intro i e u he hu;have hil:i<vs.length:=by rw[← f2];exact (Ez0.1 he).1
       exact (f3 af tf b3 b4 htr hdl i _ e u (Ez2 hil) he (g3 i _ u (Ez2 hil) hu)).keep hkeep
      have hlus:us.length=es'.length:=by rw[g2,f2]
      have hval:∃v,(results fn a'.tmps).run P w' = .ok v w'∧A0 (owO af tf ow') ⟨bx.f,bx.dead,(bxO af tf bx').tb⟩ w' (H2 es') v:=by
       refine⟨if h:us.toArray.size=1 then us.toArray[0] else .tuple us.toArray,?_,?_⟩
       ·rw[BK6,FB7]
        simp only[FA3,map_eq_pure_bind,FB8];rw[g1];simp
       ·match es',us,hlus,hvals with
        | [],[],_,_=>exact .tup rfl fun i e v he=>by simp at he
        | [e],[u],_,hv=>exact hv 0 e u rfl rfl
        |e1::e2::l,u1::u2::us,hl,hv=>
         rw[dif_neg (by simp)]
         exact .tup (by simpa using hl.symm) fun i e v he hu=>hv i e v he (by simpa using hu)
      obtain⟨v,hv1,hv2⟩:=hval;refine⟨v,hv1,v,owO af tf ow',(bxO af tf bx').tb,rfl,?_,by rw[hres];exact hv2⟩
      rw[hboxes];constructor
      ·intro i cs' hcs'
       rw[AQ9] at hcs';have hlt':i<c.aft.length:=by rw[← b7];exact (Ez0.1 hcs').1
       have hlt2:i<c.boxes.length:=by rw[← hnb];exact hlt'
       obtain⟨b,cs,cs'',q1,q2,q3,q4,q5⟩:=b8 i hlt';rw[hcs'] at q3;cases q3;rw[FA5] at q1;have:=hsame _ _ q1;subst this;obtain⟨w1,c0,T,w2,w3⟩:=i1.box b cs q2;obtain⟨t1,t2⟩:=htr.bo b b q1 w1;rw[hbx b hlt2] at t2 w2;refine⟨t2,c0,T,w2,by rw[q4,w3.1],fun k e v he hv=> ?_⟩
       have hkl:k<cs.length:=by rw[← q4];exact (Ez0.1 he).1
       obtain⟨z1,z2⟩:=w3.2 k _ v (Ez2 hkl) hv;exact⟨(q5 ow' _ bx' _ w' htr hdl k _ e v (Ez2 hkl) he z1).keep hkeep,z2⟩
      ·intro blk i h
       obtain⟨q1,q2,q3⟩:=hcall blk i h;obtain⟨b,cs,cs'',z1,z2,z3,_⟩:=b8 i (by rw[hnb];exact q2)
       exact⟨q3,by rw[AQ9.2 z3];rfl,q2⟩
      ·intro blk h
       refine i1.here blk fun e=>h ?_
       simp[owO,e]
      ·intro blk hb hnm
       obtain⟨q1,q2,q3⟩:=i1.old blk hb hnm;have:owO af tf ow' blk=ow' blk:=by
        unfold owO;cases hob:ow' blk with
        |box b=>exact absurd hob (q3.1 b)
        |tok k fr=>exact absurd hob (q3.2 k fr)
        |_=>rfl
       exact⟨q1,by rw[this];exact q2,by rw[this];exact q3⟩
      ·exact i1.size
      ·exact i1.env
      ·intro b hb'
       obtain⟨b',cs,cs'',z1,z2,z3,_⟩:=b8 b (by rw[hnb];exact hb')
       exact⟨rfl,by rw[AQ9.2 z3];rfl⟩
      ·exact i1.st.trans (.of fun blk n h=>⟨Au1 h,rfl⟩)
      ·intro j hj
       left
       simp only[bxO] at hj;split at hj
       ·rename_i k hk;exact (b5 (m5 fun p hp=>by simp at hp) _ (V3 _ _ _ hk)).2.2
       ·cases hj
     ·cases hfin
    ·cases hfin
   ·cases hfin
  ·cases hfin
 cases ex with
 |normal=>exact main (by rw[← hτ];exact hk)
 |ret=>exact main (by rw[← hτ];exact hk)
 |exit id=>cases hk

def AF3 (e:EV)(v:Value):Bool:=match e with
 | .undef=>v.oneCell'
 | .nil=>match v with
  | .slice none 0 0=>true
  |_=>false
 | .dat (.int k) n=>match v with
  | .int k' m=>decide (k=k')&&decide ((n:Int)=m)&&fits k n
  |_=>false
 | .dat .bool b=>match v with
  | .bool b'=>(b:Bool)==b'
  |_=>false
 | .dat .str s=>match v with
  | .string s'=>Ez6 s.size 0&&Ez6 s'.size 0
  |_=>false
 | .dat (.slice _) l=>match v with
  | .slice none 0 0=>l.isEmpty
  |_=>false
 |_=>false
def Av8:List EV→List Value→Bool
 | [],[]=>true
 |e::es,v::vs=>AF3 e v&&Av8 es vs
 |_,_=>false
def fsB (P:Program):List Field→List (Nat×Nat×Nat)→Bool
 | [],[]=>true
 |g::gs,(ft,off,size)::fs=>Ez6 g.type ft&&Ez6 g.offset off&&(match P.info? g.type with
  |some i=>Ez6 i.size size
  |none=>false)&&fsB P gs fs
 |_,_=>false
def Bg6 (u:TypeDesc)(ty:Option Ty):Bool:=match u with
 | .struct _=>false
 | .array _ _=>false
 | .int k=>match ty with
  |some (.int k')=>decide (k'=k)
  |some .str=>false
  |some .bool=>false
  |_=>true
 | .string=>match ty with
  |some (.int _)=>false
  |some .bool=>false
  |_=>true
 | .bool=>match ty with
  |some (.int _)=>false
  |some .str=>false
  |_=>true
 |_=>match ty with
  |some (.int _)=>false
  |some .str=>false
  |some .bool=>false
  |_=>true
def Bg7 (ty:Option Ty):Bool:=match ty with
 |some (.int _)=>false
 |some .str=>false
 |some .bool=>false
 |_=>true
def Bg8 (P:Program)(T:Nat)(d:TD):Bool:=match d.how with
 | .scalar=>Ez6 d.zero.length 1&&(match P.underlying T with
  |some u=>Bg6 u d.ty
  |none=>false)
 | .struct fs=>match P.underlying T with
  |some (.struct gs)=>fsB P gs.toList fs
  |_=>false
 | .array n e s=>match P.underlying T with
  |some (.array n' e')=>Ez6 n n'&&Ez6 e e'&&(match P.info? e with
   |some i=>Ez6 i.size s
   |none=>false)
  |_=>false
 | .slice e s b=>Ez6 d.zero.length 1&&(match P.underlying T with
  |some (.slice e')=>Ez6 e e'
  |_=>false)&&(match P.info? e with
  |some i=>Ez6 i.size s&&Ez6 i.bytes b&&i.zero.isSome
  |none=>false)&&Bg7 d.ty
def BK8 (P:Program)(T:Nat):Option Bool:=match P.underlying T with
 |some (.struct _)=>some true
 |some (.array _ _)=>some true
 |some _=>some false
 |none=>none
def AC5 (P:Program)(T:Nat)(t:Ty):Bool:=(match BK8 P T with
 |some b=>b==t.isAgg
 |none=>false)&&(match P.info? T with
 |some i=>Ez6 i.size t.size
 |none=>false)&&(match t with
 | .pair _ _=>false
 | .unit=>false
 |_=>true)
def AR2 (P:Program)(ok:Nat→Ty→Bool):List Field→Ty→Nat→Bool
 | [],.unit,_=>true
 | [f],t,off=>(f.name != "_")&&Nat.beq f.offset off&&AC5 P f.type t&&ok f.type t
 |f::r,.pair a b,off=>(f.name != "_")&&Nat.beq f.offset off&&AC5 P f.type a&&ok f.type a&&AR2 P ok r b (off+a.size)
 |_,_,_=>false
def AR3 (P:Program)(ok:Nat→Ty→Bool)(e s:Nat):Nat→Ty→Bool
 |0,.unit=>true
 |1,t=>Ez6 t.size s&&AC5 P e t&&ok e t
 |m+2,.pair a b=>Ez6 a.size s&&AC5 P e a&&ok e a&&AR3 P ok e s (m+1) b
 |_,_=>false
def eqB (P:Program):Nat→Nat→Ty→Bool
 |0,_,_=>false
 |n+1,T,t=>match t with
  | .int k=>match P.underlying T with
   |some (.int k')=>decide (k=k')
   |_=>false
  | .bool=>match P.underlying T with
   |some .bool=>true
   |_=>false
  | .str=>match P.underlying T with
   |some .string=>true
   |_=>false
  | .agg t'=>match P.underlying T with
   |some (.struct gs)=> !P.stoodInHeld T&&AR2 P (eqB P n) gs.toList t' 0
   |some (.array m e)=>match P.info? e with
    |some i=>AR3 P (eqB P n) e i.size m t'
    |none=>false
   |_=>false
  |_=>false
def tyB (P:Program)(T:Nat)(d:TD):Bool:=
 (match P.info? T with
  |some i=>match i.zero with
   |some z=>Ez6 i.size d.zero.length&&Av8 d.zero z.cells.toList
   |none=>false
  |none=>false)&&Bg8 P T d&&(match d.ty with
  |some t=>Ez6 t.size d.zero.length&&(t.isAgg==I6 d)&&(match t.isAgg&&t.plain with
   |true=> !P.eqGuardType P.depth T&&eqB P 20 T t
   |false=>true)
  |none=>true)
theorem Ca2 {e:EV}{v:Value}(h:AF3 e v=true){ow:Nat→A1}{bx:Bx}{w:World}:A0 ow bx w e v∧v.oneCell'=true:=by
 cases e with
 |undef=>exact ⟨.undef _,h⟩
 |nil=>
  simp only[AF3] at h;split at h
  ·exact⟨.nil,rfl⟩
  ·cases h
 |dat t x=>
  cases t with
  |int k=>
   simp only[AF3] at h;split at h
   ·simp only[Ez1,decide_eq_true_eq] at h
    obtain⟨⟨rfl,h1⟩,h2⟩:=h;subst h1;exact⟨.dat ⟨rfl,h2⟩,rfl⟩
   ·cases h
  |bool=>
   simp only[AF3] at h;split at h
   ·rename_i b'
    have:x=b':=by simpa using h
    subst this;exact⟨.dat rfl,rfl⟩
   ·cases h
  |str=>
   simp only[AF3] at h;split at h
   ·rename_i s'
    simp only[Ez1] at h;have h1:=Ey9 h.1;have h2:=Ey9 h.2;have:x=s':=by obtain⟨a⟩:=x;obtain⟨b⟩:=s';have ha:a=#[]:=FC3 h1;have hb:b=#[]:=FC3 h2;rw[ha,hb]
    subst this;exact⟨.dat ⟨rfl,by rw[h1];omega⟩,rfl⟩
   ·cases h
  |slice a=>
   simp only[AF3] at h;split at h
   ·have:x=[]:=by simpa using h
    subst this;exact⟨.dat ⟨none,0,rfl,⟨by simp,by simp⟩,fun h=>absurd rfl h⟩,rfl⟩
   ·cases h
  |_=>simp [AF3] at h
 |_=>simp [AF3] at h
theorem Bg9 {ow:Nat→A1}{bx:Bx}{w:World}:∀(es:List EV) (vs:List Value),Av8 es vs=true→C3 ow bx w es vs
 | [],[],_=>⟨rfl,fun i e v he=>by simp at he⟩
 |e::es,v::vs,h=>by
  simp only[Av8,Ez1] at h;obtain⟨h1,h2⟩:=Bg9 (ow:=ow) (bx:=bx) (w:=w) es vs h.2;refine⟨by simp[h1],fun i e' v' he hv=> ?_⟩
  cases i with
  |zero=>simp at he hv;subst he hv;exact Ca2 h.1
  |succ i=>exact h2 i e' v' (by simpa using he) (by simpa using hv)
 | [],v::vs,h=>by cases h
 |e::es,[],h=>by cases h
theorem Bh0 {P:Program}:∀(gs:List Field) (fs:List (Nat×Nat×Nat)),fsB P gs fs=true→
  gs.mapM (fun f=>(P.info? f.type).map fun i=>(f.offset,i.size))=some (fs.map (·.2))∧gs.map (·.type)=fs.map (·.1)
 | [],[],_=>⟨by simp,rfl⟩
 |g::gs,(ft,off,size)::fs,h=>by
  simp only[fsB,Ez1] at h;obtain⟨⟨⟨h1,h2⟩,h3⟩,h4⟩:=h;have h1:=Ey9 h1;have h2:=Ey9 h2;obtain⟨k1,k2⟩:=Bh0 gs fs h4;split at h3
  ·rename_i i hi
   have h3:=Ey9 h3;refine⟨?_,by simp[h1,k2]⟩
   rw[FD4];simp only[hi,FB3,Option.bind_eq_bind,Option.bind_some];rw[k1];simp[h2,h3]
  ·cases h3
 | [],_::_,h=>by cases h
 |_::_,[],h=>by cases h
section
variable {P:Program}{ow:Nat→A1}{w:World}
theorem Ca3 {T:Nat}{b:Bool}(h:BK8 P T=some b):(isAgg T).run P w = .ok b w:=by
 unfold BK8 at h;unfold Go.isAgg underlying;cases hu:P.underlying T with
 |none=>rw [hu] at h;cases h
 |some u=>
  rw[hu] at h;cases u <;> simp only[Option.some.injEq] at h <;> subst h <;> simp[hu]
theorem Av9 {T:Nat}{t:Ty}{x:t.den}{xs:Array Value}{off:Nat}(hp:AC5 P T t=true)(h:Rep ow w t x ((xs.toList.drop off).take t.size)):∃v,(part T xs off).run P w = .ok v w∧C7 ow w t x v:=by
 simp only[AC5,Ez1] at hp;obtain⟨⟨h1,h2⟩,h3⟩:=hp;split at h1
 ·rename_i b hb
  have hag:=Ca3 (w:=w) hb;have hbt:b=t.isAgg:=by simpa using h1
  split at h2
  ·rename_i i hi
   have h2:=Ey9 h2;have hlen:=V1 _ _ _ h;unfold part;rw[FA3,hag];simp only[FA6];cases t with
   |agg a=>
    rw[hbt];simp only[Ty.isAgg,if_true,FA3];have:(sizeOf T).run P w = .ok i.size w:=by simp[Go.sizeOf,typeInfo,hi]
    rw[this];simp only[FA6,FB8];refine⟨_,rfl,_,rfl,?_⟩;rw[h2];have e:(xs.extract off (off+(Ty.agg a).size)).toList=(xs.toList.drop off).take (Ty.agg a).size:=by simp[List.take_drop]
    rw[e];exact h
   |pair a b=>cases h3
   |unit=>cases h3
   |int k | bool | str | slice a=>
    rw[hbt];simp only[Ty.isAgg,Bool.false_eq_true,if_false];simp only[Ty.size] at h hlen;have hl:off<xs.size:=by simp at hlen;omega
    have e:(xs.toList.drop off).take 1=[xs[off]]:=by
     rw[List.drop_eq_getElem_cons (by simpa using hl)]
     simp
    rw[e] at h;rw[Ez3 hl];exact⟨_,rfl,h⟩
  ·cases h2
 ·cases h1
theorem Aw0 {xs:List Value}{off n:Nat}{c₁ c₂:List Value}(h:(xs.drop off).take n=c₁++c₂)(hl:n=c₁.length+c₂.length):(xs.drop off).take c₁.length=c₁∧(xs.drop (off+c₁.length)).take c₂.length=c₂:=by
 constructor
 ·have:=congrArg (List.take c₁.length) h
  rw[List.take_take,List.take_left,Nat.min_eq_left (by omega)] at this
  exact this
 ·have:=congrArg (List.drop c₁.length) h
  rw[List.drop_left,List.drop_take,List.drop_drop] at this;rw[show n-c₁.length=c₂.length by omega] at this
  exact this
theorem Ca4 {ok:Nat→Ty→Bool}{d:Nat}(hok:∀T t,ok T t=true→∀(x y:t.den) vx vy,C7 ow w t x vx→C7 ow w t y vy→(Op.equalIn d T vx vy).run P w = .ok (eqT t x y) w):
  ∀(gs:List Field) (t:Ty) (off:Nat),AR2 P ok gs t off=true→∀(x y:t.den) (xs ys:Array Value),Rep ow w t x ((xs.toList.drop off).take t.size)→Rep ow w t y ((ys.toList.drop off).take t.size)→
   (Op.eqFields d xs ys gs).run P w = .ok (eqT t x y) w:=by
 have one:∀(f:Field) (t:Ty) (off:Nat),f.name≠ "_" →f.offset=off→AC5 P f.type t=true→ok f.type t=true→∀(gs:List Field) (x y:t.den) (xs ys:Array Value) (b:Bool),Rep ow w t x ((xs.toList.drop off).take t.size)→Rep ow w t y ((ys.toList.drop off).take t.size)→
   (Op.eqFields d xs ys gs).run P w = .ok b w→(Op.eqFields d xs ys (f::gs)).run P w = .ok (eqT t x y&&b) w:=by
  intro f t off h1 h2 h3 h4 gs x y xs ys b hx hy hgs;subst h2;obtain⟨vx,p1,p2⟩:=Av9 h3 hx;obtain⟨vy,q1,q2⟩:=Av9 h3 hy;have:=hok _ _ h4 x y vx vy p2 q2;simp only[Op.eqFields,Sem.run_ite,if_pos h1,FA3,p1,q1,this,FA6];cases eqT t x y with
  |false=>simp
  |true=>simp [hgs]
 intro gs
 induction gs with
 |nil=>
  intro t off h x y xs ys hx hy;cases t with
  |unit=>simp [Op.eqFields,eqT]
  |_=>simp [AR2] at h
 |cons f r ih=>
  intro t off h x y xs ys hx hy;cases r with
  |nil=>
   have h':(f.name != "_")=true∧Nat.beq f.offset off=true∧AC5 P f.type t=true∧ok f.type t=true:=by cases t <;> simpa[AR2,Bool.and_eq_true,and_assoc] using h
   obtain⟨h1,h2,h3,h4⟩:=h';have:=one f t off (by simpa using h1) (Ey9 h2) h3 h4 [] x y xs ys true hx hy (by simp[Op.eqFields])
   simpa using this
  |cons f2 r2=>
   cases t with
   |pair a b=>
    simp only[AR2,Ez1] at h;obtain⟨⟨⟨⟨h1,h2⟩,h3⟩,h4⟩,h5⟩:=h;obtain⟨c₁,c₂,e1,e2,e3⟩:=hx;obtain⟨d₁,d₂,g1,g2,g3⟩:=hy;have l1:=V1 _ _ _ e2;have l2:=V1 _ _ _ e3;have m1:=V1 _ _ _ g2;have m2:=V1 _ _ _ g3;obtain⟨k1,k2⟩:=Aw0 e1 (by simp[Ty.size,l1,l2])
    obtain⟨k3,k4⟩:=Aw0 g1 (by simp[Ty.size,m1,m2])
    rw[l1] at k1 k2;rw[l2] at k2;rw[m1] at k3 k4;rw[m2] at k4;refine one f a off (by simpa using h1) (Ey9 h2) h3 h4 (f2::r2) x.1 y.1 xs ys _ (by rw[k1];exact e2) (by rw[k3];exact g2) ?_
    exact ih b (off+a.size) h5 x.2 y.2 xs ys (by rw[k2];exact e3) (by rw[k4];exact g3)
   |_=>simp [AR2] at h
theorem Ca5 {ok:Nat→Ty→Bool}{d e s:Nat}(hok:∀T t,ok T t=true→∀(x y:t.den) vx vy,C7 ow w t x vx→C7 ow w t y vy→(Op.equalIn d T vx vy).run P w = .ok (eqT t x y) w):
  ∀(m:Nat) (t:Ty) (i:Nat),AR3 P ok e s m t=true→∀(x y:t.den) (xs ys:Array Value),Rep ow w t x ((xs.toList.drop (i*s)).take t.size)→Rep ow w t y ((ys.toList.drop (i*s)).take t.size)→
   (Op.eqItems d e s xs ys (List.range' i m)).run P w = .ok (eqT t x y) w:=by
 have one:∀(t:Ty) (i:Nat),AC5 P e t=true→ok e t=true→∀(is:List Nat) (x y:t.den) (xs ys:Array Value) (b:Bool),Rep ow w t x ((xs.toList.drop (i*s)).take t.size)→Rep ow w t y ((ys.toList.drop (i*s)).take t.size)→
   (Op.eqItems d e s xs ys is).run P w = .ok b w→(Op.eqItems d e s xs ys (i::is)).run P w = .ok (eqT t x y&&b) w:=by
  intro t i h3 h4 is x y xs ys b hx hy hgs;obtain⟨vx,p1,p2⟩:=Av9 h3 hx;obtain⟨vy,q1,q2⟩:=Av9 h3 hy;have:=hok _ _ h4 x y vx vy p2 q2;simp only[Op.eqItems,FA3,p1,q1,this,FA6];cases eqT t x y with
  |false=>simp
  |true=>simp [hgs]
 intro m
 induction m with
 |zero=>
  intro t i h x y xs ys hx hy;cases t with
  |unit=>simp [Op.eqItems,eqT]
  |_=>simp [AR3] at h
 |succ m ih=>
  intro t i h x y xs ys hx hy;cases m with
  |zero=>
   have h':Ez6 t.size s=true∧AC5 P e t=true∧ok e t=true:=by cases t <;> simpa[AR3,Ez1,and_assoc] using h
   obtain⟨h1,h3,h4⟩:=h';have:=one t i h3 h4 [] x y xs ys true hx hy (by simp[Op.eqItems])
   simpa using this
  |succ m=>
   cases t with
   |pair a b=>
    simp only[AR3,Ez1] at h;obtain⟨⟨⟨h1,h3⟩,h4⟩,h5⟩:=h;have h1:=Ey9 h1;obtain⟨c₁,c₂,e1,e2,e3⟩:=hx;obtain⟨d₁,d₂,g1,g2,g3⟩:=hy;have l1:=V1 _ _ _ e2;have l2:=V1 _ _ _ e3;have m1:=V1 _ _ _ g2;have m2:=V1 _ _ _ g3;obtain⟨k1,k2⟩:=Aw0 e1 (by simp[Ty.size,l1,l2])
    obtain⟨k3,k4⟩:=Aw0 g1 (by simp[Ty.size,m1,m2])
    rw[l1] at k1 k2;rw[l2] at k2;rw[m1] at k3 k4;rw[m2] at k4;rw[List.range'_succ];have ho:i*s+a.size=(i+1)*s:=by rw[h1,Nat.succ_mul]
    refine one a i h3 h4 _ x.1 y.1 xs ys _ (by rw[k1];exact e2) (by rw[k3];exact g2) ?_
    exact ih b (i+1) h5 x.2 y.2 xs ys (by rw[← ho,k2];exact e3) (by rw[← ho,k4];exact g3)
   |_=>simp [AR3] at h
theorem Bh1:∀(n T:Nat) (t:Ty),eqB P n T t=true→∀(k:Nat) (x y:t.den) vx vy,C7 ow w t x vx→C7 ow w t y vy→(Op.equalIn (n+k) T vx vy).run P w = .ok (eqT t x y) w:=by
 intro n
 induction n with
 |zero=>intro T t h;simp[eqB] at h
 |succ n ih=>
  intro T t h k x y vx vy hx hy;rw[show n+1+k=(n+k)+1 by omega]
  have hok:=fun T t h (x y:t.den) vx vy=>ih T t h k x y vx vy
  cases t with
  |int kk=>
   simp only[eqB] at h;split at h
   ·rename_i k' hu
    simp only[C7,Rep,List.cons.injEq,and_true] at hx hy;rw[hx.1,hy.1];exact run_equalIn_int w _ T kk k' x y hu
   ·cases h
  |bool=>
   simp only[eqB] at h;split at h
   ·rename_i hu
    simp only[C7,Rep,List.cons.injEq,and_true] at hx hy;rw[hx,hy];exact run_equalIn_bool' w _ T x y hu
   ·cases h
  |str=>
   simp only[eqB] at h;split at h
   ·rename_i hu
    simp only[C7,Rep,List.cons.injEq,and_true] at hx hy;rw[hx.1,hy.1];exact run_equalIn_string w _ T x y hu
   ·cases h
  |agg t'=>
   obtain⟨xs,rfl,hx⟩:=hx;obtain⟨ys,rfl,hy⟩:=hy;have l1:=V1 _ _ _ hx;have l2:=V1 _ _ _ hy;have hx0:Rep ow w t' x ((xs.toList.drop 0).take t'.size):=by rw[List.drop_zero,FC2 (by omega)];exact hx
   have hy0:Rep ow w t' y ((ys.toList.drop 0).take t'.size):=by rw[List.drop_zero,FC2 (by omega)];exact hy
   simp only[eqB] at h;split at h
   ·rename_i gs hu
    simp only[Ez1,FC1] at h;have hf:P.fieldsOf T=gs:=by simp[Program.fieldsOf,hu]
    rw[run_equalIn_struct w _ T xs ys (by rw[hf];exact hu) h.1,hf]
    exact Ca4 hok gs.toList t' 0 h.2 x y xs ys hx0 hy0
   ·rename_i m e hu
    split at h
    ·rename_i i hi
     rw[run_equalIn_array w _ xs ys hu hi,FD5];have hc:P.cellsOf e=i.size:=by simp[Program.cellsOf,hi]
     rw[hc];exact Ca5 hok m t' 0 h x y xs ys (by rw[Nat.zero_mul];exact hx0) (by rw[Nat.zero_mul];exact hy0)
    ·cases h
   ·cases h
  |_=>simp [eqB] at h
end
theorem Ca6 {P:Program}{T:Nat}{d:TD}(h:tyB P T d=true):AC2 P T d:=by
 simp only[tyB,Ez1] at h;obtain⟨⟨h1,h2⟩,h3⟩:=h;constructor
 ·split at h1
  ·rename_i i hi
   split at h1
   ·rename_i z hz
    rw[Ez1] at h1;have hs:=Ey9 h1.1;have hr:∀(ow:Nat→A1) (bx:Bx) (w:World),C3 ow bx w d.zero z.cells.toList:=fun ow bx w=>Bg9 _ _ h1.2
    have hl:=(hr (fun _=>.B8) ⟨id,fun _=>false,fun _=>none⟩ default).1
    exact⟨i,z,hi,hz,hs,by simpa using hl.symm,hr⟩
   ·cases h1
  ·cases h1
 ·unfold Bg8 at h2
  cases hd:d.how with
  |scalar=>
   rw[hd] at h2;simp only[Ez1] at h2 ⊢;refine⟨Ey9 h2.1,?_⟩;have h2:=h2.2;split at h2
   ·rename_i u hu
    refine⟨u,hu,?_⟩;cases u <;> simp only[Bg6] at h2 <;> (first | cases h2 | skip) <;>
     refine⟨by intros;simp,by intros;simp,fun k e=> ?_,fun e=> ?_,fun e=> ?_⟩ <;> rw[e] at h2 <;> simp at h2 <;> (first | rfl | (subst h2;rfl) | cases h2)
   ·cases h2
  |struct fs=>
   rw[hd] at h2;simp only at h2 ⊢;split at h2
   ·rename_i gs hu
    exact⟨gs,hu,Bh0 _ _ h2⟩
   ·cases h2
  |array n e s=>
   rw[hd] at h2;simp only at h2 ⊢;split at h2
   ·rename_i n' e' hu
    simp only[Ez1] at h2;obtain⟨⟨g1,g2⟩,g3⟩:=h2;have g1:=Ey9 g1;have g2:=Ey9 g2;subst g1 g2;split at g3
    ·rename_i i hi
     exact⟨hu,i,hi,Ey9 g3⟩
    ·cases g3
   ·cases h2
  |slice e s b=>
   rw[hd] at h2;simp only[Ez1] at h2 ⊢;obtain⟨⟨⟨g1,g2⟩,g3⟩,g4⟩:=h2;refine⟨Ey9 g1,?_,?_,?_⟩
   ·split at g2
    ·rename_i e' hu
     have:=Ey9 g2;subst this;exact hu
    ·cases g2
   ·split at g3
    ·rename_i i hi
     simp only[Ez1] at g3;obtain⟨z,hz⟩:=Option.isSome_iff_exists.1 g3.2;exact⟨i,z,hi,Ey9 g3.1.1,Ey9 g3.1.2,hz⟩
    ·cases g3
   ·unfold Bg7 at g4
    refine⟨fun e=> ?_,fun k e=> ?_,fun e=> ?_⟩ <;> rw[e] at g4 <;> cases g4
 ·intro t ht ha hp
  rw[ht] at h3;simp only[ha,hp,Bool.and_true,Ez1,FC1] at h3;refine⟨h3.2.1,fun ow w x y vx vy hx hy=>Bh1 20 T t h3.2.2 9980 x y vx vy hx hy⟩
 ·intro t ht
  rw[ht] at h3;simp only[Ez1] at h3;refine⟨Ey9 h3.1.1,?_⟩;have:t.isAgg=I6 d:=by simpa using h3.1.2
  rw[this];exact Iff.rfl
def Aw1 (P:Program):List (Nat×TD)→Bool
 | []=>true
 | (T,d)::r=>tyB P T d&&Aw1 P r
theorem AF4 {P:Program}:∀(l:List (Nat×TD)),Aw1 P l=true→∀T d,N8 l T=some d→AC2 P T d
 | [],_,T,d,h=>by cases h
 | (k,d0)::r,h,T,d,hg=>by
  simp only[Aw1,Ez1] at h;simp only[N8] at hg;split at hg
  ·rename_i hb
   have:=Ey9 hb;subst this;cases hg;exact Ca6 h.1
  ·exact AF4 r h.2 T d hg
end Go.Proofs.YthfjpkdadjemcaaGreat
