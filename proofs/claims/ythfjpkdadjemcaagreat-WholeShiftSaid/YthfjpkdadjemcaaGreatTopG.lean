/- A unit begins in a good state; its cycles have answers. -/
import Derived.Test.YthfjpkdadjemcaaGreatTopF
import Derived.Test.YthfjpkdadjemcaaGreatImM
import Derived.Test.YthfjpkdadjemcaaGreatTrM
set_option linter.unusedSimpArgs false
set_option linter.unusedVariables false
namespace Go.Proofs.YthfjpkdadjemcaaGreat
open Go Go.RowKit
theorem BD3 {t:TkD}(h:(O7 t).1=0):Q6 t:=by
 obtain⟨h0,h1,h2,_,_⟩:=BD2 h;refine⟨fun h3=>by rw[h3] at h0;exact absurd h0 (by simp),h1,h2,fun x hx=> ?_,fun g hg=> ?_⟩
 ·have hs:=CH1 h x hx
  unfold Q7 AH8 at hs;simp only[Bool.and_eq_true,decide_eq_true_eq,List.all_eq_true] at hs;obtain⟨⟨⟨⟨a1,a2⟩,⟨⟨⟨b1,b2⟩,b3⟩,b4⟩⟩,c1⟩,d1⟩:=hs;refine⟨fun h3=>by rw[h3] at b1;exact absurd b1 (by simp),b2,c1,fun n hn=> ?_⟩
  obtain⟨i,hi,rfl⟩:=List.mem_iff_getElem.1 hn;have:=d1 i (List.mem_range.2 hi);unfold AN8 at this;simp only[Bool.and_eq_true,decide_eq_true_eq] at this;rw[P7 hi] at this;exact this.1
 ·obtain⟨i,hs⟩:=EW0 h g hg
  unfold Q8 at hs;simp only[Bool.and_eq_true,decide_eq_true_eq] at hs;exact⟨hs.1.1.2,hs.1.2⟩
theorem EW7 {b:List Int}(h:(AI0 b).2=0):(O7 (AI0 b).1).1=0:=by
 unfold AI0 at h ⊢;split at h
 ·exact absurd h (by decide)
 ·rename_i h1
  rw[if_neg h1];split at h
  ·exact absurd h (by decide)
  ·rename_i h2
   rw[if_neg h2];split at h
   ·exact absurd h (by decide)
   ·rename_i h3
    rw[if_neg h3];split at h
    ·exact absurd h (by decide)
    ·rename_i h4
     rw[if_neg h4];split at h
     ·exact absurd h (by decide)
     ·rename_i h5
      rw[if_neg h5];apply Classical.byContradiction;exact h5
theorem EW8 {t:TkD}(h:(O7 t).1=0):t.1.length≤200→∀s∈t.1,s.2.1.length≤big∧s.2.2.length≤big:=by intro _ s hs;have:=(BD3 h).seg s hs;unfold big;omega
theorem EW9 (c:Cfg)(t:TkD)(h:(O7 t).1=0):Tot (AK9 c t):=by
 unfold AK9;have ht:=BD3 h;have hn:=ht.n2;refine Tot.bnd (EJ9 c) fun e=>Tot.cnd Tot.some ?_
 rw[CD7 t (EW8 h)];simp only[Option.bind_some];refine Tot.cnd Tot.some (Tot.bnd ?_ fun z=> ?_)
 ·refine Tot.loop (fun i=>0≤i∧i≤(t.2.length:Int)) (fun i=>((t.2.length:Int)-i).toNat) ?_ ⟨by simp,by simp⟩
  rintro i ⟨h0,h1⟩
  refine Wp.cnd (fun hc=> ?_) fun _=>Wp.some trivial
  have hi:i<(t.2.length:Int):=by simpa using hc
  have hw:=J7 h0 hi (by omega)
  have hg:=ht.grp _ (T0 (d:=(0,0,0,0,0)) h0 hi);refine Wp.chk (by simp only[Bool.and_eq_true,decide_eq_true_eq];exact⟨h0,hi⟩) (Wp.chk (by simp only[Bool.and_eq_true,decide_eq_true_eq];exact hg) (Wp.bnd (EK0 _ _).wpT fun _ _=>Wp.cnd (fun _=>Wp.some trivial) fun _=>Wp.some ?_))
  simp only[hw];exact⟨⟨by omega,by omega⟩,by omega⟩
 ·rcases z with z | z <;> exact Tot.some
theorem EX0 (c:Cfg)(t:TkD)(hs:t.1.length≤200→∀s∈t.1,s.2.1.length≤big∧s.2.2.length≤big):Wp (AK3 c t) fun e=>e.1=0→(O7 t).1=0:=by
 unfold AK3;rw[EQ3 c,ER1 t hs];simp only[Option.bind_some];refine Wp.cnd (fun _=>Wp.some fun h=>absurd h (by decide)) fun _=>Wp.cnd (fun _=>Wp.some fun h=>absurd h (by decide)) fun hc=> ?_
 have h:(O7 t).1=0:=by simpa using hc
 have ht:=BD3 h;have hn:=ht.n2;refine Wp.bnd (Q:=fun _=>True) ?_ fun z _=> ?_
 ·refine Wp.loop (fun i=>0≤i∧i≤(t.2.length:Int)) (fun i=>((t.2.length:Int)-i).toNat) ?_ ⟨by simp,by simp⟩
  rintro i ⟨h0,h1⟩
  refine Wp.cnd (fun hc=> ?_) fun _=>Wp.some trivial
  have hi:i<(t.2.length:Int):=by simpa using hc
  have hw:=J7 h0 hi (by omega)
  have hg:=ht.grp _ (T0 (d:=(0,0,0,0,0)) h0 hi);refine Wp.chk (by simp only[Bool.and_eq_true,decide_eq_true_eq];exact⟨h0,hi⟩) (Wp.chk ?_ (Wp.cnd (fun _=>Wp.some trivial) fun _=>Wp.some ?_))
  ·simp only[Bool.or_eq_true,Bool.and_eq_true,decide_eq_true_eq];exact .inl hg
  ·simp only[hw];exact⟨⟨by omega,by omega⟩,by omega⟩
 ·rcases z with z | z
  ·exact Wp.some fun _=>h
  ·exact Wp.some fun _=>h
theorem EX1 (t:TkD)(ht:Q6 t):Tot (AL2 t):=by
 unfold AL2;have hn:=ht.n1;have h0:0<t.1.length:=by
  cases h:t.1 with
  |nil=>exact absurd h ht.ne
  |cons a l=>simp
 have hm:=ht.seg _ (T0 (l:=t.1) (i:=0) (d:=(0,[],[])) (by omega) (by omega))
 have h1:0<(t.1.getD (0:Int).toNat (0,[],[])).2.1.length:=by
  cases h:(t.1.getD (0:Int).toNat (0,[],[])).2.1 with
  |nil=>exact absurd h hm.1
  |cons a l=>simp
 refine Tot.chk (by simp;omega) (Tot.chk (by simp only[Bool.true_and,decide_eq_true_eq];omega) (Tot.bnd (AN5 _) fun _=>Tot.bnd ?_ fun _=>Tot.some))
 refine Tot.loop (fun z=>0≤z.2.1∧z.2.1≤(t.1.length:Int)) (fun z=>((t.1.length:Int)-z.2.1).toNat) ?_ ⟨by simp,by simp⟩
 rintro⟨a,i,b⟩ ⟨h0,h1⟩
 refine Wp.cnd (fun hc=> ?_) fun _=>Wp.some trivial
 have hi:i<(t.1.length:Int):=by simpa using hc
 have h0':0≤i:=h0;have hw:=J7 h0' hi (by omega)
 have hm:=ht.seg _ (T0 (d:=(0,[],[])) h0' hi);refine Wp.chk (by simp only[hw,Bool.or_eq_true,Bool.and_eq_true,decide_eq_true_eq,Bool.not_eq_true',decide_eq_false_iff_not];omega) (Wp.bnd (CC0 (t.1.getD i.toNat (0,[],[])).2.1 _ (by omega)).wpT fun _ _=>Wp.bnd (AV8 _ _).wpT fun _ _=>Wp.some ?_)
 simp only[hw];exact⟨⟨by omega,by omega⟩,by omega⟩
theorem EX2 (t:TkD)(ht:Q6 t):Wp (AL3 t) fun en=>en.length=t.1.length:=by
 unfold AL3;have hn:=ht.n1;refine Wp.chk ?_ (Wp.bnd (Q:=fun en=>en.length=t.1.length) ?_ fun en hen=>Wp.bnd (Q:=fun en=>en.length=t.1.length) ?_ fun _ h=>Wp.some h)
 ·simp only[Bool.and_eq_true,decide_eq_true_eq];omega
 ·refine Wp.loop (fun z=>0≤z.2∧z.2≤(t.1.length:Int)∧z.1.length=t.1.length) (fun z=>((t.1.length:Int)-z.2).toNat) ?_ ⟨by simp,by simp,by simp⟩
  rintro⟨o,i⟩ ⟨h0,h1,h2⟩
  refine Wp.cnd (fun hc=> ?_) fun _=>Wp.some h2
  have hi:i<(t.1.length:Int):=by simpa using hc
  have h0':0≤i:=h0;have h2':o.length=t.1.length:=h2;have hw:=J7 h0' hi (by omega)
  refine Wp.chk (by simp only[hw,Bool.or_eq_true,Bool.and_eq_true,decide_eq_true_eq,Bool.not_eq_true',decide_eq_false_iff_not];omega) (Wp.bnd (Q:=fun o2=>o2.length=t.1.length) ?_ fun o2 h=>Wp.some ?_)
  ·exact Wp.cnd (fun _=>Wp.chk (by simp only[Bool.and_eq_true,decide_eq_true_eq];omega) (Wp.some (by simp[h2']))) fun _=>Wp.some h2'
  ·simp only[hw];exact⟨⟨by omega,by omega,h⟩,by omega⟩
 ·refine Wp.loop (fun z=>0≤z.1∧z.1≤(t.1.length:Int)∧z.2.length=t.1.length) (fun z=>((t.1.length:Int)-z.1).toNat) ?_ ⟨by simp,by simp,hen⟩
  rintro⟨i,o⟩ ⟨h0,h1,h2⟩
  refine Wp.cnd (fun hc=> ?_) fun _=>Wp.some h2
  have hi:i<(t.1.length:Int):=by simpa using hc
  have h0':0≤i:=h0;have h2':o.length=t.1.length:=h2;have hw:=J7 h0' hi (by omega)
  refine Wp.bnd (Q:=fun o2=>o2.length=t.1.length) ?_ fun o2 h=>Wp.some ?_
  ·refine Wp.loop (fun z=>0≤z.1∧z.1≤(t.1.length:Int)∧z.2.length=t.1.length) (fun z=>((t.1.length:Int)-z.1).toNat) ?_ ⟨by simp,by simp,h2'⟩
   rintro⟨j,o3⟩ ⟨j0,j1,j2⟩
   refine Wp.cnd (fun hc=> ?_) fun _=>Wp.some j2
   have hj:j<(t.1.length:Int):=by simpa using hc
   have j0':0≤j:=j0;have j2':o3.length=t.1.length:=j2;have hw3:=J7 j0' hj (by omega)
   have hm:=ht.seg _ (T0 (d:=(0,[],[])) j0' hj);refine Wp.chk (by simp only[Bool.and_eq_true,decide_eq_true_eq];exact⟨j0',hj⟩) ?_
   simp only;generalize t.1.getD j.toNat (0,[],[])=x at hm;refine Wp.bnd (Q:=fun o2=>o2.length=t.1.length) ?_ fun o2 h=>Wp.some ?_
   ·refine Wp.loop (fun z=>0≤z.1∧z.1≤(x.2.2.length:Int)∧z.2.length=t.1.length) (fun z=>((x.2.2.length:Int)-z.1).toNat) ?_ ⟨by simp,by simp,j2'⟩
    rintro⟨k,o4⟩ ⟨k0,k1,k2⟩
    refine Wp.cnd (fun hc=> ?_) fun _=>Wp.some k2
    have hk:k<(x.2.2.length:Int):=by simpa using hc
    have k0':0≤k:=k0;have k2':o4.length=t.1.length:=k2;have hw4:=J7 k0' hk (by omega)
    have hx:=hm.2.2.2 _ (T0 (d:=(0:Int)) k0' hk);refine Wp.bnd (Q:=fun o2=>o2.length=t.1.length) ?_ fun o2 h=>Wp.some ?_
    ·refine Wp.chk (by simp only[Bool.and_eq_true,decide_eq_true_eq];exact⟨k0',hk⟩) (Wp.chk (by simp only[Bool.and_eq_true,decide_eq_true_eq,k2'];exact hx) (Wp.chk (by simp only[Bool.and_eq_true,decide_eq_true_eq];exact hx) (Wp.chk (by simp only[Bool.and_eq_true,decide_eq_true_eq,k2'];exact hx) (Wp.chk (by simp only[Bool.or_eq_true,Bool.and_eq_true,decide_eq_true_eq,k2'];exact .inl ⟨j0',hj⟩) ?_))))
     have hset:∀(b:Bool) (v:Int),Wp (Option.bind (bif b then chk none ((decide ((0:Int)≤j))&&(decide (j<(o4.length:Int)))) (some (o4.set j.toNat v)) else some o4) fun r=>some r) fun o2=>o2.length=t.1.length:=by
      intro b v;refine Wp.bnd (Q:=fun o2=>o2.length=t.1.length) ?_ fun _ h=>Wp.some h
      exact Wp.cnd (fun _=>Wp.chk (by simp only[Bool.and_eq_true,decide_eq_true_eq,k2'];exact⟨j0',hj⟩) (Wp.some (by simp[k2']))) fun _=>Wp.some k2'
     refine Wp.cnd (fun _=>Wp.chk (by simp only[Bool.or_eq_true,Bool.and_eq_true,decide_eq_true_eq,k2'];exact .inl ⟨j0',hj⟩) (Wp.cnd (fun _=>hset _ _) fun _=>hset _ _)) fun _=> ?_
     first
      |exact hset _ _
      |exact Wp.chk (by simp only[Bool.or_eq_true,Bool.and_eq_true,decide_eq_true_eq,k2'];exact .inl ⟨j0',hj⟩) (hset _ _)
      |exact Wp.chk (by simp only[Bool.or_eq_true,Bool.and_eq_true,decide_eq_true_eq,k2'];exact .inl ⟨j0',hj⟩) (Wp.cnd (fun _=>hset _ _) fun _=>hset _ _)
    ·simp only[hw4];exact⟨⟨by omega,by omega,h⟩,by omega⟩
   ·simp only[hw3];exact⟨⟨by omega,by omega,h⟩,by omega⟩
  ·simp only[hw];exact⟨⟨by omega,by omega,h⟩,by omega⟩
theorem CH6:BB3.broken=false→AD9 BB3:=fun h=>absurd h (by decide)
theorem EX3 (c:Cfg)(img:List Int)(hb:ByL img):Wp (Am7 c img) fun s=>s.C5=0∧(s.broken=false→AD9 s)∧s.k0=(false,0,0)∧s.k1=(false,0,0):=by
 unfold Am7;rw[EV4 img hb];simp only[Option.bind_some];by_cases h0:(AI0 img).2=0
 ·have hc:=EW7 h0
  have ht:=BD3 hc;have e0:((AI0 img).2==(0:Int))=true:=by simp[h0]
  simp only[e0,cond_true];refine Wp.bnd (Tot.wpT (Tot.bnd (EW9 c _ hc) fun _=>Tot.some)) fun e _=>Wp.cnd (fun _=>Wp.some ⟨rfl,CH6,rfl,rfl⟩) fun _=> ?_
  refine Wp.bnd (EX1 _ ht).wpT fun g _=>Wp.bnd (EX2 _ ht) fun en hen=>Wp.bnd (CB4 _).wpT fun _ _=>Wp.bnd (CB4 _).wpT fun _ _=>Wp.bnd (CB5 _).wpT fun _ _=>Wp.some ⟨rfl,fun _=>⟨ht,hen,Am8 _ _ rfl⟩,rfl,rfl⟩
 ·have e0:((AI0 img).2==(0:Int))=false:=by simpa using h0
  have e1:((AI0 img).2 != (0:Int))=true:=by simpa using h0
  simp only[e0,cond_false,Option.bind_some,e1,cond_true];exact Wp.some ⟨rfl,CH6,rfl,rfl⟩
def SOK (s:A7):Prop:=s.broken=false→AD9 s
def FOK (l:List (List Int)):Prop:=∀b∈l,Bytes b∧b.length≤140737488355328
theorem BU6 (list:List (List Int))(cmd:Bool)(s:A7)(hs:SOK s)(hl:FOK list):Wp (U8 list cmd s) fun y=>AH7 y.1∧SOK y.2∧y.2.broken=s.broken∧y.2.C5=IntKind.wrap .i64 (s.C5+1):=by
 unfold U8;cases hb:s.broken with
 |true=>
  have h3:AH7 (Am6 s.C5):=⟨by simp[Am6],by simp[Am6]⟩
  refine Wp.some ⟨h3,?_,rfl,rfl⟩;intro h;cases h
 |false=>
  rw[CH5 s.C5 list hl];simp only[cond_false,Option.bind_some];have hn:=hs hb;have h5:=EP0 (P1 s.C5 list) cmd s.C5 {s with C5:=IntKind.wrap .i64 (s.C5+1),broken:=false} ⟨hn.t,hn.ends,hn.p⟩;exact Wp.mono h5 fun y hy=>⟨hy.1,fun _=>hy.2.1,hy.2.2.1,hy.2.2.2⟩
theorem BD4:∀(l:List Cyc) (s:A7),SOK s→(∀x∈l,FOK x.1)→Wp (goN s l) fun rs=>rs.length=l.length∧∀r∈rs,AH7 r
 | [],s,_,_=>⟨[],rfl,rfl,by simp⟩
 |x::xs,s,hs,hl=>by
  rw[goN];refine Wp.bnd (BU6 x.1 x.2 s hs (hl x (by simp))) fun y hy=>Wp.bnd (BD4 xs y.2 hy.2.1 fun z hz=>hl z (by simp[hz])) fun rs hr=>Wp.some ⟨by simp[hr.1],fun r h=> ?_⟩
  rcases List.mem_cons.1 h with rfl | h
  ·exact hy.1
  ·exact hr.2 r h
theorem BU7 (c:Cfg)(t:TkD)(hs:t.1.length≤200→∀s∈t.1,s.2.1.length≤big∧s.2.2.length≤big)(hN:Af0 t):(∀l,S9 c t l=some [])∨∃s,SOK s∧s.C5=0∧s.k0=(false,0,0)∧s.k1=(false,0,0)∧∀(l:List Cyc) (rs:List E3),l.length≤1000→goN s l=some rs→S9 c t l=some rs:=by
 obtain⟨e,he,hc⟩:=EX0 c t hs;by_cases h0:e.1=0
 ·right
  have hck:=hc h0;have hp:=EW4 t (EW1 hck) hN;obtain⟨s,hn,h1,h2,h3,h4⟩:=EX3 c (I4 (AO0 t)) (BU4 (CG7 t));exact⟨s,h2,h1,h3,h4,fun l rs hl hr=>EL9 c t l hl he h0 hp hn hr⟩
 ·left
  intro l;unfold S9;rw[he];have e1:(e.1 != (0:Int))=true:=by simpa using h0
  simp only[Option.bind_some,e1,cond_true]
end Go.Proofs.YthfjpkdadjemcaaGreat
