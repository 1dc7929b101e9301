/- A unit begins in a good state; its cycles have answers. -/
import Derived.Test.YthfjpkdadjemcaaGreatTopF
import Derived.Test.YthfjpkdadjemcaaGreatImM
import Derived.Test.YthfjpkdadjemcaaGreatTrM
set_option linter.unusedSimpArgs false
set_option linter.unusedVariables false
namespace Go.Proofs.YthfjpkdadjemcaaGreat
open Go Go.RowKit
theorem Ax4 {t:TkD}(h:(O1 t).1=0):P3 t:=by
 obtain⟨h0,h1,h2,_,_⟩:=Ax1 h;refine⟨fun h3=>by rw[h3] at h0;exact absurd h0 (by simp),h1,h2,fun x hx=> ?_,fun g hg=> ?_⟩
 ·have hs:=Bz0 h x hx
  unfold P4 AD6 at hs;simp only[Bool.and_eq_true,decide_eq_true_eq,List.all_eq_true] at hs;obtain⟨⟨⟨⟨a1,a2⟩,⟨⟨⟨b1,b2⟩,b3⟩,b4⟩⟩,c1⟩,d1⟩:=hs;refine⟨fun h3=>by rw[h3] at b1;exact absurd b1 (by simp),b2,c1,fun n hn=> ?_⟩
  obtain⟨i,hi,rfl⟩:=List.mem_iff_getElem.1 hn;have:=d1 i (List.mem_range.2 hi);unfold AJ3 at this;simp only[Bool.and_eq_true,decide_eq_true_eq] at this;rw[Y1 hi] at this;exact this.1
 ·obtain⟨i,hs⟩:=EK2 h g hg
  unfold P5 at hs;simp only[Bool.and_eq_true,decide_eq_true_eq] at hs;exact⟨hs.1.1.2,hs.1.2⟩
theorem EL3 {b:List Int}(h:(AD9 b).2=0):(O1 (AD9 b).1).1=0:=by
 unfold AD9 at h ⊢;split at h
 ·exact absurd h (by decide)
 ·rename_i h1
  rw[if_neg h1];split at h
  ·exact absurd h (by decide)
  ·rename_i h2
   rw[if_neg h2];split at h
   ·exact absurd h (by decide)
   ·rename_i h3
    rw[if_neg h3];split at h
    ·exact absurd h (by decide)
    ·rename_i h4
     rw[if_neg h4];split at h
     ·exact absurd h (by decide)
     ·rename_i h5
      rw[if_neg h5];apply Classical.byContradiction;exact h5
theorem EL4 {t:TkD}(h:(O1 t).1=0):t.1.length≤200→∀s∈t.1,s.2.1.length≤big∧s.2.2.length≤big:=by intro _ s hs;have:=(Ax4 h).seg s hs;unfold big;omega
theorem EL5 (c:Cfg)(t:TkD)(h:(O1 t).1=0):Tot (AG4 c t):=by
 unfold AG4;have ht:=Ax4 h;have hn:=ht.n2;refine Tot.bnd (Dy4 c) fun e=>Tot.cnd Tot.some ?_
 rw[Bv6 t (EL4 h)];simp only[Option.bind_some];refine Tot.cnd Tot.some (Tot.bnd ?_ fun z=> ?_)
 ·refine Tot.loop (fun i=>0≤i∧i≤(t.2.length:Int)) (fun i=>((t.2.length:Int)-i).toNat) ?_ ⟨by simp,by simp⟩
  rintro i ⟨h0,h1⟩
  refine Wp.cnd (fun hc=> ?_) fun _=>Wp.some trivial
  have hi:i<(t.2.length:Int):=by simpa using hc
  have hw:=L2 h0 hi (by omega)
  have hg:=ht.grp _ (R6 (d:=(0,0,0,0,0)) h0 hi);refine Wp.chk (by simp only[Bool.and_eq_true,decide_eq_true_eq];exact⟨h0,hi⟩) (Wp.chk (by simp only[Bool.and_eq_true,decide_eq_true_eq];exact hg) (Wp.bnd (Dy5 _ _).wpT fun _ _=>Wp.cnd (fun _=>Wp.some trivial) fun _=>Wp.some ?_))
  simp only[hw];exact⟨⟨by omega,by omega⟩,by omega⟩
 ·rcases z with z | z <;> exact Tot.some
theorem EL6 (c:Cfg)(t:TkD)(hs:t.1.length≤200→∀s∈t.1,s.2.1.length≤big∧s.2.2.length≤big):Wp (AF8 c t) fun e=>e.1=0→(O1 t).1=0:=by
 unfold AF8;rw[EE6 c,EF4 t hs];simp only[Option.bind_some];refine Wp.cnd (fun _=>Wp.some fun h=>absurd h (by decide)) fun _=>Wp.cnd (fun _=>Wp.some fun h=>absurd h (by decide)) fun hc=> ?_
 have h:(O1 t).1=0:=by simpa using hc
 have ht:=Ax4 h;have hn:=ht.n2;refine Wp.bnd (Q:=fun _=>True) ?_ fun z _=> ?_
 ·refine Wp.loop (fun i=>0≤i∧i≤(t.2.length:Int)) (fun i=>((t.2.length:Int)-i).toNat) ?_ ⟨by simp,by simp⟩
  rintro i ⟨h0,h1⟩
  refine Wp.cnd (fun hc=> ?_) fun _=>Wp.some trivial
  have hi:i<(t.2.length:Int):=by simpa using hc
  have hw:=L2 h0 hi (by omega)
  have hg:=ht.grp _ (R6 (d:=(0,0,0,0,0)) h0 hi);refine Wp.chk (by simp only[Bool.and_eq_true,decide_eq_true_eq];exact⟨h0,hi⟩) (Wp.chk ?_ (Wp.cnd (fun _=>Wp.some trivial) fun _=>Wp.some ?_))
  ·simp only[Bool.or_eq_true,Bool.and_eq_true,decide_eq_true_eq];exact .inl hg
  ·simp only[hw];exact⟨⟨by omega,by omega⟩,by omega⟩
 ·rcases z with z | z
  ·exact Wp.some fun _=>h
  ·exact Wp.some fun _=>h
theorem EL7 (t:TkD)(ht:P3 t):Tot (AG7 t):=by
 unfold AG7;have hn:=ht.n1;have h0:0<t.1.length:=by
  cases h:t.1 with
  |nil=>exact absurd h ht.ne
  |cons a l=>simp
 have hm:=ht.seg _ (R6 (l:=t.1) (i:=0) (d:=(0,[],[])) (by omega) (by omega))
 have h1:0<(t.1.getD (0:Int).toNat (0,[],[])).2.1.length:=by
  cases h:(t.1.getD (0:Int).toNat (0,[],[])).2.1 with
  |nil=>exact absurd h hm.1
  |cons a l=>simp
 refine Tot.chk (by simp;omega) (Tot.chk (by simp only[Bool.true_and,decide_eq_true_eq];omega) (Tot.bnd (AJ1 _) fun _=>Tot.bnd ?_ fun _=>Tot.some))
 refine Tot.loop (fun z=>0≤z.2.1∧z.2.1≤(t.1.length:Int)) (fun z=>((t.1.length:Int)-z.2.1).toNat) ?_ ⟨by simp,by simp⟩
 rintro⟨a,i,b⟩ ⟨h0,h1⟩
 refine Wp.cnd (fun hc=> ?_) fun _=>Wp.some trivial
 have hi:i<(t.1.length:Int):=by simpa using hc
 have h0':0≤i:=h0;have hw:=L2 h0' hi (by omega)
 have hm:=ht.seg _ (R6 (d:=(0,[],[])) h0' hi);refine Wp.chk (by simp only[hw,Bool.or_eq_true,Bool.and_eq_true,decide_eq_true_eq,Bool.not_eq_true',decide_eq_false_iff_not];omega) (Wp.bnd (Bt6 (t.1.getD i.toNat (0,[],[])).2.1 _ (by omega)).wpT fun _ _=>Wp.bnd (AR3 _ _).wpT fun _ _=>Wp.some ?_)
 simp only[hw];exact⟨⟨by omega,by omega⟩,by omega⟩
theorem EL8 (t:TkD)(ht:P3 t):Wp (AG8 t) fun en=>en.length=t.1.length:=by
 unfold AG8;have hn:=ht.n1;refine Wp.chk ?_ (Wp.bnd (Q:=fun en=>en.length=t.1.length) ?_ fun en hen=>Wp.bnd (Q:=fun en=>en.length=t.1.length) ?_ fun _ h=>Wp.some h)
 ·simp only[Bool.and_eq_true,decide_eq_true_eq];omega
 ·refine Wp.loop (fun z=>0≤z.2∧z.2≤(t.1.length:Int)∧z.1.length=t.1.length) (fun z=>((t.1.length:Int)-z.2).toNat) ?_ ⟨by simp,by simp,by simp⟩
  rintro⟨o,i⟩ ⟨h0,h1,h2⟩
  refine Wp.cnd (fun hc=> ?_) fun _=>Wp.some h2
  have hi:i<(t.1.length:Int):=by simpa using hc
  have h0':0≤i:=h0;have h2':o.length=t.1.length:=h2;have hw:=L2 h0' hi (by omega)
  refine Wp.chk (by simp only[hw,Bool.or_eq_true,Bool.and_eq_true,decide_eq_true_eq,Bool.not_eq_true',decide_eq_false_iff_not];omega) (Wp.bnd (Q:=fun o2=>o2.length=t.1.length) ?_ fun o2 h=>Wp.some ?_)
  ·exact Wp.cnd (fun _=>Wp.chk (by simp only[Bool.and_eq_true,decide_eq_true_eq];omega) (Wp.some (by simp[h2']))) fun _=>Wp.some h2'
  ·simp only[hw];exact⟨⟨by omega,by omega,h⟩,by omega⟩
 ·refine Wp.loop (fun z=>0≤z.1∧z.1≤(t.1.length:Int)∧z.2.length=t.1.length) (fun z=>((t.1.length:Int)-z.1).toNat) ?_ ⟨by simp,by simp,hen⟩
  rintro⟨i,o⟩ ⟨h0,h1,h2⟩
  refine Wp.cnd (fun hc=> ?_) fun _=>Wp.some h2
  have hi:i<(t.1.length:Int):=by simpa using hc
  have h0':0≤i:=h0;have h2':o.length=t.1.length:=h2;have hw:=L2 h0' hi (by omega)
  refine Wp.bnd (Q:=fun o2=>o2.length=t.1.length) ?_ fun o2 h=>Wp.some ?_
  ·refine Wp.loop (fun z=>0≤z.1∧z.1≤(t.1.length:Int)∧z.2.length=t.1.length) (fun z=>((t.1.length:Int)-z.1).toNat) ?_ ⟨by simp,by simp,h2'⟩
   rintro⟨j,o3⟩ ⟨j0,j1,j2⟩
   refine Wp.cnd (fun hc=> ?_) fun _=>Wp.some j2
   have hj:j<(t.1.length:Int):=by simpa using hc
   have j0':0≤j:=j0;have j2':o3.length=t.1.length:=j2;have hw3:=L2 j0' hj (by omega)
   have hm:=ht.seg _ (R6 (d:=(0,[],[])) j0' hj);refine Wp.chk (by simp only[Bool.and_eq_true,decide_eq_true_eq];exact⟨j0',hj⟩) ?_
   simp only;generalize t.1.getD j.toNat (0,[],[])=x at hm;refine Wp.bnd (Q:=fun o2=>o2.length=t.1.length) ?_ fun o2 h=>Wp.some ?_
   ·refine Wp.loop (fun z=>0≤z.1∧z.1≤(x.2.2.length:Int)∧z.2.length=t.1.length) (fun z=>((x.2.2.length:Int)-z.1).toNat) ?_ ⟨by simp,by simp,j2'⟩
    rintro⟨k,o4⟩ ⟨k0,k1,k2⟩
    refine Wp.cnd (fun hc=> ?_) fun _=>Wp.some k2
    have hk:k<(x.2.2.length:Int):=by simpa using hc
    have k0':0≤k:=k0;have k2':o4.length=t.1.length:=k2;have hw4:=L2 k0' hk (by omega)
    have hx:=hm.2.2.2 _ (R6 (d:=(0:Int)) k0' hk);refine Wp.bnd (Q:=fun o2=>o2.length=t.1.length) ?_ fun o2 h=>Wp.some ?_
    ·refine Wp.chk (by simp only[Bool.and_eq_true,decide_eq_true_eq];exact⟨k0',hk⟩) (Wp.chk (by simp only[Bool.and_eq_true,decide_eq_true_eq,k2'];exact hx) (Wp.chk (by simp only[Bool.and_eq_true,decide_eq_true_eq];exact hx) (Wp.chk (by simp only[Bool.and_eq_true,decide_eq_true_eq,k2'];exact hx) (Wp.chk (by simp only[Bool.or_eq_true,Bool.and_eq_true,decide_eq_true_eq,k2'];exact .inl ⟨j0',hj⟩) ?_))))
     have hset:∀(b:Bool) (v:Int),Wp (Option.bind (bif b then chk none ((decide ((0:Int)≤j))&&(decide (j<(o4.length:Int)))) (some (o4.set j.toNat v)) else some o4) fun r=>some r) fun o2=>o2.length=t.1.length:=by
      intro b v;refine Wp.bnd (Q:=fun o2=>o2.length=t.1.length) ?_ fun _ h=>Wp.some h
      exact Wp.cnd (fun _=>Wp.chk (by simp only[Bool.and_eq_true,decide_eq_true_eq,k2'];exact⟨j0',hj⟩) (Wp.some (by simp[k2']))) fun _=>Wp.some k2'
     refine Wp.cnd (fun _=>Wp.chk (by simp only[Bool.or_eq_true,Bool.and_eq_true,decide_eq_true_eq,k2'];exact .inl ⟨j0',hj⟩) (Wp.cnd (fun _=>hset _ _) fun _=>hset _ _)) fun _=> ?_
     first
      |exact hset _ _
      |exact Wp.chk (by simp only[Bool.or_eq_true,Bool.and_eq_true,decide_eq_true_eq,k2'];exact .inl ⟨j0',hj⟩) (hset _ _)
      |exact Wp.chk (by simp only[Bool.or_eq_true,Bool.and_eq_true,decide_eq_true_eq,k2'];exact .inl ⟨j0',hj⟩) (Wp.cnd (fun _=>hset _ _) fun _=>hset _ _)
    ·simp only[hw4];exact⟨⟨by omega,by omega,h⟩,by omega⟩
   ·simp only[hw3];exact⟨⟨by omega,by omega,h⟩,by omega⟩
  ·simp only[hw];exact⟨⟨by omega,by omega,h⟩,by omega⟩
theorem Bz3:Av5.broken=false→AA4 Av5:=fun h=>absurd h (by decide)
theorem EL9 (c:Cfg)(img:List Int)(hb:ByL img):Wp (Ah8 c img) fun s=>s.C6=0∧(s.broken=false→AA4 s)∧s.k0=(false,0,0)∧s.k1=(false,0,0):=by
 unfold Ah8;rw[EJ5 img hb];simp only[Option.bind_some];by_cases h0:(AD9 img).2=0
 ·have hc:=EL3 h0
  have ht:=Ax4 hc;have e0:((AD9 img).2==(0:Int))=true:=by simp[h0]
  simp only[e0,cond_true];refine Wp.bnd (Tot.wpT (Tot.bnd (EL5 c _ hc) fun _=>Tot.some)) fun e _=>Wp.cnd (fun _=>Wp.some ⟨rfl,Bz3,rfl,rfl⟩) fun _=> ?_
  refine Wp.bnd (EL7 _ ht).wpT fun g _=>Wp.bnd (EL8 _ ht) fun en hen=>Wp.bnd (Bt1 _).wpT fun _ _=>Wp.bnd (Bt1 _).wpT fun _ _=>Wp.bnd (Bt2 _).wpT fun _ _=>Wp.some ⟨rfl,fun _=>⟨ht,hen,Ai0 _ _ rfl⟩,rfl,rfl⟩
 ·have e0:((AD9 img).2==(0:Int))=false:=by simpa using h0
  have e1:((AD9 img).2 != (0:Int))=true:=by simpa using h0
  simp only[e0,cond_false,Option.bind_some,e1,cond_true];exact Wp.some ⟨rfl,Bz3,rfl,rfl⟩
def SOK (s:E4):Prop:=s.broken=false→AA4 s
def FOK (l:List (List Int)):Prop:=∀b∈l,Bytes b∧b.length≤140737488355328
theorem EM0 (list:List (List Int))(cmd:Bool)(s:E4)(hs:SOK s)(hl:FOK list):Wp (AD4 list cmd s) fun y=>AR6 y.1∧SOK y.2∧y.2.broken=s.broken∧y.2.C6=IntKind.wrap .i64 (s.C6+1):=by
 unfold AD4;cases hb:s.broken with
 |true=>
  have h3:AR6 (Av4 s.C6):=⟨by simp[Av4],by simp[Av4]⟩
  refine Wp.some ⟨h3,?_,rfl,rfl⟩;intro h;cases h
 |false=>
  rw[EL2 s.C6 list hl];simp only[cond_false,Option.bind_some];have hn:=hs hb;have h5:=ED5 (BM9 s.C6 list) cmd s.C6 {s with C6:=IntKind.wrap .i64 (s.C6+1),broken:=false} ⟨hn.t,hn.ends,hn.p⟩;exact Wp.mono h5 fun y hy=>⟨hy.1,fun _=>hy.2.1,hy.2.2.1,hy.2.2.2⟩
theorem Bz4:∀(l:List Cyc) (s:E4),SOK s→(∀x∈l,FOK x.1)→Wp (goN s l) fun rs=>rs.length=l.length∧∀r∈rs,AR6 r
 | [],s,_,_=>⟨[],rfl,rfl,by simp⟩
 |x::xs,s,hs,hl=>by
  rw[goN];refine Wp.bnd (EM0 x.1 x.2 s hs (hl x (by simp))) fun y hy=>Wp.bnd (Bz4 xs y.2 hy.2.1 fun z hz=>hl z (by simp[hz])) fun rs hr=>Wp.some ⟨by simp[hr.1],fun r h=> ?_⟩
  rcases List.mem_cons.1 h with rfl | h
  ·exact hy.1
  ·exact hr.2 r h
theorem Bz5:∀(l:List Cyc) (s:E4) (rs:List H2) (n:Nat),goN s l=some rs→goN s (l.take n)=some (rs.take n)
 | [],s,rs,n,h=>by rw[goN] at h;obtain rfl:=Option.some.inj h;simp[goN]
 |x::xs,s,rs,0,h=>by simp[goN]
 |x::xs,s,rs,n+1,h=>by
  rw[goN] at h;cases hy:AD4 x.1 x.2 s with
  |none=>rw [hy] at h;cases h
  |some y=>
   rw[hy] at h;simp only[Option.bind_some] at h;cases hq:goN y.2 xs with
   |none=>rw [hq] at h;cases h
   |some qs=>
    rw[hq] at h;obtain rfl:=Option.some.inj h;rw[List.take_succ_cons,goN,hy];simp only[Option.bind_some];rw[Bz5 xs y.2 qs n hq];rfl
theorem EM1 (c:Cfg)(t:TkD)(hs:t.1.length≤200→∀s∈t.1,s.2.1.length≤big∧s.2.2.length≤big)(hN:Ax2 t):(∀l,X7 c t l=some [])∨∃s,SOK s∧s.C6=0∧s.k0=(false,0,0)∧s.k1=(false,0,0)∧∀(l:List Cyc) (rs:List H2),l.length≤1000→goN s l=some rs→X7 c t l=some rs:=by
 obtain⟨e,he,hc⟩:=EL6 c t hs;by_cases h0:e.1=0
 ·right
  have hck:=hc h0;have hp:=EK6 t (EK3 hck) hN;obtain⟨s,hn,h1,h2,h3,h4⟩:=EL9 c (BM7 (AJ5 t)) (EJ6 (By6 t));exact⟨s,h2,h1,h3,h4,fun l rs hl hr=>EA4 c t l hl he h0 hp hn hr⟩
 ·left
  intro l;unfold X7;rw[he];have e1:(e.1 != (0:Int))=true:=by simpa using h0
  simp only[Option.bind_some,e1,cond_true]
end Go.Proofs.YthfjpkdadjemcaaGreat
