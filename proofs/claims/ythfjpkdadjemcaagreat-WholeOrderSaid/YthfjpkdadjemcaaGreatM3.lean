/- A call that takes slices over does what is promised. No program in sight. -/
import Derived.Test.YthfjpkdadjemcaaGreatM2
import Derived.Laws.MakeOwn
set_option linter.unusedSimpArgs false
set_option linter.unusedVariables false
namespace Go.Proofs.YthfjpkdadjemcaaGreat
structure TrO (a tk:List (Nat×Nat))(ow:Nat→A1)(bx:Bx)(ow':Nat→A1)(bx':Bx):Prop where
 st:∀blk n,A8 ow blk n→A8 ow' blk n
 bo:∀i b,(i,b)∈a→ow (bx b) = .box b→bx' i=bx b∧ow' (bx b) = .box i
 tok:∀κ k,(κ,k)∈tk→∀blk fr,ow blk = .tok k fr→ow' blk = .tok κ fr
 tb:∀κ k,(κ,k)∈tk→∀x,bx.tb k=some x→bx'.tb κ=some x
theorem AZ7 {k κ:Nat}(h:k % 100000=κ % 100000):soft k=soft κ:=by unfold soft;rw[h]
theorem CR2 {k κ:Nat}(h:k % 100000=κ % 100000):L8 k=L8 κ:=by unfold L8;rw[h]
theorem CR3 {k κ n:Nat}(h:k % 100000=κ % 100000):H9 k n=H9 κ n:=by unfold H9;rw[AZ7 h]
theorem CR4 {k κ:Nat}(h:k % 100000=κ % 100000):k % 25000=κ % 25000:=by omega
theorem Bb1 {ow ow':Nat→A1}{bx bx':Bx}{w:World}{k κ:Nat}{t:Ty}{l:List t.den}{v:Value}(hst:∀blk n,A8 ow blk n→A8 ow' blk n)(he:k % 100000=κ % 100000)
  (htk:∀blk fr,ow blk = .tok k fr→ow' blk = .tok κ fr) (htb:soft κ=true→∀x,bx.tb k=some x→bx'.tb κ=some x) (hd:bx.dead k=false) (h:A0 ow bx w (.own k t l) v):A0 ow' bx' w (.own κ t l) v:=by
 have hk:F1 ow w ow' w:=F1.of fun blk n hs=>⟨hst blk n hs,rfl⟩
 cases h with
 |own h h' hh=>
  refine .own (fun hs=>(h (by rw[AZ7 he];exact hs)).keep hk) (fun _=> ?_) fun hs=> ?_
  rotate_left
  ·rcases hh (by rw[AZ7 he];exact hs) with h |⟨blk,cap,q1,q2⟩
   ·exact .inl ⟨by rw[← CR2 he];exact h.1,h.2⟩
   ·exact .inr ⟨blk,cap,htb hs _ q1,q2⟩
  rcases h' hd with h1 |⟨blk,cap,c,fz,h1,h2,h3,h3',h4,h5,h6⟩
  ·exact .inl h1
  ·exact .inr ⟨blk,cap,c,fz,h1,by rw[htk _ _ h2,CR3 he],by rw[h3,CR4 he],h3',h4,h5,fun hs=>⟨(h6 (by rw[AZ7 he];exact hs)).1,fun i x hx=>Rep.keep hk _ _ _ ((h6 (by rw[AZ7 he];exact hs)).2 i x hx)⟩⟩
theorem BJ1 {dead:List Nat}:∀(ps:List OP) (es:List EV) (a tk:List (Nat×Nat)) (l:List EV) (a' tk':List (Nat×Nat)),K5 dead ps es a tk=some (l,a',tk')→∀e∈l,∃t v,e=EV.dat t v:=by
 intro ps
 induction ps with
 |nil=>
  intro es a tk l a' tk' h;cases es with
  |nil=>simp only[K5] at h;cases h;simp
  |cons e es=>simp only[K5] at h;cases h
 |cons p ps ih=>
  intro es a tk l a' tk' h;cases es with
  |nil=>cases p <;> simp only[K5] at h <;> cases h
  |cons e es=>
   cases p with
   |dat t=>
    simp only[K5] at h;split at h
    ·split at h
     ·rename_i h1
      cases h;intro e he;rcases List.mem_cons.1 he with rfl | he
      ·exact⟨_,_,rfl⟩
      ·exact ih _ _ _ _ _ _ h1 e he
     ·cases h
    ·cases h
   |own κ t=>
    simp only[K5] at h;split at h
    ·split at h
     ·split at h
      ·rename_i h1
       cases h;intro e he;rcases List.mem_cons.1 he with rfl | he
       ·exact⟨_,_,rfl⟩
       ·exact ih _ _ _ _ _ _ h1 e he
      ·cases h
     ·cases h
    ·split at h
     ·cases h
     split at h
     ·rename_i h1
      cases h;intro e he;rcases List.mem_cons.1 he with rfl | he
      ·exact⟨_,_,rfl⟩
      ·exact ih _ _ _ _ _ _ h1 e he
     ·cases h
    ·cases h
   |ref i off=>
    simp only[K5] at h;split at h
    ·split at h
     ·split at h
      ·split at h
       ·exact ih _ _ _ _ _ _ h
       ·cases h
      ·split at h
       ·cases h
       ·exact ih _ _ _ _ _ _ h
     ·cases h
    ·cases h
theorem Ah5 {dead:List Nat}{ow ow':Nat→A1}{bx bx':Bx}{w:World}:∀(ps:List OP) (es:List EV) (a tk:List (Nat×Nat)) (l:List EV) (a' tk':List (Nat×Nat)),
  K5 dead ps es a tk=some (l,a',tk')→(F2 a→F2 a')∧(F2 tk→F2 tk')∧(∀p∈a,p∈a')∧(∀p∈tk,p∈tk')∧
   ((∀p∈tk,p.2∉dead∧p.2 % 100000=p.1 % 100000∧p.1<BIG)→∀p∈tk',p.2∉dead∧p.2 % 100000=p.1 % 100000∧p.1<BIG)∧
   ∀rest,∃es',E0 id id ps (l++rest)=(es',rest)∧es'.length=es.length∧
    ∀af tf,(∀p∈a',p∈af)→(∀p∈tk',p∈tf)→TrO af tf ow bx ow' bx'→(∀k,k∉dead→(∃κ,(κ,k)∈tf)→bx.dead k=false)→∀(i:Nat) e e' v,es[i]? = some e→es'[i]? = some e'→A0 ow bx w e v→A0 ow' bx' w e' v:=by
 intro ps
 induction ps with
 |nil=>
  intro es a tk l a' tk' h;cases es with
  |nil=>simp only[K5] at h;cases h;exact⟨id,id,fun _ h=>h,fun _ h=>h,id,fun rest=>⟨[],rfl,rfl,fun _ _ _ _ _ _ i e e' v he=>by simp at he⟩⟩
  |cons e es=>simp only[K5] at h;cases h
 |cons p ps ih=>
  intro es a tk l a' tk' h;cases es with
  |nil=>cases p <;> simp only[K5] at h <;> cases h
  |cons e es=>
   cases p with
   |dat t=>
    simp only[K5] at h;split at h
    ·rename_i v hv
     split at h
     ·rename_i l1 a1 t1 h1
      cases h;obtain⟨g1,g2,g3,g4,g5,g6⟩:=ih es a tk l1 a' tk' h1;refine⟨g1,g2,g3,g4,g5,fun rest=> ?_⟩
      obtain⟨es',k1,k2,k3⟩:=g6 rest;refine⟨.dat t v::es',by simp only[List.cons_append,E0,k1],by simp[k2],fun af tf haf htf htr hdd i e0 e1 u he0 he1 hu=> ?_⟩
      cases i with
      |zero=>
       simp only[List.getElem?_cons_zero,Option.some.injEq] at he0 he1;subst he0 he1;exact .dat ((Ar0 hv hu).keep (F1.of fun blk n hs=>⟨htr.st blk n hs,rfl⟩))
      |succ i=>exact k3 af tf haf htf htr hdd i e0 e1 u (by simpa using he0) (by simpa using he1) hu
     ·cases h
    ·cases h
   |own κ t=>
    simp only[K5] at h;split at h
    ·rename_i k t' lv
     split at h
     ·rename_i hc
      simp only[Bool.and_eq_true,Bool.not_eq_true',decide_eq_true_eq] at hc;obtain⟨⟨⟨⟨⟨⟨hk1,hkB⟩,hkB2⟩,hk2⟩,hk3⟩,hk4⟩,hk5⟩:=hc;have hk1:=Nat.eq_of_beq_eq_true hk1;have hkB:κ<BIG:=Nat.le_of_ble_eq_true hkB;have hnone:J2 tk κ=none:=by
       cases hg:J2 tk κ with
       |none=>rfl
       |some x=>rw [hg] at hk4;cases hk4
      split at h
      ·rename_i l1 a1 t1 h1
       cases h;obtain⟨g1,g2,g3,g4,g5,g6⟩:=ih es a ((κ,k)::tk) l1 a' tk' h1;have hmem:(κ,k)∈tk':=g4 _ (by simp)
       refine⟨g1,fun hok=>g2 (hok.cons hnone hk3),g3,fun p hp=>g4 p (by simp[hp]),fun hall=>g5 fun p hp=> ?_,fun rest=> ?_⟩
       ·rcases List.mem_cons.1 hp with rfl | hp
        ·exact⟨R8 hk2,hk1,hkB⟩
        ·exact hall p hp
       ·obtain⟨es',k1,k2,k3⟩:=g6 rest
        refine⟨.own κ t' lv::es',by simp only[List.cons_append,E0,k1,id],by simp[k2],fun af tf haf htf htr hdd i e0 e1 u he0 he1 hu=> ?_⟩
        cases i with
        |zero=>
         simp only[List.getElem?_cons_zero,Option.some.injEq] at he0 he1;subst he0 he1;exact Bb1 htr.st hk1 (htr.tok κ k (htf _ hmem)) (fun _=>htr.tb κ k (htf _ hmem)) (hdd k (R8 hk2) ⟨κ,htf _ hmem⟩) hu
        |succ i=>exact k3 af tf haf htf htr hdd i e0 e1 u (by simpa using he0) (by simpa using he1) hu
      ·cases h
     ·cases h
    ·split at h
     ·cases h
     rename_i hfirm;split at h
     ·rename_i l1 a1 t1 h1
      cases h;obtain⟨g1,g2,g3,g4,g5,g6⟩:=ih es a tk l1 a' tk' h1;refine⟨g1,g2,g3,g4,g5,fun rest=> ?_⟩
      obtain⟨es',k1,k2,k3⟩:=g6 rest;refine⟨.own κ t []::es',by simp only[List.cons_append,E0,k1,id],by simp[k2],fun af tf haf htf htr hdd i e0 e1 u he0 he1 hu=> ?_⟩
      cases i with
      |zero=>
       simp only[List.getElem?_cons_zero,Option.some.injEq] at he0 he1;subst he0 he1;cases hu;exact .own (fun _=>AJ4 t) (fun _=>.inl ⟨rfl,rfl⟩) fun _=>.inl ⟨hfirm,rfl,rfl⟩
      |succ i=>exact k3 af tf haf htf htr hdd i e0 e1 u (by simpa using he0) (by simpa using he1) hu
     ·cases h
    ·cases h
   |ref i0 off=>
    simp only[K5] at h;split at h
    ·rename_i b off'
     split at h
     ·rename_i hoff
      have hoff:=Nat.eq_of_beq_eq_true hoff;subst hoff;have fin:∀a1,K5 dead ps es a1 tk=some (l,a',tk')→(i0,b)∈a1→(F2 a→F2 a1)→(∀p∈a,p∈a1)→(F2 a→F2 a')∧(F2 tk→F2 tk')∧(∀p∈a,p∈a')∧(∀p∈tk,p∈tk')∧
        ((∀p∈tk,p.2∉dead∧p.2 % 100000=p.1 % 100000∧p.1<BIG)→∀p∈tk',p.2∉dead∧p.2 % 100000=p.1 % 100000∧p.1<BIG)∧
        ∀rest,∃es',E0 id id (.ref i0 off::ps) (l++rest)=(es',rest)∧es'.length=(EV.ptr b off::es).length∧
         ∀af tf,(∀p∈a',p∈af)→(∀p∈tk',p∈tf)→TrO af tf ow bx ow' bx'→(∀k,k∉dead→(∃κ,(κ,k)∈tf)→bx.dead k=false)→∀(i:Nat) e e' v,(EV.ptr b off::es)[i]? = some e→es'[i]? = some e'→A0 ow bx w e v→A0 ow' bx' w e' v:=by
       intro a1 h1 hmem hok hsub;obtain⟨g1,g2,g3,g4,g5,g6⟩:=ih es a1 tk l a' tk' h1;refine⟨fun h=>g1 (hok h),g2,fun p hp=>g3 p (hsub p hp),g4,g5,fun rest=> ?_⟩
       obtain⟨es',k1,k2,k3⟩:=g6 rest;refine⟨.ptr i0 off::es',by simp only[E0,k1,id],by simp[k2],fun af tf haf htf htr hdd i e0 e1 u he0 he1 hu=> ?_⟩
       cases i with
       |zero=>
        simp only[List.getElem?_cons_zero,Option.some.injEq] at he0 he1;subst he0 he1;cases hu with
        |ptr hq=>
         obtain⟨j1,j2⟩:=htr.bo i0 b (haf _ (g3 _ hmem)) hq;rw[← j1];exact .ptr (by rw[j1];exact j2)
       |succ i=>exact k3 af tf haf htf htr hdd i e0 e1 u (by simpa using he0) (by simpa using he1) hu
      split at h
      ·rename_i b' hb'
       split at h
       ·rename_i hbb
        have hbb:=Nat.eq_of_beq_eq_true hbb;subst hbb;exact fin a h (V4 _ _ _ hb') id (fun _ h=>h)
       ·cases h
      ·rename_i hnone
       split at h
       ·cases h
       ·rename_i hhas
        exact fin _ h (by simp) (fun hok=>hok.cons hnone (by simpa using hhas)) (fun p hp=>by simp[hp])
     ·cases h
    ·cases h
theorem As1 {dead:List Nat}{rd:Nat→Option (List EV)}:∀(bs:List (List OP)) (i:Nat) (a tk:List (Nat×Nat)) (l:List EV) (a' tk':List (Nat×Nat)),AO7 dead rd i bs a tk=some (l,a',tk')→
  (F2 a→F2 a')∧(F2 tk→F2 tk')∧(∀p∈a,p∈a')∧(∀p∈tk,p∈tk')∧
   ((∀p∈tk,p.2∉dead∧p.2 % 100000=p.1 % 100000∧p.1<BIG)→∀p∈tk',p.2∉dead∧p.2 % 100000=p.1 % 100000∧p.1<BIG)∧(∀e∈l,∃t v,e=EV.dat t v)∧(G7 id id bs l).length=bs.length∧
   ∀j,j<bs.length→∃b cs cs',(i+j,b)∈a'∧rd b=some cs∧(G7 id id bs l)[j]? = some cs'∧cs'.length=cs.length∧
    ∀(ow ow':Nat→A1) (bx bx':Bx) (w:World),TrO a' tk' ow bx ow' bx'→(∀k,k∉dead→(∃κ,(κ,k)∈tk')→bx.dead k=false)→∀(k:Nat) e e' v,cs[k]? = some e→cs'[k]? = some e'→A0 ow bx w e v→A0 ow' bx' w e' v
 | [],i,a,tk,l,a',tk',h=>by simp only[AO7] at h;cases h;exact⟨id,id,fun _ h=>h,fun _ h=>h,id,fun e he=>(by simp at he),rfl,fun j hj=>absurd hj (by simp)⟩
 |pts::r,i,a,tk,l,a',tk',h=>by
  simp only[AO7] at h;split at h
  ·rename_i b hb
   split at h
   ·rename_i cs hcs
    split at h
    ·rename_i l1 a1 t1 h1
     split at h
     ·rename_i l2 a2 t2 h2
      cases h;obtain⟨j1,j2,j3,j4,j5,j6,j7,j8⟩:=As1 r (i+1) a1 t1 l2 a' tk' h2;have hm:=Ah5 (ow:=fun _=>.C1) (ow':=fun _=>.C1) (bx:=⟨id,fun _=>false,fun _=>none⟩) (bx':=⟨id,fun _=>false,fun _=>none⟩) (w:=default) pts cs a tk l1 a1 t1 h1
      have hmem:(i,b)∈a':=j3 _ (hm.2.2.1 _ (V4 _ _ _ hb));obtain⟨es0,f1,f2,_⟩:=hm.2.2.2.2.2 l2;have hfb:G7 id id (pts::r) (l1++l2)=es0::G7 id id r l2:=by simp only[G7,f1]
      refine⟨fun h=>j1 (hm.1 h),fun h=>j2 (hm.2.1 h),fun p hp=>j3 p (hm.2.2.1 p hp),fun p hp=>j4 p (hm.2.2.2.1 p hp),fun h=>j5 (hm.2.2.2.2.1 h),fun e he=> ?_,by rw[hfb];simp[j7],fun j hj=> ?_⟩
      ·rcases List.mem_append.1 he with he | he
       ·exact BJ1 _ _ _ _ _ _ _ h1 e he
       ·exact j6 e he
      ·cases j with
       |zero=>
        refine⟨b,cs,es0,hmem,hcs,by rw[hfb];rfl,f2,fun ow ow' bx bx' w htr hdd=> ?_⟩
        obtain⟨es1,f1',_,f3⟩:=(Ah5 (ow:=ow) (ow':=ow') (bx:=bx) (bx':=bx') (w:=w) pts cs a tk l1 a1 t1 h1).2.2.2.2.2 l2;have e:es1=es0:=by rw[f1] at f1';cases f1';rfl
        subst e;exact f3 a' tk' j3 j4 htr hdd
       |succ j=>
        obtain⟨b',cs',cs'',k1,k2,k3,k4,k5⟩:=j8 j (by simpa using hj)
        exact⟨b',cs',cs'',by rw[show i+(j+1)=i+1+j by omega];exact k1,k2,by rw[hfb];simpa using k3,k4,k5⟩
     ·cases h
    ·cases h
   ·cases h
  ·cases h
theorem Bb2 {tn bn:Nat→Nat}{ow ow':Nat→A1}{bx bx':Bx}{w:World}(hst:∀blk n,A8 ow blk n→A8 ow' blk n)(hd:∀k,bx.dead k=false)
  {ks:List Nat} (htk:∀κ∈ks,tn κ % 100000=κ % 100000∧(∀blk fr,ow blk = .tok κ fr→ow' blk = .tok (tn κ) fr)∧(soft κ=true→∀x,bx.tb κ=some x→bx'.tb (tn κ)=some x)) (hbo:∀i,ow (bx i) = .box i→bx' (bn i)=bx i∧ow' (bx i) = .box (bn i)):
  ∀(ps:List OP) (d:List EV),(∀κ∈AE6 ps,κ∈ks)→(∀e∈d,∃t v,e=EV.dat t v)→(E0 tn bn ps d).2=(E0 id id ps d).2∧(E0 tn bn ps d).1.length=(E0 id id ps d).1.length∧(∀e∈(E0 id id ps d).2,e∈d)∧
   ∀(i:Nat) e e' v,(E0 id id ps d).1[i]? = some e→(E0 tn bn ps d).1[i]? = some e'→A0 ow bx w e v→A0 ow' bx' w e' v:=by
 intro ps
 induction ps with
 |nil=>intro d _ _;exact⟨rfl,rfl,fun e he=>he,fun i e e' v he=>by simp[E0] at he⟩
 |cons p ps ih=>
  intro d hks hdat;cases p with
  |dat t=>
   cases d with
   |nil=>exact ⟨rfl,rfl,fun e he=>he,fun i e e' v he=>by simp[E0] at he⟩
   |cons x d=>
    obtain⟨g1,g2,g3,g4⟩:=ih d (fun κ h=>hks κ (by simpa[AE6] using h)) fun e he=>hdat e (by simp[he])
    refine⟨by simp only[E0];exact g1,by simp only[E0,List.length_cons,g2],fun e he=> ?_,fun i e e' v he he' hr=> ?_⟩
    ·simp only[E0] at he
     exact List.mem_cons_of_mem _ (g3 e he)
    ·simp only[E0] at he he'
     cases i with
     |zero=>
      simp only[List.getElem?_cons_zero,Option.some.injEq] at he he';subst he he';obtain⟨t,z,hx⟩:=hdat x (by simp)
      subst hx;cases hr with
      |dat hr=>exact .dat (hr.keep (F1.of fun blk n hs=>⟨hst blk n hs,rfl⟩))
     |succ i=>exact g4 i e e' v (by simpa using he) (by simpa using he') hr
  |own κ t=>
   cases d with
   |nil=>exact ⟨rfl,rfl,fun e he=>he,fun i e e' v he=>by simp[E0] at he⟩
   |cons x d=>
    obtain⟨g1,g2,g3,g4⟩:=ih d (fun κ' h=>hks κ' (by simp[AE6,h])) fun e he=>hdat e (by simp[he])
    have hκ:=htk κ (hks κ (by simp[AE6]))
    refine⟨by simp only[E0];exact g1,by simp only[E0,List.length_cons,g2],fun e he=> ?_,fun i e e' v he he' hr=> ?_⟩
    ·simp only[E0] at he
     exact List.mem_cons_of_mem _ (g3 e he)
    ·simp only[E0] at he he'
     cases i with
     |zero=>
      simp only[List.getElem?_cons_zero,Option.some.injEq] at he he';subst he he';split
      ·exact Bb1 hst hκ.1.symm hκ.2.1 (fun hs=>hκ.2.2 (by rw[← AZ7 hκ.1];exact hs)) (hd κ) hr
      ·exact .undef _
     |succ i=>exact g4 i e e' v (by simpa using he) (by simpa using he') hr
  |ref i0 off=>
   obtain⟨g1,g2,g3,g4⟩:=ih d (fun κ h=>hks κ (by simpa[AE6] using h)) hdat
   refine⟨by simp only[E0];exact g1,by simp only[E0,List.length_cons,g2],fun e he=> ?_,fun i e e' v he he' hr=> ?_⟩
   ·simp only[E0] at he
    exact g3 e he
   ·simp only[E0] at he he'
    cases i with
    |zero=>
     simp only[List.getElem?_cons_zero,Option.some.injEq] at he he';subst he he';cases hr with
     |ptr hq=>
      obtain⟨h1,h2⟩:=hbo i0 hq;simp only[id] at h1 h2 ⊢;rw[← h1];exact .ptr (by rw[h1];exact h2)
    |succ i=>exact g4 i e e' v (by simpa using he) (by simpa using he') hr
theorem CR5 {tn bn:Nat→Nat}{ow ow':Nat→A1}{bx bx':Bx}{w:World}(hst:∀blk n,A8 ow blk n→A8 ow' blk n)(hd:∀k,bx.dead k=false)
  {ks:List Nat} (htk:∀κ∈ks,tn κ % 100000=κ % 100000∧(∀blk fr,ow blk = .tok κ fr→ow' blk = .tok (tn κ) fr)∧(soft κ=true→∀x,bx.tb κ=some x→bx'.tb (tn κ)=some x)) (hbo:∀i,ow (bx i) = .box i→bx' (bn i)=bx i∧ow' (bx i) = .box (bn i)):
  ∀(bs:List (List OP)) (d:List EV),(∀κ∈Af9 bs,κ∈ks)→(∀e∈d,∃t v,e=EV.dat t v)→(G7 tn bn bs d).length=bs.length∧(G7 id id bs d).length=bs.length∧
   ∀(j:Nat) cs cs',(G7 id id bs d)[j]? = some cs→(G7 tn bn bs d)[j]? = some cs'→cs'.length=cs.length∧∀(i:Nat) e e' v,cs[i]? = some e→cs'[i]? = some e'→A0 ow bx w e v→A0 ow' bx' w e' v:=by
 intro bs
 induction bs with
 |nil=>intro d _ _;exact⟨rfl,rfl,fun j cs cs' h=>by simp[G7] at h⟩
 |cons p r ih=>
  intro d hks hdat;obtain⟨g1,g2,g3,g4⟩:=Bb2 (w:=w) hst hd htk hbo p d (fun κ h=>hks κ (by simp[Af9,h])) hdat
  obtain⟨k1,k2,k3⟩:=ih (E0 id id p d).2 (fun κ h=>hks κ (by simp[Af9,h])) fun e he=>hdat e (g3 e he)
  have e1:G7 tn bn (p::r) d=(E0 tn bn p d).1::G7 tn bn r (E0 id id p d).2:=by simp only[G7,g1]
  have e2:G7 id id (p::r) d=(E0 id id p d).1::G7 id id r (E0 id id p d).2:=by simp only[G7]
  refine⟨by rw[e1];simp[k1],by rw[e2];simp[k2],fun j cs cs' h h'=> ?_⟩
  rw[e2] at h;rw[e1] at h';cases j with
  |zero=>
   simp only[List.getElem?_cons_zero,Option.some.injEq] at h h';subst h h';exact⟨g2,g4⟩
  |succ j=>exact k3 j cs cs' (by simpa using h) (by simpa using h')
def owO (a tk:List (Nat×Nat))(ow:Nat→A1):Nat→A1:=fun blk=>match ow blk with
 | .E8=>.E8
 | .box b=>match AA1 a b with
  |some i=>.box i
  |none=>.C1
 | .tok k fr=>match AA1 tk k with
  |some κ=>.tok κ fr
  |none=>.part fr
 | .part fr=>.part fr
 | .C1=>.C1
theorem As2 {a tk:List (Nat×Nat)}{ow:Nat→A1}{blk n:Nat}(h:A8 ow blk n):A8 (owO a tk ow) blk n:=by
 rcases L1 h with h |⟨k,fr,h,hn⟩|⟨fr,h,hn⟩
 ·exact L0 (by simp[owO,h])
 ·cases hk:AA1 tk k with
  |some κ=>exact z7 (k:=κ) (by simp[owO,h,hk]) hn
  |none=>exact X2 (by simp[owO,h,hk]) hn
 ·exact X2 (by simp[owO,h]) hn
def bxO (a tk:List (Nat×Nat))(bx:Bx):Bx:=⟨(H8 a bx).f,fun _=>false,fun κ=>match J2 tk κ with
 |some k=>bx.tb k
 |none=>none⟩
theorem trO {a tk:List (Nat×Nat)}(ha:F2 a)(ht:F2 tk)(ow:Nat→A1)(bx:Bx):TrO a tk ow bx (owO a tk ow) (bxO a tk bx):=by
 refine⟨fun blk n h=>As2 h,fun i b hm hb=>⟨by simp[bxO,H8,ha.key i b hm],?_⟩,fun κ k hm blk fr hb=> ?_,fun κ k hm x hx=>by simp only[bxO,ht.key κ k hm];exact hx⟩
 ·obtain⟨j,hj⟩:=Ar5 a b i hm
  have:j=i:=ha.inj j i b (AA2 a b j hj) hm;simp[owO,hb,hj,this]
 ·obtain⟨j,hj⟩:=Ar5 tk k κ hm
  have:j=κ:=ht.inj j κ k (AA2 tk k j hj) hm;simp[owO,hb,hj,this]
theorem As3 {a tk:List (Nat×Nat)}{ow:Nat→A1}{blk i:Nat}(h:owO a tk ow blk = .box i):∃b,(i,b)∈a∧ow blk = .box b:=by
 unfold owO at h;split at h
 ·cases h
 ·rename_i b hb
  split at h
  ·rename_i j hj
   cases h;exact⟨b,AA2 _ _ _ hj,hb⟩
  ·cases h
 ·split at h <;> cases h
 ·cases h
 ·cases h
theorem BJ2 {a tk:List (Nat×Nat)}{ow:Nat→A1}{blk κ fr:Nat}(h:owO a tk ow blk = .tok κ fr):∃k,(κ,k)∈tk∧ow blk = .tok k fr:=by
 unfold owO at h;split at h
 ·cases h
 ·split at h <;> cases h
 ·rename_i k fr' hb
  split at h
  ·rename_i j hj
   cases h;exact⟨k,AA2 _ _ _ hj,hb⟩
  ·cases h
 ·cases h
 ·cases h
theorem CR6 {a tk:List (Nat×Nat)}{ow:Nat→A1}{blk n:Nat}(h:A8 (owO a tk ow) blk n):A8 ow blk n:=by
 cases hb:ow blk with
 |E8=>exact L0 hb
 |tok k fr=>
  refine z7 hb ?_;cases hk:AA1 tk k with
  |some κ=>rcases L1 h with h |⟨_,_,h,hn⟩|⟨fr',h,hn⟩ <;> simp[owO,hb,hk] at h;obtain⟨_,rfl⟩:=h;exact hn
  |none=>rcases L1 h with h |⟨_,_,h,hn⟩|⟨fr',h,hn⟩ <;> simp[owO,hb,hk] at h;subst h;exact hn
 |part fr=>rcases L1 h with h |⟨_,_,h,hn⟩|⟨fr',h,hn⟩ <;> simp[owO,hb] at h;subst h;exact X2 hb hn
 |C1=>rcases L1 h with h |⟨_,_,h,hn⟩|⟨fr',h,hn⟩ <;> simp[owO,hb] at h
 |box b=>rcases L1 h with h |⟨_,_,h,hn⟩|⟨fr',h,hn⟩ <;> (simp only[owO,hb] at h;split at h <;> cases h)
def As4 (tn:Nat→Nat):A1→A1
 | .tok κ fr=>.tok (tn κ) fr
 | .E8=>.E8
 | .part fr=>.part fr
 |_=>.C1
theorem CR7 {tn:Nat→Nat}{o:A1}{n:Nat}(h:o.AY1 n):(As4 tn o).AY1 n:=by
 cases o with
 |E8=>trivial
 |tok k fr=>exact h
 |part fr=>exact h
 |box b=>exact h.elim
 |C1=>exact h.elim
theorem CR8 {rd:Nat→Option (List EV)}{a:List (Nat×Nat)}:∀(l:List (List EV)) (i:Nat) (ws:List Wr),AE7 rd a i l=some ws→ws.length=l.length∧
  ∀(j:Nat) out,l[j]? = some out→∃b cs,J2 a (i+j)=some b∧rd b=some cs∧ws[j]? = some ⟨b,0,out⟩∧out.length=cs.length:=by
 intro l
 induction l with
 |nil=>intro i ws h;simp only[AE7] at h;cases h;exact⟨rfl,fun j out h=>by simp at h⟩
 |cons c r ih=>
  intro i ws h;simp only[AE7] at h;split at h
  ·rename_i b hb
   split at h
   ·rename_i cs hcs
    split at h
    ·rename_i hl
     split at h
     ·rename_i ws' hws
      cases h;obtain⟨h1,h2⟩:=ih _ _ hws;refine⟨by simp[h1],fun j out hj=> ?_⟩
      cases j with
      |zero=>
       simp only[List.getElem?_cons_zero,Option.some.injEq] at hj;subst hj;exact⟨b,cs,hb,hcs,rfl,Nat.eq_of_beq_eq_true hl⟩
      |succ j=>
       obtain⟨b',cs',q1,q2,q3,q4⟩:=h2 j out (by simpa using hj)
       exact⟨b',cs',by rw[show i+(j+1)=i+1+j by omega];exact q1,q2,by simpa using q3,q4⟩
     ·cases h
    ·cases h
   ·cases h
  ·cases h
theorem CR9 {rd:Nat→Option (List EV)}{a:List (Nat×Nat)}:∀(l:List (List EV)) (i:Nat) (ws:List Wr),AE7 rd a i l=some ws→∀z∈ws,z.b∈a.map (·.2)∧∃cs,rd z.b=some cs∧z.off+z.new.length≤cs.length:=by
 intro l
 induction l with
 |nil=>intro i ws h;simp only[AE7] at h;cases h;simp
 |cons c r ih=>
  intro i ws h;simp only[AE7] at h;split at h
  ·rename_i b hb
   split at h
   ·rename_i cs hcs
    split at h
    ·rename_i hl
     split at h
     ·rename_i ws' hws
      cases h;intro z hz;rcases List.mem_cons.1 hz with rfl | hz
      ·have:=Nat.eq_of_beq_eq_true hl
       exact⟨List.mem_map.2 ⟨_,V4 _ _ _ hb,rfl⟩,cs,hcs,by simp only;omega⟩
      ·exact ih _ _ hws z hz
     ·cases h
    ·cases h
   ·cases h
  ·cases h
theorem AP5 {l:List (List EV)}{b:Nat}{cs:List EV}:A4 (l.map some) b=some cs↔l[b]? = some cs:=by rw[N8,List.getElem?_map];cases l[b]? <;> simp
theorem CS0 {ow ow':Nat→A1}{bx bx':Bx}{w:World}{es es':List EV}(hl:es'.length=es.length)(h:∀(i:Nat) e e' v,es[i]? = some e→es'[i]? = some e'→A0 ow bx w e v→A0 ow' bx' w e' v){v:Value}
  (hv:A0 ow bx w (H7 es) v):A0 ow' bx' w (H7 es') v:=by
 match es,es',hl with
 | [],[],_=>cases hv with | tup h1 h2=>exact .tup h1 fun i e v he=>by simp at he
 | [e],[e'],_=>exact h 0 e e' v rfl rfl hv
 |e1::e2::l,e1'::e2'::l',hl=>
  cases hv with
  |tup h1 h2=>
   refine .tup (by rw[← h1];simpa using hl) fun i e v he hv=> ?_
   have hlt:i<(e1::e2::l).length:=by rw[← hl];exact (List.getElem?_eq_some_iff.1 he).1
   exact h i _ e v (List.getElem?_eq_getElem hlt) he (h2 i _ v (List.getElem?_eq_getElem hlt) hv)
theorem CS1 (f tn:Nat→Nat)(htn:∀κ,tn κ=f κ+BIG):∀(l:List Nat) (κ:Nat),Ag0 (l.map f)=true→κ∈l→soft κ=true→l.find? (fun κ'=>soft κ'&&Nat.beq (tn κ') (tn κ))=some κ:=by
 intro l κ
 induction l with
 |nil=>intro _ h;simp at h
 |cons y r ih=>
  intro hnd hm hs;simp only[List.map_cons,Ag0,Bool.and_eq_true,Bool.not_eq_true'] at hnd;rw[List.find?_cons];cases hb:(soft y&&Nat.beq (tn y) (tn κ)) with
  |true=>
   simp only;rcases List.mem_cons.1 hm with rfl | hm
   ·rfl
   ·exfalso
    rw[Bool.and_eq_true] at hb;have he:=Nat.eq_of_beq_eq_true hb.2;rw[htn,htn] at he;have he:f y=f κ:=Nat.add_right_cancel he;exact R8 hnd.1 (by rw[he];exact List.mem_map.2 ⟨κ,hm,rfl⟩)
  |false=>
   simp only;rcases List.mem_cons.1 hm with rfl | hm
   ·rw[Nat.beq_refl,hs] at hb;cases hb
   ·exact ih hnd.2 hm hs
theorem BJ3 {B:E9}{ow:Nat→A1}{bx:Bx}{nb:Nat}{bg:Nat→Option (List EV)}{w:World}(hi:Inv B ow bx nb bg w){k:Nat}(hk:bx.dead k=false):bx.tb (k+BIG)=none:=by
 cases hb:bx.tb (k+BIG) with
 |none=>rfl
 |some y=>
  rcases hi.born (k+BIG) (by rw[hb];rfl) with h | h
  ·exact absurd h (Nat.not_lt.2 (Nat.le_add_left _ _))
  ·rw[Nat.add_sub_cancel,hk] at h
   cases h.1
theorem CS2 {B:E9}{ow:Nat→A1}{bx:Bx}{nb:Nat}{bg:Nat→Option (List EV)}{w:World}(hi:Inv B ow bx nb bg w){f tn:Nat→Nat}(htn:∀κ,tn κ=f κ+BIG){l ks:List Nat}(hfB:∀κ∈l,soft κ=true→f κ<BIG){tb':Nat→Option (Nat×(Nat×Nat))}{j:Nat}
  (hj:(match bx.tb j with
   |some x=>some x
   |none=>match l.find? (fun κ=>soft κ&&Nat.beq (tn κ) j) with
    |some κ=>tb' κ
    |none=>none).isSome=true):j<BIG∨((bx.dead (j-BIG)||F6 (ks++l.map f) (j-BIG))=true∧j<2*BIG):=by
 split at hj
 ·rename_i x hx
  exact (hi.born j (by rw[hx];rfl)).imp (fun h=>h) fun h=>⟨by rw[h.1];rfl,h.2⟩
 ·split at hj
  ·rename_i κ hκ
   right
   have hb:=List.find?_some hκ;have hm:=List.mem_of_find?_eq_some hκ;rw[Bool.and_eq_true] at hb;have he:=Nat.eq_of_beq_eq_true hb.2;rw[htn] at he;have he2:j-BIG=f κ:=by rw[← he,Nat.add_sub_cancel]
   have hB:=hfB _ hm hb.1;refine⟨?_,by omega⟩
   rw[he2];have:F6 (ks++l.map f) (f κ)=true:=by unfold F6;rw[List.any_eq_true];exact⟨_,List.mem_append_right _ (List.mem_map.2 ⟨κ,hm,rfl⟩),Nat.beq_refl _⟩
   rw[this,Bool.or_true]
  ·cases hj
theorem CS3 {P:Program}{c:G2}(hc:Aq9 P c){dead:List Nat}{dst:Option Nat}{es l l':List EV}{a a' tk tk':List (Nat×Nat)}{rd:Nat→Option (List EV)}{x:c.ins.den}{y:c.outs.den}{vs d:List EV}{ws:List Wr}
  (h1:K5 dead c.ps es [] []=some (l,a,tk)) (h2:AO7 dead rd 0 c.boxes a tk=some (l',a',tk')) (hp:BF5 c (l++l').length a'=true) (h3:J1 c.ins (l++l')=some x) (h4:c.F x=some y)
  (h5:E0 (fun κ=>O5 dst tk' κ+BIG) (X0 a') c.rs (B3 c.outs c.A2 y)=(vs,d)) (h6:AE7 rd a' 0 (G7 (fun κ=>O5 dst tk' κ+BIG) (X0 a') c.aft d)=some ws) (h7:Ag0 (c.W9.map (O5 dst tk'))=true) (h8:∀κ∈c.W9,soft κ=true→O5 dst tk' κ<BIG)
  {B:E9} {ow:Nat→A1} {bx:Bx} {nb:Nat} {bg:Nat→Option (List EV)} {w:World} {args:Array Value} (id':Nat) (hi:Inv B ow bx nb bg w) (hargs:R7 ow bx w es args)
  (hrd:∀b∈a'.map (·.2),bg b=rd b) (hdead:∀k∈tk'.map (·.2)++c.W9.map (O5 dst tk'),bx.dead k=false):
  Calls P c.f args w fun e w'=>∃v ow' bx',e = .returned v∧E4 ow bx w ow' bx' w'∧A0 ow' bx' w' (H7 vs) v∧Inv B ow' bx' nb (upd bg id' none ws) w'∧∀j,bx'.dead j=(bx.dead j||F6 (tk'.map (·.2)++c.W9.map (O5 dst tk')) j):=by
 simp only[BF5,Bool.and_eq_true] at hp;obtain⟨⟨hnin,hbel⟩,haft⟩:=hp;have hnin:=Nat.eq_of_beq_eq_true hnin;have haft:=Nat.eq_of_beq_eq_true haft;have hbelow:=AZ2 _ _ hbel;obtain⟨m1,m2,m3,m4,m5,m6⟩:=Ah5 (ow:=ow) (ow':=owO a' tk' ow) (bx:=bx) (bx':=bxO a' tk' bx) (w:=w) c.ps es [] [] l a tk h1;obtain⟨b1,b2,b3,b4,b5,b6,b7,b8⟩:=As1 c.boxes 0 a tk l' a' tk' h2;have hok:F2 a':=b1 (m1 .nil)
 have htok:F2 tk':=b2 (m2 .nil);have htks:∀p∈tk',p.2∉dead∧p.2 % 100000=p.1 % 100000∧p.1<BIG:=b5 (m5 fun p hp=>by simp at hp)
 have htr:=trO hok htok ow bx;have hdd:∀k,k∉dead→(∃κ,(κ,k)∈tk')→bx.dead k=false:=fun k _ ⟨κ,hk⟩=>hdead k (List.mem_append_left _ (List.mem_map.2 ⟨_,hk,rfl⟩))
 obtain⟨es',f1,f2,f3⟩:=m6 l';have hun:B3 c.ins c.nin x=l++l':=by
  have:=AP4 c.ins (l++l') x h3 (fun e he=>by
   rcases List.mem_append.1 he with he | he
   ·exact BJ1 _ _ _ _ _ _ _ h1 e he
   ·exact b6 e he)
  rw[hnin] at this;exact this
 have hargs0:c.H2 x=es':=by unfold G2.H2;rw[hun,f1]
 have hboxes0:c.K9 x=(G7 id id c.boxes l').map some:=by unfold G2.K9;rw[hun,f1]
 have hbox:∀i,i<c.boxes.length→∃b cs cs',(i,b)∈a'∧bg b=some cs∧(G7 id id c.boxes l')[i]? = some cs'∧cs'.length=cs.length∧
   ∀(k:Nat) e e' v,cs[k]? = some e→cs'[k]? = some e'→A0 ow bx w e v→A0 (owO a' tk' ow) (bxO a' tk' bx) w e' v:=by
  intro i hlt;obtain⟨b,cs,cs',k1,k2,k3,k4,k5⟩:=b8 i hlt;rw[Nat.zero_add] at k1;refine⟨b,cs,cs',k1,?_,k3,k4,k5 ow _ bx _ w htr hdd⟩;rw[hrd b (List.mem_map.2 ⟨(i,b),k1,rfl⟩)];exact k2
 have hcall:∀blk i,owO a' tk' ow blk = .box i→∃b,(i,b)∈a'∧ow blk = .box b∧blk=bx b:=by intro blk i h;obtain⟨b,g1,g2⟩:=As3 h;exact⟨b,g1,g2,(hi.back blk b g2).1⟩
 have hglob:N6 (owO a' tk' ow) w:=hi.AY4.keep (.of fun blk n h=>⟨As2 h,rfl⟩)
 have hinv:Inv ⟨w,fun blk=>(∃b,owO a' tk' ow blk = .box b)∨∃k fr,owO a' tk' ow blk = .tok k fr,owO a' tk' ow,c.boxes.length,bxO a' tk' bx,hglob⟩ (owO a' tk' ow) (bxO a' tk' bx) c.boxes.length (A4 (c.K9 x)) w:=by
  rw[hboxes0];constructor
  ·intro i cs' hcs'
   rw[AP5] at hcs';have hlt:i<c.boxes.length:=by rw[← b7];exact (List.getElem?_eq_some_iff.1 hcs').1
   obtain⟨b,cs,cs'',k1,k2,k3,k4,k5⟩:=hbox i hlt;rw[hcs'] at k3;cases k3;obtain⟨g1,c0,T,g2,g3⟩:=hi.box b cs k2;obtain⟨t1,t2⟩:=htr.bo i b k1 g1;refine⟨by rw[t1];exact t2,c0,T,by rw[t1];exact g2,by rw[k4,g3.1],fun k e v he hv=> ?_⟩
   have hklt:k<cs.length:=by rw[← k4];exact (List.getElem?_eq_some_iff.1 he).1
   exact⟨k5 k _ e v (List.getElem?_eq_getElem hklt) he (g3.2 k _ v (List.getElem?_eq_getElem hklt) hv).1,(g3.2 k _ v (List.getElem?_eq_getElem hklt) hv).2⟩
  ·intro blk i h
   obtain⟨b,k1,k2,k3⟩:=hcall blk i h;have hlt:=hbelow i b k1;obtain⟨t1,t2⟩:=htr.bo i b k1 (by rw[← k3];exact k2)
   refine⟨by rw[t1];exact k3,?_,hlt⟩
   obtain⟨_,_,cs'',_,_,j3,_⟩:=hbox i hlt;rw[AP5.2 j3];rfl
  ·intro blk h
   refine hi.here blk fun e=>h ?_
   simp[owO,e]
  ·intro blk _ h
   exact⟨rfl,rfl,fun b hb=>h (.inl ⟨b,hb⟩),fun k fr hb=>h (.inr ⟨k,fr,hb⟩)⟩
  ·exact Nat.le_refl _
  ·exact⟨rfl,rfl,rfl⟩
  ·intro i hlt
   obtain⟨_,_,cs'',_,_,j3,_⟩:=hbox i hlt;exact⟨rfl,by rw[AP5.2 j3];rfl⟩
  ·exact .refl _ _
  ·intro j hj
   left
   simp only[bxO] at hj;split at hj
   ·rename_i k hk;exact (htks _ (V4 _ _ _ hk)).2.2
   ·cases hj
 have hrepl:R7 (owO a' tk' ow) (bxO a' tk' bx) w (c.H2 x) args:=by
  rw[hargs0];refine⟨by rw[f2];exact hargs.1,fun i e v he hv=> ?_⟩
  have hlt:i<es.length:=by rw[← f2];exact (List.getElem?_eq_some_iff.1 he).1
  exact f3 a' tk' b3 b4 htr hdd i _ e v (List.getElem?_eq_getElem hlt) he (hargs.2 i _ v (List.getElem?_eq_getElem hlt) hv)
 refine (hc.go x y h4 w (owO a' tk' ow) (bxO a' tk' bx) args hglob (fun _=>rfl) hinv hrepl).mono fun e w' ⟨v,ow',tb',he,hinv',hv⟩=> ?_
 subst he;have hsz:=hinv'.size;simp only at hsz;generalize htn:(fun κ=>O5 dst tk' κ+BIG)=tn at h5 h6
 have htn5:∀κ,tn κ % 100000=κ % 100000:=by
  intro κ;subst htn;simp only[O5];split
  ·rename_i k hk
   have:=(htks _ (V4 _ _ _ hk)).2.1;simp only at this;rw[← this];unfold BIG;omega
  ·split
   ·rename_i dd _;unfold BIG;omega
   ·unfold BIG;omega
 let given:Nat→Prop:=fun blk=>∃k fr,owO a' tk' ow blk = .tok k fr
 let ow2:Nat→A1:=fun blk=>open Classical in if blk<w.heap.size∧¬given blk then ow blk else As4 tn (ow' blk)
 have htnK:∀κ,tn κ=O5 dst tk' κ+BIG:=fun κ=>by rw[← htn]
 let tb2:Nat→Option (Nat×(Nat×Nat)):=fun j=>match bx.tb j with
  |some x=>some x
  |none=>match c.W9.find? (fun κ=>soft κ&&Nat.beq (tn κ) j) with
   |some κ=>tb' κ
   |none=>none
 let bx2:Bx:=⟨bx.f,fun j=>bx.dead j||F6 (tk'.map (·.2)++c.W9.map (O5 dst tk')) j,tb2⟩
 let bxE:Bx:=⟨(bxO a' tk' bx).f,(bxO a' tk' bx).dead,tb'⟩
 have hM:∀blk b,ow blk = .box b→(∀i,(i,b)∉a')→owO a' tk' ow blk = .C1:=by
  intro blk b hb hn;unfold owO;rw[hb];simp only;split
  ·rename_i j hj;exact absurd (AA2 _ _ _ hj) (hn j)
  ·rfl
 have hold:∀blk,blk<w.heap.size→(∀b,owO a' tk' ow blk≠ .box b)→¬given blk→w'.heap[blk]? = w.heap[blk]? ∧ow' blk=owO a' tk' ow blk:=by
  intro blk hlt h hg;obtain⟨g1,g2,_⟩:=hinv'.old blk hlt (fun h'=>h'.elim (fun ⟨b,hb⟩=>h b hb) hg)
  exact⟨g1,g2⟩
 have hboxg:∀blk b,ow blk = .box b→¬given blk:=by
  rintro blk b hb ⟨k,fr,h⟩
  obtain⟨_,_,h⟩:=BJ2 h;rw[hb] at h;cases h
 have hoo:∀blk,blk<w.heap.size→¬given blk→ow2 blk=ow blk:=fun blk h1 h2=>if_pos ⟨h1,h2⟩
 have hon:∀blk,¬(blk<w.heap.size∧¬given blk)→ow2 blk=As4 tn (ow' blk):=fun blk h=>if_neg h
 have hbx':∀blk i,owO a' tk' ow blk = .box i→ow' blk = .box i:=by
  intro blk i h;obtain⟨b,k1,k2,k3⟩:=hcall blk i h;have hlt:=hbelow i b k1;obtain⟨t1,_⟩:=htr.bo i b k1 (by rw[← k3];exact k2)
  obtain⟨h1,h2⟩:=hinv'.kept i hlt;obtain⟨cs,hcs⟩:=Option.isSome_iff_exists.1 h2;have:=(hinv'.box i cs hcs).1;rw[t1,← k3] at this;exact this
 have hst2:∀blk n,A8 ow' blk n→A8 ow2 blk n:=by
  intro blk n h;by_cases hlt:blk<w.heap.size∧¬given blk
  ·refine Z5 (ow:=ow) (CR6 (a:=a') (tk:=tk') ?_) (hoo blk hlt.1 hlt.2)
   by_cases hm:∀b,owO a' tk' ow blk≠ .box b
   ·exact Z5 h (hold blk hlt.1 hm hlt.2).2.symm
   ·exfalso
    obtain⟨i,hcb⟩:∃i,owO a' tk' ow blk = .box i:=Classical.byContradiction fun hn=>hm fun b hb=>hn ⟨b,hb⟩
    exact Aq6 h i (hbx' blk i hcb)
  ·unfold A8
   rw[hon blk hlt];exact CR7 h
 have hkeep:E4 ow bx w ow2 bx2 w':=by
  refine⟨fun blk n c0 T fz h hc0=> ?_,fun blk k fr h hd=> ?_,fun k hd=> ?_,fun b h=> ?_,fun k x hx=>by simp only[bx2,tb2,hx]⟩
  ·have hlt:=hi.here blk (AJ3 h)
   obtain⟨q1,c1,fz1,q2,q3⟩:=hinv'.st blk n c0 T fz (As2 h) hc0;exact⟨hst2 blk n q1,c1,fz1,q2,q3⟩
  ·have hlt:=hi.here blk (by rw[h];intro e;cases e)
   have hng:¬given blk:=by
    rintro⟨κ,fr',hg⟩
    obtain⟨k',hk',hb'⟩:=BJ2 hg;rw[h] at hb';cases hb';have hmem:k∈tk'.map (·.2)++c.W9.map (O5 dst tk'):=List.mem_append_left _ (List.mem_map.2 ⟨_,hk',rfl⟩);have hkill:F6 (tk'.map (·.2)++c.W9.map (O5 dst tk')) k=true:=by unfold F6;rw[List.any_eq_true];exact⟨k,hmem,Nat.beq_refl k⟩
    simp only[bx2,hdead k hmem,hkill] at hd;cases hd
   refine⟨by rw[hoo blk hlt hng];exact h,(hold blk hlt (fun b hb=> ?_) hng).1⟩
   obtain⟨_,_,g2⟩:=As3 hb;rw[h] at g2;cases g2
  ·simp only[bx2,Bool.or_eq_false_iff] at hd
   exact hd.1
  ·have hlt:=hi.here (bx b) (by rw[h];intro e;cases e)
   exact⟨rfl,by rw[hoo _ hlt (hboxg _ b h)];exact h⟩
 have hdat:∀e∈B3 c.outs c.A2 y,∃t v,e=EV.dat t v:=BI6 _ _ _;have htk2:∀κ∈c.W9,tn κ % 100000=κ % 100000∧(∀blk fr,ow' blk = .tok κ fr→ow2 blk = .tok (tn κ) fr)∧(soft κ=true→∀x,bxE.tb κ=some x→bx2.tb (tn κ)=some x):=by
  refine fun κ hκ=>⟨htn5 κ,fun blk fr h=> ?_,fun hs x hx=> ?_⟩
  rotate_left
  ·have hn:bx.tb (tn κ)=none:=by
    rw[htnK];exact BJ3 hi (hdead _ (List.mem_append_right _ (List.mem_map.2 ⟨κ,hκ,rfl⟩)))
   have hf:c.W9.find? (fun κ'=>soft κ'&&Nat.beq (tn κ') (tn κ))=some κ:=by exact CS1 (O5 dst tk') tn htnK _ κ h7 hκ hs
   simp only[bx2,tb2,hn,hf];exact hx
  have hn:¬(blk<w.heap.size∧¬given blk):=by
   rintro⟨hlt,hg⟩
   by_cases hm:∀b,owO a' tk' ow blk≠ .box b
   ·rw[(hold blk hlt hm hg).2] at h
    exact hg ⟨κ,fr,h⟩
   ·obtain⟨i,hcb⟩:∃i,owO a' tk' ow blk = .box i:=Classical.byContradiction fun hn=>hm fun b hb=>hn ⟨b,hb⟩
    rw[hbx' blk i hcb] at h;cases h
  rw[hon blk hn,h];rfl
 have hbo2:∀i,ow' (bxE i) = .box i→bx2 (X0 a' i)=bxE i∧ow2 (bxE i) = .box (X0 a' i):=by
  intro i h;obtain⟨_,q2,q3⟩:=hinv'.back _ i h;obtain⟨b,cs,cs',k1,k2,_⟩:=hbox i q3;obtain⟨g1,_⟩:=hi.box b cs k2;have hbn:X0 a' i=b:=by unfold X0;rw[hok.key i b k1]
  have hbc:bxE i=bx b:=by simp[bxE,bxO,H8,hok.key i b k1]
  rw[hbn,hbc];have hlt:=hi.here (bx b) (by rw[g1];intro e;cases e)
  exact⟨rfl,by rw[hoo _ hlt (hboxg _ b g1)];exact g1⟩
 obtain⟨r1,r2,r3,r4⟩:=Bb2 (w:=w') (tn:=tn) (bn:=X0 a') (ow':=ow2) (bx:=bxE) (bx':=bx2) hst2 (fun _=>rfl) htk2 hbo2 c.rs _ (fun κ h=>List.mem_append_left _ h) hdat
 rw[h5] at r1 r2 r4;simp only at r1 r2 r4;have hv2:A0 ow2 bx2 w' (H7 vs) v:=CS0 r2 r4 hv;obtain⟨s1,s2,s3⟩:=CR5 (w:=w') (tn:=tn) (bn:=X0 a') (ow':=ow2) (bx:=bxE) (bx':=bx2) hst2 (fun _=>rfl) htk2 hbo2 c.aft (E0 id id c.rs (B3 c.outs c.A2 y)).2 (fun κ h=>List.mem_append_right _ h) fun e he=>hdat e (r3 e he)
 rw[← r1] at s1 s2 s3;have hb1:c.R5 y=(G7 id id c.aft d).map some:=by unfold G2.R5;rw[← r1]
 obtain⟨k1,k3⟩:=CR8 _ _ _ h6;refine⟨v,ow2,bx2,rfl,hkeep,hv2,?_,fun j=>rfl⟩
 have hwsb:∀(k:Nat) x,ws[k]? = some x→(k,x.b)∈a':=by
  intro k x hx;have hk:k<(G7 tn (X0 a') c.aft d).length:=by rw[← k1];exact (List.getElem?_eq_some_iff.1 hx).1
  obtain⟨b,cs,g1,g2,g3,g4⟩:=k3 k _ (List.getElem?_eq_getElem hk);rw[hx] at g3;cases g3;rw[Nat.zero_add] at g1;exact V4 _ _ _ g1
 constructor
 ·intro b cs2 hb2
  simp only[upd,O6] at hb2;by_cases hin:∃i,(i,b)∈a'
  ·obtain⟨i,hi'⟩:=hin
   have hlt:=hbelow i b hi';have hlt2:i<(G7 tn (X0 a') c.aft d).length:=by rw[s1,haft];exact hlt
   have hlt3:i<(G7 id id c.aft d).length:=by rw[s2,haft];exact hlt
   obtain⟨b',cs,q1,q2,q3,q4⟩:=k3 i _ (List.getElem?_eq_getElem hlt2);rw[Nat.zero_add,hok.key i b hi'] at q1;cases q1;obtain⟨b0,cs0,cs0',p1,p2,p3,p4,p5⟩:=hbox i hlt;have:b0=b:=by have:=hok.key i b0 p1;rw[hok.key i b hi'] at this;cases this;rfl
   subst this;have hrdb:rd b0=bg b0:=(hrd b0 (List.mem_map.2 ⟨(i,b0),hi',rfl⟩)).symm;have hcs:cs=cs0:=by rw[hrdb,p2] at q2;cases q2;rfl
   subst hcs;rw[BI8 ws bg b0 _ cs i q3 p2 q4 (fun k x hx he=>by have:=hwsb k x hx;rw[he] at this;exact hok.inj k i b0 this hi')] at hb2
   obtain⟨z1,z2⟩:=s3 i _ _ (List.getElem?_eq_getElem hlt3) (List.getElem?_eq_getElem hlt2);generalize (G7 tn (X0 a') c.aft d)[i]=out at hb2 z1 z2 q4;cases hb2;obtain⟨g1,c0,T,g2,g3⟩:=hi.box b0 cs p2;obtain⟨t1,t2⟩:=htr.bo i b0 hi' g1;have hbg':A4 (c.R5 y) i=some ((G7 id id c.aft d)[i]):=by rw[hb1,AP5];exact List.getElem?_eq_getElem hlt3
   obtain⟨w1,c1,T1,w2,w3⟩:=hinv'.box i _ hbg';change ow' ((bxO a' tk' bx) i)=_ at w1;change w'.heap[(bxO a' tk' bx) i]? = _ at w2;rw[t1] at w1 w2;have hltb:=hi.here (bx b0) (by rw[g1];intro e;cases e)
   refine⟨by rw[hoo _ hltb (hboxg _ b0 g1)];exact g1,c1,T1,w2,by rw[z1];exact w3.1,fun k e v' he hv'=> ?_⟩
   have hklt:k<((G7 id id c.aft d)[i]).length:=by rw[← z1];exact (List.getElem?_eq_some_iff.1 he).1
   obtain⟨r4,r5⟩:=w3.2 k _ v' (List.getElem?_eq_getElem hklt) hv';exact⟨z2 k _ e v' (List.getElem?_eq_getElem hklt) he r4,r5⟩
  ·have hne:∀x∈ws,x.b≠b:=fun x hx e=>by
    obtain⟨k,hk⟩:=List.getElem?_of_mem hx;exact hin ⟨k,e▸hwsb k x hk⟩
   rw[AZ4 ws bg b hne] at hb2;obtain⟨g1,c0,T,g2,g3⟩:=hi.box b cs2 hb2;have hltb:=hi.here (bx b) (by rw[g1];intro e;cases e)
   have hj:=hM (bx b) b g1 (fun i h=>hin ⟨i,h⟩)
   exact⟨by rw[hoo _ hltb (hboxg _ b g1)];exact g1,c0,T,by rw[(hold (bx b) hltb (by rw[hj];intro b h;cases h) (hboxg _ b g1)).1];exact g2,g3.keep hkeep⟩
 ·intro blk b h
  by_cases hlt:blk<w.heap.size∧¬given blk
  ·rw[hoo blk hlt.1 hlt.2] at h
   obtain⟨g1,g2,g3⟩:=hi.back blk b h;exact⟨g1,by simp only[upd,O6];rw[AZ5];exact g2,g3⟩
  ·rw[hon blk hlt] at h
   unfold As4 at h;split at h <;> cases h
 ·intro blk h
  by_cases hlt:blk<w.heap.size∧¬given blk
  ·omega
  ·rw[hon blk hlt] at h
   refine hinv'.here blk fun e=>h ?_
   rw[e];rfl
 ·intro blk hlt hnm
  obtain⟨g1,g2,g3⟩:=hi.old blk hlt hnm;have hs:=hi.size;have hlt2:blk<w.heap.size:=by omega
  have hng:¬given blk:=by
   rintro⟨κ,fr,hg⟩
   obtain⟨k',_,hb'⟩:=BJ2 hg;exact g3.2 _ _ hb'
  have hc':∀b,owO a' tk' ow blk≠ .box b:=by intro b hb;obtain⟨b',_,k2⟩:=As3 hb;exact g3.1 b' k2
  exact⟨by rw[(hold blk hlt2 hc' hng).1];exact g1,by rw[hoo blk hlt2 hng];exact g2,by rw[hoo blk hlt2 hng];exact g3⟩
 ·have:=hi.size;omega
 ·obtain⟨e1,e2,e3⟩:=hinv'.env
  obtain⟨e4,e5,e6⟩:=hi.env;exact⟨by rw[e1];exact e4,by rw[e2];exact e5,by rw[e3];exact e6⟩
 ·intro b hb
  obtain⟨h1,h2⟩:=hi.kept b hb;exact⟨h1,by simp only[upd,O6];rw[AZ5];exact h2⟩
 ·exact hi.st.trans hkeep.st
 ·intro j hj
  exact CS2 hi htnK h8 hj
theorem Bb3 {f:Nat}:∀(l:List G2) (c:G2),Ap6 f l=some c→c∈l∧c.f=f
 | [],c,h=>by cases h
 |d::r,c,h=>by
  simp only[Ap6] at h;split at h
  ·rename_i hk
   cases h;exact⟨by simp,Nat.eq_of_beq_eq_true hk⟩
  ·obtain⟨h1,h2⟩:=Bb3 r c h
   exact⟨by simp[h1],h2⟩
theorem CS4 {A:Operand→EV}{o:Oper}{k:Call}{f:Operand}{fid:Nat}{fst caps:List EV}(ho:o.op = .call k)(hk:k.callee = .value f)(he:A f = .clo fid fst caps){ow:Nat→A1}{bx:Bx}{w:World}{a:Act}(hA:F7 ow bx w A a.eval o.op):
  ∃fs cs,a.eval f = .func (.func fid) fs cs∧R7 ow bx w (fst++k.args.toList.map A++caps) (fs++k.args.map a.eval++cs):=by
 have hall:=AJ6 ho hA;have hfv:=hall f (by simp[Call.operands,hk])
 rw[he] at hfv;generalize hpe:a.eval f=u at hfv;cases hfv with
 |clo h1 h2 h3 h4=>
  rename_i fs cs;refine⟨fs,cs,rfl,by simp[h1,h2],fun i e v hi hv=> ?_⟩
  rw[List.getElem?_append] at hi;rw[Array.getElem?_append] at hv;simp only[List.length_append,List.length_map,Array.length_toList,h1] at hi;simp only[Array.size_append,Array.size_map] at hv;split at hi
  ·rename_i hlt
   rw[if_pos hlt] at hv;rw[List.getElem?_append] at hi;rw[Array.getElem?_append] at hv;rw[h1] at hi;split at hi
   ·rename_i hlt2
    rw[if_pos hlt2] at hv;exact h3 i e v hi hv
   ·rename_i hlt2
    rw[if_neg hlt2] at hv;simp only[List.getElem?_map,Array.getElem?_map,Option.map_eq_some_iff] at hi hv;obtain⟨x,hx,rfl⟩:=hi;obtain⟨y,hy,rfl⟩:=hv;have:x=y:=by
              have:k.args.toList[i-fs.size]? = some y:=by simpa using hy
              rw[hx] at this;cases this;rfl
    subst this;exact hall x (by simp only[Call.operands];exact Array.mem_append.2 (.inr (Array.mem_of_getElem? hy)))
  ·rename_i hlt
   rw[if_neg hlt] at hv;exact h4 _ e v hi hv
theorem CS5 {ρ:Type}{P:Program}{Γ:Cx}(hΓ:F8 P Γ){dead:List Nat}{rd:Nat→Option (List EV)}{o:Oper}{A:Operand→EV}{c:G2}{args:List EV}{q:EV→List Wr→List Nat→List Nat→Option ρ}{r:ρ}(hoc:BG7 Γ A o.op=some (c,args))
  (h:BF6 dead o.dst rd c args q=some r):∃v ws tr ks,q v ws tr ks=some r∧(∀k∈ks,k∉dead)∧(∀x∈ws,x.b∈tr∧∃cs,rd x.b=some cs∧x.off+x.new.length≤cs.length)∧
   ∀id B ow bx nb bg w (a:Act),Inv B ow bx nb bg w→F7 ow bx w A a.eval o.op→(∀b∈tr,bg b=rd b)→(∀k∈ks,bx.dead k=false)→AC5 P B ow bx nb bg w a o id v none ws ks []:=by
 unfold BG7 at hoc;split at hoc
 ·rename_i k ho
  split at hoc
  ·rename_i f hk
   split at hoc
   ·cases hoc
   ·split at hoc
    ·rename_i fid fst caps he
     split at hoc
     ·rename_i oc hf
      cases hoc;obtain⟨hmem,hfid⟩:=Bb3 _ _ hf;subst hfid;have hc:=hΓ.owns c hmem;unfold BF6 at h;split at h
      ·cases h
      ·rename_i l a tk h1
       split at h
       ·cases h
       ·rename_i l' a' tk' h2
        split at h
        ·rename_i x hp h3
         cases hF:c.F x with
         |none=>rw [hF] at h;cases h
         |some y=>
          rw[hF] at h;simp only[Option.bind_some] at h;split at h
          ·rename_i ws h6
           split at h
           rotate_left
           ·cases h
           rename_i h7;simp only[Bool.and_eq_true] at h7;refine⟨_,_,_,_,h,fun k hk=> ?_,fun z hz=> ?_,fun id B ow bx nb bg w act hi hA hb hd=> ?_⟩
           ·rcases List.mem_append.1 hk with hk | hk
            rotate_left
            ·obtain⟨κ,hκ,rfl⟩:=List.mem_map.1 hk
             have:=List.all_eq_true.1 h7.2 κ hκ;simp only[Bool.and_eq_true,Bool.not_eq_true'] at this;exact R8 this.1
            obtain⟨p,hp,rfl⟩:=List.mem_map.1 hk;have m5:=(Ah5 (ow:=fun _=>.C1) (ow':=fun _=>.C1) (bx:=⟨fun b=>b,fun _=>false,fun _=>none⟩) (bx':=⟨fun b=>b,fun _=>false,fun _=>none⟩) (w:=default) c.ps _ [] [] l a tk h1).2.2.2.2.1
            exact ((As1 c.boxes 0 a tk l' a' tk' h2).2.2.2.2.1 (m5 fun p hp=>by simp at hp) p hp).1
           ·exact CR9 _ _ _ h6 z hz
           ·obtain⟨fs,cs,hf,hrl⟩:=CS4 ho hk he hA
            intro K Q hK;unfold Oper.wp;rw[Ar7 hc.fn ho hk hf];exact (CS3 (dst:=o.dst) hc h1 h2 hp h3 hF rfl h6 h7.1 (fun κ hκ hs=>(by have:=List.all_eq_true.1 h7.2 κ hκ;simp only[Bool.and_eq_true,Bool.or_eq_true,hs,Bool.not_true] at this;exact Nat.le_of_ble_eq_true (this.2.resolve_right (by simp)))) id hi hrl hb hd).mono fun e w' ⟨u,ow',bx',he,g1,g2,g3,g4⟩=>by subst he;exact hK u ow' bx' w' g1 g2 g3 g4 (fun p hp=>by simp at hp)
          ·cases h
        ·cases h
     ·cases hoc
    ·cases hoc
  ·cases hoc
 ·cases hoc
end Go.Proofs.YthfjpkdadjemcaaGreat

set_option linter.unusedSimpArgs false
set_option linter.unusedVariables false
namespace Go.Proofs.YthfjpkdadjemcaaGreat
def As5 (ow:Nat→A1)(w:World)(ty:Ty)(l':List ty.den)(vy:Value):Prop:=
 ∃adY capY,vy = .slice adY l'.length capY∧l'.length≤9223372036854775807∧l'.length≤capY∧
  (l'≠[]→∃blk off cY TY fzY,adY=some ⟨blk,off,none⟩∧w.heap[blk]? = some (.cells cY TY fzY)∧off+l'.length*ty.size≤cY.size∧(∀u∈(cY.toList.drop off).take (l'.length*ty.size),u.oneCell'=true)∧
   ∀(i:Nat) x,l'[i]? = some x→Rep ow w ty x ((((cY.toList.drop off).take (l'.length*ty.size)).drop (i*ty.size)).take ty.size))
theorem CS6 {ow:Nat→A1}{w:World}{ty:Ty}{l':List ty.den}{vy:Value}(hpos:0<ty.size)(hY:D0 ow w (.slice ty) l' vy):As5 ow w ty l' vy:=by
 obtain⟨adY,capY,hvY,hY1,hY2,hY3⟩:=Ah3 hY hpos;refine⟨adY,capY,hvY,hY1,hY2,fun h=> ?_⟩
 obtain⟨blk,off,cY,TY,fzY,y1,y2,y3,y4,y5,y6⟩:=hY3 h;exact⟨blk,off,cY,TY,fzY,y1,y3,y4,y5,y6⟩
theorem CS7 {P:Program}{ow:Nat→A1}{w:World}{k e t tt:Nat}{ty:Ty}{i:TypeInfo}{z:Value}(hu:P.underlying t=some (.slice e))(hinf:P.info? e=some i)(hsz:i.size=ty.size)(hz:i.zero=some z)(hzs:z.cells.size=ty.size)
  (hpos:0<ty.size) (hbpos:0<i.bytes) {l l':List ty.den} {vx vy:Value} (hk5:k % 25000=e) (hXo:Own ow w k ty l vx) (hXn:∃adX capX,vx = .slice adX l.length capX∧l.length≤9223372036854775807∧l.length≤capX)
  (hXc:∀g cap c fz,vx = .slice (some ⟨g,0,none⟩) l.length cap→w.heap[g]? = some (.cells c (k % 25000) fz)→∀(i:Nat) x,l[i]? = some x→Rep ow w ty x (((c.toList.take (l.length*ty.size)).drop (i*ty.size)).take ty.size))
  (hYs:As5 ow w ty l' vy) (hroom:(l.length+l'.length)*i.bytes≤140737488355328) (R:Prop)
  (hN:vx = .slice none 0 0→l=[]→l'=[]→(Builtin.append_ #[t,t] tt #[vx,vy]).run P w = .ok (.slice none 0 0) w→R)
  (fin:∀(w':World) (g cap':Nat) (cc:Array Value) (fz:Nat×Nat) (olds news:List Value),X3 fz cc.size→
      (Builtin.append_ #[t,t] tt #[vx,vy]).run P w = .ok (.slice (some ⟨g,0,none⟩) (l++l').length cap') w'→
      ((g=w.heap.size∧w'.heap.size=w.heap.size+1)∨(w'.heap.size=w.heap.size∧∃c₀,ow g = .tok k (H9 k (l.length*ty.size))∧w.heap[g]? = some (.cells c₀ e fz)∧cc.toList.take (H9 k (l.length*ty.size))=c₀.toList.take (H9 k (l.length*ty.size))))→
      w'.heap[g]? = some (.cells cc e fz)→(∀blk,blk<w.heap.size→blk≠g→w'.heap[blk]? = w.heap[blk]?)→(w'.tape=w.tape∧w'.os=w.os∧w'.output=w.output)→
      cc.toList.take ((l++l').length*ty.size)=olds++news→olds.length=l.length*ty.size→cc.size=cap'*ty.size→(l++l').length≤cap'→(l++l').length≤9223372036854775807→
      (∀(i:Nat) x,l[i]? = some x→Rep ow w ty x ((olds.drop (i*ty.size)).take ty.size))→(∀(i:Nat) x,l'[i]? = some x→Rep ow w ty x ((news.drop (i*ty.size)).take ty.size))→R):R:=by
 have hfr:∀n,H9 k n≤n:=fun n=>by unfold H9;cases soft k <;> simp
 have hlen:(l++l').length=l.length+l'.length:=List.length_append;have hmaxn:l.length+l'.length≤140737488355328:=by have:=Nat.le_mul_of_pos_right (l.length+l'.length) hbpos;omega
 have hby:i.bytes=i.bytes:=rfl;obtain⟨adY,capY,hvY,hY1,hY2,hY3⟩:=hYs;obtain⟨adX,capX,hvX,hX1,hX2⟩:=hXn;have hO:∀g cap c fz,vx = .slice (some ⟨g,0,none⟩) l.length cap→w.heap[g]? = some (.cells c (k % 25000) fz)→c.size=cap*ty.size→l.length≤cap→
   (c.toList.take (l.length*ty.size)).length=l.length*ty.size∧(∀j u,(c.toList.take (l.length*ty.size))[j]? = some u→w.cell? ((⟨g,0,none⟩:Addr).add j)=some u)∧
   ∀(i:Nat) x,l[i]? = some x→Rep ow w ty x (((c.toList.take (l.length*ty.size)).drop (i*ty.size)).take ty.size):=by
  intro g cap c fz hv hb hc hn;have hle:l.length*ty.size≤c.size:=by rw[hc];exact Nat.mul_le_mul_right _ hn
  refine⟨by rw[List.length_take,V5 c,Nat.min_eq_left hle],fun j u hj=> ?_,fun i x hx=> ?_⟩
  ·rw[Z6,AF0 hb,Nat.zero_add]
   rw[List.getElem?_take] at hj;split at hj
   ·simpa using hj
   ·cases hj
  ·exact hXc g cap c fz hv hb i x hx
 by_cases hl0:l'=[]
 ·subst hl0
  have hf:(Builtin.firstCells i.size 0 (.slice adY 0 capY)).run P w = .ok #[] w:=by
   cases adY with
   |none=>exact run_firstCells_none w i.size 0 0 capY
   |some a'=>exact run_firstCells_some w i.size 0 a' 0 capY [] (by simp) (by intro j v h';simp at h')
  have r0:(Builtin.append_ #[t,t] tt #[vx,vy]).run P w = .ok (.slice adX l.length capX) w:=by rw[hvX,hvY];cases adX <;> simp[Builtin.append_,run_underlying hu,sizeOf,typeInfo,hinf,Builtin.lenOf,hX2,hf,storeCells]
  rcases hXo with⟨hnil,hln⟩|⟨g,cap,cc,fz,hv,hown,hb,hlz,hc,hn,_⟩
  ·refine hN hnil hln rfl ?_
   rw[r0,← hvX,hnil]
  ·obtain⟨o1,o2,o3⟩:=hO g cap cc fz hv hb hc hn
   have hr:(.slice adX l.length capX:Value) = .slice (some ⟨g,0,none⟩) (l++[]).length cap:=by rw[← hvX,hv,List.append_nil]
   rw[hr] at r0;rw[hk5] at hb;refine fin w g cap cc fz _ [] hlz r0 (.inr ⟨rfl,cc,hown,hb,rfl⟩) hb (fun _ _ _=>rfl) ⟨rfl,rfl,rfl⟩ (by simp) o1 hc (by simpa using hn) (by simp;omega) o3 (fun i x hx=>by simp at hx)
 ·obtain⟨blk,off,cY,TY,fzY,y1,y3,y4,y5,y6⟩:=hY3 hl0
  have hposY:0<l'.length:=List.length_pos_iff.2 hl0;obtain⟨news,hnewsdef⟩:∃news,news=(cY.toList.drop off).take (l'.length*ty.size):=⟨_,rfl⟩;rw[← hnewsdef] at y5;have hnl:news.length=l'.length*ty.size:=by rw[hnewsdef,List.length_take,List.length_drop,V5 cY,Nat.min_eq_left (by omega)]
  have hnews:∀j u,news[j]? = some u→w.cell? ((⟨blk,off,none⟩:Addr).add j)=some u:=by
   intro j u hj;rw[Z6,AF0 y3];rw[hnewsdef,List.getElem?_take] at hj;split at hj
   ·rw[List.getElem?_drop] at hj
    simpa using hj
   ·cases hj
  have y6':∀(i:Nat) x,l'[i]? = some x→Rep ow w ty x ((news.drop (i*ty.size)).take ty.size):=by rw[hnewsdef];exact y6
  have hnl':news.length=l'.length*i.size:=by rw[hnl,hsz]
  have hbytes:(l.length+l'.length)*i.bytes≤140737488355328:=by rw[hby];exact hroom
  rw[y1] at hvY;rcases hXo with⟨hnil,hln⟩|⟨g,cap,cc,fz,hv,hown,hb,hlz,hc,hn,_⟩
  ·have hl:l=[]:=hln
   subst hl;have hr:=run_append_nil (P:=P) w t tt e i z hu hinf hz ⟨blk,off,none⟩ l'.length capY news hnl' hnews hposY (by omega) (by simp at hbytes;omega)
   rw[← hvY,← hnil] at hr;have hge:=grownCap_ge w l'.length 0 e;refine fin _ w.heap.size (grownCap w l'.length 0 e) (news.toArray++Builtin.zeroCells z.cells (grownCap w l'.length 0 e-l'.length)) (0,0) [] news (AY2 _) hr (.inl ⟨rfl,As0 w _⟩) (heap_alloc_new w.drew _) (fun b hb _=>heap_alloc_old w.drew _ hb) ⟨rfl,rfl,rfl⟩ ?_ (by simp) ?_ (by simpa using hge) (by simp;omega) (fun i x hx=>by simp at hx) y6'
   ·simp only[Array.toList_append,List.nil_append,List.length_nil]
    rw[← hnl];exact List.take_left
   ·rw[Array.size_append,List.size_toArray,size_zeroCells,hzs,hnl,← Nat.add_mul,Nat.add_sub_cancel' hge]
  ·obtain⟨o1,o2,o3⟩:=hO g cap cc fz hv hb hc hn
   rw[hk5] at hb;have hle:l.length*ty.size≤cc.size:=by rw[hc];exact Nat.mul_le_mul_right _ hn
   by_cases hroom2:l.length+l'.length≤cap
   ·have hfit:l.length*ty.size+news.length≤cc.size:=by rw[hnl,hc,← Nat.add_mul];exact Nat.mul_le_mul_right _ hroom2
    have hr:=Bb0 (P:=P) w t tt e i hu hinf g l.length cap cc fz hb hlz ⟨blk,off,none⟩ l'.length capY news hnl' hnews (fun u hu=>y5 u hu) hroom2 (by rw[hsz];exact hfit)
    rw[← hvY,← hv,hsz,← hlen] at hr;have hsame:(cc.toList.take (l.length*ty.size)++news++cc.toList.drop (l.length*ty.size+news.length)).toArray.size=cc.size:=by rw[List.size_toArray,List.length_append,List.length_append,o1,List.length_drop,V5 cc];omega
    refine fin _ g cap _ fz (cc.toList.take (l.length*ty.size)) news (by rw[hsame];exact hlz) hr (.inr ⟨setRow_size _ _ _,cc,hown,hb,?_⟩) (setRow_heap w g cc _ e fz hb) (fun b _ hne=>setRow_other w g b _ hne) ⟨rfl,rfl,rfl⟩ ?_ o1 ?_ (by omega) (by omega) o3 y6'
    ·rw[List.append_assoc,List.take_append_of_le_length (by rw[o1];exact hfr _),List.take_take,Nat.min_eq_left (hfr _)]
    ·have:(l++l').length*ty.size=(cc.toList.take (l.length*ty.size)++news).length:=by rw[hlen,Nat.add_mul,List.length_append (as:=cc.toList.take (l.length*ty.size)),o1,hnl]
     rw[this];exact List.take_left
    ·rw[List.size_toArray,List.length_append,List.length_append,o1,List.length_drop,V5 cc,← hc]
     omega
   ·have hfitb:Builtin.nextslicecap (l.length+l'.length) cap*i.bytes≤281474976710656:=growslice_fits (by omega) hbytes
    have hr:=run_append_grow (P:=P) w t tt e i z hu hinf hz ⟨g,0,none⟩ l.length cap (cc.toList.take (l.length*ty.size)) (by rw[o1,hsz]) o2 ⟨blk,off,none⟩ l'.length capY news hnl' hnews (by omega) (by omega) hfitb
    rw[← hvY,← hv,← hlen] at hr;have hge:=grownCap_ge w (l++l').length cap e;refine fin _ w.heap.size (grownCap w (l++l').length cap e) _ (0,0) (cc.toList.take (l.length*ty.size)) news (AY2 _) hr (.inl ⟨rfl,As0 w _⟩) (heap_alloc_new w.drew _) (fun b hb _=>heap_alloc_old w.drew _ hb) ⟨rfl,rfl,rfl⟩ ?_ o1 ?_ hge (by omega) o3 y6'
    ·have:(l++l').length*ty.size=(cc.toList.take (l.length*ty.size)++news).length:=by rw[hlen,Nat.add_mul,List.length_append (as:=cc.toList.take (l.length*ty.size)),o1,hnl]
     rw[this];simp only[Array.toList_append];exact List.take_left
    ·rw[Array.size_append,Array.size_append,List.size_toArray,List.size_toArray,size_zeroCells,hzs,hnl,o1,← Nat.add_mul,← Nat.add_mul,← hlen,Nat.add_sub_cancel' hge]
end Go.Proofs.YthfjpkdadjemcaaGreat

set_option linter.unusedSimpArgs false
set_option linter.unusedVariables false
namespace Go.Proofs.YthfjpkdadjemcaaGreat
theorem CS8 {P:Program}{T:TypeId}{w:World}{b off n:Nat}{c:Array Value}{U:TypeId}{fz:Nat×Nat}{u:Value}(hs:(sizeOf T).run P w = .ok n w)(hn:u.cells.size=n)(hb:w.heap[b]? = some (.cells c U fz))(hz:X3 fz c.size)
  (hle:off+u.cells.size≤c.size) (h1:∀v∈u.cells.toList,v.oneCell'=true):
  (storeVar T ⟨b,off,none⟩ u).run P w = .ok () (w.setRow b (c.toList.take off++u.cells.toList++c.toList.drop (off+u.cells.toList.length)).toArray):=by
 have:=Ar9 P b off U fz u.cells.toList 0 c w hb hz (by simpa using hle) h1
 unfold storeVar;simp only[Sem.run_bind,hs,Result.andThen_ok,hn,ne_eq,not_true_eq_false,if_false];simpa using this
theorem CS9 {α:Type}{C nvs:List α}{i o s:Nat}(ho:o+nvs.length≤s)(hC:i*s+s≤C.length)(j:Nat):
  ((C.take (i*s+o)++nvs++C.drop (i*s+o+nvs.length)).drop (j*s)).take s=
   if j=i then ((C.drop (i*s)).take s).take o++nvs++((C.drop (i*s)).take s).drop (o+nvs.length) else (C.drop (j*s)).take s:=by
 have hlt:j<i→j*s+s≤i*s:=fun h=>by have:=T6 (off:=0) (s:=s) h;omega
 have hgt:i<j→i*s+s≤j*s:=fun h=>by have:=T6 (off:=0) (s:=s) h;omega
 apply List.ext_getElem?;intro m;split
 ·rename_i e
  subst e;simp only[List.getElem?_take,List.getElem?_drop,List.getElem?_append,List.length_append,List.length_take,List.length_drop];by_cases hm:m<s
  ·simp only[hm,if_true]
   by_cases h1:m<o
   ·have e1:j*s+m<min (j*s+o) C.length:=by omega
    have e2:m<min o (min s (C.length-j*s)):=by omega
    have e3:j*s+m<min (j*s+o) C.length+nvs.length:=by omega
    have e4:m<min o (min s (C.length-j*s))+nvs.length:=by omega
    have e5:j*s+m<j*s+o:=by omega
    simp only[e1,e2,e3,e4,e5,h1,if_true]
   ·have e1:¬j*s+m<min (j*s+o) C.length:=by omega
    have e2:¬m<min o (min s (C.length-j*s)):=by omega
    by_cases h2:m<o+nvs.length
    ·have e3:j*s+m<min (j*s+o) C.length+nvs.length:=by omega
     have e4:m<min o (min s (C.length-j*s))+nvs.length:=by omega
     simp only[e1,e2,e3,e4,if_true,if_false];congr 1;omega
    ·have e3:¬j*s+m<min (j*s+o) C.length+nvs.length:=by omega
     have e4:¬m<min o (min s (C.length-j*s))+nvs.length:=by omega
     have e5:o+nvs.length+(m-(min o (min s (C.length-j*s))+nvs.length))<s:=by omega
     simp only[e1,e2,e3,e4,e5,if_true,if_false];congr 1;omega
  ·have e4:¬m<min o (min s (C.length-j*s))+nvs.length:=by omega
   have e5:¬o+nvs.length+(m-(min o (min s (C.length-j*s))+nvs.length))<s:=by omega
   simp only[hm,e4,e5,if_false]
 ·rename_i hne
  simp only[List.getElem?_take,List.getElem?_drop,List.getElem?_append,List.length_append,List.length_take];by_cases hm:m<s
  ·simp only[hm,if_true]
   by_cases hji:j<i
   ·have:=hlt hji
    have e1:j*s+m<min (i*s+o) C.length:=by omega
    have e3:j*s+m<min (i*s+o) C.length+nvs.length:=by omega
    have e5:j*s+m<i*s+o:=by omega
    simp only[e1,e3,e5,if_true]
   ·have:=hgt (by omega)
    have e3:¬j*s+m<min (i*s+o) C.length+nvs.length:=by omega
    simp only[e3,if_false];congr 1;omega
  ·simp only[hm,if_false]
section
variable {P:Program}{Γ:Cx}{dead:List Nat}{o:Oper}{A:Operand→EV}{r:AI7}
def AZ8 (P:Program)(dead:List Nat)(A:Operand→EV)(o:Oper)(r:AI7):Prop:=
 (∀k∈r.ks,k∉dead)∧(∀k∈r.us,k∉dead)∧(∀p∈r.up,p.1∈r.ks∧p.1<BIG)∧
 ∀id B ow bx nb bg w (a:Act),Inv B ow bx nb bg w→F7 ow bx w A a.eval o.op→(∀k∈r.ks,bx.dead k=false)→(∀k∈r.us,bx.dead k=false)→AC5 P B ow bx nb bg w a o id r.v none [] r.ks r.up
theorem CT0 {d e:Nat}(he:e<25000):soft (d*100000+75000+e+BIG)=true∧(d*100000+75000+e+BIG) % 25000=e:=by
 constructor
 ·unfold soft
  apply Nat.ble_eq_true_of_le;unfold BIG;omega
 ·unfold BIG
  omega
theorem CT1 (hΓ:F8 P Γ){t:Nat}{n c:Operand}(ho:o.op = .makeSlice t n c)(h:BF9 Γ dead o.dst t (A n) (A c)=some r)(hc:r.c=true):AZ8 P dead A o r:=by
 unfold BF9 at h;split at h
 ·cases h
 ·rename_i d hdst
  split at h
  ·rename_i kn a ha
   split at h
   ·rename_i kc b hb
    split at h
    ·rename_i dt hdt
     split at h
     ·rename_i e es bytes hw
      split at h
      ·rename_i de hde
       split at h
       ·rename_i k0 z hty hz
        split at h
        ·rename_i z0 hz0
         split at h
         ·rename_i hck
          cases h;simp only[Bool.and_eq_true,Bool.not_eq_true',decide_eq_true_eq] at hck hc;obtain⟨⟨he,hnd⟩,hdB⟩:=hck;have hdB:d<9000000:=Nat.le_of_ble_eq_true hdB;have he:e<25000:=Nat.le_of_ble_eq_true he;obtain⟨⟨⟨ha0,hab⟩,hbb⟩,hb1⟩:=hc;have ha0:@LE.le Int _ 0 a:=ha0;have hab:@LE.le Int _ a b:=hab;have hb1:@LE.le Int _ b 140737488355328:=hb1;have hbb:@LE.le Int _ (@HMul.hMul Int Int Int _ b (bytes:Int)) 140737488355328:=hbb
          have hn1:Int.toNat a≤Int.toNat b:=by omega
          have hn2:Int.toNat a≤9223372036854775807:=by omega
          refine⟨fun k hk=> ?_,fun k hk=>by simp at hk,fun p hp=>by simp at hp,fun id B ow bx nb bg w act hi hA hd _=> ?_⟩
          ·rw[List.mem_singleton] at hk
           rw[hk];exact R8 hnd
          rw[ho] at hA;have hall:=I1 hA (by intros;simp)
          have hn:=hall n (by simp[Op.operands])
          have hcv:=hall c (by simp[Op.operands])
          rw[ha] at hn;rw[hb] at hcv;have hh:=(hΓ.td t dt hdt).how;simp only[hw] at hh;obtain⟨_,hu,⟨gi,zz,g1,g2,g3,g4⟩,_⟩:=hh;obtain⟨i',z',z1,z2,z3,z4,z5⟩:=(hΓ.td e de hde).zero;rw[g1] at z1;cases z1;rw[g4] at z2;cases z2;rw[hz] at z3 z4 z5;simp only[List.length_singleton] at z3 z4;have hrun:(execOp act.eval o).run P w = .ok (.value (.slice (some ⟨w.heap.size,0,none⟩) a.toNat b.toNat)) (w.alloc (.cells (madeCells zz.cells (b.toNat*gi.size)) e)):=by
           unfold execOp;rw[ho];simp only[(P2 hn).1,(P2 hcv).1,Sem.run_bind];rw[run_make w t e gi zz hu g1 g4 kn kc a b ha0 hab (by rw[g3,Int.mul_comm];exact Int.le_trans hbb (show (140737488355328:Int)≤281474976710656 by decide)) (Int.le_trans hb1 (show (140737488355328:Int)≤9223372036854775807 by decide))]
           simp
          have hsf:=CT0 (d:=d) he;obtain⟨K,hK⟩:∃K,K=d*100000+75000+e:=⟨_,rfl⟩;rw[← hK] at hsf hd;show AC5 P B ow bx nb bg w act o id (.own (d*100000+75000+e+BIG) (.int k0) (List.replicate a.toNat z0)) none [] [d*100000+75000+e] [];rw[← hK];obtain⟨j1,j2⟩:=hi.Ar1 (.tok (K+BIG) 0) (.cells (madeCells zz.cells (b.toNat*gi.size)) e) (.inr (.inr ⟨_,_,rfl⟩));have hdK:bx.dead K=false:=hd K (by simp)
          have htbn:=BJ3 hi hdK
          let bx':Bx:=⟨bx.f,fun j=>bx.dead j||Nat.beq K j,fun j=>if j=K+BIG then some (w.heap.size,a.toNat,b.toNat) else bx.tb j⟩
          have hk:E4 (fun blk=>if blk=w.heap.size then .tok (K+BIG) 0 else ow blk) bx {w with heap:=w.heap.push (.cells (madeCells zz.cells (b.toNat*gi.size)) e)} (fun blk=>if blk=w.heap.size then .tok (K+BIG) 0 else ow blk) bx' (w.alloc (.cells (madeCells zz.cells (b.toNat*gi.size)) e)):=by
           refine⟨.of fun _ _ h=>⟨h,rfl⟩,fun _ _ _ h _=>⟨h,rfl⟩,fun j h=> ?_,fun _ h=>⟨rfl,h⟩,fun j x hx=> ?_⟩
           ·simp only[bx',Bool.or_eq_false_iff] at h
            exact h.1
           ·simp only[bx']
            rw[if_neg (fun e=>by rw[e,htbn] at hx;cases hx)]
            exact hx
          have hcell:∀j,j<b.toNat*gi.size→(madeCells zz.cells (b.toNat*gi.size))[j]? = some (.int k0 z0):=by
           intro j hj;have hone:zz.cells=#[.int k0 z0]∧fits k0 z0=true:=by
            obtain⟨q1,q2⟩:=z5 (fun _=>.C1) ⟨fun b=>b,fun _=>false,fun _=>none⟩ default
            have hv0:zz.cells.toList[0]? = some (zz.cells[0]'(by omega)):=by simp
            have q3:=z8 hz0 (q2 0 z _ rfl hv0).1;simp only[D0,Rep,List.cons.injEq,and_true] at q3;refine⟨?_,q3.2⟩;apply Array.ext
            ·simp[z4]
            ·intro m h1 h2
             have:m=0:=by omega
             subst this;simpa using q3.1
           simp[madeCells,hj,hone.1,Nat.mod_one]
          have hfit:fits k0 z0=true:=by
           obtain⟨q1,q2⟩:=z5 (fun _=>.C1) ⟨fun b=>b,fun _=>false,fun _=>none⟩ default
           have hv0:zz.cells.toList[0]? = some (zz.cells[0]'(by omega)):=by simp
           have q3:=z8 hz0 (q2 0 z _ rfl hv0).1;simp only[D0,Rep] at q3;exact q3.2
          intro Kk Q hKk;unfold Oper.wp;rw[hrun];refine hKk _ _ bx' _ (j1.trans hk) (.own (fun h=>(by rw[hsf.1] at h;cases h)) (fun _=>.inr ⟨w.heap.size,b.toNat,_,(0,0),by rw[List.length_replicate],by simp[H9,hsf.1],by rw[hsf.2];exact heap_alloc_new w _,AY2 _,by rw[size_madeCells,z3];rfl,by rw[List.length_replicate];exact hn1,fun _=>⟨by rw[List.length_replicate];exact hn2,fun i x hx=> ?_⟩⟩) fun _=>.inr ⟨w.heap.size,b.toNat,by simp[bx'],by rw[List.length_replicate],by rw[List.length_replicate];exact hn1,by rw[List.length_replicate];exact hn2⟩) ?_ (fun j=>by simp[bx',F6]) (fun p hp=>by simp at hp)
          ·have hil:i<Int.toNat a:=by have:=(List.getElem?_eq_some_iff.1 hx).1;simpa using this
           have hxz:x=z0:=by rw[List.getElem?_replicate] at hx;simp[hil] at hx;exact hx.symm
           subst hxz;refine⟨?_,hfit⟩;have hc:=hcell i (by rw[z3,Nat.mul_one];exact Nat.lt_of_lt_of_le hil hn1)
           simp only[Ty.size,Nat.mul_one];apply List.ext_getElem?;intro m;rw[List.getElem?_take,List.getElem?_drop];cases m with
           |zero=>simpa using hc
           |succ m=>simp
          ·constructor
           ·intro b' cs hb'
            obtain⟨q1,c1,T,q2,q3⟩:=j2.box b' cs hb';exact⟨q1,c1,T,q2,q3.keep hk⟩
           ·exact j2.back
           ·exact j2.here
           ·exact j2.old
           ·exact j2.size
           ·exact j2.env
           ·exact j2.kept
           ·exact j2.st.trans hk.st
           ·intro j hj
            simp only[bx'] at hj ⊢;split at hj
            ·rename_i e
             right
             rw[e,Nat.add_sub_cancel,Nat.beq_refl,Bool.or_true];exact⟨rfl,by rw[hK];unfold BIG;omega⟩
            ·exact (hi.born j hj).imp (fun h=>h) fun h=>⟨by rw[h.1];rfl,h.2⟩
         ·cases h
        ·cases h
       ·cases h
      ·cases h
     ·cases h
    ·cases h
   ·cases h
  ·cases h
theorem CT2 (hΓ:F8 P Γ){t:Nat}{x:Operand}(ho:o.op = .load t x)(h:BG0 Γ dead t (A x)=some r):AZ8 P dead A o r:=by
 unfold BG0 at h;split at h
 ·rename_i k ty l i off he
  split at h
  ·cases h
  ·rename_i hnd
   split at h
   ·rename_i d hd
    have hOK:=hΓ.td t d hd;split at h
    ·rename_i v hv
     cases h;refine⟨fun k hk=>by simp at hk,fun k' hk=> ?_,fun p hp=>by simp at hp,fun id B ow bx nb bg w act hi hA _ hu=> ?_⟩
     ·rw[List.mem_singleton] at hk
      rw[hk];exact R8 hnd
     rw[ho] at hA;have hp:=I1 hA (by intros;simp) x (by simp[Op.operands])
     rw[he] at hp;have hdk:=hu k (by simp)
     generalize hpe:act.eval x=u at hp;cases hp with
     |elo hb h0 h1 h'=>
      rename_i blk;obtain⟨_,c,fz,hc,_,⟨hle,hle2⟩,hcont⟩:=h' hdk;have hlt:i.toNat<l.length:=by omega
      have hgx:l.getD i.toNat ty.J9=l[i.toNat]'hlt:=by simp[List.getD,hlt]
      have hrep:=hcont i.toNat _ (List.getElem?_eq_getElem hlt);rw[← hgx] at hrep;obtain⟨u,g1,g2,_⟩:=AJ5 (P:=P) hOK (base:=i.toNat*ty.size) hv hc (vs:=(c.toList.drop (i.toNat*ty.size)).take ty.size) (fun j v hj=>by
       rw[List.getElem?_take] at hj;split at hj
       ·rw[List.getElem?_drop] at hj;exact AA0 hj
       ·cases hj) (AE9 _ _ _ hrep)
      exact (BY5 hi (AF2 ho hpe g1) g2).BI1
    ·cases h
   ·cases h
 ·cases h
theorem CT3 (hΓ:F8 P Γ){t:Nat}{x y:Operand}(ho:o.op = .store t x y)(h:BG1 Γ dead t (A x) (A y)=some r):AZ8 P dead A o r:=by
 unfold BG1 at h;split at h
 ·rename_i k ty l i off he
  split at h
  ·cases h
  ·rename_i hnd
   split at h
   ·rename_i d hd
    have hOK:=hΓ.td t d hd;split at h
    ·rename_i new hnew
     split at h
     ·rename_i hck
      simp only[Bool.and_eq_true] at hck;obtain⟨⟨hl1,hl2⟩,hkB⟩:=hck;have hl1:=Nat.eq_of_beq_eq_true hl1;have hl2:=Nat.le_of_ble_eq_true hl2;have hkB:k<BIG:=Nat.le_of_ble_eq_true hkB;split at h
      ·rename_i v hasm
       cases h;refine⟨fun k' hk=> ?_,fun k hk=>by simp at hk,fun p hp=> ?_,fun id B ow bx nb bg w act hi hA hdd _=> ?_⟩
       ·rw[List.mem_singleton] at hk
        rw[hk];exact R8 hnd
       ·rw[List.mem_singleton] at hp
        rw[hp];exact⟨by simp,hkB⟩
       rw[ho] at hA;have hall:=I1 hA (by intros;simp)
       have hp:=hall x (by simp[Op.operands])
       have hy:=hall y (by simp[Op.operands])
       rw[he] at hp;have hdk:=hdd k (by simp)
       have hnv:=Ag7 hnew hy;generalize hpe:act.eval x=u at hp;cases hp with
       |elo hb h0 h1 h'=>
        rename_i blk cap;obtain⟨how,c,fz,hc,hz,⟨hle,hle2⟩,hcont⟩:=h' hdk;have hle3:l.length*ty.size≤c.size:=by rw[hle];exact Nat.mul_le_mul_right _ hle2
        have hlt:i.toNat<l.length:=by omega
        have hgx:l.getD i.toNat ty.J9=l[i.toNat]'hlt:=by simp[List.getD,hlt]
        have hrep:=hcont i.toNat _ (List.getElem?_eq_getElem hlt);rw[← hgx] at hrep;have hpart:=T6 (off:=0) (s:=ty.size) hlt;have hsz:(act.eval y).cells.size=d.zero.length:=by have:=hnv.1;simp at this;omega
        have hnl:(act.eval y).cells.toList.length=d.zero.length:=by simpa using hsz
        have hst:=CS8 (P:=P) (T:=t) (hOK.sizeOf (w:=w)) hsz hc hz (off:=i.toNat*ty.size+off) (by omega) hnv.AY9
        have hrun:(execOp act.eval o).run P w = .ok .skip (w.setRow blk (c.toList.take (i.toNat*ty.size+off)++(act.eval y).cells.toList++c.toList.drop (i.toNat*ty.size+off+(act.eval y).cells.toList.length)).toArray):=by unfold execOp;rw[ho];simp only[hpe,Instr.storeAt,Instr.sureAddr,Sem.run_bind,Sem.run_pure,Result.andThen_ok,hst]
        generalize hnc:(c.toList.take (i.toNat*ty.size+off)++(act.eval y).cells.toList++c.toList.drop (i.toNat*ty.size+off+(act.eval y).cells.toList.length)).toArray=nc at hrun;have hncs:nc.size=c.size:=by rw[← hnc,List.size_toArray,List.length_append,List.length_append,List.length_take,List.length_drop,V5 c];omega
        have hb':=setRow_heap w blk c nc (k % 25000) fz hc;obtain⟨hkeep,hinv⟩:=Ah4 hi (w':=w.setRow blk nc) (k:=k) (k':=k) (g:=blk) (fr:=0) (fz₀:=fz) (.inr ⟨setRow_size _ _ _,0,c,how,hc,Nat.le_refl _,by simp⟩) hb' (fun b _ hne=>setRow_other w blk b _ hne) ⟨rfl,rfl,rfl⟩ hdk
        intro K Q hK;unfold Oper.wp;rw[hrun];refine hK _ _ _ _ hkeep (.undef _) hinv (fun j=>by simp[F6]) fun p hp=> ?_
        rw[List.mem_singleton] at hp;subst hp;refine⟨undef,.fre undef (by rw[List.length_set];exact hb) (by simp) ⟨by simp,nc,fz,hb',by rw[hncs];exact hz,⟨by rw[hncs];exact hle,by rw[List.length_set];exact hle2⟩,fun j z hj=> ?_⟩ (.inr fun e=>by have:=congrArg List.length e;simp only[List.length_set,List.length_nil] at this;omega)⟩
        have hjl:j<l.length:=by have:=(List.getElem?_eq_some_iff.1 hj).1;simpa using this
        have hlaid:=CS9 (C:=c.toList) (nvs:=(act.eval y).cells.toList) (i:=i.toNat) (o:=off) (s:=ty.size) (by omega) (by rw[V5 c];omega) j
        have hncl:nc.toList=c.toList.take (i.toNat*ty.size+off)++(act.eval y).cells.toList++c.toList.drop (i.toNat*ty.size+off+(act.eval y).cells.toList.length):=by rw[← hnc]
        simp only;rw[hncl,hlaid];by_cases hij:i.toNat=j
        ·subst hij
         have hz:z=v:=by rw[List.getElem?_set_self hlt] at hj;cases hj;rfl
         rw[hz,if_pos rfl];have hcs:=(AE9 (bx:=bx) _ _ _ hrep).L9 hnv off;obtain⟨q1,q2,q3⟩:=AP3 ty _ _ _ _ hasm hcs;have hlen:=hcs.1;have h2:=congrArg List.length q2;simp only[List.length_nil,List.length_drop] at h2;rw[List.take_of_length_le (by omega)] at q1
         exact Rep.keep hkeep.st _ _ _ q1
        ·rw[if_neg (fun e=>hij e.symm)]
         rw[List.getElem?_set_ne hij] at hj;exact Rep.keep hkeep.st _ _ _ (hcont j z hj)
      ·cases h
     ·cases h
    ·cases h
   ·cases h
 ·cases h
theorem CT4 (hΓ:F8 P Γ){c:Call}{x y:Operand}{t t':Nat}(ho:o.op = .call c)(hcl:c.callee = .builtin .copy)(ha:c.args.toList=[x,y])(hts:c.argTypes.toList=[t,t'])(h:BG2 Γ dead t t' (A x) (A y)=some r)(hc:r.c=true):AZ8 P dead A o r:=by
 have ha:c.args=#[x,y]:=by apply Array.ext';simpa using ha
 have hts:c.argTypes=#[t,t']:=by apply Array.ext';simpa using hts
 unfold BG2 at h;split at h
 ·rename_i k ty l he
  split at h
  ·rename_i k0 l
   split at h
   ·rename_i hck
    simp only[Bool.and_eq_true,Bool.not_eq_true'] at hck;obtain⟨⟨⟨⟨⟨hsf,hfm⟩,hnd⟩,hkB⟩,htt⟩,hsl⟩:=hck;have htt:=Nat.eq_of_beq_eq_true htt;subst htt;have hkB:k<BIG:=Nat.le_of_ble_eq_true hkB;split at h
    ·rename_i m hm
     cases h;refine⟨fun k' hk=> ?_,fun k hk=>by simp at hk,fun p hp=> ?_,fun id B ow bx nb bg w act hi hA hdd _=> ?_⟩
     ·rw[List.mem_singleton] at hk
      rw[hk];exact R8 hnd
     ·rw[List.mem_singleton] at hp
      rw[hp];exact⟨by simp,hkB⟩
     have hall:=AJ6 ho hA;have hp:=hall x (by simp[Call.operands,ha,hcl])
     have hy:=hall y (by simp[Call.operands,ha,hcl])
     rw[he] at hp;have hdk:=hdd k (by simp)
     have hY:D0 ow w (.slice (.int k0)) m (act.eval y):=z8 hm hy;obtain⟨d,e,s,bb,gi,q1,q2,q3,q4,q5⟩:=AZ0 hΓ hsl;have hE1:gi.size=1:=by rw[q5];rfl
     generalize hpe:act.eval x=u at hp;cases hp with
     |own _ h' hh=>
      have hlen:(m.take l.length++l.drop m.length).length=l.length:=by rw[List.length_append,List.length_take,List.length_drop];omega
      obtain⟨adY,capY,hvY,hY1,hY2,hY3⟩:=Ah3 hY (show 0<1 by decide)
      have hrunB:∀v' w',(Builtin.copy_ #[t,t] o.type #[act.eval x,act.eval y]).run P w = .ok v' w'→(execOp act.eval o).run P w = .ok (.value v') w':=by intro v' w' hv;rw[Ag9 ho hcl,ha,hts];simp only[builtin,List.map_toArray,List.map_cons,List.map_nil];simp[hv]
      rcases hh hsf with⟨_,hnil,hl0⟩|⟨blk,cap,hb,hv,hn1,hn2⟩
      ·simp only[decide_eq_true_eq] at hc
       omega
      ·subst hv
       obtain⟨how,c,fz,hcb,hz,⟨hle1,hle2⟩,hcont⟩:=BZ2 hsf (h' hdk);have hle:l.length≤c.size:=by rw[hle1];simpa[Ty.size] using hle2
       obtain⟨news,hnl,hnews,hone,hnv⟩:∃news:List Value,news.length=min m.length l.length∧(Builtin.firstCells gi.size (min m.length l.length) (.slice adY m.length capY)).run P w = .ok news.toArray w∧(∀v∈news,v.oneCell'=true)∧
         ∀(j:Nat) (x:Int),j<min m.length l.length→m[j]? = some x→news[j]? = some (.int k0 x)∧fits k0 x=true:=by
        by_cases hm0:m=[]
        ·subst hm0
         refine⟨[],by simp,?_,by simp,fun j x hj=>by simp at hj⟩
         have hmin:min ([]:List Int).length l.length=0:=by simp
         rw[show (min ([]:List (Ty.int k0).den).length l.length)=0 from hmin];cases adY with
         |none=>exact run_firstCells_none w gi.size 0 _ capY
         |some a'=>exact run_firstCells_some w gi.size 0 a' _ capY [] (by simp) (by intro j v h';simp at h')
        ·obtain⟨blkY,off,cY,TY,fzY,y1,y2,y3,y4,y5,y6⟩:=hY3 hm0
         have y4:off+m.length≤cY.size:=by simpa[Ty.size] using y4
         have hcell:∀(j:Nat) (x:Int),m[j]? = some x→cY[off+j]? = some (.int k0 x)∧fits k0 x=true:=by
          intro j x hj;have hjl:=(List.getElem?_eq_some_iff.1 hj).1;obtain⟨r1,r2⟩:=y6 j x hj;refine⟨?_,r2⟩;have:=congrArg (·[0]?) r1;simp only[Ty.size,Nat.mul_one,List.getElem?_take,List.getElem?_drop,Nat.lt_add_one,if_true,Nat.add_zero,List.getElem?_cons_zero,hjl,Array.getElem?_toList] at this;exact this
         refine⟨(cY.toList.drop off).take (min m.length l.length),?_,?_,fun v hv=> ?_,fun j x hj hx=> ?_⟩
         ·rw[List.length_take,List.length_drop,V5 cY]
          omega
         ·subst y1
          refine run_firstCells_some w gi.size (min m.length l.length) _ _ capY _ ?_ (fun j v hj=> ?_)
          ·rw[List.length_take,List.length_drop,V5 cY,hE1]
           omega
          ·rw[Z6,AF0 y3]
           rw[List.getElem?_take] at hj;split at hj
           ·rw[List.getElem?_drop] at hj
            simpa using hj
           ·cases hj
         ·obtain⟨j,hj⟩:=List.getElem?_of_mem hv
          rw[List.getElem?_take] at hj;split at hj
          ·rename_i hlt
           obtain⟨x,hx⟩:∃x,m[j]? = some x:=⟨_,List.getElem?_eq_getElem (by omega)⟩
           rw[List.getElem?_drop,Array.getElem?_toList,(hcell j x hx).1] at hj;cases hj;rfl
          ·cases hj
         ·rw[List.getElem?_take,if_pos hj,List.getElem?_drop,Array.getElem?_toList]
          exact hcell j x hx
       have hst:=Ar9 P blk 0 (k % 25000) fz news 0 c w hcb hz (by omega) hone
       simp only[Nat.zero_add,List.take_zero,List.nil_append] at hst;generalize hnc:(news++c.toList.drop news.length).toArray=nc at hst;have hrun:(execOp act.eval o).run P w = .ok (.value (goInt ((min m.length l.length:Nat):Int))) (w.setRow blk nc):=by refine hrunB _ _ ?_;rw[hpe,hvY];have hmn:Nat.min m.length l.length=min m.length l.length:=rfl;simp[Builtin.copy_,run_underlying q3,Builtin.lenOf,sizeOf,typeInfo,q4,hmn,hnews,hst]
       have hncs:nc.size=c.size:=by rw[← hnc,List.size_toArray,List.length_append,List.length_drop,V5 c];omega
       have hb':=setRow_heap w blk c nc (k % 25000) fz hcb;obtain⟨hkeep,hinv⟩:=Ah4 hi (w':=w.setRow blk nc) (k:=k) (k':=k) (g:=blk) (fr:=0) (fz₀:=fz) (.inr ⟨setRow_size _ _ _,0,c,how,hcb,Nat.le_refl _,by simp⟩) hb' (fun b _ hne=>setRow_other w blk b _ hne) ⟨rfl,rfl,rfl⟩ hdk
       intro K Q hK;unfold Oper.wp;rw[hrun];have hmx:min m.length l.length≤9223372036854775807:=by omega
       refine hK _ _ _ _ hkeep (AY7 hmx) hinv (fun j=>by simp[F6]) fun p hp=> ?_
       rw[List.mem_singleton] at hp;subst hp;refine⟨undef,.fre undef (by simp only;rw[hlen];exact hb) (by simp) ⟨by simp,nc,fz,hb',by rw[hncs];exact hz,⟨by rw[hncs];exact hle1,by simp only;rw[hlen];exact hle2⟩,fun j z hj=> ?_⟩ (.inl hfm)⟩
       have hncl:nc.toList=news++c.toList.drop news.length:=by rw[← hnc]
       have hjl:j<l.length:=by have:=(List.getElem?_eq_some_iff.1 hj).1;rw[hlen] at this;exact this
       have key:nc.toList[j]? = some (.int k0 z)∧fits k0 z=true:=by
        rw[hncl];simp only at hj;by_cases hjm:j<m.length
        ·rw[List.getElem?_append_left (by rw[List.length_take];omega),List.getElem?_take,if_pos hjl] at hj
         rw[List.getElem?_append_left (by omega)]
         exact hnv j z (by omega) hj
        ·rw[List.getElem?_append_right (by rw[List.length_take];omega),List.getElem?_drop,List.length_take] at hj
         rw[show m.length+(j-min l.length m.length)=j by omega] at hj
         obtain⟨r1,r2⟩:=hcont j z hj;refine⟨?_,r2⟩;rw[List.getElem?_append_right (by omega),List.getElem?_drop,show news.length+(j-news.length)=j by omega]
         have:=congrArg (·[0]?) r1;simp only[Ty.size,Nat.mul_one,List.getElem?_take,List.getElem?_drop,Nat.lt_add_one,if_true,Nat.add_zero,List.getElem?_cons_zero] at this;exact this
       refine⟨?_,key.2⟩;simp only[Ty.size,Nat.mul_one];apply List.ext_getElem?;intro i;rw[List.getElem?_take,List.getElem?_drop];cases i with
       |zero=>simpa using key.1
       |succ i=>simp
    ·cases h
   ·cases h
  ·cases h
 ·cases h
theorem CT5 {ow':Nat→A1}{w':World}{a:Ty}{l l':List a.den}{c:Array Value}{olds news:List Value}
  (ht:c.toList.take ((l++l').length*a.size)=olds++news) (hlo:olds.length=l.length*a.size)
  (h1:∀(i:Nat) x,l[i]? = some x→Rep ow' w' a x ((olds.drop (i*a.size)).take a.size)) (h2:∀(i:Nat) x,l'[i]? = some x→Rep ow' w' a x ((news.drop (i*a.size)).take a.size)):
  ∀(i:Nat) x,(l++l')[i]? = some x→Rep ow' w' a x ((c.toList.drop (i*a.size)).take a.size):=by
 intro i x hx;have hi:=(List.getElem?_eq_some_iff.1 hx).1;have hle:=T6 (off:=0) (s:=a.size) hi;have e:(c.toList.drop (i*a.size)).take a.size=((olds++news).drop (i*a.size)).take a.size:=by rw[← ht,List.drop_take,List.take_take,Nat.min_eq_left (by omega)]
 rw[e];by_cases hl:i<l.length
 ·rw[List.getElem?_append_left hl] at hx
  have hle':=T6 (off:=0) (s:=a.size) hl;have:=h1 i x hx;rw[List.drop_append_of_le_length (by omega),List.take_append_of_le_length (by rw[List.length_drop];omega)]
  exact this
 ·rw[List.getElem?_append_right (by omega)] at hx
  have:=h2 (i-l.length) x hx;have e2:(olds++news).drop (i*a.size)=news.drop ((i-l.length)*a.size):=by rw[List.drop_append,List.drop_eq_nil_of_le (by rw[hlo];exact Nat.mul_le_mul_right _ (by omega)),List.nil_append,hlo,Nat.sub_mul]
  rw[e2];exact this
theorem Bb4 {B:E9}{ow:Nat→A1}{bx:Bx}{nb:Nat}{bg:Nat→Option (List EV)}{w:World}(hi:Inv B ow bx nb bg w){k tgt:Nat}{y:Option (Nat×(Nat×Nat))}(htg:tgt<BIG)(hno:bx.tb (tgt+BIG)=none):
  E4 ow bx w ow ⟨bx.f,fun j=>(bx.dead j||Nat.beq k j)||Nat.beq tgt j,fun j=>if j=tgt+BIG then y else bx.tb j⟩ w∧
  Inv B ow ⟨bx.f,fun j=>(bx.dead j||Nat.beq k j)||Nat.beq tgt j,fun j=>if j=tgt+BIG then y else bx.tb j⟩ nb bg w:=by
 have hk:E4 ow bx w ow ⟨bx.f,fun j=>(bx.dead j||Nat.beq k j)||Nat.beq tgt j,fun j=>if j=tgt+BIG then y else bx.tb j⟩ w:=by
  refine⟨.refl ow w,fun _ _ _ h _=>⟨h,rfl⟩,fun j h=> ?_,fun _ h=>⟨rfl,h⟩,fun j x hx=> ?_⟩
  ·simp only[Bool.or_eq_false_iff] at h
   exact h.1.1
  ·simp only
   rw[if_neg (fun e=>by rw[e,hno] at hx;cases hx)]
   exact hx
 refine⟨hk,?_⟩;constructor
 ·intro b cs hcs
  obtain⟨g1,c1,T1,g2,g3⟩:=hi.box b cs hcs;exact⟨g1,c1,T1,g2,g3.keep hk⟩
 ·exact hi.back
 ·exact hi.here
 ·exact hi.old
 ·exact hi.size
 ·exact hi.env
 ·exact hi.kept
 ·exact hi.st.trans hk.st
 ·intro j hj
  simp only at hj ⊢;split at hj
  ·rename_i e
   right
   rw[e,Nat.add_sub_cancel,Nat.beq_refl,Bool.or_true];exact⟨rfl,by omega⟩
  ·exact (hi.born j hj).imp (fun h=>h) fun h=>⟨by rw[h.1];rfl,h.2⟩
theorem CT6 {ty:Ty}{y:EV}{l':List ty.den}{us:List Nat}(hpos:0<ty.size)(h:BG4 ty dead y=some (l',us)):
  (∀k∈us,k∉dead)∧∀{ow:Nat→A1} {bx:Bx} {w:World} {v:Value},A0 ow bx w y v→(∀k∈us,bx.dead k=false)→As5 ow w ty l' v:=by
 have plain:∀{y:EV},y.to (.slice ty)=some l'→∀{ow:Nat→A1} {bx:Bx} {w:World} {v:Value},A0 ow bx w y v→As5 ow w ty l' v:=fun hy ow bx w v hv=>CS6 hpos (z8 hy hv)
 unfold BG4 at h;split at h
 ·rename_i k ty' l
  split at h
  ·rename_i hsf
   split at h
   ·cases h
   ·rename_i hnd
    split at h
    ·rename_i hty
     subst hty;cases h;refine⟨fun k' hk=>by rw[List.mem_singleton] at hk;rw[hk];exact R8 hnd,fun {ow bx w v} hv hu=> ?_⟩
     cases hv with
     |own h h' hh=>
      rcases h' (hu k (by simp)) with⟨h1,h2⟩|⟨blk,cap,c,fz,h1,h2,h3,h3',h4,h5,h6⟩
      ·subst h1
       exact⟨none,0,by rw[h2];rfl,by rw[h2];simp,by rw[h2];simp,fun hne=>absurd h2 hne⟩
      ·subst h1
       obtain⟨h7,h8⟩:=h6 hsf;have hle:l.length*ty'.size≤c.size:=by rw[h4];exact Nat.mul_le_mul_right _ h5
       have hcell:∀(i:Nat) x,l[i]? = some x→Rep ow w ty' x ((((c.toList.drop 0).take (l.length*ty'.size)).drop (i*ty'.size)).take ty'.size):=by
        intro i x hx;have hi:=(List.getElem?_eq_some_iff.1 hx).1;have hle:=T6 (off:=0) (s:=ty'.size) hi;rw[List.drop_zero,List.drop_take,List.take_take,Nat.min_eq_left (by omega)]
        exact h8 i x hx
       refine⟨_,_,rfl,h7,h5,fun _=>⟨blk,0,c,_,fz,rfl,h3,by rw[Nat.zero_add];exact hle,fun u hu=> ?_,hcell⟩⟩
       obtain⟨j,hj,rfl⟩:=List.mem_iff_getElem.1 hu;rw[List.drop_zero,List.length_take,V5 c,Nat.min_eq_left hle] at hj;have hd:j/ty'.size<l.length:=(Nat.div_lt_iff_lt_mul hpos).2 hj;have hr:=hcell (j/ty'.size) _ (List.getElem?_eq_getElem hd);have hm:=Nat.mod_lt j hpos;have hjm:j/ty'.size*ty'.size+j % ty'.size=j:=Nat.div_add_mod' j ty'.size;refine Aq7 _ _ _ hr _ (List.mem_iff_getElem?.2 ⟨j % ty'.size,?_⟩)
       rw[List.getElem?_take,if_pos hm,List.getElem?_drop,hjm,List.getElem?_eq_getElem]
    ·cases h
  ·split at h
   ·rename_i l0 hl0
    cases h;exact⟨fun k hk=>(by cases hk),fun hv _=>plain hl0 hv⟩
   ·cases h
 ·split at h
  ·rename_i l0 hl0
   cases h;exact⟨fun k hk=>(by cases hk),fun hv _=>plain hl0 hv⟩
  ·cases h
theorem CT7 {ty:Ty}{e:Nat}{dst:Option Nat}{x:EV}{k tgt:Nat}{l:List ty.den}{c:Bool}(hpos:0<ty.size)(he:e<25000)(h:BG3 ty e dst dead x=some (k,tgt,l,c))(hc:c=true):
  k∉dead∧tgt∉dead∧tgt<BIG∧soft tgt=true∧tgt % 25000=e∧k % 25000=e∧H9 k (l.length*ty.size)=0∧(L8 tgt=true→L8 k=true∧soft k=true)∧
   ∀{ow:Nat→A1} {bx:Bx} {w:World} {v:Value},A0 ow bx w x v→bx.dead k=false→Own ow w k ty l v∧(L8 k=true→soft k=true→v≠ .slice none 0 0)∧(∃adX capX,v = .slice adX l.length capX∧l.length≤9223372036854775807∧l.length≤capX)∧
    ∀g cap c fz,v = .slice (some ⟨g,0,none⟩) l.length cap→w.heap[g]? = some (.cells c (k % 25000) fz)→∀(i:Nat) x,l[i]? = some x→Rep ow w ty x (((c.toList.take (l.length*ty.size)).drop (i*ty.size)).take ty.size):=by
 unfold BG3 at h;split at h
 ·rename_i k0 ty' l0
  split at h
  ·rename_i hsf
   split at h
   ·rename_i hck
    simp only[Bool.and_eq_true,Bool.not_eq_true'] at hck;obtain⟨⟨h1,h2⟩,h3⟩:=hck;have h1:=Nat.eq_of_beq_eq_true h1;have h3:k0<BIG:=Nat.le_of_ble_eq_true h3;split at h
    ·rename_i hty
     subst hty;cases h;refine⟨R8 h2,R8 h2,h3,hsf,h1,h1,by unfold H9;rw[hsf];rfl,fun hf=>⟨hf,hsf⟩,fun {ow bx w v} hv hd=> ?_⟩
     cases hv with
     |own h h' hh=>
      have ho:=h' hd;refine⟨ho,fun hf _ hnil=> ?_,?_⟩
      ·rcases hh hsf with⟨hf',_⟩|⟨blk,cap,_,hv,_⟩
       ·rw[hf] at hf';cases hf'
       ·rw[hnil] at hv;cases hv
      rcases ho with⟨h1,h2⟩|⟨blk,cap,c,fz,h1,h2,h3,h3',h4,h5,h6⟩
      ·subst h1
       refine⟨⟨none,0,by rw[h2];rfl,by rw[h2];simp,by rw[h2];simp⟩,fun g cap c fz hv=>by cases hv⟩
      ·subst h1
       refine⟨⟨_,_,rfl,(h6 hsf).1,h5⟩,fun g cap' c' fz' hv hb i x hx=> ?_⟩
       cases hv;rw[h3] at hb;cases hb;have hi:=(List.getElem?_eq_some_iff.1 hx).1;have hle:=T6 (off:=0) (s:=ty'.size) hi;rw[List.drop_take,List.take_take,Nat.min_eq_left (by omega)]
       exact (h6 hsf).2 i x hx
    ·cases h
   ·cases h
  ·rename_i hsf
   split at h
   ·rename_i d
    split at h
    ·rename_i hck
     simp only[Bool.and_eq_true,Bool.not_eq_true'] at hck;obtain⟨⟨⟨⟨⟨h1,h1'⟩,h2⟩,h3⟩,h4⟩,h5⟩:=hck;have h2:=Nat.eq_of_beq_eq_true h2;have h5:d<9000000:=Nat.le_of_ble_eq_true h5;split at h
     ·rename_i hty
      subst hty;cases h;rename_i ty';have hl0:l0.length=0:=of_decide_eq_true hc;have hl0:l0=[]:=List.length_eq_zero_iff.1 hl0;subst hl0;have hm:(d*100000+50000+e) % 100000=50000+e:=by omega
      refine⟨R8 h3,R8 h4,by unfold BIG;omega,?_,by omega,by omega,by simp[H9,hsf],fun hf=> ?_,fun {ow bx w v} hv hd=> ?_⟩
      ·unfold soft
       rw[hm];exact Nat.ble_eq_true_of_le (by omega)
      ·unfold L8 at hf
       rw[hm] at hf;have:=Nat.le_of_ble_eq_true hf;omega
      ·cases hv with
       |own h h' hh=>
        refine⟨h' hd,fun _ hs=>(by rw[hsf] at hs;cases hs),?_⟩
        obtain⟨adX,capX,hvX,hX1,hX2,hX3⟩:=Ah3 (h hsf) hpos;exact⟨⟨adX,capX,hvX,hX1,hX2⟩,fun g cap c fz _ _ i x hx=>by simp at hx⟩
     ·cases h
    ·cases h
   ·cases h
 ·cases h
theorem CT8 (hΓ:F8 P Γ){c:Call}{x y:Operand}{t t':Nat}(ho:o.op = .call c)(hcl:c.callee = .builtin .append)(ha:c.args.toList=[x,y])(hts:c.argTypes.toList=[t,t'])(h:BG5 Γ dead o.dst t t' (A x) (A y)=some r)(hc:r.c=true):AZ8 P dead A o r:=by
 have ha:c.args=#[x,y]:=by apply Array.ext';simpa using ha
 have hts:c.argTypes=#[t,t']:=by apply Array.ext';simpa using hts
 unfold BG5 at h;split at h
 ·rename_i ty bytes e hT
  obtain⟨i,z,hu,hinf,hsz,hby,hz,hzs,hpos,hbpos⟩:=Ba9 hΓ hT;split at h
  ·rename_i k tgt l c0 hx
   split at h
   ·rename_i l' us hy
    split at h
    ·rename_i hck
     simp only[Bool.and_eq_true] at hck;obtain⟨htt,he⟩:=hck;have htt:=Nat.eq_of_beq_eq_true htt;have he:e<25000:=Nat.le_of_ble_eq_true he;subst htt;cases h;obtain⟨hY1,hY2⟩:=CT6 hpos hy;simp only[Bool.and_eq_true,decide_eq_true_eq] at hc;obtain⟨x1,x2,x3,x4,x5,x6,x7,x8,x9⟩:=CT7 hpos he hx hc.1
     replace hc:=hc.2
     refine⟨fun k' hk=> ?_,hY1,fun p hp=>by simp at hp,fun id B ow bx nb bg w act hi hA hdd huu=> ?_⟩
     ·rcases List.mem_cons.1 hk with h | h
      ·rw[h];exact x1
      ·rw[List.mem_singleton.1 h];exact x2
     have hall:=AJ6 ho hA;have hrx:=hall x (by simp[Call.operands,ha,hcl])
     have hry:=hall y (by simp[Call.operands,ha,hcl])
     have hdk:=hdd k (by simp)
     have hdt:=hdd tgt (by simp)
     obtain⟨hXo,hXf,hXn,hXc⟩:=x9 hrx hdk;have hYs:=hY2 hry huu;have hsK:soft (tgt+BIG)=true:=by rw[← x4];unfold soft;rw[show (tgt+BIG) % 100000=tgt % 100000 by unfold BIG;omega]
     have h5K:(tgt+BIG) % 25000=e:=by rw[← x5];unfold BIG;omega
     have hfK:L8 (tgt+BIG)=L8 tgt:=by unfold L8;rw[show (tgt+BIG) % 100000=tgt % 100000 by unfold BIG;omega]
     have hno:bx.tb (tgt+BIG)=none:=BJ3 hi hdt;have hrun:∀v' w',(Builtin.append_ #[t,t] o.type #[act.eval x,act.eval y]).run P w = .ok v' w'→(execOp act.eval o).run P w = .ok (.value v') w':=by intro v' w' hv;rw[Ag9 ho hcl,ha,hts];simp only[builtin,List.map_toArray,List.map_cons,List.map_nil];simp[hv]
     refine CS7 (P:=P) (tt:=o.type) hu hinf hsz hz hzs hpos (by rw[hby];exact hbpos) x6 hXo hXn hXc hYs (by rw[hby];exact hc) _ ?_ ?_
     ·intro hnil hl hl' hr K Q hK
      have hff:L8 tgt=false:=by
       cases hf:L8 tgt with
       |false=>rfl
       |true=>exact absurd hnil (hXf (x8 hf).1 (x8 hf).2)
      unfold Oper.wp;rw[hrun _ _ hr];obtain⟨k1,k2⟩:=Bb4 hi (k:=k) (y:=none) x3 hno;refine hK _ _ _ _ k1 (.own (fun h=>(by rw[hsK] at h;cases h)) (fun _=>.inl ⟨rfl,by rw[hl,hl'];rfl⟩) fun _=>.inl ⟨by rw[hfK];exact hff,rfl,by rw[hl,hl'];rfl⟩) k2 (fun j=>by simp[F6,Bool.or_assoc]) (fun p hp=>by simp at hp)
     ·intro w' g cap' cc fz olds news hlz hr hg hb hold henv htake hlo hcs hcap hmax ho1 ho2 K Q hK
      rw[x7] at hg;obtain⟨hkeep,hinv⟩:=Ah4 hi (k:=k) (k':=tgt+BIG) (fr:=0) (fz₀:=fz) (hg.imp (fun h=>h) fun ⟨h1,c₀,h2,h3,h4⟩=>⟨h1,0,c₀,h2,h3,Nat.le_refl _,h4⟩) hb hold henv hdk
      obtain⟨k1,k2⟩:=Bb4 (k:=k) (y:=some (g,(l++l').length,cap')) hinv x3 (by exact hno)
      unfold Oper.wp;rw[hrun _ _ hr];have hcont:=CT5 htake hlo (fun i x hx=>Rep.keep hkeep.st _ _ _ (ho1 i x hx)) (fun i x hx=>Rep.keep hkeep.st _ _ _ (ho2 i x hx))
      refine hK _ _ _ _ (hkeep.trans k1) (.own (fun h=>(by rw[hsK] at h;cases h)) (fun _=>.inr ⟨g,cap',cc,fz,rfl,by simp[H9,hsK],by rw[h5K];exact hb,hlz,hcs,hcap,fun _=>⟨hmax,hcont⟩⟩) fun _=>.inr ⟨g,cap',by simp,rfl,hcap,hmax⟩) k2 (fun j=>by simp[F6,Bool.or_assoc]) (fun p hp=>by simp at hp)
    ·cases h
   ·cases h
  ·cases h
 ·cases h
theorem CT9 (hΓ:F8 P Γ)(hs:BG6 Γ dead o.dst A o.op=some r)(hc:r.c=true):AZ8 P dead A o r:=by
 unfold BG6 at hs;split at hs
 ·rename_i t n c ho;exact CT1 hΓ ho hs hc
 ·rename_i t x ho;exact CT2 hΓ ho hs
 ·rename_i t x y ho;exact CT3 hΓ ho hs
 ·rename_i c ho
  split at hs
  ·rename_i hcl
   split at hs
   ·rename_i x y t t' h1 h2;exact CT4 hΓ ho hcl h1 h2 hs hc
   ·cases hs
  ·rename_i hcl
   split at hs
   ·rename_i x y t t' h1 h2;exact CT8 hΓ ho hcl h1 h2 hs hc
   ·cases hs
  ·cases hs
 ·cases hs
def I7 (ks:List Nat)(ow:Nat→A1):Nat→A1:=fun blk=>match ow blk with
 | .tok k fr=>bif F6 ks k then .E8 else .tok k fr
 |o=>o
theorem BJ4 {ks:List Nat}{ow:Nat→A1}{blk n:Nat}(h:A8 ow blk n):A8 (I7 ks ow) blk n:=by
 rcases L1 h with h1 |⟨k,fr,h1,h2⟩|⟨fr,h1,h2⟩
 ·exact L0 (by simp[I7,h1])
 ·cases hk:F6 ks k with
  |true=>exact L0 (by simp[I7,h1,hk])
  |false=>exact z7 (k:=k) (fr:=fr) (by simp[I7,h1,hk]) h2
 ·exact X2 (fr:=fr) (by simp[I7,h1]) h2
theorem AP6 {ks:List Nat}{ow:Nat→A1}{blk b:Nat}:I7 ks ow blk = .box b↔ow blk = .box b:=by
 unfold I7;split
 ·rename_i k fr h
  rw[h];cases F6 ks k <;> simp
 ·exact Iff.rfl
theorem As6 {ks:List Nat}{ow:Nat→A1}{bx:Bx}{w:World}(hd:∀k∈ks,bx.dead k=false):E4 ow bx w (I7 ks ow) ⟨bx.f,fun j=>bx.dead j||F6 ks j,bx.tb⟩ w:=by
 refine⟨.of fun _ _ h=>⟨BJ4 h,rfl⟩,fun blk k fr h hdd=>⟨?_,rfl⟩,fun j h=> ?_,fun b h=>⟨rfl,AP6.2 h⟩,fun _ _ h=>h⟩
 ·have hk:F6 ks k=false:=by
   cases hk:F6 ks k with
   |false=>rfl
   |true=>
    simp only[hk,Bool.or_true] at hdd;unfold F6 at hk;obtain⟨x,hx,hxk⟩:=List.any_eq_true.1 hk;have:=Nat.eq_of_beq_eq_true hxk;subst this;rw[hd x hx] at hdd;cases hdd
  simp[I7,h,hk]
 ·simp only[Bool.or_eq_false_iff] at h
  exact h.1
theorem Bb5 {ks:List Nat}{B:E9}{ow:Nat→A1}{bx:Bx}{nb:Nat}{bg:Nat→Option (List EV)}{w:World}(hi:Inv B ow bx nb bg w)(hd:∀k∈ks,bx.dead k=false):Inv B (I7 ks ow) ⟨bx.f,fun j=>bx.dead j||F6 ks j,bx.tb⟩ nb bg w:=by
 have hk:=As6 (ow:=ow) (w:=w) hd;constructor
 ·intro b cs hcs
  obtain⟨g1,c1,T1,g2,g3⟩:=hi.box b cs hcs;exact⟨AP6.2 g1,c1,T1,g2,g3.keep hk⟩
 ·intro blk b h
  exact hi.back blk b (AP6.1 h)
 ·intro blk h
  refine hi.here blk fun e=>h ?_
  simp[I7,e]
 ·intro blk h1 h2
  obtain⟨g1,g2,g3,g4⟩:=hi.old blk h1 h2;have e:I7 ks ow blk=ow blk:=by
   unfold I7;split
   ·rename_i k fr h;exact absurd h (g4 k fr)
   ·rfl
  exact⟨g1,by rw[e];exact g2,by rw[e];exact⟨g3,g4⟩⟩
 ·exact hi.size
 ·exact hi.env
 ·exact hi.kept
 ·exact hi.st.trans hk.st
 ·exact fun j h=>(hi.born j h).imp (fun h=>h) fun h=>⟨by simp only[h.1,Bool.true_or],h.2⟩
theorem Bb6 {k:Nat}{ks:List Nat}(h:G6 k ks=true):k∈ks∧F6 ks k=true:=by unfold G6 at h;obtain⟨x,hx,hxk⟩:=List.any_eq_true.1 h;have:=Nat.eq_of_beq_eq_true hxk;subst this;exact⟨hx,List.any_eq_true.2 ⟨k,hx,Nat.beq_refl k⟩⟩
theorem Bb7 {ks:List Nat}{ow:Nat→A1}{bx:Bx}{w:World}{e:EV}{v:Value}(hs:∀k∈ks,soft k=true)(hd:∀k∈ks,bx.dead k=false)(h:A0 ow bx w e v):
  A0 (I7 ks ow) ⟨bx.f,fun j=>bx.dead j||F6 ks j,bx.tb⟩ w (Z2 ks e) v:=by
 have hk:=As6 (ow:=ow) (w:=w) hd;unfold Z2;split
 ·rename_i k t l
  split
  ·rename_i hin
   obtain⟨hm,hkb⟩:=Bb6 hin;cases h with
   |own h h' hh=>
    rcases h' (hd k hm) with⟨h1,h2⟩|⟨blk,cap,c,fz,h1,h2,h3,h3',h4,h5,h6⟩
    ·subst h1
     subst h2;exact .dat (AJ4 t)
    ·subst h1
     obtain⟨h7,h8⟩:=h6 (hs k hm);refine .dat ⟨some ⟨blk,0,none⟩,cap,rfl,⟨h7,h5⟩,fun _=>⟨blk,0,c,_,fz,rfl,L0 (by simp[I7,h2,hkb]),h3,fun i x hx=> ?_⟩⟩
     rw[Nat.zero_add];exact Rep.keep hk.st _ _ _ (h8 i x hx)
  ·exact h.keep hk
 ·exact h.keep hk
theorem Ah6:∀(es:List EV),∀k∈AO8 dead es,soft k=true∧k∉dead
 | [],k,hk=>by cases hk
 |e::r,k,hk=>by
  unfold AO8 at hk;split at hk
  ·split at hk
   ·rename_i hc
    simp only[Bool.and_eq_true,Bool.not_eq_true'] at hc;rcases List.mem_cons.1 hk with h | h
    ·rw[h];exact⟨hc.1,R8 hc.2⟩
    ·exact Ah6 r k h
   ·exact Ah6 r k hk
  ·exact Ah6 r k hk
theorem CU0 {ρ:Type}(hΓ:F8 P Γ){ks:List Nat}{id:Nat}{rd:Nat→Option (List EV)}{q:EV→Option (List EV)→List Wr→List Nat→Option ρ}{r:ρ}(hf:BG8 dead A o.op=some ks)
  (h:opE Γ id rd none (fun x=>Z2 ks (A x)) o.op q=some r):∃v n ws tr,q v n ws tr=some r∧(∀x∈ws,x.b∈tr∧∃cs,rd x.b=some cs∧x.off+x.new.length≤cs.length)∧(∀k∈ks,k∉dead)∧
   ∀B ow bx nb bg w (a:Act),Inv B ow bx nb bg w→F7 ow bx w A a.eval o.op→(∀b∈tr,bg b=rd b)→(n.isSome=true→bg id=none∧id<nb)→(∀k∈ks,bx.dead k=false)→AC5 P B ow bx nb bg w a o id v n ws ks []:=by
 obtain⟨v,n,ws,tr,h1,_,h3,h4⟩:=Ar8 hΓ h;unfold BG8 at hf;split at hf
 ·rename_i c ho
  split at hf
  ·split at hf
   ·cases hf
   ·rename_i k0 ks0 hks
    cases hf;have hsp:=Ah6 (dead:=dead) (c.args.toList.map A);rw[hks] at hsp;refine⟨v,n,ws,tr,h1,h3,fun k hk=>(hsp k hk).2,fun B ow bx nb bg w a hi hA hb hn hd K Q hK=> ?_⟩
    have hA':F7 (I7 (k0::ks0) ow) ⟨bx.f,fun j=>bx.dead j||F6 (k0::ks0) j,bx.tb⟩ w (fun x=>Z2 (k0::ks0) (A x)) a.eval o.op:=by rw[ho] at hA ⊢;exact fun x hx=>Bb7 (fun k hk=>(hsp k hk).1) hd (hA x hx)
    exact h4 (by simp) B _ _ nb bg w a (Bb5 hi hd) hA' hb hn K Q fun u ow' bx' w' g1 g2 g3 g4=>
     hK u ow' bx' w' ((As6 hd).trans g1) g2 g3 (fun j=>by rw[g4]) fun p hp=>by cases hp
  ·cases hf
 ·cases hf
theorem As7 {rd:Nat→Option (List EV)}{b:Nat}{cs':List EV}{ks:List Nat}:∀(es:List EV),AX4 dead rd es=some (b,cs',ks)→∃cs,rd b=some cs∧cs'=cs.map (Z2 ks)∧∀k∈ks,soft k=true∧k∉dead
 | [],h=>by cases h
 |e::r,h=>by
  unfold AX4 at h;split at h
  ·split at h
   ·rename_i cs hcs
    split at h
    ·exact As7 r h
    ·rename_i k ks0 hks
     cases h;exact⟨cs,hcs,rfl,fun k' hk=>Ah6 cs k' (by rw[hks];exact hk)⟩
   ·exact As7 r h
  ·exact As7 r h
theorem CU1 {ρ:Type}(hΓ:F8 P Γ){b:Nat}{cs':List EV}{ks:List Nat}{id:Nat}{rd:Nat→Option (List EV)}{q:EV→Option (List EV)→List Wr→List Nat→Option ρ}{r:ρ}(hf:BG9 dead rd A o.op=some (b,cs',ks))
  (h:opE Γ id (Ag1 rd b cs') none A o.op q=some r):∃v n ws tr,q v n ws tr=some r∧(∀x∈(⟨b,0,cs'⟩:Wr)::ws,x.b∈b::tr∧∃cs,rd x.b=some cs∧x.off+x.new.length≤cs.length)∧(∀k∈ks,k∉dead)∧
   ∀B ow bx nb bg w (a:Act),Inv B ow bx nb bg w→F7 ow bx w A a.eval o.op→(∀y∈b::tr,bg y=rd y)→(n.isSome=true→bg id=none∧id<nb)→(∀k∈ks,bx.dead k=false)→AC5 P B ow bx nb bg w a o id v n (⟨b,0,cs'⟩::ws) ks []:=by
 obtain⟨v,n,ws,tr,h1,_,h3,h4⟩:=Ar8 hΓ h;unfold BG9 at hf;split at hf
 ·rename_i c ho
  split at hf
  ·obtain⟨cs,hcs,rfl,hks⟩:=As7 _ hf
   have hrd:∀x y,Ag1 rd b (cs.map (Z2 ks)) x=some y→∃z,rd x=some z∧y.length=z.length:=by
    intro x y hxy;unfold Ag1 at hxy;split at hxy
    ·rename_i hb
     have:=Nat.eq_of_beq_eq_true hb;subst this;cases hxy;exact⟨cs,hcs,by simp⟩
    ·exact⟨y,hxy,rfl⟩
   refine⟨v,n,ws,tr,h1,fun x hx=> ?_,fun k hk=>(hks k hk).2,fun B ow bx nb bg w a hi hA hb hn hd K Q hK=> ?_⟩
   ·rcases List.mem_cons.1 hx with h | h
    ·rw[h]
     exact⟨by simp,cs,hcs,by simp⟩
    ·obtain⟨q1,z,q2,q3⟩:=h3 x h
     obtain⟨z',q4,q5⟩:=hrd _ _ q2;exact⟨List.mem_cons_of_mem _ q1,z',q4,by omega⟩
   have hbb:bg b=some cs:=by rw[hb b (by simp),hcs]
   have hk1:=As6 (ow:=ow) (w:=w) hd;have hi1:=Bb5 hi hd;have hup:∀y,K6 bg ⟨b,0,cs.map (Z2 ks)⟩ y=if y=b then some (cs.map (Z2 ks)) else bg y:=by
    intro y;unfold K6;by_cases hy:y=b
    ·subst hy
     simp[hbb,L9]
    ·simp[hy]
   have hi2:Inv B (I7 ks ow) ⟨bx.f,fun j=>bx.dead j||F6 ks j,bx.tb⟩ nb (K6 bg ⟨b,0,cs.map (Z2 ks)⟩) w:=by
    constructor
    ·intro y ys hy
     rw[hup] at hy;split at hy
     ·rename_i hyb
      subst hyb;cases hy;obtain⟨g1,c1,T1,g2,g3⟩:=hi.box y cs hbb;refine⟨AP6.2 g1,c1,T1,g2,by simpa using g3.1,fun i e u he hu=> ?_⟩
      rw[List.getElem?_map] at he;cases hc:cs[i]? with
      |none=>rw [hc] at he;cases he
      |some e0=>
       rw[hc] at he;cases he;exact⟨Bb7 (fun k hk=>(hks k hk).1) hd (g3.2 i e0 u hc hu).1,(g3.2 i e0 u hc hu).2⟩
     ·exact hi1.box y ys hy
    ·intro blk y hy
     obtain⟨g1,g2,g3⟩:=hi1.back blk y hy;refine⟨g1,?_,g3⟩;rw[hup];split
     ·rfl
     ·exact g2
    ·exact hi1.here
    ·exact hi1.old
    ·exact hi1.size
    ·exact hi1.env
    ·intro y hy
     obtain⟨g1,g2⟩:=hi1.kept y hy;refine⟨g1,?_⟩;rw[hup];split
     ·rfl
     ·exact g2
    ·exact hi1.st
    ·exact hi1.born
   have hA':F7 (I7 ks ow) ⟨bx.f,fun j=>bx.dead j||F6 ks j,bx.tb⟩ w A a.eval o.op:=by rw[ho] at hA ⊢;exact fun x hx=>(hA x hx).keep hk1
   exact h4 (by simp) B _ _ nb (K6 bg ⟨b,0,cs.map (Z2 ks)⟩) w a hi2 hA' (fun y hy=>by
    rw[hup];unfold Ag1;by_cases hyb:y=b
    ·subst hyb;rw[if_pos rfl,Nat.beq_refl]
    ·rw[if_neg hyb]
     have:Nat.beq y b=false:=by
      cases hq:Nat.beq y b with
      |false=>rfl
      |true=>exact absurd (Nat.eq_of_beq_eq_true hq) hyb
     rw[this];exact hb y (List.mem_cons_of_mem _ hy)) (fun hns=>by
    obtain⟨g1,g2⟩:=hn hns;refine⟨?_,g2⟩;rw[hup,if_neg (fun e=>by rw[e,hbb] at g1;cases g1)]
    exact g1) K Q fun u ow' bx' w' g1 g2 g3 g4=>
     hK u ow' bx' w' (hk1.trans g1) g2 g3 (fun j=>by rw[g4]) fun p hp=>by cases hp
  ·cases hf
 ·cases hf
end
end Go.Proofs.YthfjpkdadjemcaaGreat

set_option linter.unusedSimpArgs false
set_option linter.unusedVariables false
namespace Go.Proofs.YthfjpkdadjemcaaGreat
structure TI where
 s:Rg
 ch:List (Nat×Bool)
 v:EV
 n:Option (List EV)
 ws:List Wr
 tr:List Nat
 k:List Nat
 us:List Nat
 up:N4
def TI.next (t:TI)(o:Oper):Rg:=t.s.next ⟨o.dst,t.ch,t.v⟩ t.n t.ws t.tr t.k t.up
structure Bb8 (P:Program)(base:List EV)(o:Oper)(t:TI):Prop where
 ch:Ap2 t.s.rs o.guard=some t.ch
 dst:BX3 base.length o.dst=true
 quiet:guardOf t.s.rs t.ch=some false→t.n=none∧t.ws=[]
 CU2:guardOf t.s.rs t.ch=some false→t.k=[]
 fresh:∀k∈t.k,k∉t.s.dead
 used:∀k∈t.us,k+AI6∈t.tr∧k∉t.s.dead
 upk:∀p∈t.up,p.1∈t.k∧p.1<BIG
 upq:guardOf t.s.rs t.ch=some false→t.up=[]
 wr:∀x∈t.ws,x.b∈t.tr∧∃cs,A4 t.s.bx x.b=some cs∧x.off+x.new.length≤cs.length
 go:guardOf t.s.rs t.ch≠some false→∀B ow bx nb bg w (a:Act),Inv B ow bx nb bg w→F7 ow bx w (M0 base t.s.rs t.ch o.op) a.eval o.op→(∀b∈t.tr,bg b=A4 t.s.bx b)→
  (t.n.isSome=true→bg t.s.bx.length=none∧t.s.bx.length<nb)→(∀k∈t.k,bx.dead k=false)→(∀k∈t.us,bx.dead k=false)→AC5 P B ow bx nb bg w a o t.s.bx.length t.v t.n t.ws t.k t.up
def D7 (P:Program)(base:List EV):List Oper→Rg→List TI→Rg→Prop
 | [],s,[],s'=>s=s'
 |o::os,s,t::ts,s'=>t.s=s∧Bb8 P base o t∧D7 P base os (t.next o) ts s'
 |_,_,_,_=>False
theorem AP7 {rs:List Rec}{ch:List (Nat×Bool)}(h:chainB rs ch=true):guardOf rs ch≠some false:=by
 unfold guardOf;cases ch with
 |nil=>simp
 |cons p r=>simp only[h];simp
theorem BJ5 {rs:List Rec}{ch:List (Nat×Bool)}(h:chainB rs ch=false):guardOf rs ch=some false:=by
 cases ch with
 |nil=>cases h
 |cons p r=>unfold guardOf;simp only[h]
theorem X5 {ρ:Type}{P:Program}{Γ:Cx}(hΓ:F8 P Γ){base:List EV}{q:Rg→Option ρ}{r:ρ}:∀(l:List Oper) (s:Rg),Q3 Γ base l s q=some r→∃ts s',D7 P base l s ts s'∧q s'=some r
 | [],s,h=>⟨[],s,rfl,h⟩
 |o::os,s,h=>by
  simp only[Q3] at h;split at h
  ·rename_i ch hch hdst
   split at h
   ·rename_i x hso
    cases hcc:chainB s.rs ch with
    |false=>
     rw[hcc,cond_false] at h;obtain⟨ts,s',k1,k2⟩:=X5 hΓ os _ h;exact⟨⟨s,ch,_,none,[],[],[],[],[]⟩::ts,s',⟨rfl,⟨hch,hdst,fun _=>⟨rfl,rfl⟩,fun _=>rfl,(fun k hk=>by cases hk),(fun k hk=>by cases hk),(fun p hp=>by cases hp),(fun _=>rfl),(fun x hx=>by cases hx),fun hg=>absurd (BJ5 hcc) hg⟩,k1⟩,k2⟩
    |true=>
    rw[hcc,cond_true] at h;have hcn:=AP7 hcc;obtain⟨h1,h2⟩:=N7 h;have hc:=h2 (by simp)
    obtain⟨q1,q2,q3,q4⟩:=CT9 hΓ hso hc;obtain⟨ts,s',k1,k2⟩:=X5 hΓ os _ h1;exact⟨⟨s,ch,x.v,none,[],x.us.map (· + AI6),x.ks,x.us,x.up⟩::ts,s',⟨rfl,⟨hch,hdst,fun hne=>absurd hne hcn,fun hne=>absurd hne hcn,q1,(fun k hk=>⟨List.mem_map.2 ⟨k,hk,rfl⟩,q2 k hk⟩),q3,fun hne=>absurd hne hcn,(fun x hx=>by cases hx),fun _ B ow bx nb bg w a hi hA _ _ hd hu=>q4 _ B ow bx nb bg w a hi hA hd hu⟩,k1⟩,k2⟩
   ·split at h
    ·rename_i x y t happ
     obtain⟨h,hcn⟩:=N7 h;have hcn:=AP7 (hcn (by simp))
     obtain⟨v,k,h1,h2,h3⟩:=CQ8 hΓ happ h;obtain⟨ts,s',k1,k2⟩:=X5 hΓ os _ h1;exact⟨⟨s,ch,v,none,[],[],[k],[],[]⟩::ts,s',⟨rfl,⟨hch,hdst,fun hne=>absurd hne hcn,fun hne=>absurd hne hcn,(fun k' hk'=>by rw[List.mem_singleton] at hk';rw[hk'];exact h2),(fun k hk=>by cases hk),(fun p hp=>by cases hp),(fun _=>rfl),(fun x hx=>by cases hx),fun _ B ow bx nb bg w a hi hA _ _ hd _=>h3 _ B ow bx nb bg w a hi hA (hd k (by simp))⟩,k1⟩,k2⟩
    split at h
    ·rename_i x t hmk
     obtain⟨h,hcn⟩:=N7 h;have hcn:=AP7 (hcn (by simp))
     obtain⟨v,k,h1,h2,h3⟩:=CR1 hΓ hmk h;obtain⟨ts,s',k1,k2⟩:=X5 hΓ os _ h1;exact⟨⟨s,ch,v,none,[],[],[k],[],[]⟩::ts,s',⟨rfl,⟨hch,hdst,fun hne=>absurd hne hcn,fun hne=>absurd hne hcn,(fun k' hk'=>by rw[List.mem_singleton] at hk';rw[hk'];exact h2),(fun k hk=>by cases hk),(fun p hp=>by cases hp),(fun _=>rfl),(fun x hx=>by cases hx),fun _ B ow bx nb bg w a hi hA _ _ hd _=>h3 _ B ow bx nb bg w a hi hA (hd k (by simp))⟩,k1⟩,k2⟩
    split at h
    ·rename_i c args hoc
     cases hcc:chainB s.rs ch with
     |false=>
      rw[hcc,cond_false] at h;obtain⟨ts,s',k1,k2⟩:=X5 hΓ os _ h;exact⟨⟨s,ch,_,none,[],[],[],[],[]⟩::ts,s',⟨rfl,⟨hch,hdst,fun _=>⟨rfl,rfl⟩,fun _=>rfl,(fun k hk=>by cases hk),(fun k hk=>by cases hk),(fun p hp=>by cases hp),(fun _=>rfl),(fun x hx=>by cases hx),fun hg=>absurd (BJ5 hcc) hg⟩,k1⟩,k2⟩
     |true=>
     rw[hcc,cond_true] at h;have hcn:=AP7 hcc;obtain⟨v,ws,tr,ks,h1,h2,h3,h4⟩:=CS5 hΓ hoc h;obtain⟨ts,s',k1,k2⟩:=X5 hΓ os _ h1;exact⟨⟨s,ch,v,none,ws,tr,ks,[],[]⟩::ts,s',⟨rfl,⟨hch,hdst,fun hne=>absurd hne hcn,fun hne=>absurd hne hcn,h2,(fun k hk=>by cases hk),(fun p hp=>by cases hp),(fun _=>rfl),h3,fun _ B ow bx nb bg w a hi hA hb _ hd _=>h4 _ B ow bx nb bg w a hi hA hb hd⟩,k1⟩,k2⟩
    split at h
    ·rename_i ks hfz
     obtain⟨h,hcn⟩:=N7 h;have hcn:=AP7 (hcn (by simp))
     obtain⟨v,n,ws,tr,h1,h3,h5,h4⟩:=CU0 hΓ hfz h;obtain⟨ts,s',k1,k2⟩:=X5 hΓ os _ h1;exact⟨⟨s,ch,v,n,ws,tr,ks,[],[]⟩::ts,s',⟨rfl,⟨hch,hdst,fun hne=>absurd hne hcn,fun hne=>absurd hne hcn,h5,(fun k hk=>by cases hk),(fun p hp=>by cases hp),(fun _=>rfl),h3,fun _ B ow bx nb bg w a hi hA hb hn hd _=>h4 B ow bx nb bg w a hi hA hb hn hd⟩,k1⟩,k2⟩
    split at h
    ·rename_i b cs ks hfb
     obtain⟨h,hcn⟩:=N7 h;have hcn:=AP7 (hcn (by simp))
     obtain⟨v,n,ws,tr,h1,h3,h5,h4⟩:=CU1 hΓ hfb h;obtain⟨ts,s',k1,k2⟩:=X5 hΓ os _ h1;exact⟨⟨s,ch,v,n,⟨b,0,cs⟩::ws,b::tr,ks,[],[]⟩::ts,s',⟨rfl,⟨hch,hdst,fun hne=>absurd hne hcn,fun hne=>absurd hne hcn,h5,(fun k hk=>by cases hk),(fun p hp=>by cases hp),(fun _=>rfl),h3,fun _ B ow bx nb bg w a hi hA hb hn hd _=>h4 B ow bx nb bg w a hi hA hb hn hd⟩,k1⟩,k2⟩
    split at h
    ·cases hcc:chainB s.rs ch with
     |false=>
      rw[hcc,cond_false] at h;obtain⟨ts,s',k1,k2⟩:=X5 hΓ os _ h;exact⟨⟨s,ch,_,none,[],[],[],[],[]⟩::ts,s',⟨rfl,⟨hch,hdst,fun _=>⟨rfl,rfl⟩,fun _=>rfl,(fun k hk=>by cases hk),(fun k hk=>by cases hk),(fun p hp=>by cases hp),(fun _=>rfl),(fun x hx=>by cases hx),fun hg=>absurd (BJ5 hcc) hg⟩,k1⟩,k2⟩
     |true=>
     rw[hcc,cond_true] at h;have hcn:=AP7 hcc;obtain⟨v,n,ws,tr,h1,h2,h3,h4⟩:=Ar8 hΓ h;obtain⟨ts,s',k1,k2⟩:=X5 hΓ os _ h1;exact⟨⟨s,ch,v,n,ws,tr,[],[],[]⟩::ts,s',⟨rfl,⟨hch,hdst,fun hne=>absurd hne hcn,fun _=>rfl,(fun k hk=>by cases hk),(fun k hk=>by cases hk),(fun p hp=>by cases hp),(fun _=>rfl),h3,fun _ B ow bx nb bg w a hi hA hb hn _ _=>(h4 (by simp) B ow bx nb bg w a hi hA hb hn).BI1⟩,k1⟩,k2⟩
    ·obtain⟨v,n,ws,tr,h1,h2,h3,h4⟩:=Ar8 hΓ h
     obtain⟨ts,s',k1,k2⟩:=X5 hΓ os _ h1;exact⟨⟨s,ch,v,n,ws,tr,[],[],[]⟩::ts,s',⟨rfl,⟨hch,hdst,fun hne=>h2 (by rw[hne];rfl),fun _=>rfl,(fun k hk=>by cases hk),(fun k hk=>by cases hk),(fun p hp=>by cases hp),(fun _=>rfl),h3,fun hg B ow bx nb bg w a hi hA hb hn _ _=>(h4 hg B ow bx nb bg w a hi hA hb hn).BI1⟩,k1⟩,k2⟩
  ·cases h
def TI.wrs (t:TI):List Nat:=match t.n with
 |some _=>t.s.bx.length::(t.ws.map (·.b)++t.k.map (· + AI6))
 |none=>t.ws.map (·.b)++t.k.map (· + AI6)
section
variable {P:Program}{base:List EV}
theorem D7.length:∀{l:List Oper} {s:Rg} {ts:List TI} {s':Rg},D7 P base l s ts s'→ts.length=l.length
 | [],_,[],_,_=>rfl
 |o::os,s,t::ts,s',h=>by have:=D7.length h.2.2;simp[this]
theorem D7.at:∀{l:List Oper} {s:Rg} {ts:List TI} {s':Rg},D7 P base l s ts s'→∀(i:Nat) o t,l[i]? = some o→ts[i]? = some t→
  Bb8 P base o t∧t.s.rs.length=s.rs.length+i∧(∃more,s'.rs=t.s.rs++(⟨o.dst,t.ch,t.v⟩:Rec)::more)∧(∃more,s'.tw=t.s.tw++(t.tr,t.wrs)::more)∧t.s.tw.length=s.tw.length+i∧
   t.s.bx.length≤s'.bx.length∧(t.n.isSome=true→t.s.bx.length<s'.bx.length)∧s.bx.length≤t.s.bx.length
 | [],s,[],s',h,i,o,t,ho,ht=>by simp at ho
 |o0::os,s,t0::ts,s',h,i,o,t,ho,ht=>by
  obtain⟨h1,h2,h3⟩:=h;have hnl:t0.s.bx.length≤(t0.next o0).bx.length∧(t0.n.isSome=true→t0.s.bx.length<(t0.next o0).bx.length):=by
   have hfold:∀(ws:List Wr) (bx:List (Option (List EV))),(ws.foldl K8 bx).length=bx.length:=by
    intro ws
    induction ws with
    |nil=>intro bx;rfl
    |cons x r ih=>intro bx;simp only[List.foldl_cons];rw[ih];unfold K8;split <;> simp
   unfold TI.next Rg.next AX3;cases t0.n <;> simp[hfold]
  cases i with
  |zero=>
   simp at ho ht;subst ho ht;have tail:∀{l:List Oper} {s:Rg} {ts:List TI} {s':Rg},D7 P base l s ts s'→(∃more,s'.rs=s.rs++more)∧(∃more,s'.tw=s.tw++more)∧s.bx.length≤s'.bx.length:=by
    intro l
    induction l with
    |nil=>
     intro s ts s' h;cases ts with
     |nil=>cases h;exact⟨⟨[],by simp⟩,⟨[],by simp⟩,Nat.le_refl _⟩
     |cons t ts=>exact absurd h id
    |cons o os ih=>
     intro s ts s' h;cases ts with
     |nil=>exact absurd h id
     |cons t ts=>
      obtain⟨g1,g2,g3⟩:=h;obtain⟨⟨m1,k1⟩,⟨m2,k2⟩,k3⟩:=ih g3;subst g1;have hfold:∀(ws:List Wr) (bx:List (Option (List EV))),(ws.foldl K8 bx).length=bx.length:=by
       intro ws
       induction ws with
       |nil=>intro bx;rfl
       |cons x r ih=>intro bx;simp only[List.foldl_cons];rw[ih];unfold K8;split <;> simp
      refine⟨⟨_,by rw[k1];unfold TI.next Rg.next;simp only[List.append_assoc];rfl⟩,⟨_,by rw[k2];unfold TI.next Rg.next;simp only[List.append_assoc];rfl⟩,?_⟩
      have:t.s.bx.length≤(t.next o).bx.length:=by unfold TI.next Rg.next AX3;cases t.n <;> simp[hfold]
      omega
   obtain⟨⟨m1,k1⟩,⟨m2,k2⟩,k3⟩:=tail h3;subst h1;refine⟨h2,by simp,⟨m1,by rw[k1];unfold TI.next Rg.next;simp⟩,⟨m2,by rw[k2];unfold TI.next Rg.next TI.wrs;cases t0.n <;> simp⟩,by simp,by omega,fun h=>by have:=hnl.2 h;omega,Nat.le_refl _⟩
  |succ i=>
   obtain⟨g1,g2,g3,g4,g5,g6,g7,g8⟩:=D7.at h3 i o t (by simpa using ho) (by simpa using ht)
   refine⟨g1,?_,g3,g4,?_,g6,g7,?_⟩
   ·rw[g2];unfold TI.next Rg.next;simp[h1];omega
   ·rw[g5];unfold TI.next Rg.next;simp[h1];omega
   ·have:=hnl.1;rw[h1] at this;omega
def TI.f (t:TI)(b:Nat)(c:Option (List EV)):Option (List EV):=upd (fun _=>c) t.s.bx.length t.n t.ws b
theorem Bb9 (bg:Nat→Option (List EV))(id:Nat)(n:Option (List EV))(b:Nat):∀(ws:List Wr),upd bg id n ws b=upd (fun _=>bg b) id n ws b:=by
 have hw:∀(ws:List Wr) (bg bg':Nat→Option (List EV)),bg b=bg' b→ws.foldl K6 bg b=ws.foldl K6 bg' b:=by
  intro ws
  induction ws with
  |nil=>intro bg bg' h;exact h
  |cons x r ih=>
   intro bg bg' h;simp only[List.foldl_cons];refine ih _ _ ?_;unfold K6;split
   ·rw[h]
   ·exact h
 intro ws;unfold upd O6;cases n with
 |none=>exact hw ws _ _ rfl
 |some cs=>
  simp only;split
  ·rfl
  ·exact hw ws _ _ rfl
theorem TI.As8 {t:TI}{b:Nat}{c:Option (List EV)}(h:b∉t.wrs):t.f b c=c:=by
 unfold TI.f upd O6;unfold TI.wrs at h;cases hn:t.n with
 |none=>
  rw[hn] at h;exact AZ4 _ _ _ fun x hx e=>h (List.mem_append_left _ (List.mem_map.2 ⟨x,hx,e⟩))
 |some cs=>
  rw[hn] at h;simp only[List.mem_cons,not_or] at h;simp only[if_neg h.1];exact AZ4 _ _ _ fun x hx e=>h.2 (List.mem_append_left _ (List.mem_map.2 ⟨x,hx,e⟩))
theorem Bc0 (t:TI)(o:Oper)(b:Nat):A4 (t.next o).bx b=t.f b (A4 t.s.bx b):=by
 have hfold:∀(ws:List Wr) (bx:List (Option (List EV))),(ws.foldl K8 bx).length=bx.length:=by
  intro ws
  induction ws with
  |nil=>intro bx;rfl
  |cons x r ih=>intro bx;simp only[List.foldl_cons];rw[ih];unfold K8;split <;> simp
 have hget:∀(ws:List Wr) (bx:List (Option (List EV))),A4 (ws.foldl K8 bx) b=ws.foldl K6 (fun _=>A4 bx b) b:=by
  intro ws
  induction ws with
  |nil=>intro bx;rfl
  |cons x r ih=>
   intro bx;simp only[List.foldl_cons];rw[ih];have hp:=Bb9 (K6 (fun _=>A4 bx b) x) 0 none b r
   unfold upd O6 at hp;simp only at hp;rw[hp];have key:A4 (K8 bx x) b=K6 (fun _=>A4 bx b) x b:=by
    unfold K8 K6;cases hx:A4 bx x.b with
    |none=>
     simp only;split
     ·rename_i e;rw[e,hx];rfl
     ·rfl
    |some cs=>
     simp only;split
     ·rename_i e
      subst e;rw[hx];simp only[Option.map_some];rw[N8] at hx ⊢;have:=(List.getElem?_eq_some_iff.1 hx).1;simp[this]
     ·rename_i e
      unfold A4;rw[List.getElem?_set_ne (fun h=>e h.symm)]
   rw[key]
 unfold TI.next Rg.next TI.f upd O6 AX3;cases hn:t.n with
 |none=>simp only;exact hget _ _
 |some cs=>
  simp only;split
  ·rename_i e
   subst e;rw[N8];rw[← hfold t.ws t.s.bx];simp
  ·rename_i e
   rw[← hget];unfold A4;by_cases hlt:b<(t.ws.foldl K8 t.s.bx).length
   ·rw[List.getElem?_append_left hlt]
   ·rw[List.getElem?_append_right (by omega),List.getElem?_eq_none (by rw[hfold] at hlt ⊢;simp;omega),List.getElem?_eq_none (by omega)]
def foldI (D:Nat→Bool):List TI→Nat→Nat→Option (List EV)→Option (List EV)
 | [],_,_,c=>c
 |t::ts,k,b,c=>foldI D ts (k+1) b (if D k then t.f b c else c)
theorem As9 {D:Nat→Bool}{b:Nat}:∀(ts:List TI) (k:Nat) (c:Option (List EV)),(∀(j:Nat) t,ts[j]? = some t→D (k+j)=true→b∉t.wrs)→foldI D ts k b c=c
 | [],_,_,_=>rfl
 |t::ts,k,c,h=>by
  simp only[foldI];have:(if D k then t.f b c else c)=c:=by
   split
   ·rename_i hd;exact TI.As8 (h 0 t rfl (by simpa using hd))
   ·rfl
  rw[this];exact As9 ts (k+1) c fun j t ht hd=>h (j+1) t (by simpa using ht) (by rw[show k+(j+1)=k+1+j by omega];exact hd)
theorem Ah7 {D D':Nat→Bool}{b:Nat}:∀(ts:List TI) (k:Nat) (c:Option (List EV)),(∀(j:Nat) t,ts[j]? = some t→b∈t.wrs→D (k+j)=D' (k+j))→foldI D ts k b c=foldI D' ts k b c
 | [],_,_,_=>rfl
 |t::ts,k,c,h=>by
  simp only[foldI];have:(if D k then t.f b c else c)=(if D' k then t.f b c else c):=by
   by_cases hb:b∈t.wrs
   ·have:=h 0 t rfl hb
    simp only[Nat.add_zero] at this;rw[this]
   ·rw[TI.As8 hb];simp
  rw[this];exact Ah7 ts (k+1) _ fun j t ht hb=>by rw[show k+1+j=k+(j+1) by omega];exact h (j+1) t (by simpa using ht) hb
def H6 (D:Nat→Bool)(i:Nat):Nat→Bool:=fun k=>if k=i then true else D k
theorem Bc1 {D:Nat→Bool}{b i:Nat}:∀(ts:List TI) (k:Nat) (c:Option (List EV)) (t:TI),k≤i→ts[i-k]? = some t→D i=false→(∀(j:Nat) u,i<k+j→ts[j]? = some u→D (k+j)=true→b∈u.wrs→b∉t.wrs)→
  t.f b (foldI D ts k b c)=foldI (H6 D i) ts k b c
 | [],k,c,t,_,ht,_,_=>by simp at ht
 |u::ts,k,c,t,hk,ht,hD,h=>by
  simp only[foldI];by_cases he:k=i
  ·subst he
   simp only[Nat.sub_self,List.getElem?_cons_zero,Option.some.injEq] at ht;subst ht;have e1:H6 D k k=true:=by simp[H6]
   rw[hD,e1];simp only[Bool.false_eq_true,if_false,if_true];have e2:∀c,foldI (H6 D k) ts (k+1) b c=foldI D ts (k+1) b c:=fun c=>Ah7 ts (k+1) c fun j t _ _=>by unfold H6;rw[if_neg (by omega)]
   rw[e2];by_cases hb:b∈u.wrs
   ·have hs:∀c,foldI D ts (k+1) b c=c:=fun c=>As9 ts (k+1) c fun j v hv hd hbv=>h (j+1) v (by omega) (by simpa using hv) (by rw[show k+(j+1)=k+1+j by omega];exact hd) hbv hb
    rw[hs,hs]
   ·rw[TI.As8 hb,TI.As8 hb]
  ·have e1:H6 D i k=D k:=by unfold H6;rw[if_neg he]
   rw[e1];exact Bc1 ts (k+1) _ t (by omega) (by rw[show i-k=i-(k+1)+1 by omega] at ht;simpa using ht) hD fun j v hj hv hd=>h (j+1) v (by omega) (by simpa using hv) (by rw[show k+(j+1)=k+1+j by omega];exact hd)
theorem D7.boxes:∀{l:List Oper} {s:Rg} {ts:List TI} {s':Rg},D7 P base l s ts s'→∀(k b:Nat),A4 s'.bx b=foldI (fun _=>true) ts k b (A4 s.bx b)
 | [],s,[],s',h,k,b=>by cases h;rfl
 |o::os,s,t::ts,s',h,k,b=>by obtain⟨h1,h2,h3⟩:=h;simp only[foldI,if_true];rw[D7.boxes h3 (k+1) b,Bc0,h1]
theorem D7.Bc2:∀{l:List Oper} {s:Rg} {ts:List TI} {s':Rg},D7 P base l s ts s'→∀(i:Nat) t (k b:Nat),ts[i]? = some t→A4 t.s.bx b=foldI (fun j=>decide (j<k+i)) ts k b (A4 s.bx b)
 | [],s,[],s',h,i,t,k,b,ht=>by simp at ht
 |o::os,s,u::ts,s',h,i,t,k,b,ht=>by
  obtain⟨h1,h2,h3⟩:=h;cases i with
  |zero=>
   simp at ht;subst ht;rw[h1];refine (As9 _ _ _ fun j v _ hd=> ?_).symm
   have:k+j<k+0:=by simpa using hd
   omega
  |succ i=>
   simp only[foldI];have hd:(if decide (k<k+(i+1))=true then u.f b (A4 s.bx b) else A4 s.bx b)=u.f b (A4 s.bx b):=if_pos (by simp)
   rw[hd,D7.Bc2 h3 i t (k+1) b (by simpa using ht),Bc0,h1]
   rw[show k+1+i=k+(i+1) by omega]
end
end Go.Proofs.YthfjpkdadjemcaaGreat

set_option linter.unusedSimpArgs false
set_option linter.unusedVariables false
namespace Go.Proofs.YthfjpkdadjemcaaGreat
def F3 (R:List Rec)(k:Nat):Option Nat:=match R[k]? with
 |some r=>r.dst
 |none=>none
theorem Ah8 (rs:List Rec)(u:Nat):∀(m:Nat),(∀j r,I6 rs u m=some (j,r)→j<m∧rs[j]? = some r∧r.dst=some u∧∀k,j<k→k<m→F3 rs k≠some u)∧
  (I6 rs u m=none→∀k,k<m→F3 rs k≠some u):=by
 intro m
 induction m with
 |zero=>exact ⟨fun j r h=>by simp[I6] at h,fun _ k hk=>by omega⟩
 |succ m ih=>
  obtain⟨ih1,ih2⟩:=ih;have skip:F3 rs m≠some u→I6 rs u (m+1)=I6 rs u m:=by
   intro hne;simp only[I6];unfold F3 at hne;cases hm:rs[m]? with
   |none=>rfl
   |some r=>
    rw[hm] at hne;simp only at hne ⊢;cases hd:r.dst with
    |none=>rfl
    |some d=>
     rw[hd] at hne;simp only;split
     ·rename_i hb;exact absurd (by rw[Nat.eq_of_beq_eq_true hb]) hne
     ·rfl
  by_cases hne:F3 rs m=some u
  ·have hhit:∃r,rs[m]? = some r∧r.dst=some u:=by
    unfold F3 at hne;cases hm:rs[m]? with
    |none=>rw [hm] at hne;cases hne
    |some r=>rw [hm] at hne;exact⟨r,rfl,hne⟩
   obtain⟨r,hr,hd⟩:=hhit;have:I6 rs u (m+1)=some (m,r):=by simp only[I6,hr,hd,Nat.beq_refl]
   rw[this];exact⟨fun j r' h=>by cases h;exact⟨by omega,hr,hd,fun k h1 h2=>by omega⟩,fun h=>by cases h⟩
  ·rw[skip hne]
   refine⟨fun j r h=> ?_,fun h k hk=> ?_⟩
   ·obtain⟨g1,g2,g3,g4⟩:=ih1 j r h
    exact⟨by omega,g2,g3,fun k h1 h2=>by
     by_cases e:k=m
     ·subst e;exact hne
     ·exact g4 k h1 (by omega)⟩
   ·by_cases e:k=m
    ·subst e;exact hne
    ·exact ih2 h k (by omega)
def Ah9 (D:Nat→Bool)(R:List Rec)(n u:Nat):Option Nat→Prop
 |some m=>m<n∧D m=true∧F3 R m=some u∧∀k,m<k→k<n→D k=true→F3 R k≠some u
 |none=>∀k,k<n→D k=true→F3 R k≠some u
def AZ9 (ow:Nat→A1)(bx:Bx)(w:World)(base:List EV)(R:List Rec)(n:Nat)(D:Nat→Bool)(a:Act):Prop:=
 ∀u,u<base.length→(∃m r,Ah9 D R n u (some m)∧R[m]? = some r∧(guardOf R r.ch≠some false→A0 ow bx w r.val (a.tmps.getD u undef))∧(guardOf R r.ch=some false→a.tmps.getD u undef=undef))∨
  (Ah9 D R n u none∧∀e,base[u]? = some e→A0 ow bx w e (a.tmps.getD u undef))
theorem Bc3 (rs more:List Rec)(j:Nat)(h:j<rs.length):W8 (rs++more) j=W8 rs j:=by unfold W8 recAt;rw[List.getElem?_append_left h]
def ChB (n:Nat)(ch:List (Nat×Bool)):Prop:=∀p∈ch,p.1<n
theorem Bc4 (rs more:List Rec):∀(ch:List (Nat×Bool)),ChB rs.length ch→chainB (rs++more) ch=chainB rs ch
 | [],_=>rfl
 | [(j,w)],h=>by
  have:=Bc3 rs more j (h (j,w) (by simp))
  cases w <;> simp[chainB,this]
 | (j,w)::p::r,h=>by
  have h1:=Bc3 rs more j (h (j,w) (by simp))
  have h2:=Bc4 rs more (p::r) (fun q hq=>h q (by simp[hq]))
  cases w <;> simp only[chainB,h1,h2]
theorem CU3 (rs more:List Rec)(ch:List (Nat×Bool))(h:ChB rs.length ch):guardOf (rs++more) ch=guardOf rs ch:=by
 unfold guardOf;cases ch with
 |nil=>rfl
 |cons p r=>simp only;rw[Bc4 rs more _ h]
def Aa0 (rs:List Rec)(p:Nat×Bool):Bool:=match p.2 with
 |true=>W8 rs p.1
 |false=> !W8 rs p.1
theorem BJ6 (rs:List Rec)(p:Nat×Bool)(r:List (Nat×Bool)):chainB rs (p::r)=(Aa0 rs p&&chainB rs r):=by
 obtain⟨j,w⟩:=p;cases r with
 |nil=>cases w <;> simp[chainB,Aa0]
 |cons q r=>cases w <;> simp[chainB,Aa0]
theorem BJ7 (rs:List Rec):∀(ch:List (Nat×Bool)),chainB rs ch=true↔∀p∈ch,Aa0 rs p=true
 | []=>by simp[chainB]
 |p::r=>by rw[BJ6,Bool.and_eq_true,BJ7 rs r];simp
theorem Bc5:∀(l:List (Nat×Bool)) (p:Nat×Bool),Ap0 p l=true→p∈l
 | [],_,h=>by cases h
 | (j,w)::r,p,h=>by
  simp only[Ap0,Bool.or_eq_true,Bool.and_eq_true,beq_iff_eq] at h;rcases h with⟨h1,h2⟩ | h
  ·have:=Nat.eq_of_beq_eq_true h1
   obtain⟨a,b⟩:=p;simp only at this h2;subst this h2;simp
  ·exact List.mem_cons_of_mem _ (Bc5 r p h)
theorem Bc6:∀(a b:List (Nat×Bool)),Ap1 a b=true→∀p∈a,p∈b
 | [],_,_,p,h=>by simp at h
 |q::r,b,h,p,hp=>by
  simp only[Ap1,Bool.and_eq_true] at h;rcases List.mem_cons.1 hp with rfl | hp
  ·exact Bc5 b p h.1
  ·exact Bc6 r b h.2 p hp
theorem guard_true {rs:List Rec}{ch:List (Nat×Bool)}:guardOf rs ch≠some false↔chainB rs ch=true:=by
 unfold guardOf;cases ch with
 |nil=>simp [chainB]
 |cons p r=>simp only;cases chainB rs (p::r) <;> simp
theorem guard_false {rs:List Rec}{ch:List (Nat×Bool)}:guardOf rs ch=some false↔chainB rs ch=false:=by
 unfold guardOf;cases ch with
 |nil=>simp [chainB]
 |cons p r=>simp
theorem Bc7 {rs:List Rec}{g:Option (Nat×Bool)}{ch:List (Nat×Bool)}(h:Ap2 rs g=some ch):(g=none∧ch=[])∨
  ∃j w r d b,g=some (j,w)∧rs[j]? = some r∧r.dst=some d∧r.val = .dat .bool b∧(∃r',I6 rs d rs.length=some (j,r'))∧ch=(j,w)::r.ch:=by
 unfold Ap2 at h;split at h
 ·cases h;exact .inl ⟨rfl,rfl⟩
 ·rename_i j w
  split at h
  ·rename_i r hr
   split at h
   ·rename_i d b hd hv
    split at h
    ·rename_i j' r' hl
     split at h
     ·rename_i hb
      cases h;have:=Nat.eq_of_beq_eq_true hb;subst this;exact .inr ⟨j,w,r,d,b,rfl,hr,hd,hv,⟨r',hl⟩,rfl⟩
     ·cases h
    ·cases h
   ·cases h
  ·cases h
theorem Bc8 {ow:Nat→A1}{bx:Bx}{w:World}(v:Value):A0 ow bx w (ofConst v) v:=by
 unfold ofConst;split
 ·split
  ·rename_i hf;exact P3 hf
  ·exact .undef _
 ·exact V3
 ·split
  ·rename_i hs
   have:=Nat.le_of_ble_eq_true hs;exact .dat ⟨rfl,by omega⟩
  ·exact .undef _
 ·exact .nil
 ·exact .undef _
section
variable {P:Program}{base:List EV}{ops:Array Oper}{s₀ s':Rg}{ts:List TI}{B:E9}{bg₀:Nat→Option (List EV)}
def Bc9 (D:Nat→Bool)(ts:List TI)(bx:Bx):Prop:=∀j,bx.dead j=true↔∃(i:Nat) (t:TI),ts[i]? = some t∧D i=true∧j∈t.k
def StD (B:E9)(base:List EV)(ts:List TI)(s':Rg)(bg₀:Nat→Option (List EV))(D:Nat→Bool)(a:Act)(w:World):Prop:=
 ∃ow bx,Inv B ow bx s'.bx.length (fun b=>foldI D ts 0 b (bg₀ b)) w∧AZ9 ow bx w base s'.rs ts.length D a∧a.tmps.size=base.length∧a.defers=[]∧Bc9 D ts bx∧∀(i:Nat) t,ts[i]? = some t→D i=true→∀p∈t.up,∃v,A0 ow bx w (.fre p.1 p.2.1 p.2.2) v
theorem AA4 (hL:D7 P base ops.toList s₀ ts s')(h0:s₀.rs=[]){i:Nat}{o:Oper}{t:TI}(ho:ops[i]? = some o)(ht:ts[i]? = some t):
  s'.rs[i]? = some ⟨o.dst,t.ch,t.v⟩∧t.s.rs.length=i∧∃more,s'.rs=t.s.rs++more:=by
 obtain⟨_,g2,⟨more,g3⟩,_⟩:=hL.at i o t (by simpa using ho) ht
 have hl:t.s.rs.length=i:=by rw[g2,h0];simp
 refine⟨?_,hl,_,g3⟩;rw[g3,List.getElem?_append_right (by omega),hl]
 simp
theorem CU4 (hL:D7 P base ops.toList s₀ ts s')(h0:s₀.rs=[]):∀(i:Nat) o t,ops[i]? = some o→ts[i]? = some t→ChB i t.ch:=by
 intro i
 induction i using Nat.strongRecOn with
 |_ i ih=>
  intro o t ho ht;obtain⟨g1,_⟩:=hL.at i o t (by simpa using ho) ht
  obtain⟨hr,hl,more,hm⟩:=AA4 hL h0 ho ht;rcases Bc7 g1.ch with⟨_,h⟩|⟨j,w,r,d,b,_,hj,_,_,_,h⟩
  ·rw[h];intro p hp;simp at hp
  ·have hji:j<i:=by rw[← hl];exact (List.getElem?_eq_some_iff.1 hj).1
   have hlen:=hL.length;have hin:i<ops.toList.length:=by have:=(Array.getElem?_eq_some_iff.1 ho).1;simpa using this
   obtain⟨oj,hoj⟩:∃oj,ops[j]? = some oj:=⟨_,Array.getElem?_eq_getElem (by simp at hin;omega)⟩
   obtain⟨tj,htj⟩:∃tj,ts[j]? = some tj:=⟨_,List.getElem?_eq_getElem (by rw[hlen];omega)⟩
   obtain⟨hrj,_⟩:=AA4 hL h0 hoj htj;have:s'.rs[j]? = some r:=by rw[hm,List.getElem?_append_left (by omega)];exact hj
   rw[hrj] at this;cases this;rw[h];intro p hp;rcases List.mem_cons.1 hp with rfl | hp
   ·exact hji
   ·have:=ih j hji oj tj hoj htj p hp
    omega
theorem Bd0 (hL:D7 P base ops.toList s₀ ts s')(h0:s₀.rs=[]){i:Nat}{o:Oper}{t:TI}(ho:ops[i]? = some o)(ht:ts[i]? = some t){D:Nat→Bool}{a:Act}{w:World}{ow:Nat→A1}{bx:Bx}
  (hS:AZ9 ow bx w base s'.rs ts.length D a) (hsz:a.tmps.size=base.length) {u:Nat} (hag:∀k,k<ts.length→F3 s'.rs k=some u→(D k=true↔k<i)) {ch:List (Nat×Bool)} (hch:chainB s'.rs ch=true):
  A0 ow bx w (u9 base t.s.rs ch u) (a.tmps.getD u undef):=by
 obtain⟨hr,hl,more,hm⟩:=AA4 hL h0 ho ht;have hlen:=hL.length;have hi:i<ts.length:=(List.getElem?_eq_some_iff.1 ht).1;have hdst:∀k,k<i→F3 t.s.rs k=F3 s'.rs k:=by intro k hk;unfold F3;rw[hm,List.getElem?_append_left (by omega)]
 obtain⟨sp1,sp2⟩:=Ah8 t.s.rs u t.s.rs.length;unfold u9;split
 ·rename_i j r hlr
  obtain⟨k1,k2,k3,k4⟩:=sp1 j r hlr;split
  ·rename_i hsub
   have hjR:s'.rs[j]? = some r:=by rw[hm,List.getElem?_append_left (by omega)];exact k2
   have hub:u<base.length:=by
    obtain⟨oj,hoj⟩:∃oj,ops[j]? = some oj:=⟨_,Array.getElem?_eq_getElem (by have:=hlen;simp at this;omega)⟩
    obtain⟨tj,htj⟩:∃tj,ts[j]? = some tj:=⟨_,List.getElem?_eq_getElem (by omega)⟩
    obtain⟨g1,_⟩:=hL.at j oj tj (by simpa using hoj) htj
    obtain⟨hrj,_⟩:=AA4 hL h0 hoj htj;rw[hjR] at hrj;cases hrj;have hd:=g1.dst;simp only at k3;rw[k3] at hd;exact Nat.le_of_ble_eq_true hd
   have hdj:F3 s'.rs j=some u:=by unfold F3;rw[hjR];exact k3
   have huniq:∀m,m<ts.length→D m=true→F3 s'.rs m=some u→m≤j:=by intro m h1 h2 h3;have hmi:=(hag m h1 h3).1 h2;apply Classical.byContradiction;intro hn;exact k4 m (by omega) (by omega) (by rw[hdst m hmi];exact h3)
   have hDj:D j=true:=(hag j (by omega) hdj).2 (by omega)
   rcases hS u hub with⟨m,r',⟨q1,q2,q3,q4⟩,q5,q6,q7⟩|⟨q1,_⟩
   ·have:m=j:=by
     have h1:=huniq m q1 q2 q3;apply Classical.byContradiction;intro hn;exact q4 j (by omega) (by omega) hDj hdj
    subst this;rw[hjR] at q5;cases q5;refine q6 (guard_true.2 ((BJ7 _ _).2 fun p hp=> ?_))
    exact (BJ7 _ _).1 hch p (Bc6 _ _ hsub p hp)
   ·exact absurd hdj (q1 j (by omega) hDj)
  ·exact .undef _
 ·rename_i hlr
  have hno:=sp2 hlr;split
  ·rename_i e he
   have hub:u<base.length:=(List.getElem?_eq_some_iff.1 he).1;rcases hS u hub with⟨m,r',⟨q1,q2,q3,q4⟩,_⟩|⟨_,q2⟩
   ·have hmi:=(hag m q1 q3).1 q2
    exact absurd (by rw[hdst m hmi];exact q3) (hno m (by omega))
   ·exact q2 e he
  ·exact .undef _
theorem CU5 (hL:D7 P base ops.toList s₀ ts s')(h0:s₀.rs=[]){i:Nat}{o:Oper}{t:TI}(ho:ops[i]? = some o)(ht:ts[i]? = some t){D:Nat→Bool}{a:Act}{w:World}{ow:Nat→A1}{bx:Bx}
  (hS:AZ9 ow bx w base s'.rs ts.length D a) (hsz:a.tmps.size=base.length) (hag:∀u∈o.looksAt ops,∀k,k<ts.length→F3 s'.rs k=some u→(D k=true↔k<i)) {ch:List (Nat×Bool)} (hch:chainB s'.rs ch=true):
  (hg:N6 ow w)→∀x,(∀u,x = .tmp u→u∈o.looksAt ops)→A0 ow bx w (AB7 base t.s.rs ch x) (a.eval x):=by
 intro hg x hx;cases x with
 |tmp u=>exact Bd0 hL h0 ho ht hS hsz (hag u (hx u rfl)) hch
 |const v=>exact Bc8 v
 |func f=>exact .clo (by simp) (by simp) (fun i e v he=>by simp at he) (fun i e v he=>by simp at he)
 |global g=>exact BY1 hg g
theorem Bd1 (hL:D7 P base ops.toList s₀ ts s')(h0:s₀.rs=[]){i:Nat}{o:Oper}{t:TI}(ho:ops[i]? = some o)(ht:ts[i]? = some t):guardOf s'.rs t.ch=guardOf t.s.rs t.ch:=by obtain⟨hr,hl,more,hm⟩:=AA4 hL h0 ho ht;rw[hm];exact CU3 _ _ _ (by rw[hl];exact CU4 hL h0 i o t ho ht)
theorem CU6 (hL:D7 P base ops.toList s₀ ts s')(h0:s₀.rs=[]){i:Nat}{o:Oper}{t:TI}(ho:ops[i]? = some o)(ht:ts[i]? = some t){D:Nat→Bool}{a:Act}{w:World}{ow:Nat→A1}{bx:Bx}
  (hS:AZ9 ow bx w base s'.rs ts.length D a) (hsz:a.tmps.size=base.length) (hag:∀u∈o.looksAt ops,∀k,k<ts.length→F3 s'.rs k=some u→(D k=true↔k<i)):
  Region.wanted o (yielded ops a.tmps)=chainB s'.rs t.ch:=by
 obtain⟨g1,_⟩:=hL.at i o t (by simpa using ho) ht
 obtain⟨hr,hl,more,hm⟩:=AA4 hL h0 ho ht;have hi:i<ts.length:=(List.getElem?_eq_some_iff.1 ht).1;rcases Bc7 g1.ch with⟨h1,h2⟩|⟨j,wt,r,d,b,h1,h2,h3,h4,⟨r',h5⟩,h6⟩
 ·rw[h2];unfold Region.wanted;rw[h1];rfl
 ·have hji:j<i:=by rw[← hl];exact (List.getElem?_eq_some_iff.1 h2).1
  have hlen:=hL.length;obtain⟨oj,hoj⟩:∃oj,ops[j]? = some oj:=⟨_,Array.getElem?_eq_getElem (by simp at hlen;omega)⟩
  obtain⟨tj,htj⟩:∃tj,ts[j]? = some tj:=⟨_,List.getElem?_eq_getElem (by omega)⟩
  obtain⟨gj,_⟩:=hL.at j oj tj (by simpa using hoj) htj
  obtain⟨hrj,_⟩:=AA4 hL h0 hoj htj;have hjR:s'.rs[j]? = some r:=by rw[hm,List.getElem?_append_left (by omega)];exact h2
  have hjR':=hjR;rw[hrj] at hjR;cases hjR;simp only at h3 h4;have hlook:d∈o.looksAt ops:=by unfold Oper.looksAt;rw[h1];simp[hoj,h3]
  have hub:d<base.length:=by have hd:=gj.dst;rw[h3] at hd;exact Nat.le_of_ble_eq_true hd
  have hdj:F3 s'.rs j=some d:=by unfold F3;rw[hrj];exact h3
  have hDj:D j=true:=(hag d hlook j (by omega) hdj).2 hji
  have hlast:∀k,j<k→k<i→F3 s'.rs k≠some d:=by
   intro k k1 k2;obtain⟨_,_,_,q⟩:=(Ah8 t.s.rs d t.s.rs.length).1 j r' h5;have:=q k k1 (by omega)
   unfold F3 at this ⊢;rw[hm,List.getElem?_append_left (by omega)]
   exact this
  have hbool:W8 s'.rs j=b:=by unfold W8 recAt;rw[hrj];simp[h4]
  have hyl:yielded ops a.tmps j=match a.tmps[d]? with
    |some (.bool b)=>some b
    |_=>none:=by
   unfold yielded;simp[hoj,h3];rfl
  have hget:a.tmps[d]? = some (a.tmps.getD d undef):=by
   have:d<a.tmps.size:=by omega
   simp[this]
  rw[h6,BJ6];unfold Region.wanted;rw[h1];simp only;rw[hyl,hget];rcases hS d hub with⟨m,rm,⟨q1,q2,q3,q4⟩,q5,q6,q7⟩|⟨q1,_⟩
  ·have:m=j:=by
    have hmi:=(hag d hlook m q1 q3).1 q2;apply Classical.byContradiction;intro hn;by_cases hlt:m<j
    ·exact q4 j hlt (by omega) hDj hdj
    ·exact hlast m (by omega) hmi q3
   subst this;rw[hrj] at q5;cases q5;cases hc:chainB s'.rs tj.ch with
   |true=>
    have hv:=q6 (guard_true.2 hc);rw[h4] at hv;rw[Ag8 hv];unfold Aa0;simp only[hbool,Bool.and_true];cases wt <;> cases b <;> rfl
   |false=>
    rw[q7 (guard_false.2 hc)];simp[undef]
  ·exact absurd hdj (q1 j (by omega) hDj)
theorem CU7 (hL:D7 P base ops.toList s₀ ts s')(h0:s₀.rs=[]){i:Nat}{o:Oper}{t:TI}(ho:ops[i]? = some o)(ht:ts[i]? = some t){D:Nat→Bool}{a:Act}{w:World}{ow:Nat→A1}{bx:Bx}
  (hS:AZ9 ow bx w base s'.rs ts.length D a) (hsz:a.tmps.size=base.length) (hag:∀u∈o.looksAt ops,∀k,k<ts.length→F3 s'.rs k=some u→(D k=true↔k<i)) (hch:chainB s'.rs t.ch=true) (hg:N6 ow w):
  F7 ow bx w (M0 base t.s.rs t.ch o.op) a.eval o.op:=by
 obtain⟨hr,hl,more,hm⟩:=AA4 hL h0 ho ht;have hlook:∀x∈o.op.operands,∀u,x = .tmp u→u∈o.looksAt ops:=by intro x hx u he;subst he;unfold Oper.looksAt;exact List.mem_append_left _ (List.mem_filterMap.2 ⟨.tmp u,by simpa using hx,rfl⟩)
 have usual:∀x∈o.op.operands,A0 ow bx w (AB7 base t.s.rs t.ch x) (a.eval x):=fun x hx=>CU5 hL h0 ho ht hS hsz hag hch hg x (hlook x hx)
 unfold F7;split
 ·rename_i c x y hop
  rw[hop] at usual hlook;rw[hop];cases c with
  |tmp cu=>
   cases hlr:I6 t.s.rs cu t.s.rs.length with
   |none=>
    unfold M0;simp only[hlr];exact⟨usual (.tmp cu) (by simp[Op.operands]),fun b _=>⟨fun _=>usual x (by simp[Op.operands]),fun _=>usual y (by simp[Op.operands])⟩⟩
   |some jr=>
    obtain⟨j,rj⟩:=jr;have hcs:A0 ow bx w (u9 base t.s.rs t.ch cu) (a.eval (.tmp cu)):=usual (.tmp cu) (by simp[Op.operands])
    obtain⟨k1,k2,k3,k4⟩:=(Ah8 t.s.rs cu t.s.rs.length).1 j rj hlr;have hA:M0 base t.s.rs t.ch (.pick (.tmp cu) x y) (.tmp cu)=u9 base t.s.rs t.ch cu:=by unfold M0;simp only[hlr,Nat.beq_refl]
    refine⟨by rw[hA];exact hcs,fun b hb=> ?_⟩
    rw[hA] at hb;have hbj:W8 s'.rs j=b:=by
     unfold u9 at hb;rw[hlr] at hb;simp only at hb;split at hb
     ·unfold W8 recAt
      rw[hm,List.getElem?_append_left k1,k2];simp[hb]
     ·cases hb
    have look:∀(v:Operand) (wt:Bool),v∈o.op.operands→b=wt→∀u,v = .tmp u→A0 ow bx w (u9 base t.s.rs ((j,wt)::t.ch) u) (a.eval (.tmp u)):=by
     intro v wt hv hbw u hu;refine Bd0 hL h0 ho ht hS hsz (hag u (by rw[hop] at hv;exact hlook v hv u hu)) ?_
     rw[BJ6,hch,Bool.and_true];unfold Aa0;simp only[hbj,hbw];cases wt <;> rfl
    have opx:∀(v:Operand) (wt:Bool),v∈o.op.operands→b=wt→(x=v∧wt=true∨y=v∧wt=false)→A0 ow bx w (M0 base t.s.rs t.ch (.pick (.tmp cu) x y) v) (a.eval v):=by
     intro v wt hv hbw hxy;unfold M0;simp only[hlr];cases v with
     |tmp u=>
      simp only;split
      ·exact usual (.tmp u) (by rw[hop] at hv;exact hv)
      ·split
       ·rename_i t'' cc
        split
        ·rename_i hb2
         have:=Nat.eq_of_beq_eq_true hb2;subst this;rcases hxy with⟨_,hw⟩|⟨h,_⟩
         ·subst hw;exact look _ true hv hbw u rfl
         ·cases h
        ·exact .undef _
       ·rename_i cc t''
        split
        ·rename_i hb2
         have:=Nat.eq_of_beq_eq_true hb2;subst this;rcases hxy with⟨h,_⟩|⟨_,hw⟩
         ·cases h
         ·subst hw;exact look _ false hv hbw u rfl
        ·exact .undef _
       ·exact .undef _
     |const cc=>exact usual (.const cc) (by rw[hop] at hv;exact hv)
     |global gg=>exact usual (.global gg) (by rw[hop] at hv;exact hv)
     |func ff=>exact usual (.func ff) (by rw[hop] at hv;exact hv)
    exact⟨fun ht=>opx x true (by rw[hop];simp[Op.operands]) ht (.inl ⟨rfl,rfl⟩),fun hf=>opx y false (by rw[hop];simp[Op.operands]) hf (.inr ⟨rfl,rfl⟩)⟩
  |const v=>exact ⟨usual (.const v) (by simp[Op.operands]),fun b _=>⟨fun _=>usual x (by simp[Op.operands]),fun _=>usual y (by simp[Op.operands])⟩⟩
  |global g=>exact ⟨usual (.global g) (by simp[Op.operands]),fun b _=>⟨fun _=>usual x (by simp[Op.operands]),fun _=>usual y (by simp[Op.operands])⟩⟩
  |func f=>exact ⟨usual (.func f) (by simp[Op.operands]),fun b _=>⟨fun _=>usual x (by simp[Op.operands]),fun _=>usual y (by simp[Op.operands])⟩⟩
 ·rename_i hnp
  have:M0 base t.s.rs t.ch o.op=AB7 base t.s.rs t.ch:=by
   unfold M0;split
   ·rename_i c a b hop
    exact absurd hop (hnp _ _ _)
   ·rfl
  rw[this];exact usual
end
end Go.Proofs.YthfjpkdadjemcaaGreat

set_option linter.unusedSimpArgs false
set_option linter.unusedVariables false
namespace Go.Proofs.YthfjpkdadjemcaaGreat
section
variable {P:Program}{base:List EV}{ops:Array Oper}{s₀ s':Rg}{ts:List TI}{B:E9}
theorem Bd2 (t:TI)(o:Oper):t.s.bx.length≤(t.next o).bx.length∧(t.n.isSome=true→t.s.bx.length<(t.next o).bx.length):=by
 have hfold:∀(ws:List Wr) (bx:List (Option (List EV))),(ws.foldl K8 bx).length=bx.length:=by
  intro ws
  induction ws with
  |nil=>intro bx;rfl
  |cons x r ih=>intro bx;simp only[List.foldl_cons];rw[ih];unfold K8;split <;> simp
 unfold TI.next Rg.next AX3;cases t.n <;> simp[hfold]
theorem D7.mono:∀{l:List Oper} {s:Rg} {ts:List TI} {s':Rg},D7 P base l s ts s'→∀(i k:Nat) t u,i<k→ts[i]? = some t→ts[k]? = some u→
  t.s.bx.length≤u.s.bx.length∧(t.n.isSome=true→t.s.bx.length<u.s.bx.length)
 | [],s,[],s',h,i,k,t,u,_,ht,_=>by simp at ht
 |o::os,s,t0::ts,s',h,i,k,t,u,hik,ht,hu=>by
  obtain⟨h1,h2,h3⟩:=h;cases k with
  |zero=>omega
  |succ k=>
   cases i with
   |zero=>
    simp at ht;subst ht;have hu':ts[k]? = some u:=by simpa using hu
    have hk:k<os.length:=by rw[← h3.length];exact (List.getElem?_eq_some_iff.1 hu').1
    obtain⟨_,_,_,_,_,_,_,g8⟩:=h3.at k _ u (List.getElem?_eq_getElem hk) hu';have:=Bd2 t0 o;exact⟨by omega,fun h=>by have:=this.2 h;omega⟩
   |succ i=>exact D7.mono h3 i k t u (by omega) (by simpa using ht) (by simpa using hu)
theorem D7.Aa1:∀{l:List Oper} {s:Rg} {ts:List TI} {s':Rg},D7 P base l s ts s'→(∀a∈s.dead,a∈s'.dead)∧(∀(i:Nat) t,ts[i]? = some t→∀a∈s.dead,a∈t.s.dead)∧
  (∀a∈s'.dead,a∈s.dead∨∃(i:Nat) (t:TI),ts[i]? = some t∧a∈t.k)∧∀(i:Nat) t,ts[i]? = some t→∀a∈t.k,a∈s'.dead
 | [],s,[],s',h=>by cases h;exact⟨fun a h=>h,fun i t ht=>by simp at ht,fun a h=>.inl h,fun i t ht=>by simp at ht⟩
 |o::os,s,t0::ts,s',h=>by
  obtain⟨h1,h2,h3⟩:=h;obtain⟨g1,g2,g3,g4⟩:=D7.Aa1 h3;subst h1;have hsub:∀a∈t0.s.dead,a∈(t0.next o).dead:=by intro a ha;unfold TI.next Rg.next;simp[ha]
  have hkill:∀a∈t0.k,a∈(t0.next o).dead:=by intro a ha;unfold TI.next Rg.next;simp[ha]
  refine⟨fun a ha=>g1 a (hsub a ha),fun i t ht a ha=> ?_,fun a ha=> ?_,fun i t ht a ha=> ?_⟩
  ·cases i with
   |zero=>simp at ht;subst ht;exact ha
   |succ i=>exact g2 i t (by simpa using ht) a (hsub a ha)
  ·rcases g3 a ha with h |⟨i,t,ht,hk⟩
   ·unfold TI.next Rg.next at h
    simp only[List.mem_append] at h;rcases h with h | h
    ·exact .inr ⟨0,t0,rfl,h⟩
    ·exact .inl h
   ·exact .inr ⟨i+1,t,by simpa using ht,hk⟩
  ·cases i with
   |zero=>simp at ht;subst ht;exact g1 a (hkill a ha)
   |succ i=>exact g4 i t (by simpa using ht) a ha
theorem D7.Bd3:∀{l:List Oper} {s:Rg} {ts:List TI} {s':Rg},D7 P base l s ts s'→∀(i k:Nat) t u a,i<k→ts[i]? = some t→ts[k]? = some u→a∈t.k→a∈u.s.dead
 | [],s,[],s',h,i,k,t,u,a,_,ht,_,_=>by simp at ht
 |o::os,s,t0::ts,s',h,i,k,t,u,a,hik,ht,hu,hta=>by
  obtain⟨h1,h2,h3⟩:=h;cases k with
  |zero=>omega
  |succ k=>
   have hu':ts[k]? = some u:=by simpa using hu
   cases i with
   |zero=>
    simp at ht;subst ht;refine h3.Aa1.2.1 k u hu' a ?_;unfold TI.next Rg.next;simp[hta]
   |succ i=>exact D7.Bd3 h3 i k t u a (by omega) (by simpa using ht) hu' hta
theorem D7.once:∀{l:List Oper} {s:Rg} {ts:List TI} {s':Rg},D7 P base l s ts s'→∀(i k:Nat) t u a,i<k→ts[i]? = some t→ts[k]? = some u→a∈t.k→a∉u.k
 | [],s,[],s',h,i,k,t,u,a,_,ht,_,_=>by simp at ht
 |o::os,s,t0::ts,s',h,i,k,t,u,a,hik,ht,hu,hta=>by
  obtain⟨h1,h2,h3⟩:=h;cases k with
  |zero=>omega
  |succ k=>
   have hu':ts[k]? = some u:=by simpa using hu
   cases i with
   |zero=>
    simp at ht;subst ht;have hk:k<os.length:=by rw[← h3.length];exact (List.getElem?_eq_some_iff.1 hu').1
    obtain⟨g1,_⟩:=h3.at k _ u (List.getElem?_eq_getElem hk) hu';intro hua;refine g1.fresh a hua (h3.Aa1.2.1 k u hu' a ?_);unfold TI.next Rg.next;simp[hta]
   |succ i=>exact D7.once h3 i k t u a (by omega) (by simpa using ht) hu' hta
theorem Bd4 {D:Nat→Bool}{b:Nat}:∀(ts:List TI) (k:Nat),(∀(j:Nat) t,ts[j]? = some t→D (k+j)=true→t.n.isSome=true→t.s.bx.length≠b)→foldI D ts k b none=none
 | [],_,_=>rfl
 |t::ts,k,h=>by
  simp only[foldI];have:(if D k then t.f b none else none)=none:=by
   split
   ·rename_i hd
    unfold TI.f upd O6;have hw:∀(ws:List Wr),ws.foldl K6 (fun _=>none) b=none:=by
     intro ws;have:=AZ5 ws (fun _=>none) b
     simpa using this
    cases hn:t.n with
    |none=>exact hw _
    |some cs=>
     simp only;rw[if_neg (fun e=>h 0 t rfl (by simpa using hd) (by rw[hn];rfl) e.symm)]
     exact hw _
   ·rfl
  rw[this];exact Bd4 ts (k+1) fun j t ht hd=>h (j+1) t (by simpa using ht) (by rw[show k+(j+1)=k+1+j by omega];exact hd)
theorem Ah9.add {D:Nat→Bool}{R:List Rec}{n u i:Nat}{m:Option Nat}(hi:F3 R i≠some u)(h:Ah9 D R n u m):Ah9 (H6 D i) R n u m:=by
 have hadd:∀k,H6 D i k=true→k=i∨D k=true:=by
  intro k hk;unfold H6 at hk;split at hk
  ·rename_i e;exact .inl e
  ·exact .inr hk
 cases m with
 |none=>
  intro k h1 h2;rcases hadd k h2 with rfl | h2
  ·exact hi
  ·exact h k h1 h2
 |some m=>
  obtain⟨h1,h2,h3,h4⟩:=h;refine⟨h1,by unfold H6;split <;> simp_all,h3,fun k k1 k2 k3=> ?_⟩
  rcases hadd k k3 with rfl | k3
  ·exact hi
  ·exact h4 k k1 k2 k3
theorem Bd5 (hL:D7 P base ops.toList s₀ ts s')(h0:s₀.rs=[]){i:Nat}{o:Oper}{t:TI}(ho:ops[i]? = some o)(ht:ts[i]? = some t){D:Nat→Bool}(hD:D i=false)
  (hagS:∀u∈o.looksAt ops,∀k,k<ts.length→F3 s'.rs k=some u→(D k=true↔k<i))
  (hagB:∀b∈t.tr,∀(k:Nat) u,ts[k]? = some u→b∈u.wrs→(D k=true↔k<i))
  (hpostS:∀k,i<k→k<ts.length→D k=true→∀u,F3 s'.rs k=some u→o.dst≠some u)
  (hpostB:∀(k:Nat) u,i<k→ts[k]? = some u→D k=true→∀b∈u.wrs,b∉t.wrs)
  {a:Act} {w:World} (hst:StD B base ts s' (A4 s₀.bx) D a w) {K:Act→World→Prop} {Q:Exit→Act→World→Prop} (hK:∀a' w',StD B base ts s' (A4 s₀.bx) (H6 D i) a' w'→K a' w'):
  wpOp P ops Q i K a w:=by
 obtain⟨ow,bx,hinv,hS,hsz,hdef,hdead,hwit⟩:=hst;have hfresh:∀k∈t.k,bx.dead k=false:=by
  intro k hk;cases hb:bx.dead k with
  |false=>rfl
  |true=>
   obtain⟨j,u,hj,hDj,huk⟩:=(hdead k).1 hb;rcases Nat.lt_trichotomy j i with h | h | h
   ·exact absurd hk (hL.once j i u t k h hj ht huk)
   ·subst h;rw[hD] at hDj;cases hDj
   ·exact absurd huk (hL.once i j t u k h ht hj hk)
 have hused:∀k∈t.us,bx.dead k=false:=by
  intro k hk;obtain⟨g1,_⟩:=hL.at i o t (by simpa using ho) ht
  obtain⟨u1,u2⟩:=g1.used k hk;cases hb:bx.dead k with
  |false=>rfl
  |true=>
   obtain⟨j,u,hj,hDj,huk⟩:=(hdead k).1 hb;have hw:k+AI6∈u.wrs:=by
    unfold TI.wrs;cases u.n with
    |none=>exact List.mem_append_right _ (List.mem_map.2 ⟨k,huk,rfl⟩)
    |some cs=>exact List.mem_cons_of_mem _ (List.mem_append_right _ (List.mem_map.2 ⟨k,huk,rfl⟩))
   have hji:=(hagB _ u1 j u hj hw).1 hDj;exact absurd (hL.Bd3 j i u t k hji hj ht huk) u2
 have hwits:∀{ow':Nat→A1} {bx':Bx} {w':World},E4 ow bx w ow' bx' w'→(∀p∈t.up,∃v,A0 ow' bx' w' (.fre p.1 p.2.1 p.2.2) v)→
   ∀(j:Nat) u,ts[j]? = some u→H6 D i j=true→∀p∈u.up,∃v,A0 ow' bx' w' (.fre p.1 p.2.1 p.2.2) v:=by
  intro ow' bx' w' hk hnew j u hj hd p hp;unfold H6 at hd;split at hd
  ·rename_i e
   subst e;rw[ht] at hj;cases hj;exact hnew p hp
  ·obtain⟨v,hv⟩:=hwit j u hj hd p hp
   exact⟨v,hv.keep hk⟩
 have hadd:∀{bx':Bx},(∀j,bx'.dead j=(bx.dead j||F6 t.k j))→Bc9 (H6 D i) ts bx':=by
  intro bx' hb j;rw[hb,Bool.or_eq_true];constructor
  ·rintro (h | h)
   ·obtain⟨m,u,h1,h2,h3⟩:=(hdead j).1 h
    exact⟨m,u,h1,by unfold H6;split <;> simp_all,h3⟩
   ·refine⟨i,t,ht,by simp[H6],?_⟩
    unfold F6 at h;rw[List.any_eq_true] at h;obtain⟨k,hk,hkj⟩:=h;rw[← Nat.eq_of_beq_eq_true hkj];exact hk
  ·rintro⟨m,u,h1,h2,h3⟩
   unfold H6 at h2;split at h2
   ·rename_i e
    subst e;rw[ht] at h1;cases h1
    right
    unfold F6;rw[List.any_eq_true];exact⟨j,h3,Nat.beq_refl j⟩
   ·exact .inl ((hdead j).2 ⟨m,u,h1,h2,h3⟩)
 obtain⟨g1,_,_,_,_,g6,g7,g8⟩:=hL.at i o t (by simpa using ho) ht
 obtain⟨hr,hl,more,hm⟩:=AA4 hL h0 ho ht;have hi:i<ts.length:=(List.getElem?_eq_some_iff.1 ht).1;have hwant:=CU6 (w:=w) hL h0 ho ht hS hsz hagS;have hdsti:F3 s'.rs i=o.dst:=by unfold F3;rw[hr]
 have hboxes:∀b,upd (fun b=>foldI D ts 0 b (A4 s₀.bx b)) t.s.bx.length t.n t.ws b=foldI (H6 D i) ts 0 b (A4 s₀.bx b):=by intro b;rw[Bb9];exact Bc1 ts 0 _ t (Nat.zero_le _) (by simpa using ht) hD fun j u hj hu hd hb=>hpostB j u (by omega) hu (by simpa using hd) b hb
 have C6:∀{ow' bx' w'} (u:Value),E4 ow bx w ow' bx' w'→(chainB s'.rs t.ch=true→A0 ow' bx' w' t.v u)→(chainB s'.rs t.ch=false→u=undef)→
   AZ9 ow' bx' w' base s'.rs ts.length (H6 D i) (a.put o.dst u)∧(a.put o.dst u).tmps.size=base.length∧(a.put o.dst u).defers=[]:=by
  intro ow' bx' w' u hk hu1 hu2;refine⟨fun x hx=> ?_,?_,?_⟩
  ·by_cases hox:o.dst=some x
   ·refine .inl ⟨i,_,⟨hi,by simp[H6],by rw[hdsti];exact hox,fun k k1 k2 k3 hk'=> ?_⟩,hr,fun hg=> ?_,fun hg=> ?_⟩
    ·have:D k=true:=by unfold H6 at k3;rw[if_neg (by omega)] at k3;exact k3
     exact hpostS k k1 k2 this x hk' hox
    ·have:(a.put o.dst u).tmps.getD x undef=u:=by
      rw[hox];unfold Act.put;have:x<a.tmps.size:=by omega
      simp[this]
     rw[this];exact hu1 (guard_true.1 hg)
    ·have:(a.put o.dst u).tmps.getD x undef=u:=by
      rw[hox];unfold Act.put;have:x<a.tmps.size:=by omega
      simp[this]
     rw[this];exact hu2 (guard_false.1 hg)
   ·have hne:F3 s'.rs i≠some x:=by rw[hdsti];exact hox
    have hget:(a.put o.dst u).tmps.getD x undef=a.tmps.getD x undef:=by
     cases hd:o.dst with
     |none=>rfl
     |some d=>
      have:d≠x:=fun e=>hox (by rw[hd,e])
      unfold Act.put;simp[Array.getElem?_setIfInBounds_ne this]
    rw[hget];rcases hS x hx with⟨m,r,q1,q2,q3,q4⟩|⟨q1,q2⟩
    ·exact .inl ⟨m,r,q1.add hne,q2,fun hg=>(q3 hg).keep hk,q4⟩
    ·exact .inr ⟨q1.add hne,fun e he=>(q2 e he).keep hk⟩
  ·unfold Act.put;cases o.dst <;> simp[hsz]
  ·unfold Act.put;cases o.dst <;> simp[hdef]
 unfold wpOp;simp only[ho,hwant];cases hc:chainB s'.rs t.ch with
 |false=>
  simp only[Bool.false_eq_true,if_false];have hne:guardOf t.s.rs t.ch=some false:=by rw[← Bd1 hL h0 ho ht];exact guard_false.2 hc
  obtain⟨q1,q2⟩:=g1.quiet hne;obtain⟨k1,k2,k3⟩:=C6 undef (E4.refl _ _ _) (fun h=>by rw[hc] at h;cases h) (fun _=>rfl)
  refine hK _ _ ⟨ow,bx,?_,k1,k2,k3,hadd fun j=>by rw[g1.CU2 hne];simp[F6],hwits (E4.refl _ _ _) fun p hp=>by rw[g1.upq hne] at hp;cases hp⟩
  have:(fun b=>foldI (H6 D i) ts 0 b (A4 s₀.bx b))=fun b=>foldI D ts 0 b (A4 s₀.bx b):=by funext b;rw[← hboxes b,q1,q2];rfl
  rw[this];exact hinv
 |true=>
  simp only[if_true];refine .inl ?_;have hgf:guardOf t.s.rs t.ch≠some false:=by rw[← Bd1 hL h0 ho ht];exact guard_true.2 hc
  refine g1.go hgf B ow bx s'.bx.length _ w a hinv (CU7 hL h0 ho ht hS hsz hagS hc hinv.AY4) (fun b hb=> ?_) (fun hn=>⟨?_,g7 hn⟩) hfresh hused K Q fun u ow' bx' w' hk hu hinv' hdd hup=> ?_
  ·rw[hL.Bc2 i t 0 b ht]
   refine Ah7 ts 0 _ fun j v hv hbv=> ?_
   have:=hagB b hb j v hv hbv;rw[Nat.zero_add,Nat.zero_add];cases hdj:D j with
   |true=>exact (decide_eq_true (this.1 hdj)).symm
   |false=>
    have:¬j<i:=fun h=>by have:=this.2 h;rw[hdj] at this;cases this
    exact (decide_eq_false this).symm
  ·have:A4 s₀.bx t.s.bx.length=none:=by
    unfold A4;rw[List.getElem?_eq_none (by omega)]
   rw[this];refine Bd4 ts 0 fun j v hv hd hvn=> ?_
   rw[Nat.zero_add] at hd;have hji:j≠i:=fun e=>by rw[e,hD] at hd;cases hd
   by_cases hlt:j<i
   ·have:=(hL.mono j i v t hlt hv ht).2 hvn
    omega
   ·have:=(hL.mono i j t v (by omega) ht hv).2 hn
    omega
  ·obtain⟨k1,k2,k3⟩:=C6 u hk (fun _=>hu) (fun h=>by rw[hc] at h;cases h)
   refine hK _ _ ⟨ow',bx',?_,k1,k2,k3,hadd hdd,hwits hk hup⟩;have:(fun b=>foldI (H6 D i) ts 0 b (A4 s₀.bx b))=upd (fun b=>foldI D ts 0 b (A4 s₀.bx b)) t.s.bx.length t.n t.ws:=by funext b;rw[← hboxes b]
   rw[this];exact hinv'
theorem CU8 (hL:D7 P base ops.toList s₀ ts s')(h0:s₀.rs=[]){Q:Exit→Act→World→Prop}(hQ:∀a w,StD B base ts s' (A4 s₀.bx) (fun k=>decide (k<ts.length)) a w→Q .normal a w):
  ∀(m i:Nat) (a:Act) (w:World),i+m=ts.length→StD B base ts s' (A4 s₀.bx) (fun k=>decide (k<i)) a w→wpOps P ops Q (List.range' i m) a w:=by
 intro m
 induction m with
 |zero=>
  intro i a w hi hst;simp only[Nat.add_zero] at hi;subst hi;exact hQ a w hst
 |succ m ih=>
  intro i a w hi hst;rw[List.range'_succ,wpOps_cons];have hlen:=hL.length;obtain⟨o,ho⟩:∃o,ops[i]? = some o:=⟨_,Array.getElem?_eq_getElem (by simp at hlen;omega)⟩
  obtain⟨t,ht⟩:∃t,ts[i]? = some t:=⟨_,List.getElem?_eq_getElem (by omega)⟩
  refine Bd5 hL h0 ho ht (by simp) (fun u hu k hk hd=>by simp) (fun b hb k u hu hbu=>by simp) (fun k h1 h2 h3=>by simp at h3;omega) (fun k u h1 h2 h3=>by simp at h3;omega) hst fun a' w' hst'=> ?_
  refine ih (i+1) a' w' (by omega) ?_
  have:(fun k=>decide (k<i+1))=H6 (fun k=>decide (k<i)) i:=by
   funext k;unfold H6;by_cases hk:k=i
   ·simp[hk]
   ·rw[if_neg hk]
    congr 1;exact propext ⟨fun h=>by omega,fun h=>by omega⟩
  rw[this];exact hst'
end
end Go.Proofs.YthfjpkdadjemcaaGreat

set_option linter.unusedSimpArgs false
set_option linter.unusedVariables false
namespace Go.Proofs.YthfjpkdadjemcaaGreat
def BJ8 (ops:Array Oper)(D:Nat→Bool):Prop:=∀(k:Nat) o,ops[k]? = some o→D k=true→∀e∈o.after,Region.binds .any e=true→D e.on=true
theorem Bd6 {acc:Array Nat}{i:Nat}:∀(l:List Edge) (s:Nat),(l.foldl (fun s e=>if Region.binds .any e then s ||| 2 ^ e.on ||| acc.getD e.on 0 else s) s).testBit i=true→
  s.testBit i=true∨∃e∈l,Region.binds .any e=true∧(e.on=i∨(acc.getD e.on 0).testBit i=true)
 | [],s,h=>.inl h
 |e::r,s,h=>by
  simp only[List.foldl_cons] at h;rcases Bd6 r _ h with h |⟨e',h1,h2,h3⟩
  ·split at h
   ·rename_i hb
    rw[Nat.testBit_or,Nat.testBit_or] at h;simp only[Bool.or_eq_true] at h;rcases h with (h | h) | h
    ·exact .inl h
    ·refine .inr ⟨e,by simp,hb,.inl ?_⟩
     rw[Nat.testBit_two_pow] at h;simpa using h
    ·exact .inr ⟨e,by simp,hb,.inr h⟩
   ·exact .inl h
  ·exact .inr ⟨e',by simp[h1],h2,h3⟩
theorem Bd7 {ops:Array Oper}{D:Nat→Bool}(hC:BJ8 ops D):∀(k i:Nat),((Region.before ops).getD k 0).testBit i=true→D k=true→D i=true:=by
 have key:∀(l:List Oper) (acc:Array Nat) (pre:Nat),acc.size=pre→(∀(j:Nat) o,l[j]? = some o→ops[pre+j]? = some o)→
   (∀k i,(acc.getD k 0).testBit i=true→D k=true→D i=true)→
   ∀k i,((l.foldl (fun acc o=>acc.push (o.after.foldl (fun s e=>if Region.binds .any e then s ||| 2 ^ e.on ||| acc.getD e.on 0 else s) 0)) acc).getD k 0).testBit i=true→D k=true→D i=true:=by
  intro l
  induction l with
  |nil=>intro acc pre _ _ h k i;exact h k i
  |cons o r ih=>
   intro acc pre hs hl h k i;simp only[List.foldl_cons];refine ih _ (pre+1) (by simp[hs]) (fun j o' hj=>by have:=hl (j+1) o' (by simpa using hj);rwa [show pre+(j+1)=pre+1+j by omega] at this) (fun k i hb hd=> ?_) k i
   by_cases hk:k=pre
   ·subst hk
    have hg:(acc.push (o.after.foldl (fun s e=>if Region.binds .any e then s ||| 2 ^ e.on ||| acc.getD e.on 0 else s) 0)).getD k 0=o.after.foldl (fun s e=>if Region.binds .any e then s ||| 2 ^ e.on ||| acc.getD e.on 0 else s) 0:=by simp[Array.getD,← hs]
    rw[hg,← Array.foldl_toList] at hb;rcases Bd6 _ _ hb with hb |⟨e,he,hbind,hb⟩
    ·simp at hb
    ·have hde:=hC k o (by have:=hl 0 o rfl;simpa using this) hd e (by simpa using he) hbind
     rcases hb with hb | hb
     ·rw[← hb];exact hde
     ·exact h e.on i hb hde
   ·have hg:(acc.push (o.after.foldl (fun s e=>if Region.binds .any e then s ||| 2 ^ e.on ||| acc.getD e.on 0 else s) 0)).getD k 0=acc.getD k 0:=by
     rw[Array.getD_eq_getD_getElem?,Array.getD_eq_getD_getElem?,Array.getElem?_push];rw[if_neg (by omega)]
    rw[hg] at hb;exact h k i hb hd
 intro k i h hd;unfold Region.before at h;rw[← Array.foldl_toList] at h;exact key ops.toList #[] 0 rfl (fun j o hj=>by simpa using hj) (fun k i h=>by simp at h) k i h hd
theorem At0:∀(a b:List Nat),meets a b=false→∀x∈a,x∉b
 | [],_,_,x,h=>by simp at h
 |y::r,b,h,x,hx=>by
  simp only[meets,Bool.or_eq_false_iff] at h;rcases List.mem_cons.1 hx with rfl | hx
  ·intro hb
   have:=h.1;rw[List.any_eq_false] at this;exact this x hb (by rw[Nat.beq_refl])
  ·exact At0 r b h.2 x hx
theorem Bd8 {ops:Array Oper}{i:Nat}{x:Oper}{tx:List Nat×List Nat}:∀(ys:List Oper) (tys:List (List Nat×List Nat)) (ms:List Nat) (j:Nat),AX5 ops i x tx j ys tys ms=true→
  ∀(k:Nat) y,ys[k]? = some y→∃ty m,tys[k]? = some ty∧ms[k]? = some m∧(m.testBit i=true∨AB9 ops x y tx ty=true)
 | [],tys,ms,j,h,k,y,hy=>by simp at hy
 |y::ys,[],ms,j,h,k,y',hy=>by simp[AX5] at h
 |y::ys,ty::tys,[],j,h,k,y',hy=>by simp[AX5] at h
 |y::ys,ty::tys,m::ms,j,h,k,y',hy=>by
  simp only[AX5,Bool.and_eq_true,Bool.or_eq_true] at h;cases k with
  |zero=>simp at hy;subst hy;exact⟨ty,m,rfl,rfl,h.1⟩
  |succ k=>
   obtain⟨ty',m',h1,h2,h3⟩:=Bd8 ys tys ms (j+1) h.2 k y' (by simpa using hy)
   exact⟨ty',m',by simpa using h1,by simpa using h2,h3⟩
theorem Bd9 {ops:Array Oper}:∀(xs:List Oper) (txs:List (List Nat×List Nat)) (ms:List Nat) (i:Nat),AI8 ops i xs txs ms=true→
  ∀(j k:Nat) x y,j<k→xs[j]? = some x→xs[k]? = some y→∃tx ty m,txs[j]? = some tx∧txs[k]? = some ty∧ms[k]? = some m∧(m.testBit (i+j)=true∨AB9 ops x y tx ty=true)
 | [],txs,ms,i,h,j,k,x,y,hjk,hx,hy=>by simp at hx
 |x::xs,[],ms,i,h,j,k,x',y,hjk,hx,hy=>by simp[AI8] at h
 |x::xs,tx::txs,[],i,h,j,k,x',y,hjk,hx,hy=>by simp[AI8] at h
 |x::xs,tx::txs,m::ms,i,h,j,k,x',y,hjk,hx,hy=>by
  simp only[AI8,Bool.and_eq_true] at h;cases k with
  |zero=>omega
  |succ k=>
   cases j with
   |zero=>
    simp at hx;subst hx;obtain⟨ty,m',h1,h2,h3⟩:=Bd8 xs txs ms (i+1) h.1 k y (by simpa using hy)
    exact⟨tx,ty,m',rfl,by simpa using h1,by simpa using h2,by simpa using h3⟩
   |succ j=>
    obtain⟨tx',ty,m',h1,h2,h3,h4⟩:=Bd9 xs txs ms (i+1) h.2 j k x' y (by omega) (by simpa using hx) (by simpa using hy)
    exact⟨tx',ty,m',by simpa using h1,by simpa using h2,by simpa using h3,by rw[show i+(j+1)=i+1+j by omega];exact h4⟩
theorem Be0:∀(l:List Oper) (i:Nat),AX6 l i=true→∀(k:Nat) o,l[k]? = some o→∀e∈o.after,Region.binds .any e=true→e.on<i+k
 | [],i,_,k,o,ho=>by simp at ho
 |o0::r,i,h,k,o,ho=>by
  simp only[AX6,Bool.and_eq_true] at h;cases k with
  |zero=>
   simp at ho;subst ho;intro e he hb;have:=(Array.all_eq_true_iff_forall_mem.1 h.1) e he;simp[hb] at this;simpa using this
  |succ k=>
   intro e he hb;have:=Be0 r (i+1) h.2 k o (by simpa using ho) e he hb
   omega
section
variable {P:Program}{base:List EV}{ops:Array Oper}{s₀ s':Rg}{ts:List TI}{B:E9}
theorem StD.congr {D D':Nat→Bool}{a:Act}{w:World}{bg₀:Nat→Option (List EV)}(h:∀k,k<ts.length→D k=D' k)(hst:StD B base ts s' bg₀ D a w):StD B base ts s' bg₀ D' a w:=by
 obtain⟨ow,bx,h1,h2,h3,h4,h5,h6⟩:=hst;refine⟨ow,bx,?_,fun u hu=> ?_,h3,h4,(fun j=>(h5 j).trans ⟨fun ⟨i,t,q1,q2,q3⟩=>⟨i,t,q1,by rw[← h i (List.getElem?_eq_some_iff.1 q1).1];exact q2,q3⟩,fun ⟨i,t,q1,q2,q3⟩=>⟨i,t,q1,by rw[h i (List.getElem?_eq_some_iff.1 q1).1];exact q2,q3⟩⟩),fun i t q1 q2=>h6 i t q1 (by rw[h i (List.getElem?_eq_some_iff.1 q1).1];exact q2)⟩
 ·have:(fun b=>foldI D' ts 0 b (bg₀ b))=fun b=>foldI D ts 0 b (bg₀ b):=by
   funext b;exact Ah7 ts 0 _ fun j t ht _=>by rw[Nat.zero_add];exact (h j (List.getElem?_eq_some_iff.1 ht).1).symm
  rw[this];exact h1
 ·rcases h2 u hu with⟨m,r,⟨q1,q2,q3,q4⟩,q5⟩|⟨q1,q2⟩
  ·exact .inl ⟨m,r,⟨q1,by rw[← h m q1];exact q2,q3,fun k k1 k2 k3=>q4 k k1 k2 (by rw[h k k2];exact k3)⟩,q5⟩
  ·exact .inr ⟨fun k k1 k2=>q1 k k1 (by rw[h k k1];exact k2),q2⟩
theorem CU9 (hL:D7 P base ops.toList s₀ ts s')(h0:s₀.rs=[])(h1:s₀.tw=[])(hB:AX6 ops.toList 0=true)(hd:AI8 ops 0 ops.toList s'.tw (Region.before ops).toList=true){Q:Exit→Act→World→Prop}
  (hQ:∀a w,StD B base ts s' (A4 s₀.bx) (fun k=>decide (k<ts.length)) a w→Q .normal a w):
  ∀(fuel:Nat) (listed:Array Bool) (a:Act) (w:World),listed.size=ops.size→((List.range ops.size).filter fun k=> !listed.getD k true).length=fuel→BJ8 ops (fun k=>listed.getD k false)→
   StD B base ts s' (A4 s₀.bx) (fun k=>listed.getD k false) a w→wpAny P .any ops Q fuel listed a w:=by
 have hlen:=hL.length;have hn:ts.length=ops.size:=by simpa using hlen
 have hge:∀(listed:Array Bool) (k:Nat),listed.size=ops.size→k<ops.size→listed.getD k false=listed.getD k true:=by
  intro listed k hs hk;have:k<listed.size:=by omega
  simp[Array.getD,this]
 have hall:∀(listed:Array Bool),listed.size=ops.size→Region.ready .any ops listed=[]→∀k,k<ops.size→listed.getD k false=true:=by
  intro listed hs hr k
  induction k using Nat.strongRecOn with
  |_ k ih=>
   intro hk;apply Classical.byContradiction;intro hn;have hf:listed.getD k true=false:=by rw[← hge listed k hs hk];simpa using hn
   have:k∈Region.ready .any ops listed:=by
    rw[mem_ready];refine⟨hf,ops[k],by simp[hk],fun e he hb=> ?_⟩
    have hlt:=Be0 ops.toList 0 hB k ops[k] (by simp[hk]) e he hb
    exact ih e.on (by omega) (by omega)
   rw[hr] at this;simp at this
 intro fuel
 induction fuel with
 |zero=>
  intro listed a w hs hc hC hst;have hno:∀k,k<ops.size→listed.getD k true=true:=by
   intro k hk;apply Classical.byContradiction;intro hne;have:k∈(List.range ops.size).filter fun k=> !listed.getD k true:=by rw[List.mem_filter];exact⟨List.mem_range.2 hk,by simpa using hne⟩
   rw[List.eq_nil_of_length_eq_zero hc] at this;simp at this
  have hready:Region.ready .any ops listed=[]:=by apply List.eq_nil_iff_forall_not_mem.2;intro k hk;have:=(mem_ready.1 hk);obtain⟨q1,o,q2,_⟩:=this;have hk':k<ops.size:=(Array.getElem?_eq_some_iff.1 q2).1;rw[hno k hk'] at q1;cases q1
  refine⟨hready,hQ a w (hst.congr fun k hk=> ?_)⟩
  rw[hall listed hs hready k (by omega)]
  exact (decide_eq_true hk).symm
 |succ fuel ih=>
  intro listed a w hs hc hC hst;refine⟨fun hready=>hQ a w (hst.congr fun k hk=> ?_),fun i hi=> ?_⟩
  ·rw[hall listed hs hready k (by omega)]
   exact (decide_eq_true hk).symm
  ·obtain⟨hun,o,ho,hedges⟩:=mem_ready.1 hi
   have hin:i<ops.size:=(Array.getElem?_eq_some_iff.1 ho).1;obtain⟨t,ht⟩:∃t,ts[i]? = some t:=⟨_,List.getElem?_eq_getElem (by omega)⟩
   have hDi:listed.getD i false=false:=by rw[hge listed i hs hin];exact hun
   have hget:∀k,(listed.setIfInBounds i true).getD k false=H6 (fun k=>listed.getD k false) i k:=by
    intro k;unfold H6;by_cases hk:k=i
    ·subst hk
     have:k<listed.size:=by omega
     simp[Array.getD,this]
    ·rw[if_neg hk,getD_set_ne false (fun e=>hk e.symm)]
   have hC':BJ8 ops (fun k=>(listed.setIfInBounds i true).getD k false):=by
    intro k ok hok hk e he hb;simp only[hget] at hk ⊢;unfold H6 at hk ⊢;split
    ·rfl
    ·split at hk
     ·rename_i hki
      subst hki;rw[ho] at hok;cases hok;exact hedges e he hb
     ·exact hC k ok hok hk e he hb
   have hbefore:∀k,((Region.before ops).getD k 0).testBit i=true→listed.getD k false=false:=by
    intro k hb;cases hk:listed.getD k false with
    |false=>rfl
    |true=>
     have:=Bd7 hC k i hb hk;rw[hDi] at this;cases this
   have hafter:∀k,k<i→((Region.before ops).getD i 0).testBit k=true→listed.getD k false=true:=by
    intro k hk hb;have:=Bd7 hC' i k hb (by simp only[hget,H6];simp)
    simp only[hget,H6] at this;rw[if_neg (by omega)] at this
    exact this
   have hpair:∀j k x y,j<k→ops[j]? = some x→ops[k]? = some y→((Region.before ops).getD k 0).testBit j=true∨∃tj tk,ts[j]? = some tj∧ts[k]? = some tk∧AB9 ops x y (tj.tr,tj.wrs) (tk.tr,tk.wrs)=true:=by
    intro j k x y hjk hx hy;obtain⟨tx,ty,m,d1,d2,d3,d4⟩:=Bd9 _ _ _ _ hd j k x y hjk (by simpa using hx) (by simpa using hy)
    rcases d4 with d4 | d4
    ·refine .inl ?_
     have:(Region.before ops).getD k 0=m:=by
      have d3':(Region.before ops)[k]? = some m:=by simpa using d3
      rw[Array.getD_eq_getD_getElem?,d3'];rfl
     rw[this];simpa using d4
    ·have hjn:j<ts.length:=by have:=(Array.getElem?_eq_some_iff.1 hx).1;omega
     have hkn:k<ts.length:=by have:=(Array.getElem?_eq_some_iff.1 hy).1;omega
     have tw:∀(q:Nat) (oq:Oper) (tq:List Nat×List Nat) (hq:q<ts.length),ops[q]? = some oq→s'.tw[q]? = some tq→tq=((ts[q]'hq).tr,(ts[q]'hq).wrs):=by
      intro q oq tq hq hoq htq;obtain⟨_,_,_,⟨more,hm⟩,hl,_⟩:=hL.at q oq (ts[q]'hq) (by simpa using hoq) (List.getElem?_eq_getElem hq)
      rw[h1] at hl;simp at hl;rw[hm,List.getElem?_append_right (by omega),hl] at htq
      simp at htq;exact htq.symm
     refine .inr ⟨_,_,List.getElem?_eq_getElem hjn,List.getElem?_eq_getElem hkn,?_⟩;rw[← tw j x tx hjn hx d1,← tw k y ty hkn hy d2];exact d4
   have hwr:∀(k:Nat) u,ts[k]? = some u→∀b∈u.tr,b∈u.tr:=fun _ _ _ b h=>h
   refine Bd5 hL h0 ho ht (D:=fun k=>listed.getD k false) hDi ?_ ?_ ?_ ?_ hst fun a' w' hst'=> ?_
   ·
    intro u hu k hk hdk;obtain⟨ok,hok⟩:∃ok,ops[k]? = some ok:=⟨_,Array.getElem?_eq_getElem (by omega)⟩
    obtain⟨tk,htk⟩:∃tk,ts[k]? = some tk:=⟨_,List.getElem?_eq_getElem hk⟩;obtain⟨hrk,_⟩:=AA4 hL h0 hok htk;have hdst:ok.dst=some u:=by unfold F3 at hdk;rw[hrk] at hdk;exact hdk
    rcases Nat.lt_trichotomy k i with hlt | heq | hgt
    ·refine⟨fun _=>hlt,fun _=> ?_⟩
     rcases hpair k i ok o hlt hok ho with hb |⟨tj,tk',_,_,hap⟩
     ·exact hafter k hlt hb
     ·simp only[AB9,Bool.and_eq_true] at hap
      exact absurd hu ((Oper.apart_spec hap.1.1.1).1 u hdst)
    ·subst heq
     rw[ho] at hok;cases hok;exact⟨fun h=>(by rw[hDi] at h;cases h),fun h=>by omega⟩
    ·refine⟨fun h=> ?_,fun h=>by omega⟩
     rcases hpair i k o ok hgt ho hok with hb |⟨tj,tk',_,_,hap⟩
     ·have:=hbefore k hb
      rw[this] at h;cases h
     ·simp only[AB9,Bool.and_eq_true] at hap
      exact absurd hu ((Oper.apart_spec hap.1.1.1).2.2 u hdst)
   ·intro b hb k u hu hbu
    have hk:k<ts.length:=(List.getElem?_eq_some_iff.1 hu).1;obtain⟨ok,hok⟩:∃ok,ops[k]? = some ok:=⟨_,Array.getElem?_eq_getElem (by omega)⟩
    rcases Nat.lt_trichotomy k i with hlt | heq | hgt
    ·refine⟨fun _=>hlt,fun _=> ?_⟩
     rcases hpair k i ok o hlt hok ho with hbb |⟨tj,tk',e1,e2,hap⟩
     ·exact hafter k hlt hbb
     ·rw[hu] at e1;cases e1
      rw[ht] at e2;cases e2;simp only[AB9,Bool.and_eq_true,Bool.not_eq_true'] at hap;exact absurd hb (At0 _ _ hap.1.1.2 b hbu)
    ·subst heq
     exact⟨fun h=>(by rw[hDi] at h;cases h),fun h=>by omega⟩
    ·refine⟨fun h=> ?_,fun h=>by omega⟩
     rcases hpair i k o ok hgt ho hok with hbb |⟨tj,tk',e1,e2,hap⟩
     ·have:=hbefore k hbb
      rw[this] at h;cases h
     ·rw[ht] at e1;cases e1
      rw[hu] at e2;cases e2;simp only[AB9,Bool.and_eq_true,Bool.not_eq_true'] at hap;exact absurd hbu (At0 _ _ hap.2 b hb)
   ·intro k hgt hk hDk u hdk hou
    obtain⟨ok,hok⟩:∃ok,ops[k]? = some ok:=⟨_,Array.getElem?_eq_getElem (by omega)⟩
    obtain⟨tk,htk⟩:∃tk,ts[k]? = some tk:=⟨_,List.getElem?_eq_getElem hk⟩;obtain⟨hrk,_⟩:=AA4 hL h0 hok htk;have hdst:ok.dst=some u:=by unfold F3 at hdk;rw[hrk] at hdk;exact hdk
    rcases hpair i k o ok hgt ho hok with hbb |⟨tj,tk',_,_,hap⟩
    ·have:=hbefore k hbb
     rw[this] at hDk;cases hDk
    ·simp only[AB9,Bool.and_eq_true] at hap
     exact (Oper.apart_spec hap.1.1.1).2.1 u hou hdst
   ·intro k u hgt hu hDk b hbu hbt
    have hk:k<ts.length:=(List.getElem?_eq_some_iff.1 hu).1;obtain⟨ok,hok⟩:∃ok,ops[k]? = some ok:=⟨_,Array.getElem?_eq_getElem (by omega)⟩
    rcases hpair i k o ok hgt ho hok with hbb |⟨tj,tk',e1,e2,hap⟩
    ·have:=hbefore k hbb
     rw[this] at hDk;cases hDk
    ·rw[ht] at e1;cases e1
     rw[hu] at e2;cases e2;simp only[AB9,Bool.and_eq_true,Bool.not_eq_true'] at hap;exact At0 _ _ hap.1.2 b hbt hbu
   ·refine ih _ a' w' (by simp[hs]) ?_ hC' (hst'.congr fun k hk=>(hget k).symm)
    have hcnt:∀(l:List Nat),l.Nodup→i∈l→(l.filter fun k=> !(listed.setIfInBounds i true).getD k true).length+1=(l.filter fun k=> !listed.getD k true).length:=by
     intro l
     induction l with
     |nil=>intro _ h;simp at h
     |cons x r ihl=>
      intro hnd hmem;rw[List.nodup_cons] at hnd;have hsame:∀(r:List Nat),i∉r→(r.filter fun k=> !(listed.setIfInBounds i true).getD k true)=r.filter fun k=> !listed.getD k true:=by intro r hr;apply List.filter_congr;intro k hk;rw[getD_set_ne true (fun e=>hr (by rw[e];exact hk))]
      by_cases hx:x=i
      ·subst hx
       have e1:(listed.setIfInBounds x true).getD x true=true:=by
        have:x<listed.size:=by omega
        simp[Array.getD,this]
       rw[List.filter_cons,List.filter_cons,e1,hun,hsame r hnd.1];simp
      ·have hmem':i∈r:=by
        rcases List.mem_cons.1 hmem with h | h
        ·exact absurd h.symm hx
        ·exact h
       have:=ihl hnd.2 hmem';rw[List.filter_cons,List.filter_cons,getD_set_ne true (fun e=>hx e.symm)]
       split
       ·simp only[List.length_cons];omega
       ·exact this
    have:=hcnt (List.range ops.size) List.nodup_range (List.mem_range.2 hin);omega
end
end Go.Proofs.YthfjpkdadjemcaaGreat
