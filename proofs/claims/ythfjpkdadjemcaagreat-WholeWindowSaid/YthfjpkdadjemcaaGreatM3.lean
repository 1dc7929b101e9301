/- A call that takes slices over does what is promised. No program in sight. -/
import Derived.Test.YthfjpkdadjemcaaGreatM2
import Derived.Laws.MakeOwn
set_option linter.unusedSimpArgs false
set_option linter.unusedVariables false
namespace Go.Proofs.YthfjpkdadjemcaaGreat
open _root_.List renaming getElem?_eq_getElem → FA3, getElem?_eq_some_iff → FA4, getElem?_cons_zero → FA7, getElem?_append_left → FA8, mem_map → FB1, mem_cons → FB3, mem_singleton → FB5, length_replicate → FB6, mem_append_left → FB7, foldl_cons → FB8, mem_append_right → FC1, any_eq_true → FC2, length_append → FC3, mem_cons_of_mem → FC6, getElem?_append → FC7, getElem?_append_right → FC8, getElem?_take → FD0, getElem?_drop → FD1, length_cons → FD2, filter_cons → FD3, getElem?_eq_none → FD4, mem_append → FD5, cons_append → FD9, length_take → FE0, length_drop → FE1, length_set → FE2, getElem?_set_ne → FE6, getElem?_map → FF2, ext_getElem? → FF4, append_assoc → FF5, range → FF6
open _root_.Nat renaming eq_of_beq_eq_true → FA5, le_of_ble_eq_true → FB0, beq_refl → FC0, zero_add → FC4, add_sub_cancel → FD7, lt_trichotomy → FD8, le_refl → FE3, beq → FE4
open _root_.Bool renaming and_eq_true → FA6, not_eq_true' → FB9, or_eq_true → FC9, or_eq_false_iff → FD6, false_eq_true → FF0
open _root_.Array renaming getElem?_eq_getElem → FA9, getElem?_eq_some_iff → FB4, getD_eq_getD_getElem? → FC5, getElem?_append → FE5, getD → FE7, foldl_toList → FF1
open _root_.Classical renaming byContradiction → FB2
open Go.Sem renaming run_bind → FE8
open _root_.Int renaming toNat → FE9
open Go.Result renaming andThen_ok → FF3
structure TrO (a tk:List (Nat×Nat))(ow:Nat→A2)(bx:Bx)(ow':Nat→A2)(bx':Bx):Prop where
 st:∀blk n,A6 ow blk n→A6 ow' blk n
 bo:∀i b,(i,b)∈a→ow (bx b) = .box b→bx' i=bx b∧ow' (bx b) = .box i
 tok:∀κ k,(κ,k)∈tk→∀blk fr,ow blk = .tok k fr→ow' blk = .tok κ fr
 tb:∀κ k,(κ,k)∈tk→∀x,bx.tb k=some x→bx'.tb κ=some x
theorem Ab2 {k κ:Nat}(h:k % 100000=κ % 100000):soft k=soft κ:=by unfold soft;rw[h]
theorem CX4 {k κ:Nat}(h:k % 100000=κ % 100000):Y2 k=Y2 κ:=by unfold Y2;rw[h]
theorem CX5 {k κ n:Nat}(h:k % 100000=κ % 100000):N7 k n=N7 κ n:=by unfold N7;rw[Ab2 h]
theorem CX6 {k κ:Nat}(h:k % 100000=κ % 100000):k % 25000=κ % 25000:=by omega
theorem Ba4 {ow ow':Nat→A2}{bx bx':Bx}{w:World}{k κ:Nat}{t:Ty}{l:List t.den}{v:Value}(hst:∀blk n,A6 ow blk n→A6 ow' blk n)(he:k % 100000=κ % 100000)
  (htk:∀blk fr,ow blk = .tok k fr→ow' blk = .tok κ fr) (htb:soft κ=true→∀x,bx.tb k=some x→bx'.tb κ=some x) (hd:bx.dead k=false) (h:A0 ow bx w (.own k t l) v):A0 ow' bx' w (.own κ t l) v:=by
 have hk:E7 ow w ow' w:=E7.of fun blk n hs=>⟨hst blk n hs,rfl⟩
 cases h with
 |own h h' hh=>
  refine .own (fun hs=>(h (by rw[Ab2 he];exact hs)).keep hk) (fun _=> ?_) fun hs=> ?_
  rotate_left
  ·rcases hh (by rw[Ab2 he];exact hs) with h |⟨blk,cap,q1,q2⟩
   ·exact .inl ⟨by rw[← CX4 he];exact h.1,h.2⟩
   ·exact .inr ⟨blk,cap,htb hs _ q1,q2⟩
  rcases h' hd with h1 |⟨blk,cap,c,fz,h1,h2,h3,h3',h4,h5,h6⟩
  ·exact .inl h1
  ·exact .inr ⟨blk,cap,c,fz,h1,by rw[htk _ _ h2,CX5 he],by rw[h3,CX6 he],h3',h4,h5,fun hs=>⟨(h6 (by rw[Ab2 he];exact hs)).1,fun i x hx=>Rep.keep hk _ _ _ ((h6 (by rw[Ab2 he];exact hs)).2 i x hx)⟩⟩
theorem BH2 {dead:List Nat}:∀(ps:List OP) (es:List EV) (a tk:List (Nat×Nat)) (l:List EV) (a' tk':List (Nat×Nat)),K7 dead ps es a tk=some (l,a',tk')→∀e∈l,∃t v,e=EV.dat t v:=by
 intro ps
 induction ps with
 |nil=>
  intro es a tk l a' tk' h;cases es with
  |nil=>simp only[K7] at h;cases h;simp
  |cons e es=>simp only[K7] at h;cases h
 |cons p ps ih=>
  intro es a tk l a' tk' h;cases es with
  |nil=>cases p <;> simp only[K7] at h <;> cases h
  |cons e es=>
   cases p with
   |dat t=>
    simp only[K7] at h;split at h
    ·split at h
     ·rename_i h1
      cases h;intro e he;rcases FB3.1 he with rfl | he
      ·exact⟨_,_,rfl⟩
      ·exact ih _ _ _ _ _ _ h1 e he
     ·cases h
    ·cases h
   |own κ t=>
    simp only[K7] at h;split at h
    ·split at h
     ·split at h
      ·rename_i h1
       cases h;intro e he;rcases FB3.1 he with rfl | he
       ·exact⟨_,_,rfl⟩
       ·exact ih _ _ _ _ _ _ h1 e he
      ·cases h
     ·cases h
    ·split at h
     ·cases h
     split at h
     ·rename_i h1
      cases h;intro e he;rcases FB3.1 he with rfl | he
      ·exact⟨_,_,rfl⟩
      ·exact ih _ _ _ _ _ _ h1 e he
     ·cases h
    ·cases h
   |ref i off=>
    simp only[K7] at h;split at h
    ·split at h
     ·split at h
      ·split at h
       ·exact ih _ _ _ _ _ _ h
       ·cases h
      ·split at h
       ·cases h
       ·exact ih _ _ _ _ _ _ h
     ·cases h
    ·cases h
theorem Aj1 {dead:List Nat}{ow ow':Nat→A2}{bx bx':Bx}{w:World}:∀(ps:List OP) (es:List EV) (a tk:List (Nat×Nat)) (l:List EV) (a' tk':List (Nat×Nat)),
  K7 dead ps es a tk=some (l,a',tk')→(E8 a→E8 a')∧(E8 tk→E8 tk')∧(∀p∈a,p∈a')∧(∀p∈tk,p∈tk')∧
   ((∀p∈tk,p.2∉dead∧p.2 % 100000=p.1 % 100000∧p.1<BIG)→∀p∈tk',p.2∉dead∧p.2 % 100000=p.1 % 100000∧p.1<BIG)∧
   ∀rest,∃es',D7 id id ps (l++rest)=(es',rest)∧es'.length=es.length∧
    ∀af tf,(∀p∈a',p∈af)→(∀p∈tk',p∈tf)→TrO af tf ow bx ow' bx'→(∀k,k∉dead→(∃κ,(κ,k)∈tf)→bx.dead k=false)→∀(i:Nat) e e' v,es[i]? = some e→es'[i]? = some e'→A0 ow bx w e v→A0 ow' bx' w e' v:=by
 intro ps
 induction ps with
 |nil=>
  intro es a tk l a' tk' h;cases es with
  |nil=>simp only[K7] at h;cases h;exact⟨id,id,fun _ h=>h,fun _ h=>h,id,fun rest=>⟨[],rfl,rfl,fun _ _ _ _ _ _ i e e' v he=>by simp at he⟩⟩
  |cons e es=>simp only[K7] at h;cases h
 |cons p ps ih=>
  intro es a tk l a' tk' h;cases es with
  |nil=>cases p <;> simp only[K7] at h <;> cases h
  |cons e es=>
   cases p with
   |dat t=>
    simp only[K7] at h;split at h
    ·rename_i v hv
     split at h
     ·rename_i l1 a1 t1 h1
      cases h;obtain⟨g1,g2,g3,g4,g5,g6⟩:=ih es a tk l1 a' tk' h1;refine⟨g1,g2,g3,g4,g5,fun rest=> ?_⟩
      obtain⟨es',k1,k2,k3⟩:=g6 rest;refine⟨.dat t v::es',by simp only[FD9,D7,k1],by simp[k2],fun af tf haf htf htr hdd i e0 e1 u he0 he1 hu=> ?_⟩
      cases i with
      |zero=>
       simp only[FA7,Option.some.injEq] at he0 he1;subst he0 he1;exact .dat ((At1 hv hu).keep (E7.of fun blk n hs=>⟨htr.st blk n hs,rfl⟩))
      |succ i=>exact k3 af tf haf htf htr hdd i e0 e1 u (by simpa using he0) (by simpa using he1) hu
     ·cases h
    ·cases h
   |own κ t=>
    simp only[K7] at h;split at h
    ·rename_i k t' lv
     split at h
     ·rename_i hc
      simp only[FA6,FB9,decide_eq_true_eq] at hc;obtain⟨⟨⟨⟨⟨⟨hk1,hkB⟩,hkB2⟩,hk2⟩,hk3⟩,hk4⟩,hk5⟩:=hc;have hk1:=FA5 hk1;have hkB:κ<BIG:=FB0 hkB;have hnone:J1 tk κ=none:=by
       cases hg:J1 tk κ with
       |none=>rfl
       |some x=>rw [hg] at hk4;cases hk4
      split at h
      ·rename_i l1 a1 t1 h1
       cases h;obtain⟨g1,g2,g3,g4,g5,g6⟩:=ih es a ((κ,k)::tk) l1 a' tk' h1;have hmem:(κ,k)∈tk':=g4 _ (by simp)
       refine⟨g1,fun hok=>g2 (hok.cons hnone hk3),g3,fun p hp=>g4 p (by simp[hp]),fun hall=>g5 fun p hp=> ?_,fun rest=> ?_⟩
       ·rcases FB3.1 hp with rfl | hp
        ·exact⟨AG9 hk2,hk1,hkB⟩
        ·exact hall p hp
       ·obtain⟨es',k1,k2,k3⟩:=g6 rest
        refine⟨.own κ t' lv::es',by simp only[FD9,D7,k1,id],by simp[k2],fun af tf haf htf htr hdd i e0 e1 u he0 he1 hu=> ?_⟩
        cases i with
        |zero=>
         simp only[FA7,Option.some.injEq] at he0 he1;subst he0 he1;exact Ba4 htr.st hk1 (htr.tok κ k (htf _ hmem)) (fun _=>htr.tb κ k (htf _ hmem)) (hdd k (AG9 hk2) ⟨κ,htf _ hmem⟩) hu
        |succ i=>exact k3 af tf haf htf htr hdd i e0 e1 u (by simpa using he0) (by simpa using he1) hu
      ·cases h
     ·cases h
    ·split at h
     ·cases h
     rename_i hfirm;split at h
     ·rename_i l1 a1 t1 h1
      cases h;obtain⟨g1,g2,g3,g4,g5,g6⟩:=ih es a tk l1 a' tk' h1;refine⟨g1,g2,g3,g4,g5,fun rest=> ?_⟩
      obtain⟨es',k1,k2,k3⟩:=g6 rest;refine⟨.own κ t []::es',by simp only[FD9,D7,k1,id],by simp[k2],fun af tf haf htf htr hdd i e0 e1 u he0 he1 hu=> ?_⟩
      cases i with
      |zero=>
       simp only[FA7,Option.some.injEq] at he0 he1;subst he0 he1;cases hu;exact .own (fun _=>AQ8 t) (fun _=>.inl ⟨rfl,rfl⟩) fun _=>.inl ⟨hfirm,rfl,rfl⟩
      |succ i=>exact k3 af tf haf htf htr hdd i e0 e1 u (by simpa using he0) (by simpa using he1) hu
     ·cases h
    ·cases h
   |ref i0 off=>
    simp only[K7] at h;split at h
    ·rename_i b off'
     split at h
     ·rename_i hoff
      have hoff:=FA5 hoff;subst hoff;have fin:∀a1,K7 dead ps es a1 tk=some (l,a',tk')→(i0,b)∈a1→(E8 a→E8 a1)→(∀p∈a,p∈a1)→(E8 a→E8 a')∧(E8 tk→E8 tk')∧(∀p∈a,p∈a')∧(∀p∈tk,p∈tk')∧
        ((∀p∈tk,p.2∉dead∧p.2 % 100000=p.1 % 100000∧p.1<BIG)→∀p∈tk',p.2∉dead∧p.2 % 100000=p.1 % 100000∧p.1<BIG)∧
        ∀rest,∃es',D7 id id (.ref i0 off::ps) (l++rest)=(es',rest)∧es'.length=(EV.ptr b off::es).length∧
         ∀af tf,(∀p∈a',p∈af)→(∀p∈tk',p∈tf)→TrO af tf ow bx ow' bx'→(∀k,k∉dead→(∃κ,(κ,k)∈tf)→bx.dead k=false)→∀(i:Nat) e e' v,(EV.ptr b off::es)[i]? = some e→es'[i]? = some e'→A0 ow bx w e v→A0 ow' bx' w e' v:=by
       intro a1 h1 hmem hok hsub;obtain⟨g1,g2,g3,g4,g5,g6⟩:=ih es a1 tk l a' tk' h1;refine⟨fun h=>g1 (hok h),g2,fun p hp=>g3 p (hsub p hp),g4,g5,fun rest=> ?_⟩
       obtain⟨es',k1,k2,k3⟩:=g6 rest;refine⟨.ptr i0 off::es',by simp only[D7,k1,id],by simp[k2],fun af tf haf htf htr hdd i e0 e1 u he0 he1 hu=> ?_⟩
       cases i with
       |zero=>
        simp only[FA7,Option.some.injEq] at he0 he1;subst he0 he1;cases hu with
        |ptr hq=>
         obtain⟨j1,j2⟩:=htr.bo i0 b (haf _ (g3 _ hmem)) hq;rw[← j1];exact .ptr (by rw[j1];exact j2)
       |succ i=>exact k3 af tf haf htf htr hdd i e0 e1 u (by simpa using he0) (by simpa using he1) hu
      split at h
      ·rename_i b' hb'
       split at h
       ·rename_i hbb
        have hbb:=FA5 hbb;subst hbb;exact fin a h (V0 _ _ _ hb') id (fun _ h=>h)
       ·cases h
      ·rename_i hnone
       split at h
       ·cases h
       ·rename_i hhas
        exact fin _ h (by simp) (fun hok=>hok.cons hnone (by simpa using hhas)) (fun p hp=>by simp[hp])
     ·cases h
    ·cases h
theorem At9 {dead:List Nat}{rd:Nat→Option (List EV)}:∀(bs:List (List OP)) (i:Nat) (a tk:List (Nat×Nat)) (l:List EV) (a' tk':List (Nat×Nat)),AQ2 dead rd i bs a tk=some (l,a',tk')→
  (E8 a→E8 a')∧(E8 tk→E8 tk')∧(∀p∈a,p∈a')∧(∀p∈tk,p∈tk')∧
   ((∀p∈tk,p.2∉dead∧p.2 % 100000=p.1 % 100000∧p.1<BIG)→∀p∈tk',p.2∉dead∧p.2 % 100000=p.1 % 100000∧p.1<BIG)∧(∀e∈l,∃t v,e=EV.dat t v)∧(F9 id id bs l).length=bs.length∧
   ∀j,j<bs.length→∃b cs cs',(i+j,b)∈a'∧rd b=some cs∧(F9 id id bs l)[j]? = some cs'∧cs'.length=cs.length∧
    ∀(ow ow':Nat→A2) (bx bx':Bx) (w:World),TrO a' tk' ow bx ow' bx'→(∀k,k∉dead→(∃κ,(κ,k)∈tk')→bx.dead k=false)→∀(k:Nat) e e' v,cs[k]? = some e→cs'[k]? = some e'→A0 ow bx w e v→A0 ow' bx' w e' v
 | [],i,a,tk,l,a',tk',h=>by simp only[AQ2] at h;cases h;exact⟨id,id,fun _ h=>h,fun _ h=>h,id,fun e he=>(by simp at he),rfl,fun j hj=>absurd hj (by simp)⟩
 |pts::r,i,a,tk,l,a',tk',h=>by
  simp only[AQ2] at h;split at h
  ·rename_i b hb
   split at h
   ·rename_i cs hcs
    split at h
    ·rename_i l1 a1 t1 h1
     split at h
     ·rename_i l2 a2 t2 h2
      cases h;obtain⟨j1,j2,j3,j4,j5,j6,j7,j8⟩:=At9 r (i+1) a1 t1 l2 a' tk' h2;have hm:=Aj1 (ow:=fun _=>.B7) (ow':=fun _=>.B7) (bx:=⟨id,fun _=>false,fun _=>none⟩) (bx':=⟨id,fun _=>false,fun _=>none⟩) (w:=default) pts cs a tk l1 a1 t1 h1
      have hmem:(i,b)∈a':=j3 _ (hm.2.2.1 _ (V0 _ _ _ hb));obtain⟨es0,f1,f2,_⟩:=hm.2.2.2.2.2 l2;have hfb:F9 id id (pts::r) (l1++l2)=es0::F9 id id r l2:=by simp only[F9,f1]
      refine⟨fun h=>j1 (hm.1 h),fun h=>j2 (hm.2.1 h),fun p hp=>j3 p (hm.2.2.1 p hp),fun p hp=>j4 p (hm.2.2.2.1 p hp),fun h=>j5 (hm.2.2.2.2.1 h),fun e he=> ?_,by rw[hfb];simp[j7],fun j hj=> ?_⟩
      ·rcases FD5.1 he with he | he
       ·exact BH2 _ _ _ _ _ _ _ h1 e he
       ·exact j6 e he
      ·cases j with
       |zero=>
        refine⟨b,cs,es0,hmem,hcs,by rw[hfb];rfl,f2,fun ow ow' bx bx' w htr hdd=> ?_⟩
        obtain⟨es1,f1',_,f3⟩:=(Aj1 (ow:=ow) (ow':=ow') (bx:=bx) (bx':=bx') (w:=w) pts cs a tk l1 a1 t1 h1).2.2.2.2.2 l2;have e:es1=es0:=by rw[f1] at f1';cases f1';rfl
        subst e;exact f3 a' tk' j3 j4 htr hdd
       |succ j=>
        obtain⟨b',cs',cs'',k1,k2,k3,k4,k5⟩:=j8 j (by simpa using hj)
        exact⟨b',cs',cs'',by rw[show i+(j+1)=i+1+j by omega];exact k1,k2,by rw[hfb];simpa using k3,k4,k5⟩
     ·cases h
    ·cases h
   ·cases h
  ·cases h
theorem Ba5 {tn bn:Nat→Nat}{ow ow':Nat→A2}{bx bx':Bx}{w:World}(hst:∀blk n,A6 ow blk n→A6 ow' blk n)(hd:∀k,bx.dead k=false)
  {ks:List Nat} (htk:∀κ∈ks,tn κ % 100000=κ % 100000∧(∀blk fr,ow blk = .tok κ fr→ow' blk = .tok (tn κ) fr)∧(soft κ=true→∀x,bx.tb κ=some x→bx'.tb (tn κ)=some x)) (hbo:∀i,ow (bx i) = .box i→bx' (bn i)=bx i∧ow' (bx i) = .box (bn i)):
  ∀(ps:List OP) (d:List EV),(∀κ∈AF9 ps,κ∈ks)→(∀e∈d,∃t v,e=EV.dat t v)→(D7 tn bn ps d).2=(D7 id id ps d).2∧(D7 tn bn ps d).1.length=(D7 id id ps d).1.length∧(∀e∈(D7 id id ps d).2,e∈d)∧
   ∀(i:Nat) e e' v,(D7 id id ps d).1[i]? = some e→(D7 tn bn ps d).1[i]? = some e'→A0 ow bx w e v→A0 ow' bx' w e' v:=by
 intro ps
 induction ps with
 |nil=>intro d _ _;exact⟨rfl,rfl,fun e he=>he,fun i e e' v he=>by simp[D7] at he⟩
 |cons p ps ih=>
  intro d hks hdat;cases p with
  |dat t=>
   cases d with
   |nil=>exact ⟨rfl,rfl,fun e he=>he,fun i e e' v he=>by simp[D7] at he⟩
   |cons x d=>
    obtain⟨g1,g2,g3,g4⟩:=ih d (fun κ h=>hks κ (by simpa[AF9] using h)) fun e he=>hdat e (by simp[he])
    refine⟨by simp only[D7];exact g1,by simp only[D7,FD2,g2],fun e he=> ?_,fun i e e' v he he' hr=> ?_⟩
    ·simp only[D7] at he
     exact FC6 _ (g3 e he)
    ·simp only[D7] at he he'
     cases i with
     |zero=>
      simp only[FA7,Option.some.injEq] at he he';subst he he';obtain⟨t,z,hx⟩:=hdat x (by simp)
      subst hx;cases hr with
      |dat hr=>exact .dat (hr.keep (E7.of fun blk n hs=>⟨hst blk n hs,rfl⟩))
     |succ i=>exact g4 i e e' v (by simpa using he) (by simpa using he') hr
  |own κ t=>
   cases d with
   |nil=>exact ⟨rfl,rfl,fun e he=>he,fun i e e' v he=>by simp[D7] at he⟩
   |cons x d=>
    obtain⟨g1,g2,g3,g4⟩:=ih d (fun κ' h=>hks κ' (by simp[AF9,h])) fun e he=>hdat e (by simp[he])
    have hκ:=htk κ (hks κ (by simp[AF9]))
    refine⟨by simp only[D7];exact g1,by simp only[D7,FD2,g2],fun e he=> ?_,fun i e e' v he he' hr=> ?_⟩
    ·simp only[D7] at he
     exact FC6 _ (g3 e he)
    ·simp only[D7] at he he'
     cases i with
     |zero=>
      simp only[FA7,Option.some.injEq] at he he';subst he he';split
      ·exact Ba4 hst hκ.1.symm hκ.2.1 (fun hs=>hκ.2.2 (by rw[← Ab2 hκ.1];exact hs)) (hd κ) hr
      ·exact .undef _
     |succ i=>exact g4 i e e' v (by simpa using he) (by simpa using he') hr
  |ref i0 off=>
   obtain⟨g1,g2,g3,g4⟩:=ih d (fun κ h=>hks κ (by simpa[AF9] using h)) hdat
   refine⟨by simp only[D7];exact g1,by simp only[D7,FD2,g2],fun e he=> ?_,fun i e e' v he he' hr=> ?_⟩
   ·simp only[D7] at he
    exact g3 e he
   ·simp only[D7] at he he'
    cases i with
    |zero=>
     simp only[FA7,Option.some.injEq] at he he';subst he he';cases hr with
     |ptr hq=>
      obtain⟨h1,h2⟩:=hbo i0 hq;simp only[id] at h1 h2 ⊢;rw[← h1];exact .ptr (by rw[h1];exact h2)
    |succ i=>exact g4 i e e' v (by simpa using he) (by simpa using he') hr
theorem CX7 {tn bn:Nat→Nat}{ow ow':Nat→A2}{bx bx':Bx}{w:World}(hst:∀blk n,A6 ow blk n→A6 ow' blk n)(hd:∀k,bx.dead k=false)
  {ks:List Nat} (htk:∀κ∈ks,tn κ % 100000=κ % 100000∧(∀blk fr,ow blk = .tok κ fr→ow' blk = .tok (tn κ) fr)∧(soft κ=true→∀x,bx.tb κ=some x→bx'.tb (tn κ)=some x)) (hbo:∀i,ow (bx i) = .box i→bx' (bn i)=bx i∧ow' (bx i) = .box (bn i)):
  ∀(bs:List (List OP)) (d:List EV),(∀κ∈Ah7 bs,κ∈ks)→(∀e∈d,∃t v,e=EV.dat t v)→(F9 tn bn bs d).length=bs.length∧(F9 id id bs d).length=bs.length∧
   ∀(j:Nat) cs cs',(F9 id id bs d)[j]? = some cs→(F9 tn bn bs d)[j]? = some cs'→cs'.length=cs.length∧∀(i:Nat) e e' v,cs[i]? = some e→cs'[i]? = some e'→A0 ow bx w e v→A0 ow' bx' w e' v:=by
 intro bs
 induction bs with
 |nil=>intro d _ _;exact⟨rfl,rfl,fun j cs cs' h=>by simp[F9] at h⟩
 |cons p r ih=>
  intro d hks hdat;obtain⟨g1,g2,g3,g4⟩:=Ba5 (w:=w) hst hd htk hbo p d (fun κ h=>hks κ (by simp[Ah7,h])) hdat
  obtain⟨k1,k2,k3⟩:=ih (D7 id id p d).2 (fun κ h=>hks κ (by simp[Ah7,h])) fun e he=>hdat e (g3 e he)
  have e1:F9 tn bn (p::r) d=(D7 tn bn p d).1::F9 tn bn r (D7 id id p d).2:=by simp only[F9,g1]
  have e2:F9 id id (p::r) d=(D7 id id p d).1::F9 id id r (D7 id id p d).2:=by simp only[F9]
  refine⟨by rw[e1];simp[k1],by rw[e2];simp[k2],fun j cs cs' h h'=> ?_⟩
  rw[e2] at h;rw[e1] at h';cases j with
  |zero=>
   simp only[FA7,Option.some.injEq] at h h';subst h h';exact⟨g2,g4⟩
  |succ j=>exact k3 j cs cs' (by simpa using h) (by simpa using h')
def owO (a tk:List (Nat×Nat))(ow:Nat→A2):Nat→A2:=fun blk=>match ow blk with
 | .E2=>.E2
 | .box b=>match AA4 a b with
  |some i=>.box i
  |none=>.B7
 | .tok k fr=>match AA4 tk k with
  |some κ=>.tok κ fr
  |none=>.part fr
 | .part fr=>.part fr
 | .B7=>.B7
theorem Au0 {a tk:List (Nat×Nat)}{ow:Nat→A2}{blk n:Nat}(h:A6 ow blk n):A6 (owO a tk ow) blk n:=by
 rcases L2 h with h |⟨k,fr,h,hn⟩|⟨fr,h,hn⟩
 ·exact M0 (by simp[owO,h])
 ·cases hk:AA4 tk k with
  |some κ=>exact AA1 (k:=κ) (by simp[owO,h,hk]) hn
  |none=>exact W9 (by simp[owO,h,hk]) hn
 ·exact W9 (by simp[owO,h]) hn
def bxO (a tk:List (Nat×Nat))(bx:Bx):Bx:=⟨(G9 a bx).f,fun _=>false,fun κ=>match J1 tk κ with
 |some k=>bx.tb k
 |none=>none⟩
theorem trO {a tk:List (Nat×Nat)}(ha:E8 a)(ht:E8 tk)(ow:Nat→A2)(bx:Bx):TrO a tk ow bx (owO a tk ow) (bxO a tk bx):=by
 refine⟨fun blk n h=>Au0 h,fun i b hm hb=>⟨by simp[bxO,G9,ha.key i b hm],?_⟩,fun κ k hm blk fr hb=> ?_,fun κ k hm x hx=>by simp only[bxO,ht.key κ k hm];exact hx⟩
 ·obtain⟨j,hj⟩:=At6 a b i hm
  have:j=i:=ha.inj j i b (AA5 a b j hj) hm;simp[owO,hb,hj,this]
 ·obtain⟨j,hj⟩:=At6 tk k κ hm
  have:j=κ:=ht.inj j κ k (AA5 tk k j hj) hm;simp[owO,hb,hj,this]
theorem Au1 {a tk:List (Nat×Nat)}{ow:Nat→A2}{blk i:Nat}(h:owO a tk ow blk = .box i):∃b,(i,b)∈a∧ow blk = .box b:=by
 unfold owO at h;split at h
 ·cases h
 ·rename_i b hb
  split at h
  ·rename_i j hj
   cases h;exact⟨b,AA5 _ _ _ hj,hb⟩
  ·cases h
 ·split at h <;> cases h
 ·cases h
 ·cases h
theorem BH3 {a tk:List (Nat×Nat)}{ow:Nat→A2}{blk κ fr:Nat}(h:owO a tk ow blk = .tok κ fr):∃k,(κ,k)∈tk∧ow blk = .tok k fr:=by
 unfold owO at h;split at h
 ·cases h
 ·split at h <;> cases h
 ·rename_i k fr' hb
  split at h
  ·rename_i j hj
   cases h;exact⟨k,AA5 _ _ _ hj,hb⟩
  ·cases h
 ·cases h
 ·cases h
theorem CX8 {a tk:List (Nat×Nat)}{ow:Nat→A2}{blk n:Nat}(h:A6 (owO a tk ow) blk n):A6 ow blk n:=by
 cases hb:ow blk with
 |E2=>exact M0 hb
 |tok k fr=>
  refine AA1 hb ?_;cases hk:AA4 tk k with
  |some κ=>rcases L2 h with h |⟨_,_,h,hn⟩|⟨fr',h,hn⟩ <;> simp[owO,hb,hk] at h;obtain⟨_,rfl⟩:=h;exact hn
  |none=>rcases L2 h with h |⟨_,_,h,hn⟩|⟨fr',h,hn⟩ <;> simp[owO,hb,hk] at h;subst h;exact hn
 |part fr=>rcases L2 h with h |⟨_,_,h,hn⟩|⟨fr',h,hn⟩ <;> simp[owO,hb] at h;subst h;exact W9 hb hn
 |B7=>rcases L2 h with h |⟨_,_,h,hn⟩|⟨fr',h,hn⟩ <;> simp[owO,hb] at h
 |box b=>rcases L2 h with h |⟨_,_,h,hn⟩|⟨fr',h,hn⟩ <;> (simp only[owO,hb] at h;split at h <;> cases h)
def Au2 (tn:Nat→Nat):A2→A2
 | .tok κ fr=>.tok (tn κ) fr
 | .E2=>.E2
 | .part fr=>.part fr
 |_=>.B7
theorem CX9 {tn:Nat→Nat}{o:A2}{n:Nat}(h:o.AZ6 n):(Au2 tn o).AZ6 n:=by
 cases o with
 |E2=>trivial
 |tok k fr=>exact h
 |part fr=>exact h
 |box b=>exact h.elim
 |B7=>exact h.elim
theorem CY0 {rd:Nat→Option (List EV)}{a:List (Nat×Nat)}:∀(l:List (List EV)) (i:Nat) (ws:List Wr),AG0 rd a i l=some ws→ws.length=l.length∧
  ∀(j:Nat) out,l[j]? = some out→∃b cs,J1 a (i+j)=some b∧rd b=some cs∧ws[j]? = some ⟨b,0,out⟩∧out.length=cs.length:=by
 intro l
 induction l with
 |nil=>intro i ws h;simp only[AG0] at h;cases h;exact⟨rfl,fun j out h=>by simp at h⟩
 |cons c r ih=>
  intro i ws h;simp only[AG0] at h;split at h
  ·rename_i b hb
   split at h
   ·rename_i cs hcs
    split at h
    ·rename_i hl
     split at h
     ·rename_i ws' hws
      cases h;obtain⟨h1,h2⟩:=ih _ _ hws;refine⟨by simp[h1],fun j out hj=> ?_⟩
      cases j with
      |zero=>
       simp only[FA7,Option.some.injEq] at hj;subst hj;exact⟨b,cs,hb,hcs,rfl,FA5 hl⟩
      |succ j=>
       obtain⟨b',cs',q1,q2,q3,q4⟩:=h2 j out (by simpa using hj)
       exact⟨b',cs',by rw[show i+(j+1)=i+1+j by omega];exact q1,q2,by simpa using q3,q4⟩
     ·cases h
    ·cases h
   ·cases h
  ·cases h
theorem CY1 {rd:Nat→Option (List EV)}{a:List (Nat×Nat)}:∀(l:List (List EV)) (i:Nat) (ws:List Wr),AG0 rd a i l=some ws→∀z∈ws,z.b∈a.map (·.2)∧∃cs,rd z.b=some cs∧z.off+z.new.length≤cs.length:=by
 intro l
 induction l with
 |nil=>intro i ws h;simp only[AG0] at h;cases h;simp
 |cons c r ih=>
  intro i ws h;simp only[AG0] at h;split at h
  ·rename_i b hb
   split at h
   ·rename_i cs hcs
    split at h
    ·rename_i hl
     split at h
     ·rename_i ws' hws
      cases h;intro z hz;rcases FB3.1 hz with rfl | hz
      ·have:=FA5 hl
       exact⟨FB1.2 ⟨_,V0 _ _ _ hb,rfl⟩,cs,hcs,by simp only;omega⟩
      ·exact ih _ _ hws z hz
     ·cases h
    ·cases h
   ·cases h
  ·cases h
theorem AR1 {l:List (List EV)}{b:Nat}{cs:List EV}:A3 (l.map some) b=some cs↔l[b]? = some cs:=by rw[O1,FF2];cases l[b]? <;> simp
theorem CY2 {ow ow':Nat→A2}{bx bx':Bx}{w:World}{es es':List EV}(hl:es'.length=es.length)(h:∀(i:Nat) e e' v,es[i]? = some e→es'[i]? = some e'→A0 ow bx w e v→A0 ow' bx' w e' v){v:Value}
  (hv:A0 ow bx w (G8 es) v):A0 ow' bx' w (G8 es') v:=by
 match es,es',hl with
 | [],[],_=>cases hv with | tup h1 h2=>exact .tup h1 fun i e v he=>by simp at he
 | [e],[e'],_=>exact h 0 e e' v rfl rfl hv
 |e1::e2::l,e1'::e2'::l',hl=>
  cases hv with
  |tup h1 h2=>
   refine .tup (by rw[← h1];simpa using hl) fun i e v he hv=> ?_
   have hlt:i<(e1::e2::l).length:=by rw[← hl];exact (FA4.1 he).1
   exact h i _ e v (FA3 hlt) he (h2 i _ v (FA3 hlt) hv)
theorem CY3 (f tn:Nat→Nat)(htn:∀κ,tn κ=f κ+BIG):∀(l:List Nat) (κ:Nat),Ah8 (l.map f)=true→κ∈l→soft κ=true→l.find? (fun κ'=>soft κ'&&FE4 (tn κ') (tn κ))=some κ:=by
 intro l κ
 induction l with
 |nil=>intro _ h;simp at h
 |cons y r ih=>
  intro hnd hm hs;simp only[List.map_cons,Ah8,FA6,FB9] at hnd;rw[List.find?_cons];cases hb:(soft y&&FE4 (tn y) (tn κ)) with
  |true=>
   simp only;rcases FB3.1 hm with rfl | hm
   ·rfl
   ·exfalso
    rw[FA6] at hb;have he:=FA5 hb.2;rw[htn,htn] at he;have he:f y=f κ:=Nat.add_right_cancel he;exact AG9 hnd.1 (by rw[he];exact FB1.2 ⟨κ,hm,rfl⟩)
  |false=>
   simp only;rcases FB3.1 hm with rfl | hm
   ·rw[FC0,hs] at hb;cases hb
   ·exact ih hnd.2 hm hs
theorem Ba6 {B:F1}{ow:Nat→A2}{bx:Bx}{nb:Nat}{bg:Nat→Option (List EV)}{w:World}(hi:Inv B ow bx nb bg w){k:Nat}(hk:bx.dead k=false):bx.tb (k+BIG)=none:=by
 cases hb:bx.tb (k+BIG) with
 |none=>rfl
 |some y=>
  rcases hi.born (k+BIG) (by rw[hb];rfl) with h | h
  ·exact absurd h (Nat.not_lt.2 (Nat.le_add_left _ _))
  ·rw[FD7,hk] at h
   cases h.1
theorem CY4 {B:F1}{ow:Nat→A2}{bx:Bx}{nb:Nat}{bg:Nat→Option (List EV)}{w:World}(hi:Inv B ow bx nb bg w){f tn:Nat→Nat}(htn:∀κ,tn κ=f κ+BIG){l ks:List Nat}(hfB:∀κ∈l,soft κ=true→f κ<BIG){tb':Nat→Option (Nat×(Nat×Nat))}{j:Nat}
  (hj:(match bx.tb j with
   |some x=>some x
   |none=>match l.find? (fun κ=>soft κ&&FE4 (tn κ) j) with
    |some κ=>tb' κ
    |none=>none).isSome=true):j<BIG∨((bx.dead (j-BIG)||J7 (ks++l.map f) (j-BIG))=true∧j<2*BIG):=by
 split at hj
 ·rename_i x hx
  exact (hi.born j (by rw[hx];rfl)).imp (fun h=>h) fun h=>⟨by rw[h.1];rfl,h.2⟩
 ·split at hj
  ·rename_i κ hκ
   right
   have hb:=List.find?_some hκ;have hm:=List.mem_of_find?_eq_some hκ;rw[FA6] at hb;have he:=FA5 hb.2;rw[htn] at he;have he2:j-BIG=f κ:=by rw[← he,FD7]
   have hB:=hfB _ hm hb.1;refine⟨?_,by omega⟩
   rw[he2];have:J7 (ks++l.map f) (f κ)=true:=by unfold J7;rw[FC2];exact⟨_,FC1 _ (FB1.2 ⟨κ,hm,rfl⟩),FC0 _⟩
   rw[this,Bool.or_true]
  ·cases hj
theorem CY5 {P:Program}{c:F8}(hc:At0 P c){dead:List Nat}{dst:Option Nat}{es l l':List EV}{a a' tk tk':List (Nat×Nat)}{rd:Nat→Option (List EV)}{x:c.ins.den}{y:c.outs.den}{vs d:List EV}{ws:List Wr}
  (h1:K7 dead c.ps es [] []=some (l,a,tk)) (h2:AQ2 dead rd 0 c.boxes a tk=some (l',a',tk')) (hp:BD4 c (l++l').length a'=true) (h3:J0 c.ins (l++l')=some x) (h4:c.F x=some y)
  (h5:D7 (fun κ=>P1 dst tk' κ+BIG) (W7 a') c.rs (A8 c.outs c.A1 y)=(vs,d)) (h6:AG0 rd a' 0 (F9 (fun κ=>P1 dst tk' κ+BIG) (W7 a') c.aft d)=some ws) (h7:Ah8 (c.W6.map (P1 dst tk'))=true) (h8:∀κ∈c.W6,soft κ=true→P1 dst tk' κ<BIG)
  {B:F1} {ow:Nat→A2} {bx:Bx} {nb:Nat} {bg:Nat→Option (List EV)} {w:World} {args:Array Value} (id':Nat) (hi:Inv B ow bx nb bg w) (hargs:S3 ow bx w es args)
  (hrd:∀b∈a'.map (·.2),bg b=rd b) (hdead:∀k∈tk'.map (·.2)++c.W6.map (P1 dst tk'),bx.dead k=false):
  Calls P c.f args w fun e w'=>∃v ow' bx',e = .returned v∧E3 ow bx w ow' bx' w'∧A0 ow' bx' w' (G8 vs) v∧Inv B ow' bx' nb (upd bg id' none ws) w'∧∀j,bx'.dead j=(bx.dead j||J7 (tk'.map (·.2)++c.W6.map (P1 dst tk')) j):=by
 simp only[BD4,FA6] at hp;obtain⟨⟨hnin,hbel⟩,haft⟩:=hp;have hnin:=FA5 hnin;have haft:=FA5 haft;have hbelow:=Aa6 _ _ hbel;obtain⟨m1,m2,m3,m4,m5,m6⟩:=Aj1 (ow:=ow) (ow':=owO a' tk' ow) (bx:=bx) (bx':=bxO a' tk' bx) (w:=w) c.ps es [] [] l a tk h1;obtain⟨b1,b2,b3,b4,b5,b6,b7,b8⟩:=At9 c.boxes 0 a tk l' a' tk' h2;have hok:E8 a':=b1 (m1 .nil)
 have htok:E8 tk':=b2 (m2 .nil);have htks:∀p∈tk',p.2∉dead∧p.2 % 100000=p.1 % 100000∧p.1<BIG:=b5 (m5 fun p hp=>by simp at hp)
 have htr:=trO hok htok ow bx;have hdd:∀k,k∉dead→(∃κ,(κ,k)∈tk')→bx.dead k=false:=fun k _ ⟨κ,hk⟩=>hdead k (FB7 _ (FB1.2 ⟨_,hk,rfl⟩))
 obtain⟨es',f1,f2,f3⟩:=m6 l';have hun:A8 c.ins c.nin x=l++l':=by
  have:=AR0 c.ins (l++l') x h3 (fun e he=>by
   rcases FD5.1 he with he | he
   ·exact BH2 _ _ _ _ _ _ _ h1 e he
   ·exact b6 e he)
  rw[hnin] at this;exact this
 have hargs0:c.G5 x=es':=by unfold F8.G5;rw[hun,f1]
 have hboxes0:c.L1 x=(F9 id id c.boxes l').map some:=by unfold F8.L1;rw[hun,f1]
 have hbox:∀i,i<c.boxes.length→∃b cs cs',(i,b)∈a'∧bg b=some cs∧(F9 id id c.boxes l')[i]? = some cs'∧cs'.length=cs.length∧
   ∀(k:Nat) e e' v,cs[k]? = some e→cs'[k]? = some e'→A0 ow bx w e v→A0 (owO a' tk' ow) (bxO a' tk' bx) w e' v:=by
  intro i hlt;obtain⟨b,cs,cs',k1,k2,k3,k4,k5⟩:=b8 i hlt;rw[FC4] at k1;refine⟨b,cs,cs',k1,?_,k3,k4,k5 ow _ bx _ w htr hdd⟩;rw[hrd b (FB1.2 ⟨(i,b),k1,rfl⟩)];exact k2
 have hcall:∀blk i,owO a' tk' ow blk = .box i→∃b,(i,b)∈a'∧ow blk = .box b∧blk=bx b:=by intro blk i h;obtain⟨b,g1,g2⟩:=Au1 h;exact⟨b,g1,g2,(hi.back blk b g2).1⟩
 have hglob:N8 (owO a' tk' ow) w:=hi.AZ8.keep (.of fun blk n h=>⟨Au0 h,rfl⟩)
 have hinv:Inv ⟨w,fun blk=>(∃b,owO a' tk' ow blk = .box b)∨∃k fr,owO a' tk' ow blk = .tok k fr,owO a' tk' ow,c.boxes.length,bxO a' tk' bx,hglob⟩ (owO a' tk' ow) (bxO a' tk' bx) c.boxes.length (A3 (c.L1 x)) w:=by
  rw[hboxes0];constructor
  ·intro i cs' hcs'
   rw[AR1] at hcs';have hlt:i<c.boxes.length:=by rw[← b7];exact (FA4.1 hcs').1
   obtain⟨b,cs,cs'',k1,k2,k3,k4,k5⟩:=hbox i hlt;rw[hcs'] at k3;cases k3;obtain⟨g1,c0,T,g2,g3⟩:=hi.box b cs k2;obtain⟨t1,t2⟩:=htr.bo i b k1 g1;refine⟨by rw[t1];exact t2,c0,T,by rw[t1];exact g2,by rw[k4,g3.1],fun k e v he hv=> ?_⟩
   have hklt:k<cs.length:=by rw[← k4];exact (FA4.1 he).1
   exact⟨k5 k _ e v (FA3 hklt) he (g3.2 k _ v (FA3 hklt) hv).1,(g3.2 k _ v (FA3 hklt) hv).2⟩
  ·intro blk i h
   obtain⟨b,k1,k2,k3⟩:=hcall blk i h;have hlt:=hbelow i b k1;obtain⟨t1,t2⟩:=htr.bo i b k1 (by rw[← k3];exact k2)
   refine⟨by rw[t1];exact k3,?_,hlt⟩
   obtain⟨_,_,cs'',_,_,j3,_⟩:=hbox i hlt;rw[AR1.2 j3];rfl
  ·intro blk h
   refine hi.here blk fun e=>h ?_
   simp[owO,e]
  ·intro blk _ h
   exact⟨rfl,rfl,fun b hb=>h (.inl ⟨b,hb⟩),fun k fr hb=>h (.inr ⟨k,fr,hb⟩)⟩
  ·exact FE3 _
  ·exact⟨rfl,rfl,rfl⟩
  ·intro i hlt
   obtain⟨_,_,cs'',_,_,j3,_⟩:=hbox i hlt;exact⟨rfl,by rw[AR1.2 j3];rfl⟩
  ·exact .refl _ _
  ·intro j hj
   left
   simp only[bxO] at hj;split at hj
   ·rename_i k hk;exact (htks _ (V0 _ _ _ hk)).2.2
   ·cases hj
 have hrepl:S3 (owO a' tk' ow) (bxO a' tk' bx) w (c.G5 x) args:=by
  rw[hargs0];refine⟨by rw[f2];exact hargs.1,fun i e v he hv=> ?_⟩
  have hlt:i<es.length:=by rw[← f2];exact (FA4.1 he).1
  exact f3 a' tk' b3 b4 htr hdd i _ e v (FA3 hlt) he (hargs.2 i _ v (FA3 hlt) hv)
 refine (hc.go x y h4 w (owO a' tk' ow) (bxO a' tk' bx) args hglob (fun _=>rfl) hinv hrepl).mono fun e w' ⟨v,ow',tb',he,hinv',hv⟩=> ?_
 subst he;have hsz:=hinv'.size;simp only at hsz;generalize htn:(fun κ=>P1 dst tk' κ+BIG)=tn at h5 h6
 have htn5:∀κ,tn κ % 100000=κ % 100000:=by
  intro κ;subst htn;simp only[P1];split
  ·rename_i k hk
   have:=(htks _ (V0 _ _ _ hk)).2.1;simp only at this;rw[← this];unfold BIG;omega
  ·split
   ·rename_i dd _;unfold BIG;omega
   ·unfold BIG;omega
 let given:Nat→Prop:=fun blk=>∃k fr,owO a' tk' ow blk = .tok k fr
 let ow2:Nat→A2:=fun blk=>open Classical in if blk<w.heap.size∧¬given blk then ow blk else Au2 tn (ow' blk)
 have htnK:∀κ,tn κ=P1 dst tk' κ+BIG:=fun κ=>by rw[← htn]
 let tb2:Nat→Option (Nat×(Nat×Nat)):=fun j=>match bx.tb j with
  |some x=>some x
  |none=>match c.W6.find? (fun κ=>soft κ&&FE4 (tn κ) j) with
   |some κ=>tb' κ
   |none=>none
 let bx2:Bx:=⟨bx.f,fun j=>bx.dead j||J7 (tk'.map (·.2)++c.W6.map (P1 dst tk')) j,tb2⟩
 let bxE:Bx:=⟨(bxO a' tk' bx).f,(bxO a' tk' bx).dead,tb'⟩
 have hM:∀blk b,ow blk = .box b→(∀i,(i,b)∉a')→owO a' tk' ow blk = .B7:=by
  intro blk b hb hn;unfold owO;rw[hb];simp only;split
  ·rename_i j hj;exact absurd (AA5 _ _ _ hj) (hn j)
  ·rfl
 have hold:∀blk,blk<w.heap.size→(∀b,owO a' tk' ow blk≠ .box b)→¬given blk→w'.heap[blk]? = w.heap[blk]? ∧ow' blk=owO a' tk' ow blk:=by
  intro blk hlt h hg;obtain⟨g1,g2,_⟩:=hinv'.old blk hlt (fun h'=>h'.elim (fun ⟨b,hb⟩=>h b hb) hg)
  exact⟨g1,g2⟩
 have hboxg:∀blk b,ow blk = .box b→¬given blk:=by
  rintro blk b hb ⟨k,fr,h⟩
  obtain⟨_,_,h⟩:=BH3 h;rw[hb] at h;cases h
 have hoo:∀blk,blk<w.heap.size→¬given blk→ow2 blk=ow blk:=fun blk h1 h2=>if_pos ⟨h1,h2⟩
 have hon:∀blk,¬(blk<w.heap.size∧¬given blk)→ow2 blk=Au2 tn (ow' blk):=fun blk h=>if_neg h
 have hbx':∀blk i,owO a' tk' ow blk = .box i→ow' blk = .box i:=by
  intro blk i h;obtain⟨b,k1,k2,k3⟩:=hcall blk i h;have hlt:=hbelow i b k1;obtain⟨t1,_⟩:=htr.bo i b k1 (by rw[← k3];exact k2)
  obtain⟨h1,h2⟩:=hinv'.kept i hlt;obtain⟨cs,hcs⟩:=Option.isSome_iff_exists.1 h2;have:=(hinv'.box i cs hcs).1;rw[t1,← k3] at this;exact this
 have hst2:∀blk n,A6 ow' blk n→A6 ow2 blk n:=by
  intro blk n h;by_cases hlt:blk<w.heap.size∧¬given blk
  ·refine Y6 (ow:=ow) (CX8 (a:=a') (tk:=tk') ?_) (hoo blk hlt.1 hlt.2)
   by_cases hm:∀b,owO a' tk' ow blk≠ .box b
   ·exact Y6 h (hold blk hlt.1 hm hlt.2).2.symm
   ·exfalso
    obtain⟨i,hcb⟩:∃i,owO a' tk' ow blk = .box i:=FB2 fun hn=>hm fun b hb=>hn ⟨b,hb⟩
    exact As7 h i (hbx' blk i hcb)
  ·unfold A6
   rw[hon blk hlt];exact CX9 h
 have hkeep:E3 ow bx w ow2 bx2 w':=by
  refine⟨fun blk n c0 T fz h hc0=> ?_,fun blk k fr h hd=> ?_,fun k hd=> ?_,fun b h=> ?_,fun k x hx=>by simp only[bx2,tb2,hx]⟩
  ·have hlt:=hi.here blk (AK5 h)
   obtain⟨q1,c1,fz1,q2,q3⟩:=hinv'.st blk n c0 T fz (Au0 h) hc0;exact⟨hst2 blk n q1,c1,fz1,q2,q3⟩
  ·have hlt:=hi.here blk (by rw[h];intro e;cases e)
   have hng:¬given blk:=by
    rintro⟨κ,fr',hg⟩
    obtain⟨k',hk',hb'⟩:=BH3 hg;rw[h] at hb';cases hb';have hmem:k∈tk'.map (·.2)++c.W6.map (P1 dst tk'):=FB7 _ (FB1.2 ⟨_,hk',rfl⟩);have hkill:J7 (tk'.map (·.2)++c.W6.map (P1 dst tk')) k=true:=by unfold J7;rw[FC2];exact⟨k,hmem,FC0 k⟩
    simp only[bx2,hdead k hmem,hkill] at hd;cases hd
   refine⟨by rw[hoo blk hlt hng];exact h,(hold blk hlt (fun b hb=> ?_) hng).1⟩
   obtain⟨_,_,g2⟩:=Au1 hb;rw[h] at g2;cases g2
  ·simp only[bx2,FD6] at hd
   exact hd.1
  ·have hlt:=hi.here (bx b) (by rw[h];intro e;cases e)
   exact⟨rfl,by rw[hoo _ hlt (hboxg _ b h)];exact h⟩
 have hdat:∀e∈A8 c.outs c.A1 y,∃t v,e=EV.dat t v:=BG5 _ _ _;have htk2:∀κ∈c.W6,tn κ % 100000=κ % 100000∧(∀blk fr,ow' blk = .tok κ fr→ow2 blk = .tok (tn κ) fr)∧(soft κ=true→∀x,bxE.tb κ=some x→bx2.tb (tn κ)=some x):=by
  refine fun κ hκ=>⟨htn5 κ,fun blk fr h=> ?_,fun hs x hx=> ?_⟩
  rotate_left
  ·have hn:bx.tb (tn κ)=none:=by
    rw[htnK];exact Ba6 hi (hdead _ (FC1 _ (FB1.2 ⟨κ,hκ,rfl⟩)))
   have hf:c.W6.find? (fun κ'=>soft κ'&&FE4 (tn κ') (tn κ))=some κ:=by exact CY3 (P1 dst tk') tn htnK _ κ h7 hκ hs
   simp only[bx2,tb2,hn,hf];exact hx
  have hn:¬(blk<w.heap.size∧¬given blk):=by
   rintro⟨hlt,hg⟩
   by_cases hm:∀b,owO a' tk' ow blk≠ .box b
   ·rw[(hold blk hlt hm hg).2] at h
    exact hg ⟨κ,fr,h⟩
   ·obtain⟨i,hcb⟩:∃i,owO a' tk' ow blk = .box i:=FB2 fun hn=>hm fun b hb=>hn ⟨b,hb⟩
    rw[hbx' blk i hcb] at h;cases h
  rw[hon blk hn,h];rfl
 have hbo2:∀i,ow' (bxE i) = .box i→bx2 (W7 a' i)=bxE i∧ow2 (bxE i) = .box (W7 a' i):=by
  intro i h;obtain⟨_,q2,q3⟩:=hinv'.back _ i h;obtain⟨b,cs,cs',k1,k2,_⟩:=hbox i q3;obtain⟨g1,_⟩:=hi.box b cs k2;have hbn:W7 a' i=b:=by unfold W7;rw[hok.key i b k1]
  have hbc:bxE i=bx b:=by simp[bxE,bxO,G9,hok.key i b k1]
  rw[hbn,hbc];have hlt:=hi.here (bx b) (by rw[g1];intro e;cases e)
  exact⟨rfl,by rw[hoo _ hlt (hboxg _ b g1)];exact g1⟩
 obtain⟨r1,r2,r3,r4⟩:=Ba5 (w:=w') (tn:=tn) (bn:=W7 a') (ow':=ow2) (bx:=bxE) (bx':=bx2) hst2 (fun _=>rfl) htk2 hbo2 c.rs _ (fun κ h=>FB7 _ h) hdat
 rw[h5] at r1 r2 r4;simp only at r1 r2 r4;have hv2:A0 ow2 bx2 w' (G8 vs) v:=CY2 r2 r4 hv;obtain⟨s1,s2,s3⟩:=CX7 (w:=w') (tn:=tn) (bn:=W7 a') (ow':=ow2) (bx:=bxE) (bx':=bx2) hst2 (fun _=>rfl) htk2 hbo2 c.aft (D7 id id c.rs (A8 c.outs c.A1 y)).2 (fun κ h=>FC1 _ h) fun e he=>hdat e (r3 e he)
 rw[← r1] at s1 s2 s3;have hb1:c.S1 y=(F9 id id c.aft d).map some:=by unfold F8.S1;rw[← r1]
 obtain⟨k1,k3⟩:=CY0 _ _ _ h6;refine⟨v,ow2,bx2,rfl,hkeep,hv2,?_,fun j=>rfl⟩
 have hwsb:∀(k:Nat) x,ws[k]? = some x→(k,x.b)∈a':=by
  intro k x hx;have hk:k<(F9 tn (W7 a') c.aft d).length:=by rw[← k1];exact (FA4.1 hx).1
  obtain⟨b,cs,g1,g2,g3,g4⟩:=k3 k _ (FA3 hk);rw[hx] at g3;cases g3;rw[FC4] at g1;exact V0 _ _ _ g1
 constructor
 ·intro b cs2 hb2
  simp only[upd,P3] at hb2;by_cases hin:∃i,(i,b)∈a'
  ·obtain⟨i,hi'⟩:=hin
   have hlt:=hbelow i b hi';have hlt2:i<(F9 tn (W7 a') c.aft d).length:=by rw[s1,haft];exact hlt
   have hlt3:i<(F9 id id c.aft d).length:=by rw[s2,haft];exact hlt
   obtain⟨b',cs,q1,q2,q3,q4⟩:=k3 i _ (FA3 hlt2);rw[FC4,hok.key i b hi'] at q1;cases q1;obtain⟨b0,cs0,cs0',p1,p2,p3,p4,p5⟩:=hbox i hlt;have:b0=b:=by have:=hok.key i b0 p1;rw[hok.key i b hi'] at this;cases this;rfl
   subst this;have hrdb:rd b0=bg b0:=(hrd b0 (FB1.2 ⟨(i,b0),hi',rfl⟩)).symm;have hcs:cs=cs0:=by rw[hrdb,p2] at q2;cases q2;rfl
   subst hcs;rw[BG7 ws bg b0 _ cs i q3 p2 q4 (fun k x hx he=>by have:=hwsb k x hx;rw[he] at this;exact hok.inj k i b0 this hi')] at hb2
   obtain⟨z1,z2⟩:=s3 i _ _ (FA3 hlt3) (FA3 hlt2);generalize (F9 tn (W7 a') c.aft d)[i]=out at hb2 z1 z2 q4;cases hb2;obtain⟨g1,c0,T,g2,g3⟩:=hi.box b0 cs p2;obtain⟨t1,t2⟩:=htr.bo i b0 hi' g1;have hbg':A3 (c.S1 y) i=some ((F9 id id c.aft d)[i]):=by rw[hb1,AR1];exact FA3 hlt3
   obtain⟨w1,c1,T1,w2,w3⟩:=hinv'.box i _ hbg';change ow' ((bxO a' tk' bx) i)=_ at w1;change w'.heap[(bxO a' tk' bx) i]? = _ at w2;rw[t1] at w1 w2;have hltb:=hi.here (bx b0) (by rw[g1];intro e;cases e)
   refine⟨by rw[hoo _ hltb (hboxg _ b0 g1)];exact g1,c1,T1,w2,by rw[z1];exact w3.1,fun k e v' he hv'=> ?_⟩
   have hklt:k<((F9 id id c.aft d)[i]).length:=by rw[← z1];exact (FA4.1 he).1
   obtain⟨r4,r5⟩:=w3.2 k _ v' (FA3 hklt) hv';exact⟨z2 k _ e v' (FA3 hklt) he r4,r5⟩
  ·have hne:∀x∈ws,x.b≠b:=fun x hx e=>by
    obtain⟨k,hk⟩:=List.getElem?_of_mem hx;exact hin ⟨k,e▸hwsb k x hk⟩
   rw[Aa8 ws bg b hne] at hb2;obtain⟨g1,c0,T,g2,g3⟩:=hi.box b cs2 hb2;have hltb:=hi.here (bx b) (by rw[g1];intro e;cases e)
   have hj:=hM (bx b) b g1 (fun i h=>hin ⟨i,h⟩)
   exact⟨by rw[hoo _ hltb (hboxg _ b g1)];exact g1,c0,T,by rw[(hold (bx b) hltb (by rw[hj];intro b h;cases h) (hboxg _ b g1)).1];exact g2,g3.keep hkeep⟩
 ·intro blk b h
  by_cases hlt:blk<w.heap.size∧¬given blk
  ·rw[hoo blk hlt.1 hlt.2] at h
   obtain⟨g1,g2,g3⟩:=hi.back blk b h;exact⟨g1,by simp only[upd,P3];rw[Aa9];exact g2,g3⟩
  ·rw[hon blk hlt] at h
   unfold Au2 at h;split at h <;> cases h
 ·intro blk h
  by_cases hlt:blk<w.heap.size∧¬given blk
  ·omega
  ·rw[hon blk hlt] at h
   refine hinv'.here blk fun e=>h ?_
   rw[e];rfl
 ·intro blk hlt hnm
  obtain⟨g1,g2,g3⟩:=hi.old blk hlt hnm;have hs:=hi.size;have hlt2:blk<w.heap.size:=by omega
  have hng:¬given blk:=by
   rintro⟨κ,fr,hg⟩
   obtain⟨k',_,hb'⟩:=BH3 hg;exact g3.2 _ _ hb'
  have hc':∀b,owO a' tk' ow blk≠ .box b:=by intro b hb;obtain⟨b',_,k2⟩:=Au1 hb;exact g3.1 b' k2
  exact⟨by rw[(hold blk hlt2 hc' hng).1];exact g1,by rw[hoo blk hlt2 hng];exact g2,by rw[hoo blk hlt2 hng];exact g3⟩
 ·have:=hi.size;omega
 ·obtain⟨e1,e2,e3⟩:=hinv'.env
  obtain⟨e4,e5,e6⟩:=hi.env;exact⟨by rw[e1];exact e4,by rw[e2];exact e5,by rw[e3];exact e6⟩
 ·intro b hb
  obtain⟨h1,h2⟩:=hi.kept b hb;exact⟨h1,by simp only[upd,P3];rw[Aa9];exact h2⟩
 ·exact hi.st.trans hkeep.st
 ·intro j hj
  exact CY4 hi htnK h8 hj
theorem Ba7 {f:Nat}:∀(l:List F8) (c:F8),Ar7 f l=some c→c∈l∧c.f=f
 | [],c,h=>by cases h
 |d::r,c,h=>by
  simp only[Ar7] at h;split at h
  ·rename_i hk
   cases h;exact⟨by simp,FA5 hk⟩
  ·obtain⟨h1,h2⟩:=Ba7 r c h
   exact⟨by simp[h1],h2⟩
theorem CY6 {A:Operand→EV}{o:Oper}{k:Call}{f:Operand}{fid:Nat}{fst caps:List EV}(ho:o.op = .call k)(hk:k.callee = .value f)(he:A f = .clo fid fst caps){ow:Nat→A2}{bx:Bx}{w:World}{a:Act}(hA:F5 ow bx w A a.eval o.op):
  ∃fs cs,a.eval f = .func (.func fid) fs cs∧S3 ow bx w (fst++k.args.toList.map A++caps) (fs++k.args.map a.eval++cs):=by
 have hall:=Aa5 ho hA;have hfv:=hall f (by simp[Call.operands,hk])
 rw[he] at hfv;generalize hpe:a.eval f=u at hfv;cases hfv with
 |clo h1 h2 h3 h4=>
  rename_i fs cs;refine⟨fs,cs,rfl,by simp[h1,h2],fun i e v hi hv=> ?_⟩
  rw[FC7] at hi;rw[FE5] at hv;simp only[FC3,List.length_map,Array.length_toList,h1] at hi;simp only[Array.size_append,Array.size_map] at hv;split at hi
  ·rename_i hlt
   rw[if_pos hlt] at hv;rw[FC7] at hi;rw[FE5] at hv;rw[h1] at hi;split at hi
   ·rename_i hlt2
    rw[if_pos hlt2] at hv;exact h3 i e v hi hv
   ·rename_i hlt2
    rw[if_neg hlt2] at hv;simp only[FF2,Array.getElem?_map,Option.map_eq_some_iff] at hi hv;obtain⟨x,hx,rfl⟩:=hi;obtain⟨y,hy,rfl⟩:=hv;have:x=y:=by
              have:k.args.toList[i-fs.size]? = some y:=by simpa using hy
              rw[hx] at this;cases this;rfl
    subst this;exact hall x (by simp only[Call.operands];exact Array.mem_append.2 (.inr (Array.mem_of_getElem? hy)))
  ·rename_i hlt
   rw[if_neg hlt] at hv;exact h4 _ e v hi hv
theorem CY7 {ρ:Type}{P:Program}{Γ:Cx}(hΓ:F2 P Γ){dead:List Nat}{rd:Nat→Option (List EV)}{o:Oper}{A:Operand→EV}{c:F8}{args:List EV}{q:EV→List Wr→List Nat→List Nat→Option ρ}{r:ρ}(hoc:BE4 Γ A o.op=some (c,args))
  (h:BD5 dead o.dst rd c args q=some r):∃v ws tr ks,q v ws tr ks=some r∧(∀k∈ks,k∉dead)∧(∀x∈ws,x.b∈tr∧∃cs,rd x.b=some cs∧x.off+x.new.length≤cs.length)∧
   ∀id B ow bx nb bg w (a:Act),Inv B ow bx nb bg w→F5 ow bx w A a.eval o.op→(∀b∈tr,bg b=rd b)→(∀k∈ks,bx.dead k=false)→AD2 P B ow bx nb bg w a o id v none ws ks []:=by
 unfold BE4 at hoc;split at hoc
 ·rename_i k ho
  split at hoc
  ·rename_i f hk
   split at hoc
   ·cases hoc
   ·split at hoc
    ·rename_i fid fst caps he
     split at hoc
     ·rename_i oc hf
      cases hoc;obtain⟨hmem,hfid⟩:=Ba7 _ _ hf;subst hfid;have hc:=hΓ.owns c hmem;unfold BD5 at h;split at h
      ·cases h
      ·rename_i l a tk h1
       split at h
       ·cases h
       ·rename_i l' a' tk' h2
        split at h
        ·rename_i x hp h3
         cases hF:c.F x with
         |none=>rw [hF] at h;cases h
         |some y=>
          rw[hF] at h;simp only[Option.bind_some] at h;split at h
          ·rename_i ws h6
           split at h
           rotate_left
           ·cases h
           rename_i h7;simp only[FA6] at h7;refine⟨_,_,_,_,h,fun k hk=> ?_,fun z hz=> ?_,fun id B ow bx nb bg w act hi hA hb hd=> ?_⟩
           ·rcases FD5.1 hk with hk | hk
            rotate_left
            ·obtain⟨κ,hκ,rfl⟩:=FB1.1 hk
             have:=List.all_eq_true.1 h7.2 κ hκ;simp only[FA6,FB9] at this;exact AG9 this.1
            obtain⟨p,hp,rfl⟩:=FB1.1 hk;have m5:=(Aj1 (ow:=fun _=>.B7) (ow':=fun _=>.B7) (bx:=⟨fun b=>b,fun _=>false,fun _=>none⟩) (bx':=⟨fun b=>b,fun _=>false,fun _=>none⟩) (w:=default) c.ps _ [] [] l a tk h1).2.2.2.2.1
            exact ((At9 c.boxes 0 a tk l' a' tk' h2).2.2.2.2.1 (m5 fun p hp=>by simp at hp) p hp).1
           ·exact CY1 _ _ _ h6 z hz
           ·obtain⟨fs,cs,hf,hrl⟩:=CY6 ho hk he hA
            intro K Q hK;unfold Oper.wp;rw[At8 hc.fn ho hk hf];exact (CY5 (dst:=o.dst) hc h1 h2 hp h3 hF rfl h6 h7.1 (fun κ hκ hs=>(by have:=List.all_eq_true.1 h7.2 κ hκ;simp only[FA6,FC9,hs,Bool.not_true] at this;exact FB0 (this.2.resolve_right (by simp)))) id hi hrl hb hd).mono fun e w' ⟨u,ow',bx',he,g1,g2,g3,g4⟩=>by subst he;exact hK u ow' bx' w' g1 g2 g3 g4 (fun p hp=>by simp at hp)
          ·cases h
        ·cases h
     ·cases hoc
    ·cases hoc
  ·cases hoc
 ·cases hoc


theorem CY8 {P:Program}{T:TypeId}{w:World}{b off n:Nat}{c:Array Value}{U:TypeId}{fz:Nat×Nat}{u:Value}(hs:(sizeOf T).run P w = .ok n w)(hn:u.cells.size=n)(hb:w.heap[b]? = some (.cells c U fz))(hz:Y7 fz c.size)
  (hle:off+u.cells.size≤c.size) (h1:∀v∈u.cells.toList,v.oneCell'=true):
  (storeVar T ⟨b,off,none⟩ u).run P w = .ok () (w.setRow b (c.toList.take off++u.cells.toList++c.toList.drop (off+u.cells.toList.length)).toArray):=by
 have:=BH0 P b off U fz u.cells.toList 0 c w hb hz (by simpa using hle) h1
 unfold storeVar;simp only[FE8,hs,FF3,hn,ne_eq,not_true_eq_false,if_false];simpa using this
theorem CY9 {α:Type}{C nvs:List α}{i o s:Nat}(ho:o+nvs.length≤s)(hC:i*s+s≤C.length)(j:Nat):
  ((C.take (i*s+o)++nvs++C.drop (i*s+o+nvs.length)).drop (j*s)).take s=
   if j=i then ((C.drop (i*s)).take s).take o++nvs++((C.drop (i*s)).take s).drop (o+nvs.length) else (C.drop (j*s)).take s:=by
 have hlt:j<i→j*s+s≤i*s:=fun h=>by have:=AA2 (off:=0) (s:=s) h;omega
 have hgt:i<j→i*s+s≤j*s:=fun h=>by have:=AA2 (off:=0) (s:=s) h;omega
 apply FF4;intro m;split
 ·rename_i e
  subst e;simp only[FD0,FD1,FC7,FC3,FE0,FE1];by_cases hm:m<s
  ·simp only[hm,if_true]
   by_cases h1:m<o
   ·have e1:j*s+m<min (j*s+o) C.length:=by omega
    have e2:m<min o (min s (C.length-j*s)):=by omega
    have e3:j*s+m<min (j*s+o) C.length+nvs.length:=by omega
    have e4:m<min o (min s (C.length-j*s))+nvs.length:=by omega
    have e5:j*s+m<j*s+o:=by omega
    simp only[e1,e2,e3,e4,e5,h1,if_true]
   ·have e1:¬j*s+m<min (j*s+o) C.length:=by omega
    have e2:¬m<min o (min s (C.length-j*s)):=by omega
    by_cases h2:m<o+nvs.length
    ·have e3:j*s+m<min (j*s+o) C.length+nvs.length:=by omega
     have e4:m<min o (min s (C.length-j*s))+nvs.length:=by omega
     simp only[e1,e2,e3,e4,if_true,if_false];congr 1;omega
    ·have e3:¬j*s+m<min (j*s+o) C.length+nvs.length:=by omega
     have e4:¬m<min o (min s (C.length-j*s))+nvs.length:=by omega
     have e5:o+nvs.length+(m-(min o (min s (C.length-j*s))+nvs.length))<s:=by omega
     simp only[e1,e2,e3,e4,e5,if_true,if_false];congr 1;omega
  ·have e4:¬m<min o (min s (C.length-j*s))+nvs.length:=by omega
   have e5:¬o+nvs.length+(m-(min o (min s (C.length-j*s))+nvs.length))<s:=by omega
   simp only[hm,e4,e5,if_false]
 ·rename_i hne
  simp only[FD0,FD1,FC7,FC3,FE0];by_cases hm:m<s
  ·simp only[hm,if_true]
   by_cases hji:j<i
   ·have:=hlt hji
    have e1:j*s+m<min (i*s+o) C.length:=by omega
    have e3:j*s+m<min (i*s+o) C.length+nvs.length:=by omega
    have e5:j*s+m<i*s+o:=by omega
    simp only[e1,e3,e5,if_true]
   ·have:=hgt (by omega)
    have e3:¬j*s+m<min (i*s+o) C.length+nvs.length:=by omega
    simp only[e3,if_false];congr 1;omega
  ·simp only[hm,if_false]
section
variable {P:Program}{Γ:Cx}{dead:List Nat}{o:Oper}{A:Operand→EV}{r:AK0}
def Ab3 (P:Program)(dead:List Nat)(A:Operand→EV)(o:Oper)(r:AK0):Prop:=
 (∀k∈r.ks,k∉dead)∧(∀k∈r.us,k∉dead)∧(∀p∈r.up,p.1∈r.ks∧p.1<BIG)∧
 ∀id B ow bx nb bg w (a:Act),Inv B ow bx nb bg w→F5 ow bx w A a.eval o.op→(∀k∈r.ks,bx.dead k=false)→(∀k∈r.us,bx.dead k=false)→AD2 P B ow bx nb bg w a o id r.v none [] r.ks r.up
theorem CZ0 {d e:Nat}(he:e<25000):soft (d*100000+75000+e+BIG)=true∧(d*100000+75000+e+BIG) % 25000=e:=by
 constructor
 ·unfold soft
  apply Nat.ble_eq_true_of_le;unfold BIG;omega
 ·unfold BIG
  omega
theorem CZ1 (hΓ:F2 P Γ){t:Nat}{n c:Operand}(ho:o.op = .makeSlice t n c)(h:BD8 Γ dead o.dst t (A n) (A c)=some r)(hc:r.c=true):Ab3 P dead A o r:=by
 unfold BD8 at h;split at h
 ·cases h
 ·rename_i d hdst
  split at h
  ·rename_i kn a ha
   split at h
   ·rename_i kc b hb
    split at h
    ·rename_i dt hdt
     split at h
     ·rename_i e es bytes hw
      split at h
      ·rename_i de hde
       split at h
       ·rename_i k0 z hty hz
        split at h
        ·rename_i z0 hz0
         split at h
         ·rename_i hck
          cases h;simp only[FA6,FB9,decide_eq_true_eq] at hck hc;obtain⟨⟨he,hnd⟩,hdB⟩:=hck;have hdB:d<9000000:=FB0 hdB;have he:e<25000:=FB0 he;obtain⟨⟨⟨ha0,hab⟩,hbb⟩,hb1⟩:=hc;have ha0:@LE.le Int _ 0 a:=ha0;have hab:@LE.le Int _ a b:=hab;have hb1:@LE.le Int _ b 140737488355328:=hb1;have hbb:@LE.le Int _ (@HMul.hMul Int Int Int _ b (bytes:Int)) 140737488355328:=hbb
          have hn1:FE9 a≤FE9 b:=by omega
          have hn2:FE9 a≤9223372036854775807:=by omega
          refine⟨fun k hk=> ?_,fun k hk=>by simp at hk,fun p hp=>by simp at hp,fun id B ow bx nb bg w act hi hA hd _=> ?_⟩
          ·rw[FB5] at hk
           rw[hk];exact AG9 hnd
          rw[ho] at hA;have hall:=H9 hA (by intros;simp)
          have hn:=hall n (by simp[Op.operands])
          have hcv:=hall c (by simp[Op.operands])
          rw[ha] at hn;rw[hb] at hcv;have hh:=(hΓ.td t dt hdt).how;simp only[hw] at hh;obtain⟨_,hu,⟨gi,zz,g1,g2,g3,g4⟩,_⟩:=hh;obtain⟨i',z',z1,z2,z3,z4,z5⟩:=(hΓ.td e de hde).zero;rw[g1] at z1;cases z1;rw[g4] at z2;cases z2;rw[hz] at z3 z4 z5;simp only[List.length_singleton] at z3 z4;have hrun:(execOp act.eval o).run P w = .ok (.value (.slice (some ⟨w.heap.size,0,none⟩) a.toNat b.toNat)) (w.alloc (.cells (madeCells zz.cells (b.toNat*gi.size)) e)):=by
           unfold execOp;rw[ho];simp only[(Q4 hn).1,(Q4 hcv).1,FE8];rw[run_make w t e gi zz hu g1 g4 kn kc a b ha0 hab (by rw[g3,Int.mul_comm];exact Int.le_trans hbb (show (140737488355328:Int)≤281474976710656 by decide)) (Int.le_trans hb1 (show (140737488355328:Int)≤9223372036854775807 by decide))]
           simp
          have hsf:=CZ0 (d:=d) he;obtain⟨K,hK⟩:∃K,K=d*100000+75000+e:=⟨_,rfl⟩;rw[← hK] at hsf hd;show AD2 P B ow bx nb bg w act o id (.own (d*100000+75000+e+BIG) (.int k0) (List.replicate a.toNat z0)) none [] [d*100000+75000+e] [];rw[← hK];obtain⟨j1,j2⟩:=hi.At2 (.tok (K+BIG) 0) (.cells (madeCells zz.cells (b.toNat*gi.size)) e) (.inr (.inr ⟨_,_,rfl⟩));have hdK:bx.dead K=false:=hd K (by simp)
          have htbn:=Ba6 hi hdK
          let bx':Bx:=⟨bx.f,fun j=>bx.dead j||FE4 K j,fun j=>if j=K+BIG then some (w.heap.size,a.toNat,b.toNat) else bx.tb j⟩
          have hk:E3 (fun blk=>if blk=w.heap.size then .tok (K+BIG) 0 else ow blk) bx {w with heap:=w.heap.push (.cells (madeCells zz.cells (b.toNat*gi.size)) e)} (fun blk=>if blk=w.heap.size then .tok (K+BIG) 0 else ow blk) bx' (w.alloc (.cells (madeCells zz.cells (b.toNat*gi.size)) e)):=by
           refine⟨.of fun _ _ h=>⟨h,rfl⟩,fun _ _ _ h _=>⟨h,rfl⟩,fun j h=> ?_,fun _ h=>⟨rfl,h⟩,fun j x hx=> ?_⟩
           ·simp only[bx',FD6] at h
            exact h.1
           ·simp only[bx']
            rw[if_neg (fun e=>by rw[e,htbn] at hx;cases hx)]
            exact hx
          have hcell:∀j,j<b.toNat*gi.size→(madeCells zz.cells (b.toNat*gi.size))[j]? = some (.int k0 z0):=by
           intro j hj;have hone:zz.cells=#[.int k0 z0]∧fits k0 z0=true:=by
            obtain⟨q1,q2⟩:=z5 (fun _=>.B7) ⟨fun b=>b,fun _=>false,fun _=>none⟩ default
            have hv0:zz.cells.toList[0]? = some (zz.cells[0]'(by omega)):=by simp
            have q3:=AG3 hz0 (q2 0 z _ rfl hv0).1;simp only[D1,Rep,List.cons.injEq,and_true] at q3;refine⟨?_,q3.2⟩;apply Array.ext
            ·simp[z4]
            ·intro m h1 h2
             have:m=0:=by omega
             subst this;simpa using q3.1
           simp[madeCells,hj,hone.1,Nat.mod_one]
          have hfit:fits k0 z0=true:=by
           obtain⟨q1,q2⟩:=z5 (fun _=>.B7) ⟨fun b=>b,fun _=>false,fun _=>none⟩ default
           have hv0:zz.cells.toList[0]? = some (zz.cells[0]'(by omega)):=by simp
           have q3:=AG3 hz0 (q2 0 z _ rfl hv0).1;simp only[D1,Rep] at q3;exact q3.2
          intro Kk Q hKk;unfold Oper.wp;rw[hrun];refine hKk _ _ bx' _ (j1.trans hk) (.own (fun h=>(by rw[hsf.1] at h;cases h)) (fun _=>.inr ⟨w.heap.size,b.toNat,_,(0,0),by rw[FB6],by simp[N7,hsf.1],by rw[hsf.2];exact heap_alloc_new w _,As9 _,by rw[size_madeCells,z3];rfl,by rw[FB6];exact hn1,fun _=>⟨by rw[FB6];exact hn2,fun i x hx=> ?_⟩⟩) fun _=>.inr ⟨w.heap.size,b.toNat,by simp[bx'],by rw[FB6],by rw[FB6];exact hn1,by rw[FB6];exact hn2⟩) ?_ (fun j=>by simp[bx',J7]) (fun p hp=>by simp at hp)
          ·have hil:i<FE9 a:=by have:=(FA4.1 hx).1;simpa using this
           have hxz:x=z0:=by rw[List.getElem?_replicate] at hx;simp[hil] at hx;exact hx.symm
           subst hxz;refine⟨?_,hfit⟩;have hc:=hcell i (by rw[z3,Nat.mul_one];exact Nat.lt_of_lt_of_le hil hn1)
           simp only[Ty.size,Nat.mul_one];apply FF4;intro m;rw[FD0,FD1];cases m with
           |zero=>simpa using hc
           |succ m=>simp
          ·constructor
           ·intro b' cs hb'
            obtain⟨q1,c1,T,q2,q3⟩:=j2.box b' cs hb';exact⟨q1,c1,T,q2,q3.keep hk⟩
           ·exact j2.back
           ·exact j2.here
           ·exact j2.old
           ·exact j2.size
           ·exact j2.env
           ·exact j2.kept
           ·exact j2.st.trans hk.st
           ·intro j hj
            simp only[bx'] at hj ⊢;split at hj
            ·rename_i e
             right
             rw[e,FD7,FC0,Bool.or_true];exact⟨rfl,by rw[hK];unfold BIG;omega⟩
            ·exact (hi.born j hj).imp (fun h=>h) fun h=>⟨by rw[h.1];rfl,h.2⟩
         ·cases h
        ·cases h
       ·cases h
      ·cases h
     ·cases h
    ·cases h
   ·cases h
  ·cases h
theorem CZ2 (hΓ:F2 P Γ){t:Nat}{x:Operand}(ho:o.op = .load t x)(h:BD9 Γ dead t (A x)=some r):Ab3 P dead A o r:=by
 unfold BD9 at h;split at h
 ·rename_i k ty l i off he
  split at h
  ·cases h
  ·rename_i hnd
   split at h
   ·rename_i d hd
    have hOK:=hΓ.td t d hd;split at h
    ·rename_i v hv
     cases h;refine⟨fun k hk=>by simp at hk,fun k' hk=> ?_,fun p hp=>by simp at hp,fun id B ow bx nb bg w act hi hA _ hu=> ?_⟩
     ·rw[FB5] at hk
      rw[hk];exact AG9 hnd
     rw[ho] at hA;have hp:=H9 hA (by intros;simp) x (by simp[Op.operands])
     rw[he] at hp;have hdk:=hu k (by simp)
     generalize hpe:act.eval x=u at hp;cases hp with
     |elo hb h0 h1 h'=>
      rename_i blk;obtain⟨_,c,fz,hc,_,⟨hle,hle2⟩,hcont⟩:=h' hdk;have hlt:i.toNat<l.length:=by omega
      have hgx:l.getD i.toNat ty.J6=l[i.toNat]'hlt:=by simp[List.getD,hlt]
      have hrep:=hcont i.toNat _ (FA3 hlt);rw[← hgx] at hrep;obtain⟨u,g1,g2,_⟩:=AK6 (P:=P) hOK (base:=i.toNat*ty.size) hv hc (vs:=(c.toList.drop (i.toNat*ty.size)).take ty.size) (fun j v hj=>by
       rw[FD0] at hj;split at hj
       ·rw[FD1] at hj;exact AA3 hj
       ·cases hj) (AG2 _ _ _ hrep)
      exact (BX8 hi (AG6 ho hpe g1) g2).BF9
    ·cases h
   ·cases h
 ·cases h
theorem CZ3 (hΓ:F2 P Γ){t:Nat}{x y:Operand}(ho:o.op = .store t x y)(h:BE0 Γ dead t (A x) (A y)=some r):Ab3 P dead A o r:=by
 unfold BE0 at h;split at h
 ·rename_i k ty l i off he
  split at h
  ·cases h
  ·rename_i hnd
   split at h
   ·rename_i d hd
    have hOK:=hΓ.td t d hd;split at h
    ·rename_i new hnew
     split at h
     ·rename_i hck
      simp only[FA6] at hck;obtain⟨⟨hl1,hl2⟩,hkB⟩:=hck;have hl1:=FA5 hl1;have hl2:=FB0 hl2;have hkB:k<BIG:=FB0 hkB;split at h
      ·rename_i v hasm
       cases h;refine⟨fun k' hk=> ?_,fun k hk=>by simp at hk,fun p hp=> ?_,fun id B ow bx nb bg w act hi hA hdd _=> ?_⟩
       ·rw[FB5] at hk
        rw[hk];exact AG9 hnd
       ·rw[FB5] at hp
        rw[hp];exact⟨by simp,hkB⟩
       rw[ho] at hA;have hall:=H9 hA (by intros;simp)
       have hp:=hall x (by simp[Op.operands])
       have hy:=hall y (by simp[Op.operands])
       rw[he] at hp;have hdk:=hdd k (by simp)
       have hnv:=Ai4 hnew hy;generalize hpe:act.eval x=u at hp;cases hp with
       |elo hb h0 h1 h'=>
        rename_i blk cap;obtain⟨how,c,fz,hc,hz,⟨hle,hle2⟩,hcont⟩:=h' hdk;have hle3:l.length*ty.size≤c.size:=by rw[hle];exact Nat.mul_le_mul_right _ hle2
        have hlt:i.toNat<l.length:=by omega
        have hgx:l.getD i.toNat ty.J6=l[i.toNat]'hlt:=by simp[List.getD,hlt]
        have hrep:=hcont i.toNat _ (FA3 hlt);rw[← hgx] at hrep;have hpart:=AA2 (off:=0) (s:=ty.size) hlt;have hsz:(act.eval y).cells.size=d.zero.length:=by have:=hnv.1;simp at this;omega
        have hnl:(act.eval y).cells.toList.length=d.zero.length:=by simpa using hsz
        have hst:=CY8 (P:=P) (T:=t) (hOK.sizeOf (w:=w)) hsz hc hz (off:=i.toNat*ty.size+off) (by omega) hnv.Aa3
        have hrun:(execOp act.eval o).run P w = .ok .skip (w.setRow blk (c.toList.take (i.toNat*ty.size+off)++(act.eval y).cells.toList++c.toList.drop (i.toNat*ty.size+off+(act.eval y).cells.toList.length)).toArray):=by unfold execOp;rw[ho];simp only[hpe,Instr.storeAt,Instr.sureAddr,FE8,Sem.run_pure,FF3,hst]
        generalize hnc:(c.toList.take (i.toNat*ty.size+off)++(act.eval y).cells.toList++c.toList.drop (i.toNat*ty.size+off+(act.eval y).cells.toList.length)).toArray=nc at hrun;have hncs:nc.size=c.size:=by rw[← hnc,List.size_toArray,FC3,FC3,FE0,FE1,Ab1 c];omega
        have hb':=setRow_heap w blk c nc (k % 25000) fz hc;obtain⟨hkeep,hinv⟩:=BH1 hi (w':=w.setRow blk nc) (k:=k) (k':=k) (g:=blk) (fr:=0) (fz₀:=fz) (.inr ⟨setRow_size _ _ _,0,c,how,hc,FE3 _,by simp⟩) hb' (fun b _ hne=>setRow_other w blk b _ hne) ⟨rfl,rfl,rfl⟩ hdk
        intro K Q hK;unfold Oper.wp;rw[hrun];refine hK _ _ _ _ hkeep (.undef _) hinv (fun j=>by simp[J7]) fun p hp=> ?_
        rw[FB5] at hp;subst hp;refine⟨undef,.fre undef (by rw[FE2];exact hb) (by simp) ⟨by simp,nc,fz,hb',by rw[hncs];exact hz,⟨by rw[hncs];exact hle,by rw[FE2];exact hle2⟩,fun j z hj=> ?_⟩ (.inr fun e=>by have:=congrArg List.length e;simp only[FE2,List.length_nil] at this;omega)⟩
        have hjl:j<l.length:=by have:=(FA4.1 hj).1;simpa using this
        have hlaid:=CY9 (C:=c.toList) (nvs:=(act.eval y).cells.toList) (i:=i.toNat) (o:=off) (s:=ty.size) (by omega) (by rw[Ab1 c];omega) j
        have hncl:nc.toList=c.toList.take (i.toNat*ty.size+off)++(act.eval y).cells.toList++c.toList.drop (i.toNat*ty.size+off+(act.eval y).cells.toList.length):=by rw[← hnc]
        simp only;rw[hncl,hlaid];by_cases hij:i.toNat=j
        ·subst hij
         have hz:z=v:=by rw[List.getElem?_set_self hlt] at hj;cases hj;rfl
         rw[hz,if_pos rfl];have hcs:=(AG2 (bx:=bx) _ _ _ hrep).M3 hnv off;obtain⟨q1,q2,q3⟩:=AQ9 ty _ _ _ _ hasm hcs;have hlen:=hcs.1;have h2:=congrArg List.length q2;simp only[List.length_nil,FE1] at h2;rw[List.take_of_length_le (by omega)] at q1
         exact Rep.keep hkeep.st _ _ _ q1
        ·rw[if_neg (fun e=>hij e.symm)]
         rw[FE6 hij] at hj;exact Rep.keep hkeep.st _ _ _ (hcont j z hj)
      ·cases h
     ·cases h
    ·cases h
   ·cases h
 ·cases h
theorem CZ4 (hΓ:F2 P Γ){c:Call}{x y:Operand}{t t':Nat}(ho:o.op = .call c)(hcl:c.callee = .builtin .copy)(ha:c.args.toList=[x,y])(hts:c.argTypes.toList=[t,t'])(h:BE1 Γ dead t t' (A x) (A y)=some r)(hc:r.c=true):Ab3 P dead A o r:=by unfold BE1 at h;cases h
theorem CZ5 (hΓ:F2 P Γ){c:Call}{x y:Operand}{t t':Nat}(ho:o.op = .call c)(hcl:c.callee = .builtin .append)(ha:c.args.toList=[x,y])(hts:c.argTypes.toList=[t,t'])(h:BE2 Γ dead o.dst t t' (A x) (A y)=some r)(hc:r.c=true):Ab3 P dead A o r:=by unfold BE2 at h;cases h
theorem CZ6 (hΓ:F2 P Γ)(hs:BE3 Γ dead o.dst A o.op=some r)(hc:r.c=true):Ab3 P dead A o r:=by
 unfold BE3 at hs;split at hs
 ·rename_i t n c ho;exact CZ1 hΓ ho hs hc
 ·rename_i t x ho;exact CZ2 hΓ ho hs
 ·rename_i t x y ho;exact CZ3 hΓ ho hs
 ·rename_i c ho
  split at hs
  ·rename_i hcl
   split at hs
   ·rename_i x y t t' h1 h2;exact CZ4 hΓ ho hcl h1 h2 hs hc
   ·cases hs
  ·rename_i hcl
   split at hs
   ·rename_i x y t t' h1 h2;exact CZ5 hΓ ho hcl h1 h2 hs hc
   ·cases hs
  ·cases hs
 ·cases hs
def S4 (ks:List Nat)(ow:Nat→A2):Nat→A2:=fun blk=>match ow blk with
 | .tok k fr=>bif J7 ks k then .E2 else .tok k fr
 |o=>o
theorem Ba8 {ks:List Nat}{ow:Nat→A2}{blk n:Nat}(h:A6 ow blk n):A6 (S4 ks ow) blk n:=by
 rcases L2 h with h1 |⟨k,fr,h1,h2⟩|⟨fr,h1,h2⟩
 ·exact M0 (by simp[S4,h1])
 ·cases hk:J7 ks k with
  |true=>exact M0 (by simp[S4,h1,hk])
  |false=>exact AA1 (k:=k) (fr:=fr) (by simp[S4,h1,hk]) h2
 ·exact W9 (fr:=fr) (by simp[S4,h1]) h2
theorem BH4 {ks:List Nat}{ow:Nat→A2}{blk b:Nat}:S4 ks ow blk = .box b↔ow blk = .box b:=by
 unfold S4;split
 ·rename_i k fr h
  rw[h];cases J7 ks k <;> simp
 ·exact Iff.rfl
theorem CZ7 {k:Nat}{ks:List Nat}(h:I5 k ks=true):k∈ks∧J7 ks k=true:=by unfold I5 at h;obtain⟨x,hx,hxk⟩:=FC2.1 h;have:=FA5 hxk;subst this;exact⟨hx,FC2.2 ⟨k,hx,FC0 k⟩⟩
theorem CZ8 {ρ:Type}(hΓ:F2 P Γ){ks:List Nat}{id:Nat}{rd:Nat→Option (List EV)}{q:EV→Option (List EV)→List Wr→List Nat→Option ρ}{r:ρ}(hf:BE5 dead A o.op=some ks)
  (h:opE Γ id rd none (fun x=>BW7 ks (A x)) o.op q=some r):∃v n ws tr,q v n ws tr=some r∧(∀x∈ws,x.b∈tr∧∃cs,rd x.b=some cs∧x.off+x.new.length≤cs.length)∧(∀k∈ks,k∉dead)∧
   ∀B ow bx nb bg w (a:Act),Inv B ow bx nb bg w→F5 ow bx w A a.eval o.op→(∀b∈tr,bg b=rd b)→(n.isSome=true→bg id=none∧id<nb)→(∀k∈ks,bx.dead k=false)→AD2 P B ow bx nb bg w a o id v n ws ks []:=by
 unfold BE5 at hf;cases hf
theorem CZ9 {ρ:Type}(hΓ:F2 P Γ){b:Nat}{cs':List EV}{ks:List Nat}{id:Nat}{rd:Nat→Option (List EV)}{q:EV→Option (List EV)→List Wr→List Nat→Option ρ}{r:ρ}(hf:BE6 dead rd A o.op=some (b,cs',ks))
  (h:opE Γ id (BW8 rd b cs') none A o.op q=some r):∃v n ws tr,q v n ws tr=some r∧(∀x∈(⟨b,0,cs'⟩:Wr)::ws,x.b∈b::tr∧∃cs,rd x.b=some cs∧x.off+x.new.length≤cs.length)∧(∀k∈ks,k∉dead)∧
   ∀B ow bx nb bg w (a:Act),Inv B ow bx nb bg w→F5 ow bx w A a.eval o.op→(∀y∈b::tr,bg y=rd y)→(n.isSome=true→bg id=none∧id<nb)→(∀k∈ks,bx.dead k=false)→AD2 P B ow bx nb bg w a o id v n (⟨b,0,cs'⟩::ws) ks []:=by
 unfold BE6 at hf;cases hf
end

structure TI where
 s:Rg
 ch:List (Nat×Bool)
 v:EV
 n:Option (List EV)
 ws:List Wr
 tr:List Nat
 k:List Nat
 us:List Nat
 up:N5
def TI.next (t:TI)(o:Oper):Rg:=t.s.next ⟨o.dst,t.ch,t.v⟩ t.n t.ws t.tr t.k t.up
structure Ba9 (P:Program)(base:List EV)(o:Oper)(t:TI):Prop where
 ch:Ar4 t.s.rs o.guard=some t.ch
 dst:BW4 base.length o.dst=true
 quiet:guardOf t.s.rs t.ch=some false→t.n=none∧t.ws=[]
 Ca0:guardOf t.s.rs t.ch=some false→t.k=[]
 fresh:∀k∈t.k,k∉t.s.dead
 used:∀k∈t.us,k+AJ9∈t.tr∧k∉t.s.dead
 upk:∀p∈t.up,p.1∈t.k∧p.1<BIG
 upq:guardOf t.s.rs t.ch=some false→t.up=[]
 wr:∀x∈t.ws,x.b∈t.tr∧∃cs,A3 t.s.bx x.b=some cs∧x.off+x.new.length≤cs.length
 go:guardOf t.s.rs t.ch≠some false→∀B ow bx nb bg w (a:Act),Inv B ow bx nb bg w→F5 ow bx w (L9 base t.s.rs t.ch o.op) a.eval o.op→(∀b∈t.tr,bg b=A3 t.s.bx b)→
  (t.n.isSome=true→bg t.s.bx.length=none∧t.s.bx.length<nb)→(∀k∈t.k,bx.dead k=false)→(∀k∈t.us,bx.dead k=false)→AD2 P B ow bx nb bg w a o t.s.bx.length t.v t.n t.ws t.k t.up
def D5 (P:Program)(base:List EV):List Oper→Rg→List TI→Rg→Prop
 | [],s,[],s'=>s=s'
 |o::os,s,t::ts,s'=>t.s=s∧Ba9 P base o t∧D5 P base os (t.next o) ts s'
 |_,_,_,_=>False
theorem AR2 {rs:List Rec}{ch:List (Nat×Bool)}(h:chainB rs ch=true):guardOf rs ch≠some false:=by
 unfold guardOf;cases ch with
 |nil=>simp
 |cons p r=>simp only[h];simp
theorem BH5 {rs:List Rec}{ch:List (Nat×Bool)}(h:chainB rs ch=false):guardOf rs ch=some false:=by
 cases ch with
 |nil=>cases h
 |cons p r=>unfold guardOf;simp only[h]
theorem X1 {ρ:Type}{P:Program}{Γ:Cx}(hΓ:F2 P Γ){base:List EV}{q:Rg→Option ρ}{r:ρ}:∀(l:List Oper) (s:Rg),Q9 Γ base l s q=some r→∃ts s',D5 P base l s ts s'∧q s'=some r
 | [],s,h=>⟨[],s,rfl,h⟩
 |o::os,s,h=>by
  simp only[Q9] at h;split at h
  ·rename_i ch hch hdst
   split at h
   ·rename_i x hso
    cases hcc:chainB s.rs ch with
    |false=>
     rw[hcc,cond_false] at h;obtain⟨ts,s',k1,k2⟩:=X1 hΓ os _ h;exact⟨⟨s,ch,_,none,[],[],[],[],[]⟩::ts,s',⟨rfl,⟨hch,hdst,fun _=>⟨rfl,rfl⟩,fun _=>rfl,(fun k hk=>by cases hk),(fun k hk=>by cases hk),(fun p hp=>by cases hp),(fun _=>rfl),(fun x hx=>by cases hx),fun hg=>absurd (BH5 hcc) hg⟩,k1⟩,k2⟩
    |true=>
    rw[hcc,cond_true] at h;have hcn:=AR2 hcc;obtain⟨h1,h2⟩:=O0 h;have hc:=h2 (by simp)
    obtain⟨q1,q2,q3,q4⟩:=CZ6 hΓ hso hc;obtain⟨ts,s',k1,k2⟩:=X1 hΓ os _ h1;exact⟨⟨s,ch,x.v,none,[],x.us.map (· + AJ9),x.ks,x.us,x.up⟩::ts,s',⟨rfl,⟨hch,hdst,fun hne=>absurd hne hcn,fun hne=>absurd hne hcn,q1,(fun k hk=>⟨FB1.2 ⟨k,hk,rfl⟩,q2 k hk⟩),q3,fun hne=>absurd hne hcn,(fun x hx=>by cases hx),fun _ B ow bx nb bg w a hi hA _ _ hd hu=>q4 _ B ow bx nb bg w a hi hA hd hu⟩,k1⟩,k2⟩
   ·split at h
    ·rename_i x y t happ
     obtain⟨h,hcn⟩:=O0 h;have hcn:=AR2 (hcn (by simp))
     obtain⟨v,k,h1,h2,h3⟩:=CX0 hΓ happ h;obtain⟨ts,s',k1,k2⟩:=X1 hΓ os _ h1;exact⟨⟨s,ch,v,none,[],[],[k],[],[]⟩::ts,s',⟨rfl,⟨hch,hdst,fun hne=>absurd hne hcn,fun hne=>absurd hne hcn,(fun k' hk'=>by rw[FB5] at hk';rw[hk'];exact h2),(fun k hk=>by cases hk),(fun p hp=>by cases hp),(fun _=>rfl),(fun x hx=>by cases hx),fun _ B ow bx nb bg w a hi hA _ _ hd _=>h3 _ B ow bx nb bg w a hi hA (hd k (by simp))⟩,k1⟩,k2⟩
    split at h
    ·rename_i x t hmk
     obtain⟨h,hcn⟩:=O0 h;have hcn:=AR2 (hcn (by simp))
     obtain⟨v,k,h1,h2,h3⟩:=CX3 hΓ hmk h;obtain⟨ts,s',k1,k2⟩:=X1 hΓ os _ h1;exact⟨⟨s,ch,v,none,[],[],[k],[],[]⟩::ts,s',⟨rfl,⟨hch,hdst,fun hne=>absurd hne hcn,fun hne=>absurd hne hcn,(fun k' hk'=>by rw[FB5] at hk';rw[hk'];exact h2),(fun k hk=>by cases hk),(fun p hp=>by cases hp),(fun _=>rfl),(fun x hx=>by cases hx),fun _ B ow bx nb bg w a hi hA _ _ hd _=>h3 _ B ow bx nb bg w a hi hA (hd k (by simp))⟩,k1⟩,k2⟩
    split at h
    ·rename_i c args hoc
     cases hcc:chainB s.rs ch with
     |false=>
      rw[hcc,cond_false] at h;obtain⟨ts,s',k1,k2⟩:=X1 hΓ os _ h;exact⟨⟨s,ch,_,none,[],[],[],[],[]⟩::ts,s',⟨rfl,⟨hch,hdst,fun _=>⟨rfl,rfl⟩,fun _=>rfl,(fun k hk=>by cases hk),(fun k hk=>by cases hk),(fun p hp=>by cases hp),(fun _=>rfl),(fun x hx=>by cases hx),fun hg=>absurd (BH5 hcc) hg⟩,k1⟩,k2⟩
     |true=>
     rw[hcc,cond_true] at h;have hcn:=AR2 hcc;obtain⟨v,ws,tr,ks,h1,h2,h3,h4⟩:=CY7 hΓ hoc h;obtain⟨ts,s',k1,k2⟩:=X1 hΓ os _ h1;exact⟨⟨s,ch,v,none,ws,tr,ks,[],[]⟩::ts,s',⟨rfl,⟨hch,hdst,fun hne=>absurd hne hcn,fun hne=>absurd hne hcn,h2,(fun k hk=>by cases hk),(fun p hp=>by cases hp),(fun _=>rfl),h3,fun _ B ow bx nb bg w a hi hA hb _ hd _=>h4 _ B ow bx nb bg w a hi hA hb hd⟩,k1⟩,k2⟩
    split at h
    ·rename_i ks hfz
     obtain⟨h,hcn⟩:=O0 h;have hcn:=AR2 (hcn (by simp))
     obtain⟨v,n,ws,tr,h1,h3,h5,h4⟩:=CZ8 hΓ hfz h;obtain⟨ts,s',k1,k2⟩:=X1 hΓ os _ h1;exact⟨⟨s,ch,v,n,ws,tr,ks,[],[]⟩::ts,s',⟨rfl,⟨hch,hdst,fun hne=>absurd hne hcn,fun hne=>absurd hne hcn,h5,(fun k hk=>by cases hk),(fun p hp=>by cases hp),(fun _=>rfl),h3,fun _ B ow bx nb bg w a hi hA hb hn hd _=>h4 B ow bx nb bg w a hi hA hb hn hd⟩,k1⟩,k2⟩
    split at h
    ·rename_i b cs ks hfb
     obtain⟨h,hcn⟩:=O0 h;have hcn:=AR2 (hcn (by simp))
     obtain⟨v,n,ws,tr,h1,h3,h5,h4⟩:=CZ9 hΓ hfb h;obtain⟨ts,s',k1,k2⟩:=X1 hΓ os _ h1;exact⟨⟨s,ch,v,n,⟨b,0,cs⟩::ws,b::tr,ks,[],[]⟩::ts,s',⟨rfl,⟨hch,hdst,fun hne=>absurd hne hcn,fun hne=>absurd hne hcn,h5,(fun k hk=>by cases hk),(fun p hp=>by cases hp),(fun _=>rfl),h3,fun _ B ow bx nb bg w a hi hA hb hn hd _=>h4 B ow bx nb bg w a hi hA hb hn hd⟩,k1⟩,k2⟩
    split at h
    ·cases hcc:chainB s.rs ch with
     |false=>
      rw[hcc,cond_false] at h;obtain⟨ts,s',k1,k2⟩:=X1 hΓ os _ h;exact⟨⟨s,ch,_,none,[],[],[],[],[]⟩::ts,s',⟨rfl,⟨hch,hdst,fun _=>⟨rfl,rfl⟩,fun _=>rfl,(fun k hk=>by cases hk),(fun k hk=>by cases hk),(fun p hp=>by cases hp),(fun _=>rfl),(fun x hx=>by cases hx),fun hg=>absurd (BH5 hcc) hg⟩,k1⟩,k2⟩
     |true=>
     rw[hcc,cond_true] at h;have hcn:=AR2 hcc;obtain⟨v,n,ws,tr,h1,h2,h3,h4⟩:=Ba1 hΓ h;obtain⟨ts,s',k1,k2⟩:=X1 hΓ os _ h1;exact⟨⟨s,ch,v,n,ws,tr,[],[],[]⟩::ts,s',⟨rfl,⟨hch,hdst,fun hne=>absurd hne hcn,fun _=>rfl,(fun k hk=>by cases hk),(fun k hk=>by cases hk),(fun p hp=>by cases hp),(fun _=>rfl),h3,fun _ B ow bx nb bg w a hi hA hb hn _ _=>(h4 (by simp) B ow bx nb bg w a hi hA hb hn).BF9⟩,k1⟩,k2⟩
    ·obtain⟨v,n,ws,tr,h1,h2,h3,h4⟩:=Ba1 hΓ h
     obtain⟨ts,s',k1,k2⟩:=X1 hΓ os _ h1;exact⟨⟨s,ch,v,n,ws,tr,[],[],[]⟩::ts,s',⟨rfl,⟨hch,hdst,fun hne=>h2 (by rw[hne];rfl),fun _=>rfl,(fun k hk=>by cases hk),(fun k hk=>by cases hk),(fun p hp=>by cases hp),(fun _=>rfl),h3,fun hg B ow bx nb bg w a hi hA hb hn _ _=>(h4 hg B ow bx nb bg w a hi hA hb hn).BF9⟩,k1⟩,k2⟩
  ·cases h
def TI.wrs (t:TI):List Nat:=match t.n with
 |some _=>t.s.bx.length::(t.ws.map (·.b)++t.k.map (· + AJ9))
 |none=>t.ws.map (·.b)++t.k.map (· + AJ9)
section
variable {P:Program}{base:List EV}
theorem D5.length:∀{l:List Oper} {s:Rg} {ts:List TI} {s':Rg},D5 P base l s ts s'→ts.length=l.length
 | [],_,[],_,_=>rfl
 |o::os,s,t::ts,s',h=>by have:=D5.length h.2.2;simp[this]
theorem D5.at:∀{l:List Oper} {s:Rg} {ts:List TI} {s':Rg},D5 P base l s ts s'→∀(i:Nat) o t,l[i]? = some o→ts[i]? = some t→
  Ba9 P base o t∧t.s.rs.length=s.rs.length+i∧(∃more,s'.rs=t.s.rs++(⟨o.dst,t.ch,t.v⟩:Rec)::more)∧(∃more,s'.tw=t.s.tw++(t.tr,t.wrs)::more)∧t.s.tw.length=s.tw.length+i∧
   t.s.bx.length≤s'.bx.length∧(t.n.isSome=true→t.s.bx.length<s'.bx.length)∧s.bx.length≤t.s.bx.length
 | [],s,[],s',h,i,o,t,ho,ht=>by simp at ho
 |o0::os,s,t0::ts,s',h,i,o,t,ho,ht=>by
  obtain⟨h1,h2,h3⟩:=h;have hnl:t0.s.bx.length≤(t0.next o0).bx.length∧(t0.n.isSome=true→t0.s.bx.length<(t0.next o0).bx.length):=by
   have hfold:∀(ws:List Wr) (bx:List (Option (List EV))),(ws.foldl L0 bx).length=bx.length:=by
    intro ws
    induction ws with
    |nil=>intro bx;rfl
    |cons x r ih=>intro bx;simp only[FB8];rw[ih];unfold L0;split <;> simp
   unfold TI.next Rg.next AZ0;cases t0.n <;> simp[hfold]
  cases i with
  |zero=>
   simp at ho ht;subst ho ht;have tail:∀{l:List Oper} {s:Rg} {ts:List TI} {s':Rg},D5 P base l s ts s'→(∃more,s'.rs=s.rs++more)∧(∃more,s'.tw=s.tw++more)∧s.bx.length≤s'.bx.length:=by
    intro l
    induction l with
    |nil=>
     intro s ts s' h;cases ts with
     |nil=>cases h;exact⟨⟨[],by simp⟩,⟨[],by simp⟩,FE3 _⟩
     |cons t ts=>exact absurd h id
    |cons o os ih=>
     intro s ts s' h;cases ts with
     |nil=>exact absurd h id
     |cons t ts=>
      obtain⟨g1,g2,g3⟩:=h;obtain⟨⟨m1,k1⟩,⟨m2,k2⟩,k3⟩:=ih g3;subst g1;have hfold:∀(ws:List Wr) (bx:List (Option (List EV))),(ws.foldl L0 bx).length=bx.length:=by
       intro ws
       induction ws with
       |nil=>intro bx;rfl
       |cons x r ih=>intro bx;simp only[FB8];rw[ih];unfold L0;split <;> simp
      refine⟨⟨_,by rw[k1];unfold TI.next Rg.next;simp only[FF5];rfl⟩,⟨_,by rw[k2];unfold TI.next Rg.next;simp only[FF5];rfl⟩,?_⟩
      have:t.s.bx.length≤(t.next o).bx.length:=by unfold TI.next Rg.next AZ0;cases t.n <;> simp[hfold]
      omega
   obtain⟨⟨m1,k1⟩,⟨m2,k2⟩,k3⟩:=tail h3;subst h1;refine⟨h2,by simp,⟨m1,by rw[k1];unfold TI.next Rg.next;simp⟩,⟨m2,by rw[k2];unfold TI.next Rg.next TI.wrs;cases t0.n <;> simp⟩,by simp,by omega,fun h=>by have:=hnl.2 h;omega,FE3 _⟩
  |succ i=>
   obtain⟨g1,g2,g3,g4,g5,g6,g7,g8⟩:=D5.at h3 i o t (by simpa using ho) (by simpa using ht)
   refine⟨g1,?_,g3,g4,?_,g6,g7,?_⟩
   ·rw[g2];unfold TI.next Rg.next;simp[h1];omega
   ·rw[g5];unfold TI.next Rg.next;simp[h1];omega
   ·have:=hnl.1;rw[h1] at this;omega
def TI.f (t:TI)(b:Nat)(c:Option (List EV)):Option (List EV):=upd (fun _=>c) t.s.bx.length t.n t.ws b
theorem Bb0 (bg:Nat→Option (List EV))(id:Nat)(n:Option (List EV))(b:Nat):∀(ws:List Wr),upd bg id n ws b=upd (fun _=>bg b) id n ws b:=by
 have hw:∀(ws:List Wr) (bg bg':Nat→Option (List EV)),bg b=bg' b→ws.foldl N9 bg b=ws.foldl N9 bg' b:=by
  intro ws
  induction ws with
  |nil=>intro bg bg' h;exact h
  |cons x r ih=>
   intro bg bg' h;simp only[FB8];refine ih _ _ ?_;unfold N9;split
   ·rw[h]
   ·exact h
 intro ws;unfold upd P3;cases n with
 |none=>exact hw ws _ _ rfl
 |some cs=>
  simp only;split
  ·rfl
  ·exact hw ws _ _ rfl
theorem TI.Au3 {t:TI}{b:Nat}{c:Option (List EV)}(h:b∉t.wrs):t.f b c=c:=by
 unfold TI.f upd P3;unfold TI.wrs at h;cases hn:t.n with
 |none=>
  rw[hn] at h;exact Aa8 _ _ _ fun x hx e=>h (FB7 _ (FB1.2 ⟨x,hx,e⟩))
 |some cs=>
  rw[hn] at h;simp only[FB3,not_or] at h;simp only[if_neg h.1];exact Aa8 _ _ _ fun x hx e=>h.2 (FB7 _ (FB1.2 ⟨x,hx,e⟩))
theorem Bb1 (t:TI)(o:Oper)(b:Nat):A3 (t.next o).bx b=t.f b (A3 t.s.bx b):=by
 have hfold:∀(ws:List Wr) (bx:List (Option (List EV))),(ws.foldl L0 bx).length=bx.length:=by
  intro ws
  induction ws with
  |nil=>intro bx;rfl
  |cons x r ih=>intro bx;simp only[FB8];rw[ih];unfold L0;split <;> simp
 have hget:∀(ws:List Wr) (bx:List (Option (List EV))),A3 (ws.foldl L0 bx) b=ws.foldl N9 (fun _=>A3 bx b) b:=by
  intro ws
  induction ws with
  |nil=>intro bx;rfl
  |cons x r ih=>
   intro bx;simp only[FB8];rw[ih];have hp:=Bb0 (N9 (fun _=>A3 bx b) x) 0 none b r
   unfold upd P3 at hp;simp only at hp;rw[hp];have key:A3 (L0 bx x) b=N9 (fun _=>A3 bx b) x b:=by
    unfold L0 N9;cases hx:A3 bx x.b with
    |none=>
     simp only;split
     ·rename_i e;rw[e,hx];rfl
     ·rfl
    |some cs=>
     simp only;split
     ·rename_i e
      subst e;rw[hx];simp only[Option.map_some];rw[O1] at hx ⊢;have:=(FA4.1 hx).1;simp[this]
     ·rename_i e
      unfold A3;rw[FE6 (fun h=>e h.symm)]
   rw[key]
 unfold TI.next Rg.next TI.f upd P3 AZ0;cases hn:t.n with
 |none=>simp only;exact hget _ _
 |some cs=>
  simp only;split
  ·rename_i e
   subst e;rw[O1];rw[← hfold t.ws t.s.bx];simp
  ·rename_i e
   rw[← hget];unfold A3;by_cases hlt:b<(t.ws.foldl L0 t.s.bx).length
   ·rw[FA8 hlt]
   ·rw[FC8 (by omega),FD4 (by rw[hfold] at hlt ⊢;simp;omega),FD4 (by omega)]
def foldI (D:Nat→Bool):List TI→Nat→Nat→Option (List EV)→Option (List EV)
 | [],_,_,c=>c
 |t::ts,k,b,c=>foldI D ts (k+1) b (if D k then t.f b c else c)
theorem Au4 {D:Nat→Bool}{b:Nat}:∀(ts:List TI) (k:Nat) (c:Option (List EV)),(∀(j:Nat) t,ts[j]? = some t→D (k+j)=true→b∉t.wrs)→foldI D ts k b c=c
 | [],_,_,_=>rfl
 |t::ts,k,c,h=>by
  simp only[foldI];have:(if D k then t.f b c else c)=c:=by
   split
   ·rename_i hd;exact TI.Au3 (h 0 t rfl (by simpa using hd))
   ·rfl
  rw[this];exact Au4 ts (k+1) c fun j t ht hd=>h (j+1) t (by simpa using ht) (by rw[show k+(j+1)=k+1+j by omega];exact hd)
theorem Aj2 {D D':Nat→Bool}{b:Nat}:∀(ts:List TI) (k:Nat) (c:Option (List EV)),(∀(j:Nat) t,ts[j]? = some t→b∈t.wrs→D (k+j)=D' (k+j))→foldI D ts k b c=foldI D' ts k b c
 | [],_,_,_=>rfl
 |t::ts,k,c,h=>by
  simp only[foldI];have:(if D k then t.f b c else c)=(if D' k then t.f b c else c):=by
   by_cases hb:b∈t.wrs
   ·have:=h 0 t rfl hb
    simp only[Nat.add_zero] at this;rw[this]
   ·rw[TI.Au3 hb];simp
  rw[this];exact Aj2 ts (k+1) _ fun j t ht hb=>by rw[show k+1+j=k+(j+1) by omega];exact h (j+1) t (by simpa using ht) hb
def G6 (D:Nat→Bool)(i:Nat):Nat→Bool:=fun k=>if k=i then true else D k
theorem Bb2 {D:Nat→Bool}{b i:Nat}:∀(ts:List TI) (k:Nat) (c:Option (List EV)) (t:TI),k≤i→ts[i-k]? = some t→D i=false→(∀(j:Nat) u,i<k+j→ts[j]? = some u→D (k+j)=true→b∈u.wrs→b∉t.wrs)→
  t.f b (foldI D ts k b c)=foldI (G6 D i) ts k b c
 | [],k,c,t,_,ht,_,_=>by simp at ht
 |u::ts,k,c,t,hk,ht,hD,h=>by
  simp only[foldI];by_cases he:k=i
  ·subst he
   simp only[Nat.sub_self,FA7,Option.some.injEq] at ht;subst ht;have e1:G6 D k k=true:=by simp[G6]
   rw[hD,e1];simp only[FF0,if_false,if_true];have e2:∀c,foldI (G6 D k) ts (k+1) b c=foldI D ts (k+1) b c:=fun c=>Aj2 ts (k+1) c fun j t _ _=>by unfold G6;rw[if_neg (by omega)]
   rw[e2];by_cases hb:b∈u.wrs
   ·have hs:∀c,foldI D ts (k+1) b c=c:=fun c=>Au4 ts (k+1) c fun j v hv hd hbv=>h (j+1) v (by omega) (by simpa using hv) (by rw[show k+(j+1)=k+1+j by omega];exact hd) hbv hb
    rw[hs,hs]
   ·rw[TI.Au3 hb,TI.Au3 hb]
  ·have e1:G6 D i k=D k:=by unfold G6;rw[if_neg he]
   rw[e1];exact Bb2 ts (k+1) _ t (by omega) (by rw[show i-k=i-(k+1)+1 by omega] at ht;simpa using ht) hD fun j v hj hv hd=>h (j+1) v (by omega) (by simpa using hv) (by rw[show k+(j+1)=k+1+j by omega];exact hd)
theorem D5.boxes:∀{l:List Oper} {s:Rg} {ts:List TI} {s':Rg},D5 P base l s ts s'→∀(k b:Nat),A3 s'.bx b=foldI (fun _=>true) ts k b (A3 s.bx b)
 | [],s,[],s',h,k,b=>by cases h;rfl
 |o::os,s,t::ts,s',h,k,b=>by obtain⟨h1,h2,h3⟩:=h;simp only[foldI,if_true];rw[D5.boxes h3 (k+1) b,Bb1,h1]
theorem D5.Bb3:∀{l:List Oper} {s:Rg} {ts:List TI} {s':Rg},D5 P base l s ts s'→∀(i:Nat) t (k b:Nat),ts[i]? = some t→A3 t.s.bx b=foldI (fun j=>decide (j<k+i)) ts k b (A3 s.bx b)
 | [],s,[],s',h,i,t,k,b,ht=>by simp at ht
 |o::os,s,u::ts,s',h,i,t,k,b,ht=>by
  obtain⟨h1,h2,h3⟩:=h;cases i with
  |zero=>
   simp at ht;subst ht;rw[h1];refine (Au4 _ _ _ fun j v _ hd=> ?_).symm
   have:k+j<k+0:=by simpa using hd
   omega
  |succ i=>
   simp only[foldI];have hd:(if decide (k<k+(i+1))=true then u.f b (A3 s.bx b) else A3 s.bx b)=u.f b (A3 s.bx b):=if_pos (by simp)
   rw[hd,D5.Bb3 h3 i t (k+1) b (by simpa using ht),Bb1,h1]
   rw[show k+1+i=k+(i+1) by omega]
end

def E9 (R:List Rec)(k:Nat):Option Nat:=match R[k]? with
 |some r=>r.dst
 |none=>none
theorem Aj3 (rs:List Rec)(u:Nat):∀(m:Nat),(∀j r,I6 rs u m=some (j,r)→j<m∧rs[j]? = some r∧r.dst=some u∧∀k,j<k→k<m→E9 rs k≠some u)∧
  (I6 rs u m=none→∀k,k<m→E9 rs k≠some u):=by
 intro m
 induction m with
 |zero=>exact ⟨fun j r h=>by simp[I6] at h,fun _ k hk=>by omega⟩
 |succ m ih=>
  obtain⟨ih1,ih2⟩:=ih;have skip:E9 rs m≠some u→I6 rs u (m+1)=I6 rs u m:=by
   intro hne;simp only[I6];unfold E9 at hne;cases hm:rs[m]? with
   |none=>rfl
   |some r=>
    rw[hm] at hne;simp only at hne ⊢;cases hd:r.dst with
    |none=>rfl
    |some d=>
     rw[hd] at hne;simp only;split
     ·rename_i hb;exact absurd (by rw[FA5 hb]) hne
     ·rfl
  by_cases hne:E9 rs m=some u
  ·have hhit:∃r,rs[m]? = some r∧r.dst=some u:=by
    unfold E9 at hne;cases hm:rs[m]? with
    |none=>rw [hm] at hne;cases hne
    |some r=>rw [hm] at hne;exact⟨r,rfl,hne⟩
   obtain⟨r,hr,hd⟩:=hhit;have:I6 rs u (m+1)=some (m,r):=by simp only[I6,hr,hd,FC0]
   rw[this];exact⟨fun j r' h=>by cases h;exact⟨by omega,hr,hd,fun k h1 h2=>by omega⟩,fun h=>by cases h⟩
  ·rw[skip hne]
   refine⟨fun j r h=> ?_,fun h k hk=> ?_⟩
   ·obtain⟨g1,g2,g3,g4⟩:=ih1 j r h
    exact⟨by omega,g2,g3,fun k h1 h2=>by
     by_cases e:k=m
     ·subst e;exact hne
     ·exact g4 k h1 (by omega)⟩
   ·by_cases e:k=m
    ·subst e;exact hne
    ·exact ih2 h k (by omega)
def Aj4 (D:Nat→Bool)(R:List Rec)(n u:Nat):Option Nat→Prop
 |some m=>m<n∧D m=true∧E9 R m=some u∧∀k,m<k→k<n→D k=true→E9 R k≠some u
 |none=>∀k,k<n→D k=true→E9 R k≠some u
def Ab4 (ow:Nat→A2)(bx:Bx)(w:World)(base:List EV)(R:List Rec)(n:Nat)(D:Nat→Bool)(a:Act):Prop:=
 ∀u,u<base.length→(∃m r,Aj4 D R n u (some m)∧R[m]? = some r∧(guardOf R r.ch≠some false→A0 ow bx w r.val (a.tmps.getD u undef))∧(guardOf R r.ch=some false→a.tmps.getD u undef=undef))∨
  (Aj4 D R n u none∧∀e,base[u]? = some e→A0 ow bx w e (a.tmps.getD u undef))
theorem Bb4 (rs more:List Rec)(j:Nat)(h:j<rs.length):W5 (rs++more) j=W5 rs j:=by unfold W5 recAt;rw[FA8 h]
def ChB (n:Nat)(ch:List (Nat×Bool)):Prop:=∀p∈ch,p.1<n
theorem Bb5 (rs more:List Rec):∀(ch:List (Nat×Bool)),ChB rs.length ch→chainB (rs++more) ch=chainB rs ch
 | [],_=>rfl
 | [(j,w)],h=>by
  have:=Bb4 rs more j (h (j,w) (by simp))
  cases w <;> simp[chainB,this]
 | (j,w)::p::r,h=>by
  have h1:=Bb4 rs more j (h (j,w) (by simp))
  have h2:=Bb5 rs more (p::r) (fun q hq=>h q (by simp[hq]))
  cases w <;> simp only[chainB,h1,h2]
theorem Ca1 (rs more:List Rec)(ch:List (Nat×Bool))(h:ChB rs.length ch):guardOf (rs++more) ch=guardOf rs ch:=by
 unfold guardOf;cases ch with
 |nil=>rfl
 |cons p r=>simp only;rw[Bb5 rs more _ h]
def Ab5 (rs:List Rec)(p:Nat×Bool):Bool:=match p.2 with
 |true=>W5 rs p.1
 |false=> !W5 rs p.1
theorem BH6 (rs:List Rec)(p:Nat×Bool)(r:List (Nat×Bool)):chainB rs (p::r)=(Ab5 rs p&&chainB rs r):=by
 obtain⟨j,w⟩:=p;cases r with
 |nil=>cases w <;> simp[chainB,Ab5]
 |cons q r=>cases w <;> simp[chainB,Ab5]
theorem BH7 (rs:List Rec):∀(ch:List (Nat×Bool)),chainB rs ch=true↔∀p∈ch,Ab5 rs p=true
 | []=>by simp[chainB]
 |p::r=>by rw[BH6,FA6,BH7 rs r];simp
theorem Bb6:∀(l:List (Nat×Bool)) (p:Nat×Bool),Ar2 p l=true→p∈l
 | [],_,h=>by cases h
 | (j,w)::r,p,h=>by
  simp only[Ar2,FC9,FA6,beq_iff_eq] at h;rcases h with⟨h1,h2⟩ | h
  ·have:=FA5 h1
   obtain⟨a,b⟩:=p;simp only at this h2;subst this h2;simp
  ·exact FC6 _ (Bb6 r p h)
theorem Bb7:∀(a b:List (Nat×Bool)),Ar3 a b=true→∀p∈a,p∈b
 | [],_,_,p,h=>by simp at h
 |q::r,b,h,p,hp=>by
  simp only[Ar3,FA6] at h;rcases FB3.1 hp with rfl | hp
  ·exact Bb6 b p h.1
  ·exact Bb7 r b h.2 p hp
theorem guard_true {rs:List Rec}{ch:List (Nat×Bool)}:guardOf rs ch≠some false↔chainB rs ch=true:=by
 unfold guardOf;cases ch with
 |nil=>simp [chainB]
 |cons p r=>simp only;cases chainB rs (p::r) <;> simp
theorem guard_false {rs:List Rec}{ch:List (Nat×Bool)}:guardOf rs ch=some false↔chainB rs ch=false:=by
 unfold guardOf;cases ch with
 |nil=>simp [chainB]
 |cons p r=>simp
theorem Bb8 {rs:List Rec}{g:Option (Nat×Bool)}{ch:List (Nat×Bool)}(h:Ar4 rs g=some ch):(g=none∧ch=[])∨
  ∃j w r d b,g=some (j,w)∧rs[j]? = some r∧r.dst=some d∧r.val = .dat .bool b∧(∃r',I6 rs d rs.length=some (j,r'))∧ch=(j,w)::r.ch:=by
 unfold Ar4 at h;split at h
 ·cases h;exact .inl ⟨rfl,rfl⟩
 ·rename_i j w
  split at h
  ·rename_i r hr
   split at h
   ·rename_i d b hd hv
    split at h
    ·rename_i j' r' hl
     split at h
     ·rename_i hb
      cases h;have:=FA5 hb;subst this;exact .inr ⟨j,w,r,d,b,rfl,hr,hd,hv,⟨r',hl⟩,rfl⟩
     ·cases h
    ·cases h
   ·cases h
  ·cases h
theorem Bb9 {ow:Nat→A2}{bx:Bx}{w:World}(v:Value):A0 ow bx w (ofConst v) v:=by
 unfold ofConst;split
 ·split
  ·rename_i hf;exact Q5 hf
  ·exact .undef _
 ·exact U9
 ·split
  ·rename_i hs
   have:=FB0 hs;exact .dat ⟨rfl,by omega⟩
  ·exact .undef _
 ·exact .nil
 ·exact .undef _
section
variable {P:Program}{base:List EV}{ops:Array Oper}{s₀ s':Rg}{ts:List TI}{B:F1}{bg₀:Nat→Option (List EV)}
def Bc0 (D:Nat→Bool)(ts:List TI)(bx:Bx):Prop:=∀j,bx.dead j=true↔∃(i:Nat) (t:TI),ts[i]? = some t∧D i=true∧j∈t.k
def StD (B:F1)(base:List EV)(ts:List TI)(s':Rg)(bg₀:Nat→Option (List EV))(D:Nat→Bool)(a:Act)(w:World):Prop:=
 ∃ow bx,Inv B ow bx s'.bx.length (fun b=>foldI D ts 0 b (bg₀ b)) w∧Ab4 ow bx w base s'.rs ts.length D a∧a.tmps.size=base.length∧a.defers=[]∧Bc0 D ts bx∧∀(i:Nat) t,ts[i]? = some t→D i=true→∀p∈t.up,∃v,A0 ow bx w (.fre p.1 p.2.1 p.2.2) v
theorem AA7 (hL:D5 P base ops.toList s₀ ts s')(h0:s₀.rs=[]){i:Nat}{o:Oper}{t:TI}(ho:ops[i]? = some o)(ht:ts[i]? = some t):
  s'.rs[i]? = some ⟨o.dst,t.ch,t.v⟩∧t.s.rs.length=i∧∃more,s'.rs=t.s.rs++more:=by
 obtain⟨_,g2,⟨more,g3⟩,_⟩:=hL.at i o t (by simpa using ho) ht
 have hl:t.s.rs.length=i:=by rw[g2,h0];simp
 refine⟨?_,hl,_,g3⟩;rw[g3,FC8 (by omega),hl]
 simp
theorem Ca2 (hL:D5 P base ops.toList s₀ ts s')(h0:s₀.rs=[]):∀(i:Nat) o t,ops[i]? = some o→ts[i]? = some t→ChB i t.ch:=by
 intro i
 induction i using Nat.strongRecOn with
 |_ i ih=>
  intro o t ho ht;obtain⟨g1,_⟩:=hL.at i o t (by simpa using ho) ht
  obtain⟨hr,hl,more,hm⟩:=AA7 hL h0 ho ht;rcases Bb8 g1.ch with⟨_,h⟩|⟨j,w,r,d,b,_,hj,_,_,_,h⟩
  ·rw[h];intro p hp;simp at hp
  ·have hji:j<i:=by rw[← hl];exact (FA4.1 hj).1
   have hlen:=hL.length;have hin:i<ops.toList.length:=by have:=(FB4.1 ho).1;simpa using this
   obtain⟨oj,hoj⟩:∃oj,ops[j]? = some oj:=⟨_,FA9 (by simp at hin;omega)⟩
   obtain⟨tj,htj⟩:∃tj,ts[j]? = some tj:=⟨_,FA3 (by rw[hlen];omega)⟩
   obtain⟨hrj,_⟩:=AA7 hL h0 hoj htj;have:s'.rs[j]? = some r:=by rw[hm,FA8 (by omega)];exact hj
   rw[hrj] at this;cases this;rw[h];intro p hp;rcases FB3.1 hp with rfl | hp
   ·exact hji
   ·have:=ih j hji oj tj hoj htj p hp
    omega
theorem Bc1 (hL:D5 P base ops.toList s₀ ts s')(h0:s₀.rs=[]){i:Nat}{o:Oper}{t:TI}(ho:ops[i]? = some o)(ht:ts[i]? = some t){D:Nat→Bool}{a:Act}{w:World}{ow:Nat→A2}{bx:Bx}
  (hS:Ab4 ow bx w base s'.rs ts.length D a) (hsz:a.tmps.size=base.length) {u:Nat} (hag:∀k,k<ts.length→E9 s'.rs k=some u→(D k=true↔k<i)) {ch:List (Nat×Bool)} (hch:chainB s'.rs ch=true):
  A0 ow bx w (z6 base t.s.rs ch u) (a.tmps.getD u undef):=by
 obtain⟨hr,hl,more,hm⟩:=AA7 hL h0 ho ht;have hlen:=hL.length;have hi:i<ts.length:=(FA4.1 ht).1;have hdst:∀k,k<i→E9 t.s.rs k=E9 s'.rs k:=by intro k hk;unfold E9;rw[hm,FA8 (by omega)]
 obtain⟨sp1,sp2⟩:=Aj3 t.s.rs u t.s.rs.length;unfold z6;split
 ·rename_i j r hlr
  obtain⟨k1,k2,k3,k4⟩:=sp1 j r hlr;split
  ·rename_i hsub
   have hjR:s'.rs[j]? = some r:=by rw[hm,FA8 (by omega)];exact k2
   have hub:u<base.length:=by
    obtain⟨oj,hoj⟩:∃oj,ops[j]? = some oj:=⟨_,FA9 (by have:=hlen;simp at this;omega)⟩
    obtain⟨tj,htj⟩:∃tj,ts[j]? = some tj:=⟨_,FA3 (by omega)⟩
    obtain⟨g1,_⟩:=hL.at j oj tj (by simpa using hoj) htj
    obtain⟨hrj,_⟩:=AA7 hL h0 hoj htj;rw[hjR] at hrj;cases hrj;have hd:=g1.dst;simp only at k3;rw[k3] at hd;exact FB0 hd
   have hdj:E9 s'.rs j=some u:=by unfold E9;rw[hjR];exact k3
   have huniq:∀m,m<ts.length→D m=true→E9 s'.rs m=some u→m≤j:=by intro m h1 h2 h3;have hmi:=(hag m h1 h3).1 h2;apply FB2;intro hn;exact k4 m (by omega) (by omega) (by rw[hdst m hmi];exact h3)
   have hDj:D j=true:=(hag j (by omega) hdj).2 (by omega)
   rcases hS u hub with⟨m,r',⟨q1,q2,q3,q4⟩,q5,q6,q7⟩|⟨q1,_⟩
   ·have:m=j:=by
     have h1:=huniq m q1 q2 q3;apply FB2;intro hn;exact q4 j (by omega) (by omega) hDj hdj
    subst this;rw[hjR] at q5;cases q5;refine q6 (guard_true.2 ((BH7 _ _).2 fun p hp=> ?_))
    exact (BH7 _ _).1 hch p (Bb7 _ _ hsub p hp)
   ·exact absurd hdj (q1 j (by omega) hDj)
  ·exact .undef _
 ·rename_i hlr
  have hno:=sp2 hlr;split
  ·rename_i e he
   have hub:u<base.length:=(FA4.1 he).1;rcases hS u hub with⟨m,r',⟨q1,q2,q3,q4⟩,_⟩|⟨_,q2⟩
   ·have hmi:=(hag m q1 q3).1 q2
    exact absurd (by rw[hdst m hmi];exact q3) (hno m (by omega))
   ·exact q2 e he
  ·exact .undef _
theorem Ca3 (hL:D5 P base ops.toList s₀ ts s')(h0:s₀.rs=[]){i:Nat}{o:Oper}{t:TI}(ho:ops[i]? = some o)(ht:ts[i]? = some t){D:Nat→Bool}{a:Act}{w:World}{ow:Nat→A2}{bx:Bx}
  (hS:Ab4 ow bx w base s'.rs ts.length D a) (hsz:a.tmps.size=base.length) (hag:∀u∈o.looksAt ops,∀k,k<ts.length→E9 s'.rs k=some u→(D k=true↔k<i)) {ch:List (Nat×Bool)} (hch:chainB s'.rs ch=true):
  (hg:N8 ow w)→∀x,(∀u,x = .tmp u→u∈o.looksAt ops)→A0 ow bx w (AC4 base t.s.rs ch x) (a.eval x):=by
 intro hg x hx;cases x with
 |tmp u=>exact Bc1 hL h0 ho ht hS hsz (hag u (hx u rfl)) hch
 |const v=>exact Bb9 v
 |func f=>exact .clo (by simp) (by simp) (fun i e v he=>by simp at he) (fun i e v he=>by simp at he)
 |global g=>exact BX4 hg g
theorem Bc2 (hL:D5 P base ops.toList s₀ ts s')(h0:s₀.rs=[]){i:Nat}{o:Oper}{t:TI}(ho:ops[i]? = some o)(ht:ts[i]? = some t):guardOf s'.rs t.ch=guardOf t.s.rs t.ch:=by obtain⟨hr,hl,more,hm⟩:=AA7 hL h0 ho ht;rw[hm];exact Ca1 _ _ _ (by rw[hl];exact Ca2 hL h0 i o t ho ht)
theorem Ca4 (hL:D5 P base ops.toList s₀ ts s')(h0:s₀.rs=[]){i:Nat}{o:Oper}{t:TI}(ho:ops[i]? = some o)(ht:ts[i]? = some t){D:Nat→Bool}{a:Act}{w:World}{ow:Nat→A2}{bx:Bx}
  (hS:Ab4 ow bx w base s'.rs ts.length D a) (hsz:a.tmps.size=base.length) (hag:∀u∈o.looksAt ops,∀k,k<ts.length→E9 s'.rs k=some u→(D k=true↔k<i)):
  Region.wanted o (yielded ops a.tmps)=chainB s'.rs t.ch:=by
 obtain⟨g1,_⟩:=hL.at i o t (by simpa using ho) ht
 obtain⟨hr,hl,more,hm⟩:=AA7 hL h0 ho ht;have hi:i<ts.length:=(FA4.1 ht).1;rcases Bb8 g1.ch with⟨h1,h2⟩|⟨j,wt,r,d,b,h1,h2,h3,h4,⟨r',h5⟩,h6⟩
 ·rw[h2];unfold Region.wanted;rw[h1];rfl
 ·have hji:j<i:=by rw[← hl];exact (FA4.1 h2).1
  have hlen:=hL.length;obtain⟨oj,hoj⟩:∃oj,ops[j]? = some oj:=⟨_,FA9 (by simp at hlen;omega)⟩
  obtain⟨tj,htj⟩:∃tj,ts[j]? = some tj:=⟨_,FA3 (by omega)⟩
  obtain⟨gj,_⟩:=hL.at j oj tj (by simpa using hoj) htj
  obtain⟨hrj,_⟩:=AA7 hL h0 hoj htj;have hjR:s'.rs[j]? = some r:=by rw[hm,FA8 (by omega)];exact h2
  have hjR':=hjR;rw[hrj] at hjR;cases hjR;simp only at h3 h4;have hlook:d∈o.looksAt ops:=by unfold Oper.looksAt;rw[h1];simp[hoj,h3]
  have hub:d<base.length:=by have hd:=gj.dst;rw[h3] at hd;exact FB0 hd
  have hdj:E9 s'.rs j=some d:=by unfold E9;rw[hrj];exact h3
  have hDj:D j=true:=(hag d hlook j (by omega) hdj).2 hji
  have hlast:∀k,j<k→k<i→E9 s'.rs k≠some d:=by
   intro k k1 k2;obtain⟨_,_,_,q⟩:=(Aj3 t.s.rs d t.s.rs.length).1 j r' h5;have:=q k k1 (by omega)
   unfold E9 at this ⊢;rw[hm,FA8 (by omega)]
   exact this
  have hbool:W5 s'.rs j=b:=by unfold W5 recAt;rw[hrj];simp[h4]
  have hyl:yielded ops a.tmps j=match a.tmps[d]? with
    |some (.bool b)=>some b
    |_=>none:=by
   unfold yielded;simp[hoj,h3];rfl
  have hget:a.tmps[d]? = some (a.tmps.getD d undef):=by
   have:d<a.tmps.size:=by omega
   simp[this]
  rw[h6,BH6];unfold Region.wanted;rw[h1];simp only;rw[hyl,hget];rcases hS d hub with⟨m,rm,⟨q1,q2,q3,q4⟩,q5,q6,q7⟩|⟨q1,_⟩
  ·have:m=j:=by
    have hmi:=(hag d hlook m q1 q3).1 q2;apply FB2;intro hn;by_cases hlt:m<j
    ·exact q4 j hlt (by omega) hDj hdj
    ·exact hlast m (by omega) hmi q3
   subst this;rw[hrj] at q5;cases q5;cases hc:chainB s'.rs tj.ch with
   |true=>
    have hv:=q6 (guard_true.2 hc);rw[h4] at hv;rw[Ai5 hv];unfold Ab5;simp only[hbool,Bool.and_true];cases wt <;> cases b <;> rfl
   |false=>
    rw[q7 (guard_false.2 hc)];simp[undef]
  ·exact absurd hdj (q1 j (by omega) hDj)
theorem Ca5 (hL:D5 P base ops.toList s₀ ts s')(h0:s₀.rs=[]){i:Nat}{o:Oper}{t:TI}(ho:ops[i]? = some o)(ht:ts[i]? = some t){D:Nat→Bool}{a:Act}{w:World}{ow:Nat→A2}{bx:Bx}
  (hS:Ab4 ow bx w base s'.rs ts.length D a) (hsz:a.tmps.size=base.length) (hag:∀u∈o.looksAt ops,∀k,k<ts.length→E9 s'.rs k=some u→(D k=true↔k<i)) (hch:chainB s'.rs t.ch=true) (hg:N8 ow w):
  F5 ow bx w (L9 base t.s.rs t.ch o.op) a.eval o.op:=by
 obtain⟨hr,hl,more,hm⟩:=AA7 hL h0 ho ht;have hlook:∀x∈o.op.operands,∀u,x = .tmp u→u∈o.looksAt ops:=by intro x hx u he;subst he;unfold Oper.looksAt;exact FB7 _ (List.mem_filterMap.2 ⟨.tmp u,by simpa using hx,rfl⟩)
 have usual:∀x∈o.op.operands,A0 ow bx w (AC4 base t.s.rs t.ch x) (a.eval x):=fun x hx=>Ca3 hL h0 ho ht hS hsz hag hch hg x (hlook x hx)
 unfold F5;split
 ·rename_i c x y hop
  rw[hop] at usual hlook;rw[hop];cases c with
  |tmp cu=>
   cases hlr:I6 t.s.rs cu t.s.rs.length with
   |none=>
    unfold L9;simp only[hlr];exact⟨usual (.tmp cu) (by simp[Op.operands]),fun b _=>⟨fun _=>usual x (by simp[Op.operands]),fun _=>usual y (by simp[Op.operands])⟩⟩
   |some jr=>
    obtain⟨j,rj⟩:=jr;have hcs:A0 ow bx w (z6 base t.s.rs t.ch cu) (a.eval (.tmp cu)):=usual (.tmp cu) (by simp[Op.operands])
    obtain⟨k1,k2,k3,k4⟩:=(Aj3 t.s.rs cu t.s.rs.length).1 j rj hlr;have hA:L9 base t.s.rs t.ch (.pick (.tmp cu) x y) (.tmp cu)=z6 base t.s.rs t.ch cu:=by unfold L9;simp only[hlr,FC0]
    refine⟨by rw[hA];exact hcs,fun b hb=> ?_⟩
    rw[hA] at hb;have hbj:W5 s'.rs j=b:=by
     unfold z6 at hb;rw[hlr] at hb;simp only at hb;split at hb
     ·unfold W5 recAt
      rw[hm,FA8 k1,k2];simp[hb]
     ·cases hb
    have look:∀(v:Operand) (wt:Bool),v∈o.op.operands→b=wt→∀u,v = .tmp u→A0 ow bx w (z6 base t.s.rs ((j,wt)::t.ch) u) (a.eval (.tmp u)):=by
     intro v wt hv hbw u hu;refine Bc1 hL h0 ho ht hS hsz (hag u (by rw[hop] at hv;exact hlook v hv u hu)) ?_
     rw[BH6,hch,Bool.and_true];unfold Ab5;simp only[hbj,hbw];cases wt <;> rfl
    have opx:∀(v:Operand) (wt:Bool),v∈o.op.operands→b=wt→(x=v∧wt=true∨y=v∧wt=false)→A0 ow bx w (L9 base t.s.rs t.ch (.pick (.tmp cu) x y) v) (a.eval v):=by
     intro v wt hv hbw hxy;unfold L9;simp only[hlr];cases v with
     |tmp u=>
      simp only;split
      ·exact usual (.tmp u) (by rw[hop] at hv;exact hv)
      ·split
       ·rename_i t'' cc
        split
        ·rename_i hb2
         have:=FA5 hb2;subst this;rcases hxy with⟨_,hw⟩|⟨h,_⟩
         ·subst hw;exact look _ true hv hbw u rfl
         ·cases h
        ·exact .undef _
       ·rename_i cc t''
        split
        ·rename_i hb2
         have:=FA5 hb2;subst this;rcases hxy with⟨h,_⟩|⟨_,hw⟩
         ·cases h
         ·subst hw;exact look _ false hv hbw u rfl
        ·exact .undef _
       ·exact .undef _
     |const cc=>exact usual (.const cc) (by rw[hop] at hv;exact hv)
     |global gg=>exact usual (.global gg) (by rw[hop] at hv;exact hv)
     |func ff=>exact usual (.func ff) (by rw[hop] at hv;exact hv)
    exact⟨fun ht=>opx x true (by rw[hop];simp[Op.operands]) ht (.inl ⟨rfl,rfl⟩),fun hf=>opx y false (by rw[hop];simp[Op.operands]) hf (.inr ⟨rfl,rfl⟩)⟩
  |const v=>exact ⟨usual (.const v) (by simp[Op.operands]),fun b _=>⟨fun _=>usual x (by simp[Op.operands]),fun _=>usual y (by simp[Op.operands])⟩⟩
  |global g=>exact ⟨usual (.global g) (by simp[Op.operands]),fun b _=>⟨fun _=>usual x (by simp[Op.operands]),fun _=>usual y (by simp[Op.operands])⟩⟩
  |func f=>exact ⟨usual (.func f) (by simp[Op.operands]),fun b _=>⟨fun _=>usual x (by simp[Op.operands]),fun _=>usual y (by simp[Op.operands])⟩⟩
 ·rename_i hnp
  have:L9 base t.s.rs t.ch o.op=AC4 base t.s.rs t.ch:=by
   unfold L9;split
   ·rename_i c a b hop
    exact absurd hop (hnp _ _ _)
   ·rfl
  rw[this];exact usual
end

section
variable {P:Program}{base:List EV}{ops:Array Oper}{s₀ s':Rg}{ts:List TI}{B:F1}
theorem Bc3 (t:TI)(o:Oper):t.s.bx.length≤(t.next o).bx.length∧(t.n.isSome=true→t.s.bx.length<(t.next o).bx.length):=by
 have hfold:∀(ws:List Wr) (bx:List (Option (List EV))),(ws.foldl L0 bx).length=bx.length:=by
  intro ws
  induction ws with
  |nil=>intro bx;rfl
  |cons x r ih=>intro bx;simp only[FB8];rw[ih];unfold L0;split <;> simp
 unfold TI.next Rg.next AZ0;cases t.n <;> simp[hfold]
theorem D5.mono:∀{l:List Oper} {s:Rg} {ts:List TI} {s':Rg},D5 P base l s ts s'→∀(i k:Nat) t u,i<k→ts[i]? = some t→ts[k]? = some u→
  t.s.bx.length≤u.s.bx.length∧(t.n.isSome=true→t.s.bx.length<u.s.bx.length)
 | [],s,[],s',h,i,k,t,u,_,ht,_=>by simp at ht
 |o::os,s,t0::ts,s',h,i,k,t,u,hik,ht,hu=>by
  obtain⟨h1,h2,h3⟩:=h;cases k with
  |zero=>omega
  |succ k=>
   cases i with
   |zero=>
    simp at ht;subst ht;have hu':ts[k]? = some u:=by simpa using hu
    have hk:k<os.length:=by rw[← h3.length];exact (FA4.1 hu').1
    obtain⟨_,_,_,_,_,_,_,g8⟩:=h3.at k _ u (FA3 hk) hu';have:=Bc3 t0 o;exact⟨by omega,fun h=>by have:=this.2 h;omega⟩
   |succ i=>exact D5.mono h3 i k t u (by omega) (by simpa using ht) (by simpa using hu)
theorem D5.Ab6:∀{l:List Oper} {s:Rg} {ts:List TI} {s':Rg},D5 P base l s ts s'→(∀a∈s.dead,a∈s'.dead)∧(∀(i:Nat) t,ts[i]? = some t→∀a∈s.dead,a∈t.s.dead)∧
  (∀a∈s'.dead,a∈s.dead∨∃(i:Nat) (t:TI),ts[i]? = some t∧a∈t.k)∧∀(i:Nat) t,ts[i]? = some t→∀a∈t.k,a∈s'.dead
 | [],s,[],s',h=>by cases h;exact⟨fun a h=>h,fun i t ht=>by simp at ht,fun a h=>.inl h,fun i t ht=>by simp at ht⟩
 |o::os,s,t0::ts,s',h=>by
  obtain⟨h1,h2,h3⟩:=h;obtain⟨g1,g2,g3,g4⟩:=D5.Ab6 h3;subst h1;have hsub:∀a∈t0.s.dead,a∈(t0.next o).dead:=by intro a ha;unfold TI.next Rg.next;simp[ha]
  have hkill:∀a∈t0.k,a∈(t0.next o).dead:=by intro a ha;unfold TI.next Rg.next;simp[ha]
  refine⟨fun a ha=>g1 a (hsub a ha),fun i t ht a ha=> ?_,fun a ha=> ?_,fun i t ht a ha=> ?_⟩
  ·cases i with
   |zero=>simp at ht;subst ht;exact ha
   |succ i=>exact g2 i t (by simpa using ht) a (hsub a ha)
  ·rcases g3 a ha with h |⟨i,t,ht,hk⟩
   ·unfold TI.next Rg.next at h
    simp only[FD5] at h;rcases h with h | h
    ·exact .inr ⟨0,t0,rfl,h⟩
    ·exact .inl h
   ·exact .inr ⟨i+1,t,by simpa using ht,hk⟩
  ·cases i with
   |zero=>simp at ht;subst ht;exact g1 a (hkill a ha)
   |succ i=>exact g4 i t (by simpa using ht) a ha
theorem D5.Bc4:∀{l:List Oper} {s:Rg} {ts:List TI} {s':Rg},D5 P base l s ts s'→∀(i k:Nat) t u a,i<k→ts[i]? = some t→ts[k]? = some u→a∈t.k→a∈u.s.dead
 | [],s,[],s',h,i,k,t,u,a,_,ht,_,_=>by simp at ht
 |o::os,s,t0::ts,s',h,i,k,t,u,a,hik,ht,hu,hta=>by
  obtain⟨h1,h2,h3⟩:=h;cases k with
  |zero=>omega
  |succ k=>
   have hu':ts[k]? = some u:=by simpa using hu
   cases i with
   |zero=>
    simp at ht;subst ht;refine h3.Ab6.2.1 k u hu' a ?_;unfold TI.next Rg.next;simp[hta]
   |succ i=>exact D5.Bc4 h3 i k t u a (by omega) (by simpa using ht) hu' hta
theorem D5.once:∀{l:List Oper} {s:Rg} {ts:List TI} {s':Rg},D5 P base l s ts s'→∀(i k:Nat) t u a,i<k→ts[i]? = some t→ts[k]? = some u→a∈t.k→a∉u.k
 | [],s,[],s',h,i,k,t,u,a,_,ht,_,_=>by simp at ht
 |o::os,s,t0::ts,s',h,i,k,t,u,a,hik,ht,hu,hta=>by
  obtain⟨h1,h2,h3⟩:=h;cases k with
  |zero=>omega
  |succ k=>
   have hu':ts[k]? = some u:=by simpa using hu
   cases i with
   |zero=>
    simp at ht;subst ht;have hk:k<os.length:=by rw[← h3.length];exact (FA4.1 hu').1
    obtain⟨g1,_⟩:=h3.at k _ u (FA3 hk) hu';intro hua;refine g1.fresh a hua (h3.Ab6.2.1 k u hu' a ?_);unfold TI.next Rg.next;simp[hta]
   |succ i=>exact D5.once h3 i k t u a (by omega) (by simpa using ht) hu' hta
theorem Bc5 {D:Nat→Bool}{b:Nat}:∀(ts:List TI) (k:Nat),(∀(j:Nat) t,ts[j]? = some t→D (k+j)=true→t.n.isSome=true→t.s.bx.length≠b)→foldI D ts k b none=none
 | [],_,_=>rfl
 |t::ts,k,h=>by
  simp only[foldI];have:(if D k then t.f b none else none)=none:=by
   split
   ·rename_i hd
    unfold TI.f upd P3;have hw:∀(ws:List Wr),ws.foldl N9 (fun _=>none) b=none:=by
     intro ws;have:=Aa9 ws (fun _=>none) b
     simpa using this
    cases hn:t.n with
    |none=>exact hw _
    |some cs=>
     simp only;rw[if_neg (fun e=>h 0 t rfl (by simpa using hd) (by rw[hn];rfl) e.symm)]
     exact hw _
   ·rfl
  rw[this];exact Bc5 ts (k+1) fun j t ht hd=>h (j+1) t (by simpa using ht) (by rw[show k+(j+1)=k+1+j by omega];exact hd)
theorem Aj4.add {D:Nat→Bool}{R:List Rec}{n u i:Nat}{m:Option Nat}(hi:E9 R i≠some u)(h:Aj4 D R n u m):Aj4 (G6 D i) R n u m:=by
 have hadd:∀k,G6 D i k=true→k=i∨D k=true:=by
  intro k hk;unfold G6 at hk;split at hk
  ·rename_i e;exact .inl e
  ·exact .inr hk
 cases m with
 |none=>
  intro k h1 h2;rcases hadd k h2 with rfl | h2
  ·exact hi
  ·exact h k h1 h2
 |some m=>
  obtain⟨h1,h2,h3,h4⟩:=h;refine⟨h1,by unfold G6;split <;> simp_all,h3,fun k k1 k2 k3=> ?_⟩
  rcases hadd k k3 with rfl | k3
  ·exact hi
  ·exact h4 k k1 k2 k3
theorem Bc6 (hL:D5 P base ops.toList s₀ ts s')(h0:s₀.rs=[]){i:Nat}{o:Oper}{t:TI}(ho:ops[i]? = some o)(ht:ts[i]? = some t){D:Nat→Bool}(hD:D i=false)
  (hagS:∀u∈o.looksAt ops,∀k,k<ts.length→E9 s'.rs k=some u→(D k=true↔k<i))
  (hagB:∀b∈t.tr,∀(k:Nat) u,ts[k]? = some u→b∈u.wrs→(D k=true↔k<i))
  (hpostS:∀k,i<k→k<ts.length→D k=true→∀u,E9 s'.rs k=some u→o.dst≠some u)
  (hpostB:∀(k:Nat) u,i<k→ts[k]? = some u→D k=true→∀b∈u.wrs,b∉t.wrs)
  {a:Act} {w:World} (hst:StD B base ts s' (A3 s₀.bx) D a w) {K:Act→World→Prop} {Q:Exit→Act→World→Prop} (hK:∀a' w',StD B base ts s' (A3 s₀.bx) (G6 D i) a' w'→K a' w'):
  wpOp P ops Q i K a w:=by
 obtain⟨ow,bx,hinv,hS,hsz,hdef,hdead,hwit⟩:=hst;have hfresh:∀k∈t.k,bx.dead k=false:=by
  intro k hk;cases hb:bx.dead k with
  |false=>rfl
  |true=>
   obtain⟨j,u,hj,hDj,huk⟩:=(hdead k).1 hb;rcases FD8 j i with h | h | h
   ·exact absurd hk (hL.once j i u t k h hj ht huk)
   ·subst h;rw[hD] at hDj;cases hDj
   ·exact absurd huk (hL.once i j t u k h ht hj hk)
 have hused:∀k∈t.us,bx.dead k=false:=by
  intro k hk;obtain⟨g1,_⟩:=hL.at i o t (by simpa using ho) ht
  obtain⟨u1,u2⟩:=g1.used k hk;cases hb:bx.dead k with
  |false=>rfl
  |true=>
   obtain⟨j,u,hj,hDj,huk⟩:=(hdead k).1 hb;have hw:k+AJ9∈u.wrs:=by
    unfold TI.wrs;cases u.n with
    |none=>exact FC1 _ (FB1.2 ⟨k,huk,rfl⟩)
    |some cs=>exact FC6 _ (FC1 _ (FB1.2 ⟨k,huk,rfl⟩))
   have hji:=(hagB _ u1 j u hj hw).1 hDj;exact absurd (hL.Bc4 j i u t k hji hj ht huk) u2
 have hwits:∀{ow':Nat→A2} {bx':Bx} {w':World},E3 ow bx w ow' bx' w'→(∀p∈t.up,∃v,A0 ow' bx' w' (.fre p.1 p.2.1 p.2.2) v)→
   ∀(j:Nat) u,ts[j]? = some u→G6 D i j=true→∀p∈u.up,∃v,A0 ow' bx' w' (.fre p.1 p.2.1 p.2.2) v:=by
  intro ow' bx' w' hk hnew j u hj hd p hp;unfold G6 at hd;split at hd
  ·rename_i e
   subst e;rw[ht] at hj;cases hj;exact hnew p hp
  ·obtain⟨v,hv⟩:=hwit j u hj hd p hp
   exact⟨v,hv.keep hk⟩
 have hadd:∀{bx':Bx},(∀j,bx'.dead j=(bx.dead j||J7 t.k j))→Bc0 (G6 D i) ts bx':=by
  intro bx' hb j;rw[hb,FC9];constructor
  ·rintro (h | h)
   ·obtain⟨m,u,h1,h2,h3⟩:=(hdead j).1 h
    exact⟨m,u,h1,by unfold G6;split <;> simp_all,h3⟩
   ·refine⟨i,t,ht,by simp[G6],?_⟩
    unfold J7 at h;rw[FC2] at h;obtain⟨k,hk,hkj⟩:=h;rw[← FA5 hkj];exact hk
  ·rintro⟨m,u,h1,h2,h3⟩
   unfold G6 at h2;split at h2
   ·rename_i e
    subst e;rw[ht] at h1;cases h1
    right
    unfold J7;rw[FC2];exact⟨j,h3,FC0 j⟩
   ·exact .inl ((hdead j).2 ⟨m,u,h1,h2,h3⟩)
 obtain⟨g1,_,_,_,_,g6,g7,g8⟩:=hL.at i o t (by simpa using ho) ht
 obtain⟨hr,hl,more,hm⟩:=AA7 hL h0 ho ht;have hi:i<ts.length:=(FA4.1 ht).1;have hwant:=Ca4 (w:=w) hL h0 ho ht hS hsz hagS;have hdsti:E9 s'.rs i=o.dst:=by unfold E9;rw[hr]
 have hboxes:∀b,upd (fun b=>foldI D ts 0 b (A3 s₀.bx b)) t.s.bx.length t.n t.ws b=foldI (G6 D i) ts 0 b (A3 s₀.bx b):=by intro b;rw[Bb0];exact Bb2 ts 0 _ t (Nat.zero_le _) (by simpa using ht) hD fun j u hj hu hd hb=>hpostB j u (by omega) hu (by simpa using hd) b hb
 have C1:∀{ow' bx' w'} (u:Value),E3 ow bx w ow' bx' w'→(chainB s'.rs t.ch=true→A0 ow' bx' w' t.v u)→(chainB s'.rs t.ch=false→u=undef)→
   Ab4 ow' bx' w' base s'.rs ts.length (G6 D i) (a.put o.dst u)∧(a.put o.dst u).tmps.size=base.length∧(a.put o.dst u).defers=[]:=by
  intro ow' bx' w' u hk hu1 hu2;refine⟨fun x hx=> ?_,?_,?_⟩
  ·by_cases hox:o.dst=some x
   ·refine .inl ⟨i,_,⟨hi,by simp[G6],by rw[hdsti];exact hox,fun k k1 k2 k3 hk'=> ?_⟩,hr,fun hg=> ?_,fun hg=> ?_⟩
    ·have:D k=true:=by unfold G6 at k3;rw[if_neg (by omega)] at k3;exact k3
     exact hpostS k k1 k2 this x hk' hox
    ·have:(a.put o.dst u).tmps.getD x undef=u:=by
      rw[hox];unfold Act.put;have:x<a.tmps.size:=by omega
      simp[this]
     rw[this];exact hu1 (guard_true.1 hg)
    ·have:(a.put o.dst u).tmps.getD x undef=u:=by
      rw[hox];unfold Act.put;have:x<a.tmps.size:=by omega
      simp[this]
     rw[this];exact hu2 (guard_false.1 hg)
   ·have hne:E9 s'.rs i≠some x:=by rw[hdsti];exact hox
    have hget:(a.put o.dst u).tmps.getD x undef=a.tmps.getD x undef:=by
     cases hd:o.dst with
     |none=>rfl
     |some d=>
      have:d≠x:=fun e=>hox (by rw[hd,e])
      unfold Act.put;simp[Array.getElem?_setIfInBounds_ne this]
    rw[hget];rcases hS x hx with⟨m,r,q1,q2,q3,q4⟩|⟨q1,q2⟩
    ·exact .inl ⟨m,r,q1.add hne,q2,fun hg=>(q3 hg).keep hk,q4⟩
    ·exact .inr ⟨q1.add hne,fun e he=>(q2 e he).keep hk⟩
  ·unfold Act.put;cases o.dst <;> simp[hsz]
  ·unfold Act.put;cases o.dst <;> simp[hdef]
 unfold wpOp;simp only[ho,hwant];cases hc:chainB s'.rs t.ch with
 |false=>
  simp only[FF0,if_false];have hne:guardOf t.s.rs t.ch=some false:=by rw[← Bc2 hL h0 ho ht];exact guard_false.2 hc
  obtain⟨q1,q2⟩:=g1.quiet hne;obtain⟨k1,k2,k3⟩:=C1 undef (E3.refl _ _ _) (fun h=>by rw[hc] at h;cases h) (fun _=>rfl)
  refine hK _ _ ⟨ow,bx,?_,k1,k2,k3,hadd fun j=>by rw[g1.Ca0 hne];simp[J7],hwits (E3.refl _ _ _) fun p hp=>by rw[g1.upq hne] at hp;cases hp⟩
  have:(fun b=>foldI (G6 D i) ts 0 b (A3 s₀.bx b))=fun b=>foldI D ts 0 b (A3 s₀.bx b):=by funext b;rw[← hboxes b,q1,q2];rfl
  rw[this];exact hinv
 |true=>
  simp only[if_true];refine .inl ?_;have hgf:guardOf t.s.rs t.ch≠some false:=by rw[← Bc2 hL h0 ho ht];exact guard_true.2 hc
  refine g1.go hgf B ow bx s'.bx.length _ w a hinv (Ca5 hL h0 ho ht hS hsz hagS hc hinv.AZ8) (fun b hb=> ?_) (fun hn=>⟨?_,g7 hn⟩) hfresh hused K Q fun u ow' bx' w' hk hu hinv' hdd hup=> ?_
  ·rw[hL.Bb3 i t 0 b ht]
   refine Aj2 ts 0 _ fun j v hv hbv=> ?_
   have:=hagB b hb j v hv hbv;rw[FC4,FC4];cases hdj:D j with
   |true=>exact (decide_eq_true (this.1 hdj)).symm
   |false=>
    have:¬j<i:=fun h=>by have:=this.2 h;rw[hdj] at this;cases this
    exact (decide_eq_false this).symm
  ·have:A3 s₀.bx t.s.bx.length=none:=by
    unfold A3;rw[FD4 (by omega)]
   rw[this];refine Bc5 ts 0 fun j v hv hd hvn=> ?_
   rw[FC4] at hd;have hji:j≠i:=fun e=>by rw[e,hD] at hd;cases hd
   by_cases hlt:j<i
   ·have:=(hL.mono j i v t hlt hv ht).2 hvn
    omega
   ·have:=(hL.mono i j t v (by omega) ht hv).2 hn
    omega
  ·obtain⟨k1,k2,k3⟩:=C1 u hk (fun _=>hu) (fun h=>by rw[hc] at h;cases h)
   refine hK _ _ ⟨ow',bx',?_,k1,k2,k3,hadd hdd,hwits hk hup⟩;have:(fun b=>foldI (G6 D i) ts 0 b (A3 s₀.bx b))=upd (fun b=>foldI D ts 0 b (A3 s₀.bx b)) t.s.bx.length t.n t.ws:=by funext b;rw[← hboxes b]
   rw[this];exact hinv'
theorem Ca6 (hL:D5 P base ops.toList s₀ ts s')(h0:s₀.rs=[]){Q:Exit→Act→World→Prop}(hQ:∀a w,StD B base ts s' (A3 s₀.bx) (fun k=>decide (k<ts.length)) a w→Q .normal a w):
  ∀(m i:Nat) (a:Act) (w:World),i+m=ts.length→StD B base ts s' (A3 s₀.bx) (fun k=>decide (k<i)) a w→wpOps P ops Q (List.range' i m) a w:=by
 intro m
 induction m with
 |zero=>
  intro i a w hi hst;simp only[Nat.add_zero] at hi;subst hi;exact hQ a w hst
 |succ m ih=>
  intro i a w hi hst;rw[List.range'_succ,wpOps_cons];have hlen:=hL.length;obtain⟨o,ho⟩:∃o,ops[i]? = some o:=⟨_,FA9 (by simp at hlen;omega)⟩
  obtain⟨t,ht⟩:∃t,ts[i]? = some t:=⟨_,FA3 (by omega)⟩
  refine Bc6 hL h0 ho ht (by simp) (fun u hu k hk hd=>by simp) (fun b hb k u hu hbu=>by simp) (fun k h1 h2 h3=>by simp at h3;omega) (fun k u h1 h2 h3=>by simp at h3;omega) hst fun a' w' hst'=> ?_
  refine ih (i+1) a' w' (by omega) ?_
  have:(fun k=>decide (k<i+1))=G6 (fun k=>decide (k<i)) i:=by
   funext k;unfold G6;by_cases hk:k=i
   ·simp[hk]
   ·rw[if_neg hk]
    congr 1;exact propext ⟨fun h=>by omega,fun h=>by omega⟩
  rw[this];exact hst'
end

def BH8 (ops:Array Oper)(D:Nat→Bool):Prop:=∀(k:Nat) o,ops[k]? = some o→D k=true→∀e∈o.after,Region.binds .any e=true→D e.on=true
theorem Bc7 {acc:Array Nat}{i:Nat}:∀(l:List Edge) (s:Nat),(l.foldl (fun s e=>if Region.binds .any e then s ||| 2 ^ e.on ||| acc.getD e.on 0 else s) s).testBit i=true→
  s.testBit i=true∨∃e∈l,Region.binds .any e=true∧(e.on=i∨(acc.getD e.on 0).testBit i=true)
 | [],s,h=>.inl h
 |e::r,s,h=>by
  simp only[FB8] at h;rcases Bc7 r _ h with h |⟨e',h1,h2,h3⟩
  ·split at h
   ·rename_i hb
    rw[Nat.testBit_or,Nat.testBit_or] at h;simp only[FC9] at h;rcases h with (h | h) | h
    ·exact .inl h
    ·refine .inr ⟨e,by simp,hb,.inl ?_⟩
     rw[Nat.testBit_two_pow] at h;simpa using h
    ·exact .inr ⟨e,by simp,hb,.inr h⟩
   ·exact .inl h
  ·exact .inr ⟨e',by simp[h1],h2,h3⟩
theorem Bc8 {ops:Array Oper}{D:Nat→Bool}(hC:BH8 ops D):∀(k i:Nat),((Region.before ops).getD k 0).testBit i=true→D k=true→D i=true:=by
 have key:∀(l:List Oper) (acc:Array Nat) (pre:Nat),acc.size=pre→(∀(j:Nat) o,l[j]? = some o→ops[pre+j]? = some o)→
   (∀k i,(acc.getD k 0).testBit i=true→D k=true→D i=true)→
   ∀k i,((l.foldl (fun acc o=>acc.push (o.after.foldl (fun s e=>if Region.binds .any e then s ||| 2 ^ e.on ||| acc.getD e.on 0 else s) 0)) acc).getD k 0).testBit i=true→D k=true→D i=true:=by
  intro l
  induction l with
  |nil=>intro acc pre _ _ h k i;exact h k i
  |cons o r ih=>
   intro acc pre hs hl h k i;simp only[FB8];refine ih _ (pre+1) (by simp[hs]) (fun j o' hj=>by have:=hl (j+1) o' (by simpa using hj);rwa [show pre+(j+1)=pre+1+j by omega] at this) (fun k i hb hd=> ?_) k i
   by_cases hk:k=pre
   ·subst hk
    have hg:(acc.push (o.after.foldl (fun s e=>if Region.binds .any e then s ||| 2 ^ e.on ||| acc.getD e.on 0 else s) 0)).getD k 0=o.after.foldl (fun s e=>if Region.binds .any e then s ||| 2 ^ e.on ||| acc.getD e.on 0 else s) 0:=by simp[FE7,← hs]
    rw[hg,← FF1] at hb;rcases Bc7 _ _ hb with hb |⟨e,he,hbind,hb⟩
    ·simp at hb
    ·have hde:=hC k o (by have:=hl 0 o rfl;simpa using this) hd e (by simpa using he) hbind
     rcases hb with hb | hb
     ·rw[← hb];exact hde
     ·exact h e.on i hb hde
   ·have hg:(acc.push (o.after.foldl (fun s e=>if Region.binds .any e then s ||| 2 ^ e.on ||| acc.getD e.on 0 else s) 0)).getD k 0=acc.getD k 0:=by
     rw[FC5,FC5,Array.getElem?_push];rw[if_neg (by omega)]
    rw[hg] at hb;exact h k i hb hd
 intro k i h hd;unfold Region.before at h;rw[← FF1] at h;exact key ops.toList #[] 0 rfl (fun j o hj=>by simpa using hj) (fun k i h=>by simp at h) k i h hd
theorem Au5:∀(a b:List Nat),meets a b=false→∀x∈a,x∉b
 | [],_,_,x,h=>by simp at h
 |y::r,b,h,x,hx=>by
  simp only[meets,FD6] at h;rcases FB3.1 hx with rfl | hx
  ·intro hb
   have:=h.1;rw[List.any_eq_false] at this;exact this x hb (by rw[FC0])
  ·exact Au5 r b h.2 x hx
theorem Bc9 {ops:Array Oper}{i:Nat}{x:Oper}{tx:List Nat×List Nat}:∀(ys:List Oper) (tys:List (List Nat×List Nat)) (ms:List Nat) (j:Nat),AZ1 ops i x tx j ys tys ms=true→
  ∀(k:Nat) y,ys[k]? = some y→∃ty m,tys[k]? = some ty∧ms[k]? = some m∧(m.testBit i=true∨AC6 ops x y tx ty=true)
 | [],tys,ms,j,h,k,y,hy=>by simp at hy
 |y::ys,[],ms,j,h,k,y',hy=>by simp[AZ1] at h
 |y::ys,ty::tys,[],j,h,k,y',hy=>by simp[AZ1] at h
 |y::ys,ty::tys,m::ms,j,h,k,y',hy=>by
  simp only[AZ1,FA6,FC9] at h;cases k with
  |zero=>simp at hy;subst hy;exact⟨ty,m,rfl,rfl,h.1⟩
  |succ k=>
   obtain⟨ty',m',h1,h2,h3⟩:=Bc9 ys tys ms (j+1) h.2 k y' (by simpa using hy)
   exact⟨ty',m',by simpa using h1,by simpa using h2,h3⟩
theorem Bd0 {ops:Array Oper}:∀(xs:List Oper) (txs:List (List Nat×List Nat)) (ms:List Nat) (i:Nat),AK1 ops i xs txs ms=true→
  ∀(j k:Nat) x y,j<k→xs[j]? = some x→xs[k]? = some y→∃tx ty m,txs[j]? = some tx∧txs[k]? = some ty∧ms[k]? = some m∧(m.testBit (i+j)=true∨AC6 ops x y tx ty=true)
 | [],txs,ms,i,h,j,k,x,y,hjk,hx,hy=>by simp at hx
 |x::xs,[],ms,i,h,j,k,x',y,hjk,hx,hy=>by simp[AK1] at h
 |x::xs,tx::txs,[],i,h,j,k,x',y,hjk,hx,hy=>by simp[AK1] at h
 |x::xs,tx::txs,m::ms,i,h,j,k,x',y,hjk,hx,hy=>by
  simp only[AK1,FA6] at h;cases k with
  |zero=>omega
  |succ k=>
   cases j with
   |zero=>
    simp at hx;subst hx;obtain⟨ty,m',h1,h2,h3⟩:=Bc9 xs txs ms (i+1) h.1 k y (by simpa using hy)
    exact⟨tx,ty,m',rfl,by simpa using h1,by simpa using h2,by simpa using h3⟩
   |succ j=>
    obtain⟨tx',ty,m',h1,h2,h3,h4⟩:=Bd0 xs txs ms (i+1) h.2 j k x' y (by omega) (by simpa using hx) (by simpa using hy)
    exact⟨tx',ty,m',by simpa using h1,by simpa using h2,by simpa using h3,by rw[show i+(j+1)=i+1+j by omega];exact h4⟩
theorem Bd1:∀(l:List Oper) (i:Nat),AZ2 l i=true→∀(k:Nat) o,l[k]? = some o→∀e∈o.after,Region.binds .any e=true→e.on<i+k
 | [],i,_,k,o,ho=>by simp at ho
 |o0::r,i,h,k,o,ho=>by
  simp only[AZ2,FA6] at h;cases k with
  |zero=>
   simp at ho;subst ho;intro e he hb;have:=(Array.all_eq_true_iff_forall_mem.1 h.1) e he;simp[hb] at this;simpa using this
  |succ k=>
   intro e he hb;have:=Bd1 r (i+1) h.2 k o (by simpa using ho) e he hb
   omega
section
variable {P:Program}{base:List EV}{ops:Array Oper}{s₀ s':Rg}{ts:List TI}{B:F1}
theorem StD.congr {D D':Nat→Bool}{a:Act}{w:World}{bg₀:Nat→Option (List EV)}(h:∀k,k<ts.length→D k=D' k)(hst:StD B base ts s' bg₀ D a w):StD B base ts s' bg₀ D' a w:=by
 obtain⟨ow,bx,h1,h2,h3,h4,h5,h6⟩:=hst;refine⟨ow,bx,?_,fun u hu=> ?_,h3,h4,(fun j=>(h5 j).trans ⟨fun ⟨i,t,q1,q2,q3⟩=>⟨i,t,q1,by rw[← h i (FA4.1 q1).1];exact q2,q3⟩,fun ⟨i,t,q1,q2,q3⟩=>⟨i,t,q1,by rw[h i (FA4.1 q1).1];exact q2,q3⟩⟩),fun i t q1 q2=>h6 i t q1 (by rw[h i (FA4.1 q1).1];exact q2)⟩
 ·have:(fun b=>foldI D' ts 0 b (bg₀ b))=fun b=>foldI D ts 0 b (bg₀ b):=by
   funext b;exact Aj2 ts 0 _ fun j t ht _=>by rw[FC4];exact (h j (FA4.1 ht).1).symm
  rw[this];exact h1
 ·rcases h2 u hu with⟨m,r,⟨q1,q2,q3,q4⟩,q5⟩|⟨q1,q2⟩
  ·exact .inl ⟨m,r,⟨q1,by rw[← h m q1];exact q2,q3,fun k k1 k2 k3=>q4 k k1 k2 (by rw[h k k2];exact k3)⟩,q5⟩
  ·exact .inr ⟨fun k k1 k2=>q1 k k1 (by rw[h k k1];exact k2),q2⟩
theorem Ca7 (hL:D5 P base ops.toList s₀ ts s')(h0:s₀.rs=[])(h1:s₀.tw=[])(hB:AZ2 ops.toList 0=true)(hd:AK1 ops 0 ops.toList s'.tw (Region.before ops).toList=true){Q:Exit→Act→World→Prop}
  (hQ:∀a w,StD B base ts s' (A3 s₀.bx) (fun k=>decide (k<ts.length)) a w→Q .normal a w):
  ∀(fuel:Nat) (listed:Array Bool) (a:Act) (w:World),listed.size=ops.size→((FF6 ops.size).filter fun k=> !listed.getD k true).length=fuel→BH8 ops (fun k=>listed.getD k false)→
   StD B base ts s' (A3 s₀.bx) (fun k=>listed.getD k false) a w→wpAny P .any ops Q fuel listed a w:=by
 have hlen:=hL.length;have hn:ts.length=ops.size:=by simpa using hlen
 have hge:∀(listed:Array Bool) (k:Nat),listed.size=ops.size→k<ops.size→listed.getD k false=listed.getD k true:=by
  intro listed k hs hk;have:k<listed.size:=by omega
  simp[FE7,this]
 have hall:∀(listed:Array Bool),listed.size=ops.size→Region.ready .any ops listed=[]→∀k,k<ops.size→listed.getD k false=true:=by
  intro listed hs hr k
  induction k using Nat.strongRecOn with
  |_ k ih=>
   intro hk;apply FB2;intro hn;have hf:listed.getD k true=false:=by rw[← hge listed k hs hk];simpa using hn
   have:k∈Region.ready .any ops listed:=by
    rw[mem_ready];refine⟨hf,ops[k],by simp[hk],fun e he hb=> ?_⟩
    have hlt:=Bd1 ops.toList 0 hB k ops[k] (by simp[hk]) e he hb
    exact ih e.on (by omega) (by omega)
   rw[hr] at this;simp at this
 intro fuel
 induction fuel with
 |zero=>
  intro listed a w hs hc hC hst;have hno:∀k,k<ops.size→listed.getD k true=true:=by
   intro k hk;apply FB2;intro hne;have:k∈(FF6 ops.size).filter fun k=> !listed.getD k true:=by rw[List.mem_filter];exact⟨List.mem_range.2 hk,by simpa using hne⟩
   rw[List.eq_nil_of_length_eq_zero hc] at this;simp at this
  have hready:Region.ready .any ops listed=[]:=by apply List.eq_nil_iff_forall_not_mem.2;intro k hk;have:=(mem_ready.1 hk);obtain⟨q1,o,q2,_⟩:=this;have hk':k<ops.size:=(FB4.1 q2).1;rw[hno k hk'] at q1;cases q1
  refine⟨hready,hQ a w (hst.congr fun k hk=> ?_)⟩
  rw[hall listed hs hready k (by omega)]
  exact (decide_eq_true hk).symm
 |succ fuel ih=>
  intro listed a w hs hc hC hst;refine⟨fun hready=>hQ a w (hst.congr fun k hk=> ?_),fun i hi=> ?_⟩
  ·rw[hall listed hs hready k (by omega)]
   exact (decide_eq_true hk).symm
  ·obtain⟨hun,o,ho,hedges⟩:=mem_ready.1 hi
   have hin:i<ops.size:=(FB4.1 ho).1;obtain⟨t,ht⟩:∃t,ts[i]? = some t:=⟨_,FA3 (by omega)⟩
   have hDi:listed.getD i false=false:=by rw[hge listed i hs hin];exact hun
   have hget:∀k,(listed.setIfInBounds i true).getD k false=G6 (fun k=>listed.getD k false) i k:=by
    intro k;unfold G6;by_cases hk:k=i
    ·subst hk
     have:k<listed.size:=by omega
     simp[FE7,this]
    ·rw[if_neg hk,getD_set_ne false (fun e=>hk e.symm)]
   have hC':BH8 ops (fun k=>(listed.setIfInBounds i true).getD k false):=by
    intro k ok hok hk e he hb;simp only[hget] at hk ⊢;unfold G6 at hk ⊢;split
    ·rfl
    ·split at hk
     ·rename_i hki
      subst hki;rw[ho] at hok;cases hok;exact hedges e he hb
     ·exact hC k ok hok hk e he hb
   have hbefore:∀k,((Region.before ops).getD k 0).testBit i=true→listed.getD k false=false:=by
    intro k hb;cases hk:listed.getD k false with
    |false=>rfl
    |true=>
     have:=Bc8 hC k i hb hk;rw[hDi] at this;cases this
   have hafter:∀k,k<i→((Region.before ops).getD i 0).testBit k=true→listed.getD k false=true:=by
    intro k hk hb;have:=Bc8 hC' i k hb (by simp only[hget,G6];simp)
    simp only[hget,G6] at this;rw[if_neg (by omega)] at this
    exact this
   have hpair:∀j k x y,j<k→ops[j]? = some x→ops[k]? = some y→((Region.before ops).getD k 0).testBit j=true∨∃tj tk,ts[j]? = some tj∧ts[k]? = some tk∧AC6 ops x y (tj.tr,tj.wrs) (tk.tr,tk.wrs)=true:=by
    intro j k x y hjk hx hy;obtain⟨tx,ty,m,d1,d2,d3,d4⟩:=Bd0 _ _ _ _ hd j k x y hjk (by simpa using hx) (by simpa using hy)
    rcases d4 with d4 | d4
    ·refine .inl ?_
     have:(Region.before ops).getD k 0=m:=by
      have d3':(Region.before ops)[k]? = some m:=by simpa using d3
      rw[FC5,d3'];rfl
     rw[this];simpa using d4
    ·have hjn:j<ts.length:=by have:=(FB4.1 hx).1;omega
     have hkn:k<ts.length:=by have:=(FB4.1 hy).1;omega
     have tw:∀(q:Nat) (oq:Oper) (tq:List Nat×List Nat) (hq:q<ts.length),ops[q]? = some oq→s'.tw[q]? = some tq→tq=((ts[q]'hq).tr,(ts[q]'hq).wrs):=by
      intro q oq tq hq hoq htq;obtain⟨_,_,_,⟨more,hm⟩,hl,_⟩:=hL.at q oq (ts[q]'hq) (by simpa using hoq) (FA3 hq)
      rw[h1] at hl;simp at hl;rw[hm,FC8 (by omega),hl] at htq
      simp at htq;exact htq.symm
     refine .inr ⟨_,_,FA3 hjn,FA3 hkn,?_⟩;rw[← tw j x tx hjn hx d1,← tw k y ty hkn hy d2];exact d4
   have hwr:∀(k:Nat) u,ts[k]? = some u→∀b∈u.tr,b∈u.tr:=fun _ _ _ b h=>h
   refine Bc6 hL h0 ho ht (D:=fun k=>listed.getD k false) hDi ?_ ?_ ?_ ?_ hst fun a' w' hst'=> ?_
   ·
    intro u hu k hk hdk;obtain⟨ok,hok⟩:∃ok,ops[k]? = some ok:=⟨_,FA9 (by omega)⟩
    obtain⟨tk,htk⟩:∃tk,ts[k]? = some tk:=⟨_,FA3 hk⟩;obtain⟨hrk,_⟩:=AA7 hL h0 hok htk;have hdst:ok.dst=some u:=by unfold E9 at hdk;rw[hrk] at hdk;exact hdk
    rcases FD8 k i with hlt | heq | hgt
    ·refine⟨fun _=>hlt,fun _=> ?_⟩
     rcases hpair k i ok o hlt hok ho with hb |⟨tj,tk',_,_,hap⟩
     ·exact hafter k hlt hb
     ·simp only[AC6,FA6] at hap
      exact absurd hu ((Oper.apart_spec hap.1.1.1).1 u hdst)
    ·subst heq
     rw[ho] at hok;cases hok;exact⟨fun h=>(by rw[hDi] at h;cases h),fun h=>by omega⟩
    ·refine⟨fun h=> ?_,fun h=>by omega⟩
     rcases hpair i k o ok hgt ho hok with hb |⟨tj,tk',_,_,hap⟩
     ·have:=hbefore k hb
      rw[this] at h;cases h
     ·simp only[AC6,FA6] at hap
      exact absurd hu ((Oper.apart_spec hap.1.1.1).2.2 u hdst)
   ·intro b hb k u hu hbu
    have hk:k<ts.length:=(FA4.1 hu).1;obtain⟨ok,hok⟩:∃ok,ops[k]? = some ok:=⟨_,FA9 (by omega)⟩
    rcases FD8 k i with hlt | heq | hgt
    ·refine⟨fun _=>hlt,fun _=> ?_⟩
     rcases hpair k i ok o hlt hok ho with hbb |⟨tj,tk',e1,e2,hap⟩
     ·exact hafter k hlt hbb
     ·rw[hu] at e1;cases e1
      rw[ht] at e2;cases e2;simp only[AC6,FA6,FB9] at hap;exact absurd hb (Au5 _ _ hap.1.1.2 b hbu)
    ·subst heq
     exact⟨fun h=>(by rw[hDi] at h;cases h),fun h=>by omega⟩
    ·refine⟨fun h=> ?_,fun h=>by omega⟩
     rcases hpair i k o ok hgt ho hok with hbb |⟨tj,tk',e1,e2,hap⟩
     ·have:=hbefore k hbb
      rw[this] at h;cases h
     ·rw[ht] at e1;cases e1
      rw[hu] at e2;cases e2;simp only[AC6,FA6,FB9] at hap;exact absurd hbu (Au5 _ _ hap.2 b hb)
   ·intro k hgt hk hDk u hdk hou
    obtain⟨ok,hok⟩:∃ok,ops[k]? = some ok:=⟨_,FA9 (by omega)⟩
    obtain⟨tk,htk⟩:∃tk,ts[k]? = some tk:=⟨_,FA3 hk⟩;obtain⟨hrk,_⟩:=AA7 hL h0 hok htk;have hdst:ok.dst=some u:=by unfold E9 at hdk;rw[hrk] at hdk;exact hdk
    rcases hpair i k o ok hgt ho hok with hbb |⟨tj,tk',_,_,hap⟩
    ·have:=hbefore k hbb
     rw[this] at hDk;cases hDk
    ·simp only[AC6,FA6] at hap
     exact (Oper.apart_spec hap.1.1.1).2.1 u hou hdst
   ·intro k u hgt hu hDk b hbu hbt
    have hk:k<ts.length:=(FA4.1 hu).1;obtain⟨ok,hok⟩:∃ok,ops[k]? = some ok:=⟨_,FA9 (by omega)⟩
    rcases hpair i k o ok hgt ho hok with hbb |⟨tj,tk',e1,e2,hap⟩
    ·have:=hbefore k hbb
     rw[this] at hDk;cases hDk
    ·rw[ht] at e1;cases e1
     rw[hu] at e2;cases e2;simp only[AC6,FA6,FB9] at hap;exact Au5 _ _ hap.1.2 b hbt hbu
   ·refine ih _ a' w' (by simp[hs]) ?_ hC' (hst'.congr fun k hk=>(hget k).symm)
    have hcnt:∀(l:List Nat),l.Nodup→i∈l→(l.filter fun k=> !(listed.setIfInBounds i true).getD k true).length+1=(l.filter fun k=> !listed.getD k true).length:=by
     intro l
     induction l with
     |nil=>intro _ h;simp at h
     |cons x r ihl=>
      intro hnd hmem;rw[List.nodup_cons] at hnd;have hsame:∀(r:List Nat),i∉r→(r.filter fun k=> !(listed.setIfInBounds i true).getD k true)=r.filter fun k=> !listed.getD k true:=by intro r hr;apply List.filter_congr;intro k hk;rw[getD_set_ne true (fun e=>hr (by rw[e];exact hk))]
      by_cases hx:x=i
      ·subst hx
       have e1:(listed.setIfInBounds x true).getD x true=true:=by
        have:x<listed.size:=by omega
        simp[FE7,this]
       rw[FD3,FD3,e1,hun,hsame r hnd.1];simp
      ·have hmem':i∈r:=by
        rcases FB3.1 hmem with h | h
        ·exact absurd h.symm hx
        ·exact h
       have:=ihl hnd.2 hmem';rw[FD3,FD3,getD_set_ne true (fun e=>hx e.symm)]
       split
       ·simp only[FD2];omega
       ·exact this
    have:=hcnt (FF6 ops.size) List.nodup_range (List.mem_range.2 hin);omega
end
end Go.Proofs.YthfjpkdadjemcaaGreat
