/- A call that takes slices over does what is promised. No program in sight. -/
import Derived.Test.YthfjpkdadjemcaaGreatM2
import Derived.Laws.MakeOwn
set_option linter.unusedSimpArgs false
set_option linter.unusedVariables false
namespace Go.Proofs.YthfjpkdadjemcaaGreat
open _root_.List renaming getElem?_eq_getElem → Er4, getElem?_eq_some_iff → Er5, getElem?_cons_zero → Er9, getElem?_append_left → Es0, length_append → Es1, getElem?_take → Es2, getElem?_drop → Es3, mem_singleton → Es4, mem_cons → Es7, length_take → Es8, mem_map → Es9, length_drop → Et0, getElem?_append_right → Et2, length_replicate → Et6, mem_cons_of_mem → Et7, mem_append_left → Et8, foldl_cons → Eu0, size_toArray → Eu1, any_eq_true → Eu2, mem_append_right → Eu3, getElem?_append → Eu8, length_cons → Ev4, filter_cons → Ev5, getElem?_eq_none → Ev8, mem_append → Ev9, take_append_of_le_length → Ew0, take_take → Ew1, getElem?_map → Ew3, append_assoc → Ew4, ext_getElem? → Ew5, cons_append → Ew7, nil_append → Ex0, length_nil → Ex1, length_set → Ex2, take_left → Ex4, drop_take → Ex5, getElem?_of_mem → Ex6, getElem?_set_ne → Ex7, map_cons → Ey0, range → Ey8
open _root_.Nat renaming eq_of_beq_eq_true → Er6, le_of_ble_eq_true → Er8, beq_refl → Et3, zero_add → Et4, mul_le_mul_right → Et9, min_eq_left → Eu4, beq → Eu6, add_sub_cancel → Ev0, le_refl → Ev2, add_mul → Ev3, ble_eq_true_of_le → Ev6, mul_one → Ew2, lt_trichotomy → Ew6, add_zero → Ew9, add_sub_cancel' → Ey2
open _root_.Bool renaming and_eq_true → Er7, not_eq_true' → Es5, or_eq_false_iff → Eu5, or_eq_true → Eu9, or_true → Ew8, false_eq_true → Ey5
open _root_.Array renaming getElem?_eq_getElem → Es6, getElem?_eq_some_iff → Et5, getD_eq_getD_getElem? → Eu7, size_append → Ev1, getElem?_toList → Ev7, getElem?_append → Ex3, ext' → Ex8, getD → Ex9, toList_append → Ey1, foldl_toList → Ey6
open _root_.Classical renaming byContradiction → Et1
open Go.Sem renaming run_bind → Ey3
open _root_.Int renaming toNat → Ey4
open Go.Result renaming andThen_ok → Ey7
structure TrO (a tk:List (Nat×Nat))(ow:Nat→A1)(bx:Bx)(ow':Nat→A1)(bx':Bx):Prop where
 st:∀blk n,A5 ow blk n→A5 ow' blk n
 bo:∀i b,(i,b)∈a→ow (bx b) = .box b→bx' i=bx b∧ow' (bx b) = .box i
 tok:∀κ k,(κ,k)∈tk→∀blk fr,ow blk = .tok k fr→ow' blk = .tok κ fr
 tb:∀κ k,(κ,k)∈tk→∀x,bx.tb k=some x→bx'.tb κ=some x
theorem AZ8 {k κ:Nat}(h:k % 100000=κ % 100000):soft k=soft κ:=by unfold soft;rw[h]
theorem CU6 {k κ:Nat}(h:k % 100000=κ % 100000):K4 k=K4 κ:=by unfold K4;rw[h]
theorem CU7 {k κ n:Nat}(h:k % 100000=κ % 100000):H6 k n=H6 κ n:=by unfold H6;rw[AZ8 h]
theorem CU8 {k κ:Nat}(h:k % 100000=κ % 100000):k % 25000=κ % 25000:=by omega
theorem Ba5 {ow ow':Nat→A1}{bx bx':Bx}{w:World}{k κ:Nat}{t:Ty}{l:List t.den}{v:Value}(hst:∀blk n,A5 ow blk n→A5 ow' blk n)(he:k % 100000=κ % 100000)
  (htk:∀blk fr,ow blk = .tok k fr→ow' blk = .tok κ fr) (htb:soft κ=true→∀x,bx.tb k=some x→bx'.tb κ=some x) (hd:bx.dead k=false) (h:A0 ow bx w (.own k t l) v):A0 ow' bx' w (.own κ t l) v:=by
 have hk:E9 ow w ow' w:=E9.of fun blk n hs=>⟨hst blk n hs,rfl⟩
 cases h with
 |own h h' hh=>
  refine .own (fun hs=>(h (by rw[AZ8 he];exact hs)).keep hk) (fun _=> ?_) fun hs=> ?_
  rotate_left
  ·rcases hh (by rw[AZ8 he];exact hs) with h |⟨blk,cap,q1,q2⟩
   ·exact .inl ⟨by rw[← CU6 he];exact h.1,h.2⟩
   ·exact .inr ⟨blk,cap,htb hs _ q1,q2⟩
  rcases h' hd with h1 |⟨blk,cap,c,fz,h1,h2,h3,h3',h4,h5,h6⟩
  ·exact .inl h1
  ·exact .inr ⟨blk,cap,c,fz,h1,by rw[htk _ _ h2,CU7 he],by rw[h3,CU8 he],h3',h4,h5,fun hs=>⟨(h6 (by rw[AZ8 he];exact hs)).1,fun i x hx=>Rep.keep hk _ _ _ ((h6 (by rw[AZ8 he];exact hs)).2 i x hx)⟩⟩
theorem BI1 {dead:List Nat}:∀(ps:List OP) (es:List EV) (a tk:List (Nat×Nat)) (l:List EV) (a' tk':List (Nat×Nat)),K5 dead ps es a tk=some (l,a',tk')→∀e∈l,∃t v,e=EV.dat t v:=by
 intro ps
 induction ps with
 |nil=>
  intro es a tk l a' tk' h;cases es with
  |nil=>simp only[K5] at h;cases h;simp
  |cons e es=>simp only[K5] at h;cases h
 |cons p ps ih=>
  intro es a tk l a' tk' h;cases es with
  |nil=>cases p <;> simp only[K5] at h <;> cases h
  |cons e es=>
   cases p with
   |dat t=>
    simp only[K5] at h;split at h
    ·split at h
     ·rename_i h1
      cases h;intro e he;rcases Es7.1 he with rfl | he
      ·exact⟨_,_,rfl⟩
      ·exact ih _ _ _ _ _ _ h1 e he
     ·cases h
    ·cases h
   |own κ t=>
    simp only[K5] at h;split at h
    ·split at h
     ·split at h
      ·rename_i h1
       cases h;intro e he;rcases Es7.1 he with rfl | he
       ·exact⟨_,_,rfl⟩
       ·exact ih _ _ _ _ _ _ h1 e he
      ·cases h
     ·cases h
    ·split at h
     ·cases h
     split at h
     ·rename_i h1
      cases h;intro e he;rcases Es7.1 he with rfl | he
      ·exact⟨_,_,rfl⟩
      ·exact ih _ _ _ _ _ _ h1 e he
     ·cases h
    ·cases h
   |ref i off=>
    simp only[K5] at h;split at h
    ·split at h
     ·split at h
      ·split at h
       ·exact ih _ _ _ _ _ _ h
       ·cases h
      ·split at h
       ·cases h
       ·exact ih _ _ _ _ _ _ h
     ·cases h
    ·cases h
theorem Ah9 {dead:List Nat}{ow ow':Nat→A1}{bx bx':Bx}{w:World}:∀(ps:List OP) (es:List EV) (a tk:List (Nat×Nat)) (l:List EV) (a' tk':List (Nat×Nat)),
  K5 dead ps es a tk=some (l,a',tk')→(F0 a→F0 a')∧(F0 tk→F0 tk')∧(∀p∈a,p∈a')∧(∀p∈tk,p∈tk')∧
   ((∀p∈tk,p.2∉dead∧p.2 % 100000=p.1 % 100000∧p.1<BIG)→∀p∈tk',p.2∉dead∧p.2 % 100000=p.1 % 100000∧p.1<BIG)∧
   ∀rest,∃es',D9 id id ps (l++rest)=(es',rest)∧es'.length=es.length∧
    ∀af tf,(∀p∈a',p∈af)→(∀p∈tk',p∈tf)→TrO af tf ow bx ow' bx'→(∀k,k∉dead→(∃κ,(κ,k)∈tf)→bx.dead k=false)→∀(i:Nat) e e' v,es[i]? = some e→es'[i]? = some e'→A0 ow bx w e v→A0 ow' bx' w e' v:=by
 intro ps
 induction ps with
 |nil=>
  intro es a tk l a' tk' h;cases es with
  |nil=>simp only[K5] at h;cases h;exact⟨id,id,fun _ h=>h,fun _ h=>h,id,fun rest=>⟨[],rfl,rfl,fun _ _ _ _ _ _ i e e' v he=>by simp at he⟩⟩
  |cons e es=>simp only[K5] at h;cases h
 |cons p ps ih=>
  intro es a tk l a' tk' h;cases es with
  |nil=>cases p <;> simp only[K5] at h <;> cases h
  |cons e es=>
   cases p with
   |dat t=>
    simp only[K5] at h;split at h
    ·rename_i v hv
     split at h
     ·rename_i l1 a1 t1 h1
      cases h;obtain⟨g1,g2,g3,g4,g5,g6⟩:=ih es a tk l1 a' tk' h1;refine⟨g1,g2,g3,g4,g5,fun rest=> ?_⟩
      obtain⟨es',k1,k2,k3⟩:=g6 rest;refine⟨.dat t v::es',by simp only[Ew7,D9,k1],by simp[k2],fun af tf haf htf htr hdd i e0 e1 u he0 he1 hu=> ?_⟩
      cases i with
      |zero=>
       simp only[Er9,Option.some.injEq] at he0 he1;subst he0 he1;exact .dat ((As9 hv hu).keep (E9.of fun blk n hs=>⟨htr.st blk n hs,rfl⟩))
      |succ i=>exact k3 af tf haf htf htr hdd i e0 e1 u (by simpa using he0) (by simpa using he1) hu
     ·cases h
    ·cases h
   |own κ t=>
    simp only[K5] at h;split at h
    ·rename_i k t' lv
     split at h
     ·rename_i hc
      simp only[Er7,Es5,decide_eq_true_eq] at hc;obtain⟨⟨⟨⟨⟨⟨hk1,hkB⟩,hkB2⟩,hk2⟩,hk3⟩,hk4⟩,hk5⟩:=hc;have hk1:=Er6 hk1;have hkB:κ<BIG:=Er8 hkB;have hnone:J3 tk κ=none:=by
       cases hg:J3 tk κ with
       |none=>rfl
       |some x=>rw [hg] at hk4;cases hk4
      split at h
      ·rename_i l1 a1 t1 h1
       cases h;obtain⟨g1,g2,g3,g4,g5,g6⟩:=ih es a ((κ,k)::tk) l1 a' tk' h1;have hmem:(κ,k)∈tk':=g4 _ (by simp)
       refine⟨g1,fun hok=>g2 (hok.cons hnone hk3),g3,fun p hp=>g4 p (by simp[hp]),fun hall=>g5 fun p hp=> ?_,fun rest=> ?_⟩
       ·rcases Es7.1 hp with rfl | hp
        ·exact⟨P9 hk2,hk1,hkB⟩
        ·exact hall p hp
       ·obtain⟨es',k1,k2,k3⟩:=g6 rest
        refine⟨.own κ t' lv::es',by simp only[Ew7,D9,k1,id],by simp[k2],fun af tf haf htf htr hdd i e0 e1 u he0 he1 hu=> ?_⟩
        cases i with
        |zero=>
         simp only[Er9,Option.some.injEq] at he0 he1;subst he0 he1;exact Ba5 htr.st hk1 (htr.tok κ k (htf _ hmem)) (fun _=>htr.tb κ k (htf _ hmem)) (hdd k (P9 hk2) ⟨κ,htf _ hmem⟩) hu
        |succ i=>exact k3 af tf haf htf htr hdd i e0 e1 u (by simpa using he0) (by simpa using he1) hu
      ·cases h
     ·cases h
    ·split at h
     ·cases h
     rename_i hfirm;split at h
     ·rename_i l1 a1 t1 h1
      cases h;obtain⟨g1,g2,g3,g4,g5,g6⟩:=ih es a tk l1 a' tk' h1;refine⟨g1,g2,g3,g4,g5,fun rest=> ?_⟩
      obtain⟨es',k1,k2,k3⟩:=g6 rest;refine⟨.own κ t []::es',by simp only[Ew7,D9,k1,id],by simp[k2],fun af tf haf htf htr hdd i e0 e1 u he0 he1 hu=> ?_⟩
      cases i with
      |zero=>
       simp only[Er9,Option.some.injEq] at he0 he1;subst he0 he1;cases hu;exact .own (fun _=>AK2 t) (fun _=>.inl ⟨rfl,rfl⟩) fun _=>.inl ⟨hfirm,rfl,rfl⟩
      |succ i=>exact k3 af tf haf htf htr hdd i e0 e1 u (by simpa using he0) (by simpa using he1) hu
     ·cases h
    ·cases h
   |ref i0 off=>
    simp only[K5] at h;split at h
    ·rename_i b off'
     split at h
     ·rename_i hoff
      have hoff:=Er6 hoff;subst hoff;have fin:∀a1,K5 dead ps es a1 tk=some (l,a',tk')→(i0,b)∈a1→(F0 a→F0 a1)→(∀p∈a,p∈a1)→(F0 a→F0 a')∧(F0 tk→F0 tk')∧(∀p∈a,p∈a')∧(∀p∈tk,p∈tk')∧
        ((∀p∈tk,p.2∉dead∧p.2 % 100000=p.1 % 100000∧p.1<BIG)→∀p∈tk',p.2∉dead∧p.2 % 100000=p.1 % 100000∧p.1<BIG)∧
        ∀rest,∃es',D9 id id (.ref i0 off::ps) (l++rest)=(es',rest)∧es'.length=(EV.ptr b off::es).length∧
         ∀af tf,(∀p∈a',p∈af)→(∀p∈tk',p∈tf)→TrO af tf ow bx ow' bx'→(∀k,k∉dead→(∃κ,(κ,k)∈tf)→bx.dead k=false)→∀(i:Nat) e e' v,(EV.ptr b off::es)[i]? = some e→es'[i]? = some e'→A0 ow bx w e v→A0 ow' bx' w e' v:=by
       intro a1 h1 hmem hok hsub;obtain⟨g1,g2,g3,g4,g5,g6⟩:=ih es a1 tk l a' tk' h1;refine⟨fun h=>g1 (hok h),g2,fun p hp=>g3 p (hsub p hp),g4,g5,fun rest=> ?_⟩
       obtain⟨es',k1,k2,k3⟩:=g6 rest;refine⟨.ptr i0 off::es',by simp only[D9,k1,id],by simp[k2],fun af tf haf htf htr hdd i e0 e1 u he0 he1 hu=> ?_⟩
       cases i with
       |zero=>
        simp only[Er9,Option.some.injEq] at he0 he1;subst he0 he1;cases hu with
        |ptr hq=>
         obtain⟨j1,j2⟩:=htr.bo i0 b (haf _ (g3 _ hmem)) hq;rw[← j1];exact .ptr (by rw[j1];exact j2)
       |succ i=>exact k3 af tf haf htf htr hdd i e0 e1 u (by simpa using he0) (by simpa using he1) hu
      split at h
      ·rename_i b' hb'
       split at h
       ·rename_i hbb
        have hbb:=Er6 hbb;subst hbb;exact fin a h (V3 _ _ _ hb') id (fun _ h=>h)
       ·cases h
      ·rename_i hnone
       split at h
       ·cases h
       ·rename_i hhas
        exact fin _ h (by simp) (fun hok=>hok.cons hnone (by simpa using hhas)) (fun p hp=>by simp[hp])
     ·cases h
    ·cases h
theorem Au0 {dead:List Nat}{rd:Nat→Option (List EV)}:∀(bs:List (List OP)) (i:Nat) (a tk:List (Nat×Nat)) (l:List EV) (a' tk':List (Nat×Nat)),AP9 dead rd i bs a tk=some (l,a',tk')→
  (F0 a→F0 a')∧(F0 tk→F0 tk')∧(∀p∈a,p∈a')∧(∀p∈tk,p∈tk')∧
   ((∀p∈tk,p.2∉dead∧p.2 % 100000=p.1 % 100000∧p.1<BIG)→∀p∈tk',p.2∉dead∧p.2 % 100000=p.1 % 100000∧p.1<BIG)∧(∀e∈l,∃t v,e=EV.dat t v)∧(G4 id id bs l).length=bs.length∧
   ∀j,j<bs.length→∃b cs cs',(i+j,b)∈a'∧rd b=some cs∧(G4 id id bs l)[j]? = some cs'∧cs'.length=cs.length∧
    ∀(ow ow':Nat→A1) (bx bx':Bx) (w:World),TrO a' tk' ow bx ow' bx'→(∀k,k∉dead→(∃κ,(κ,k)∈tk')→bx.dead k=false)→∀(k:Nat) e e' v,cs[k]? = some e→cs'[k]? = some e'→A0 ow bx w e v→A0 ow' bx' w e' v
 | [],i,a,tk,l,a',tk',h=>by simp only[AP9] at h;cases h;exact⟨id,id,fun _ h=>h,fun _ h=>h,id,fun e he=>(by simp at he),rfl,fun j hj=>absurd hj (by simp)⟩
 |pts::r,i,a,tk,l,a',tk',h=>by
  simp only[AP9] at h;split at h
  ·rename_i b hb
   split at h
   ·rename_i cs hcs
    split at h
    ·rename_i l1 a1 t1 h1
     split at h
     ·rename_i l2 a2 t2 h2
      cases h;obtain⟨j1,j2,j3,j4,j5,j6,j7,j8⟩:=Au0 r (i+1) a1 t1 l2 a' tk' h2;have hm:=Ah9 (ow:=fun _=>.B8) (ow':=fun _=>.B8) (bx:=⟨id,fun _=>false,fun _=>none⟩) (bx':=⟨id,fun _=>false,fun _=>none⟩) (w:=default) pts cs a tk l1 a1 t1 h1
      have hmem:(i,b)∈a':=j3 _ (hm.2.2.1 _ (V3 _ _ _ hb));obtain⟨es0,f1,f2,_⟩:=hm.2.2.2.2.2 l2;have hfb:G4 id id (pts::r) (l1++l2)=es0::G4 id id r l2:=by simp only[G4,f1]
      refine⟨fun h=>j1 (hm.1 h),fun h=>j2 (hm.2.1 h),fun p hp=>j3 p (hm.2.2.1 p hp),fun p hp=>j4 p (hm.2.2.2.1 p hp),fun h=>j5 (hm.2.2.2.2.1 h),fun e he=> ?_,by rw[hfb];simp[j7],fun j hj=> ?_⟩
      ·rcases Ev9.1 he with he | he
       ·exact BI1 _ _ _ _ _ _ _ h1 e he
       ·exact j6 e he
      ·cases j with
       |zero=>
        refine⟨b,cs,es0,hmem,hcs,by rw[hfb];rfl,f2,fun ow ow' bx bx' w htr hdd=> ?_⟩
        obtain⟨es1,f1',_,f3⟩:=(Ah9 (ow:=ow) (ow':=ow') (bx:=bx) (bx':=bx') (w:=w) pts cs a tk l1 a1 t1 h1).2.2.2.2.2 l2;have e:es1=es0:=by rw[f1] at f1';cases f1';rfl
        subst e;exact f3 a' tk' j3 j4 htr hdd
       |succ j=>
        obtain⟨b',cs',cs'',k1,k2,k3,k4,k5⟩:=j8 j (by simpa using hj)
        exact⟨b',cs',cs'',by rw[show i+(j+1)=i+1+j by omega];exact k1,k2,by rw[hfb];simpa using k3,k4,k5⟩
     ·cases h
    ·cases h
   ·cases h
  ·cases h
theorem Ba6 {tn bn:Nat→Nat}{ow ow':Nat→A1}{bx bx':Bx}{w:World}(hst:∀blk n,A5 ow blk n→A5 ow' blk n)(hd:∀k,bx.dead k=false)
  {ks:List Nat} (htk:∀κ∈ks,tn κ % 100000=κ % 100000∧(∀blk fr,ow blk = .tok κ fr→ow' blk = .tok (tn κ) fr)∧(soft κ=true→∀x,bx.tb κ=some x→bx'.tb (tn κ)=some x)) (hbo:∀i,ow (bx i) = .box i→bx' (bn i)=bx i∧ow' (bx i) = .box (bn i)):
  ∀(ps:List OP) (d:List EV),(∀κ∈AE4 ps,κ∈ks)→(∀e∈d,∃t v,e=EV.dat t v)→(D9 tn bn ps d).2=(D9 id id ps d).2∧(D9 tn bn ps d).1.length=(D9 id id ps d).1.length∧(∀e∈(D9 id id ps d).2,e∈d)∧
   ∀(i:Nat) e e' v,(D9 id id ps d).1[i]? = some e→(D9 tn bn ps d).1[i]? = some e'→A0 ow bx w e v→A0 ow' bx' w e' v:=by
 intro ps
 induction ps with
 |nil=>intro d _ _;exact⟨rfl,rfl,fun e he=>he,fun i e e' v he=>by simp[D9] at he⟩
 |cons p ps ih=>
  intro d hks hdat;cases p with
  |dat t=>
   cases d with
   |nil=>exact ⟨rfl,rfl,fun e he=>he,fun i e e' v he=>by simp[D9] at he⟩
   |cons x d=>
    obtain⟨g1,g2,g3,g4⟩:=ih d (fun κ h=>hks κ (by simpa[AE4] using h)) fun e he=>hdat e (by simp[he])
    refine⟨by simp only[D9];exact g1,by simp only[D9,Ev4,g2],fun e he=> ?_,fun i e e' v he he' hr=> ?_⟩
    ·simp only[D9] at he
     exact Et7 _ (g3 e he)
    ·simp only[D9] at he he'
     cases i with
     |zero=>
      simp only[Er9,Option.some.injEq] at he he';subst he he';obtain⟨t,z,hx⟩:=hdat x (by simp)
      subst hx;cases hr with
      |dat hr=>exact .dat (hr.keep (E9.of fun blk n hs=>⟨hst blk n hs,rfl⟩))
     |succ i=>exact g4 i e e' v (by simpa using he) (by simpa using he') hr
  |own κ t=>
   cases d with
   |nil=>exact ⟨rfl,rfl,fun e he=>he,fun i e e' v he=>by simp[D9] at he⟩
   |cons x d=>
    obtain⟨g1,g2,g3,g4⟩:=ih d (fun κ' h=>hks κ' (by simp[AE4,h])) fun e he=>hdat e (by simp[he])
    have hκ:=htk κ (hks κ (by simp[AE4]))
    refine⟨by simp only[D9];exact g1,by simp only[D9,Ev4,g2],fun e he=> ?_,fun i e e' v he he' hr=> ?_⟩
    ·simp only[D9] at he
     exact Et7 _ (g3 e he)
    ·simp only[D9] at he he'
     cases i with
     |zero=>
      simp only[Er9,Option.some.injEq] at he he';subst he he';split
      ·exact Ba5 hst hκ.1.symm hκ.2.1 (fun hs=>hκ.2.2 (by rw[← AZ8 hκ.1];exact hs)) (hd κ) hr
      ·exact .undef _
     |succ i=>exact g4 i e e' v (by simpa using he) (by simpa using he') hr
  |ref i0 off=>
   obtain⟨g1,g2,g3,g4⟩:=ih d (fun κ h=>hks κ (by simpa[AE4] using h)) hdat
   refine⟨by simp only[D9];exact g1,by simp only[D9,Ev4,g2],fun e he=> ?_,fun i e e' v he he' hr=> ?_⟩
   ·simp only[D9] at he
    exact g3 e he
   ·simp only[D9] at he he'
    cases i with
    |zero=>
     simp only[Er9,Option.some.injEq] at he he';subst he he';cases hr with
     |ptr hq=>
      obtain⟨h1,h2⟩:=hbo i0 hq;simp only[id] at h1 h2 ⊢;rw[← h1];exact .ptr (by rw[h1];exact h2)
    |succ i=>exact g4 i e e' v (by simpa using he) (by simpa using he') hr
theorem CU9 {tn bn:Nat→Nat}{ow ow':Nat→A1}{bx bx':Bx}{w:World}(hst:∀blk n,A5 ow blk n→A5 ow' blk n)(hd:∀k,bx.dead k=false)
  {ks:List Nat} (htk:∀κ∈ks,tn κ % 100000=κ % 100000∧(∀blk fr,ow blk = .tok κ fr→ow' blk = .tok (tn κ) fr)∧(soft κ=true→∀x,bx.tb κ=some x→bx'.tb (tn κ)=some x)) (hbo:∀i,ow (bx i) = .box i→bx' (bn i)=bx i∧ow' (bx i) = .box (bn i)):
  ∀(bs:List (List OP)) (d:List EV),(∀κ∈Ag2 bs,κ∈ks)→(∀e∈d,∃t v,e=EV.dat t v)→(G4 tn bn bs d).length=bs.length∧(G4 id id bs d).length=bs.length∧
   ∀(j:Nat) cs cs',(G4 id id bs d)[j]? = some cs→(G4 tn bn bs d)[j]? = some cs'→cs'.length=cs.length∧∀(i:Nat) e e' v,cs[i]? = some e→cs'[i]? = some e'→A0 ow bx w e v→A0 ow' bx' w e' v:=by
 intro bs
 induction bs with
 |nil=>intro d _ _;exact⟨rfl,rfl,fun j cs cs' h=>by simp[G4] at h⟩
 |cons p r ih=>
  intro d hks hdat;obtain⟨g1,g2,g3,g4⟩:=Ba6 (w:=w) hst hd htk hbo p d (fun κ h=>hks κ (by simp[Ag2,h])) hdat
  obtain⟨k1,k2,k3⟩:=ih (D9 id id p d).2 (fun κ h=>hks κ (by simp[Ag2,h])) fun e he=>hdat e (g3 e he)
  have e1:G4 tn bn (p::r) d=(D9 tn bn p d).1::G4 tn bn r (D9 id id p d).2:=by simp only[G4,g1]
  have e2:G4 id id (p::r) d=(D9 id id p d).1::G4 id id r (D9 id id p d).2:=by simp only[G4]
  refine⟨by rw[e1];simp[k1],by rw[e2];simp[k2],fun j cs cs' h h'=> ?_⟩
  rw[e2] at h;rw[e1] at h';cases j with
  |zero=>
   simp only[Er9,Option.some.injEq] at h h';subst h h';exact⟨g2,g4⟩
  |succ j=>exact k3 j cs cs' (by simpa using h) (by simpa using h')
def owO (a tk:List (Nat×Nat))(ow:Nat→A1):Nat→A1:=fun blk=>match ow blk with
 | .E4=>.E4
 | .box b=>match z7 a b with
  |some i=>.box i
  |none=>.B8
 | .tok k fr=>match z7 tk k with
  |some κ=>.tok κ fr
  |none=>.part fr
 | .part fr=>.part fr
 | .B8=>.B8
theorem Au1 {a tk:List (Nat×Nat)}{ow:Nat→A1}{blk n:Nat}(h:A5 ow blk n):A5 (owO a tk ow) blk n:=by
 rcases L4 h with h |⟨k,fr,h,hn⟩|⟨fr,h,hn⟩
 ·exact L3 (by simp[owO,h])
 ·cases hk:z7 tk k with
  |some κ=>exact u7 (k:=κ) (by simp[owO,h,hk]) hn
  |none=>exact X0 (by simp[owO,h,hk]) hn
 ·exact X0 (by simp[owO,h]) hn
def bxO (a tk:List (Nat×Nat))(bx:Bx):Bx:=⟨(H7 a bx).f,fun _=>false,fun κ=>match J3 tk κ with
 |some k=>bx.tb k
 |none=>none⟩
theorem trO {a tk:List (Nat×Nat)}(ha:F0 a)(ht:F0 tk)(ow:Nat→A1)(bx:Bx):TrO a tk ow bx (owO a tk ow) (bxO a tk bx):=by
 refine⟨fun blk n h=>Au1 h,fun i b hm hb=>⟨by simp[bxO,H7,ha.key i b hm],?_⟩,fun κ k hm blk fr hb=> ?_,fun κ k hm x hx=>by simp only[bxO,ht.key κ k hm];exact hx⟩
 ·obtain⟨j,hj⟩:=At4 a b i hm
  have:j=i:=ha.inj j i b (z8 a b j hj) hm;simp[owO,hb,hj,this]
 ·obtain⟨j,hj⟩:=At4 tk k κ hm
  have:j=κ:=ht.inj j κ k (z8 tk k j hj) hm;simp[owO,hb,hj,this]
theorem Au2 {a tk:List (Nat×Nat)}{ow:Nat→A1}{blk i:Nat}(h:owO a tk ow blk = .box i):∃b,(i,b)∈a∧ow blk = .box b:=by
 unfold owO at h;split at h
 ·cases h
 ·rename_i b hb
  split at h
  ·rename_i j hj
   cases h;exact⟨b,z8 _ _ _ hj,hb⟩
  ·cases h
 ·split at h <;> cases h
 ·cases h
 ·cases h
theorem BI2 {a tk:List (Nat×Nat)}{ow:Nat→A1}{blk κ fr:Nat}(h:owO a tk ow blk = .tok κ fr):∃k,(κ,k)∈tk∧ow blk = .tok k fr:=by
 unfold owO at h;split at h
 ·cases h
 ·split at h <;> cases h
 ·rename_i k fr' hb
  split at h
  ·rename_i j hj
   cases h;exact⟨k,z8 _ _ _ hj,hb⟩
  ·cases h
 ·cases h
 ·cases h
theorem CV0 {a tk:List (Nat×Nat)}{ow:Nat→A1}{blk n:Nat}(h:A5 (owO a tk ow) blk n):A5 ow blk n:=by
 cases hb:ow blk with
 |E4=>exact L3 hb
 |tok k fr=>
  refine u7 hb ?_;cases hk:z7 tk k with
  |some κ=>rcases L4 h with h |⟨_,_,h,hn⟩|⟨fr',h,hn⟩ <;> simp[owO,hb,hk] at h;obtain⟨_,rfl⟩:=h;exact hn
  |none=>rcases L4 h with h |⟨_,_,h,hn⟩|⟨fr',h,hn⟩ <;> simp[owO,hb,hk] at h;subst h;exact hn
 |part fr=>rcases L4 h with h |⟨_,_,h,hn⟩|⟨fr',h,hn⟩ <;> simp[owO,hb] at h;subst h;exact X0 hb hn
 |B8=>rcases L4 h with h |⟨_,_,h,hn⟩|⟨fr',h,hn⟩ <;> simp[owO,hb] at h
 |box b=>rcases L4 h with h |⟨_,_,h,hn⟩|⟨fr',h,hn⟩ <;> (simp only[owO,hb] at h;split at h <;> cases h)
def Au3 (tn:Nat→Nat):A1→A1
 | .tok κ fr=>.tok (tn κ) fr
 | .E4=>.E4
 | .part fr=>.part fr
 |_=>.B8
theorem CV1 {tn:Nat→Nat}{o:A1}{n:Nat}(h:o.AY3 n):(Au3 tn o).AY3 n:=by
 cases o with
 |E4=>trivial
 |tok k fr=>exact h
 |part fr=>exact h
 |box b=>exact h.elim
 |B8=>exact h.elim
theorem CV2 {rd:Nat→Option (List EV)}{a:List (Nat×Nat)}:∀(l:List (List EV)) (i:Nat) (ws:List Wr),AE5 rd a i l=some ws→ws.length=l.length∧
  ∀(j:Nat) out,l[j]? = some out→∃b cs,J3 a (i+j)=some b∧rd b=some cs∧ws[j]? = some ⟨b,0,out⟩∧out.length=cs.length:=by
 intro l
 induction l with
 |nil=>intro i ws h;simp only[AE5] at h;cases h;exact⟨rfl,fun j out h=>by simp at h⟩
 |cons c r ih=>
  intro i ws h;simp only[AE5] at h;split at h
  ·rename_i b hb
   split at h
   ·rename_i cs hcs
    split at h
    ·rename_i hl
     split at h
     ·rename_i ws' hws
      cases h;obtain⟨h1,h2⟩:=ih _ _ hws;refine⟨by simp[h1],fun j out hj=> ?_⟩
      cases j with
      |zero=>
       simp only[Er9,Option.some.injEq] at hj;subst hj;exact⟨b,cs,hb,hcs,rfl,Er6 hl⟩
      |succ j=>
       obtain⟨b',cs',q1,q2,q3,q4⟩:=h2 j out (by simpa using hj)
       exact⟨b',cs',by rw[show i+(j+1)=i+1+j by omega];exact q1,q2,by simpa using q3,q4⟩
     ·cases h
    ·cases h
   ·cases h
  ·cases h
theorem CV3 {rd:Nat→Option (List EV)}{a:List (Nat×Nat)}:∀(l:List (List EV)) (i:Nat) (ws:List Wr),AE5 rd a i l=some ws→∀z∈ws,z.b∈a.map (·.2)∧∃cs,rd z.b=some cs∧z.off+z.new.length≤cs.length:=by
 intro l
 induction l with
 |nil=>intro i ws h;simp only[AE5] at h;cases h;simp
 |cons c r ih=>
  intro i ws h;simp only[AE5] at h;split at h
  ·rename_i b hb
   split at h
   ·rename_i cs hcs
    split at h
    ·rename_i hl
     split at h
     ·rename_i ws' hws
      cases h;intro z hz;rcases Es7.1 hz with rfl | hz
      ·have:=Er6 hl
       exact⟨Es9.2 ⟨_,V3 _ _ _ hb,rfl⟩,cs,hcs,by simp only;omega⟩
      ·exact ih _ _ hws z hz
     ·cases h
    ·cases h
   ·cases h
  ·cases h
theorem AQ9 {l:List (List EV)}{b:Nat}{cs:List EV}:A3 (l.map some) b=some cs↔l[b]? = some cs:=by rw[O3,Ew3];cases l[b]? <;> simp
theorem CV4 {ow ow':Nat→A1}{bx bx':Bx}{w:World}{es es':List EV}(hl:es'.length=es.length)(h:∀(i:Nat) e e' v,es[i]? = some e→es'[i]? = some e'→A0 ow bx w e v→A0 ow' bx' w e' v){v:Value}
  (hv:A0 ow bx w (H2 es) v):A0 ow' bx' w (H2 es') v:=by
 match es,es',hl with
 | [],[],_=>cases hv with | tup h1 h2=>exact .tup h1 fun i e v he=>by simp at he
 | [e],[e'],_=>exact h 0 e e' v rfl rfl hv
 |e1::e2::l,e1'::e2'::l',hl=>
  cases hv with
  |tup h1 h2=>
   refine .tup (by rw[← h1];simpa using hl) fun i e v he hv=> ?_
   have hlt:i<(e1::e2::l).length:=by rw[← hl];exact (Er5.1 he).1
   exact h i _ e v (Er4 hlt) he (h2 i _ v (Er4 hlt) hv)
theorem CV5 (f tn:Nat→Nat)(htn:∀κ,tn κ=f κ+BIG):∀(l:List Nat) (κ:Nat),Ag3 (l.map f)=true→κ∈l→soft κ=true→l.find? (fun κ'=>soft κ'&&Eu6 (tn κ') (tn κ))=some κ:=by
 intro l κ
 induction l with
 |nil=>intro _ h;simp at h
 |cons y r ih=>
  intro hnd hm hs;simp only[Ey0,Ag3,Er7,Es5] at hnd;rw[List.find?_cons];cases hb:(soft y&&Eu6 (tn y) (tn κ)) with
  |true=>
   simp only;rcases Es7.1 hm with rfl | hm
   ·rfl
   ·exfalso
    rw[Er7] at hb;have he:=Er6 hb.2;rw[htn,htn] at he;have he:f y=f κ:=Nat.add_right_cancel he;exact P9 hnd.1 (by rw[he];exact Es9.2 ⟨κ,hm,rfl⟩)
  |false=>
   simp only;rcases Es7.1 hm with rfl | hm
   ·rw[Et3,hs] at hb;cases hb
   ·exact ih hnd.2 hm hs
theorem BI3 {B:E5}{ow:Nat→A1}{bx:Bx}{nb:Nat}{bg:Nat→Option (List EV)}{w:World}(hi:Inv B ow bx nb bg w){k:Nat}(hk:bx.dead k=false):bx.tb (k+BIG)=none:=by
 cases hb:bx.tb (k+BIG) with
 |none=>rfl
 |some y=>
  rcases hi.born (k+BIG) (by rw[hb];rfl) with h | h
  ·exact absurd h (Nat.not_lt.2 (Nat.le_add_left _ _))
  ·rw[Ev0,hk] at h
   cases h.1
theorem CV6 {B:E5}{ow:Nat→A1}{bx:Bx}{nb:Nat}{bg:Nat→Option (List EV)}{w:World}(hi:Inv B ow bx nb bg w){f tn:Nat→Nat}(htn:∀κ,tn κ=f κ+BIG){l ks:List Nat}(hfB:∀κ∈l,soft κ=true→f κ<BIG){tb':Nat→Option (Nat×(Nat×Nat))}{j:Nat}
  (hj:(match bx.tb j with
   |some x=>some x
   |none=>match l.find? (fun κ=>soft κ&&Eu6 (tn κ) j) with
    |some κ=>tb' κ
    |none=>none).isSome=true):j<BIG∨((bx.dead (j-BIG)||F4 (ks++l.map f) (j-BIG))=true∧j<2*BIG):=by
 split at hj
 ·rename_i x hx
  exact (hi.born j (by rw[hx];rfl)).imp (fun h=>h) fun h=>⟨by rw[h.1];rfl,h.2⟩
 ·split at hj
  ·rename_i κ hκ
   right
   have hb:=List.find?_some hκ;have hm:=List.mem_of_find?_eq_some hκ;rw[Er7] at hb;have he:=Er6 hb.2;rw[htn] at he;have he2:j-BIG=f κ:=by rw[← he,Ev0]
   have hB:=hfB _ hm hb.1;refine⟨?_,by omega⟩
   rw[he2];have:F4 (ks++l.map f) (f κ)=true:=by unfold F4;rw[Eu2];exact⟨_,Eu3 _ (Es9.2 ⟨κ,hm,rfl⟩),Et3 _⟩
   rw[this,Ew8]
  ·cases hj
theorem CV7 {P:Program}{c:F9}(hc:Ah0 P c){dead:List Nat}{dst:Option Nat}{es l l':List EV}{a a' tk tk':List (Nat×Nat)}{rd:Nat→Option (List EV)}{x:c.ins.den}{y:c.outs.den}{vs d:List EV}{ws:List Wr}
  (h1:K5 dead c.ps es [] []=some (l,a,tk)) (h2:AP9 dead rd 0 c.boxes a tk=some (l',a',tk')) (hp:BE4 c (l++l').length a'=true) (h3:J2 c.ins (l++l')=some x) (h4:c.F x=some y)
  (h5:D9 (fun κ=>P1 dst tk' κ+BIG) (W8 a') c.rs (A8 c.outs c.A2 y)=(vs,d)) (h6:AE5 rd a' 0 (G4 (fun κ=>P1 dst tk' κ+BIG) (W8 a') c.aft d)=some ws) (h7:Ag3 (c.W7.map (P1 dst tk'))=true) (h8:∀κ∈c.W7,soft κ=true→P1 dst tk' κ<BIG)
  {B:E5} {ow:Nat→A1} {bx:Bx} {nb:Nat} {bg:Nat→Option (List EV)} {w:World} {args:Array Value} (id':Nat) (hi:Inv B ow bx nb bg w) (hargs:S2 ow bx w es args)
  (hrd:∀b∈a'.map (·.2),bg b=rd b) (hdead:∀k∈tk'.map (·.2)++c.W7.map (P1 dst tk'),bx.dead k=false):
  Calls P c.f args w fun e w'=>∃v ow' bx',e = .returned v∧E0 ow bx w ow' bx' w'∧A0 ow' bx' w' (H2 vs) v∧Inv B ow' bx' nb (upd bg id' none ws) w'∧∀j,bx'.dead j=(bx.dead j||F4 (tk'.map (·.2)++c.W7.map (P1 dst tk')) j):=by
 simp only[BE4,Er7] at hp;obtain⟨⟨hnin,hbel⟩,haft⟩:=hp;have hnin:=Er6 hnin;have haft:=Er6 haft;have hbelow:=AZ3 _ _ hbel;obtain⟨m1,m2,m3,m4,m5,m6⟩:=Ah9 (ow:=ow) (ow':=owO a' tk' ow) (bx:=bx) (bx':=bxO a' tk' bx) (w:=w) c.ps es [] [] l a tk h1;obtain⟨b1,b2,b3,b4,b5,b6,b7,b8⟩:=Au0 c.boxes 0 a tk l' a' tk' h2;have hok:F0 a':=b1 (m1 .nil)
 have htok:F0 tk':=b2 (m2 .nil);have htks:∀p∈tk',p.2∉dead∧p.2 % 100000=p.1 % 100000∧p.1<BIG:=b5 (m5 fun p hp=>by simp at hp)
 have htr:=trO hok htok ow bx;have hdd:∀k,k∉dead→(∃κ,(κ,k)∈tk')→bx.dead k=false:=fun k _ ⟨κ,hk⟩=>hdead k (Et8 _ (Es9.2 ⟨_,hk,rfl⟩))
 obtain⟨es',f1,f2,f3⟩:=m6 l';have hun:A8 c.ins c.nin x=l++l':=by
  have:=AQ8 c.ins (l++l') x h3 (fun e he=>by
   rcases Ev9.1 he with he | he
   ·exact BI1 _ _ _ _ _ _ _ h1 e he
   ·exact b6 e he)
  rw[hnin] at this;exact this
 have hargs0:c.G7 x=es':=by unfold F9.G7;rw[hun,f1]
 have hboxes0:c.L0 x=(G4 id id c.boxes l').map some:=by unfold F9.L0;rw[hun,f1]
 have hbox:∀i,i<c.boxes.length→∃b cs cs',(i,b)∈a'∧bg b=some cs∧(G4 id id c.boxes l')[i]? = some cs'∧cs'.length=cs.length∧
   ∀(k:Nat) e e' v,cs[k]? = some e→cs'[k]? = some e'→A0 ow bx w e v→A0 (owO a' tk' ow) (bxO a' tk' bx) w e' v:=by
  intro i hlt;obtain⟨b,cs,cs',k1,k2,k3,k4,k5⟩:=b8 i hlt;rw[Et4] at k1;refine⟨b,cs,cs',k1,?_,k3,k4,k5 ow _ bx _ w htr hdd⟩;rw[hrd b (Es9.2 ⟨(i,b),k1,rfl⟩)];exact k2
 have hcall:∀blk i,owO a' tk' ow blk = .box i→∃b,(i,b)∈a'∧ow blk = .box b∧blk=bx b:=by intro blk i h;obtain⟨b,g1,g2⟩:=Au2 h;exact⟨b,g1,g2,(hi.back blk b g2).1⟩
 have hglob:O1 (owO a' tk' ow) w:=hi.AQ6.keep (.of fun blk n h=>⟨Au1 h,rfl⟩)
 have hinv:Inv ⟨w,fun blk=>(∃b,owO a' tk' ow blk = .box b)∨∃k fr,owO a' tk' ow blk = .tok k fr,owO a' tk' ow,c.boxes.length,bxO a' tk' bx,hglob⟩ (owO a' tk' ow) (bxO a' tk' bx) c.boxes.length (A3 (c.L0 x)) w:=by
  rw[hboxes0];constructor
  ·intro i cs' hcs'
   rw[AQ9] at hcs';have hlt:i<c.boxes.length:=by rw[← b7];exact (Er5.1 hcs').1
   obtain⟨b,cs,cs'',k1,k2,k3,k4,k5⟩:=hbox i hlt;rw[hcs'] at k3;cases k3;obtain⟨g1,c0,T,g2,g3⟩:=hi.box b cs k2;obtain⟨t1,t2⟩:=htr.bo i b k1 g1;refine⟨by rw[t1];exact t2,c0,T,by rw[t1];exact g2,by rw[k4,g3.1],fun k e v he hv=> ?_⟩
   have hklt:k<cs.length:=by rw[← k4];exact (Er5.1 he).1
   exact⟨k5 k _ e v (Er4 hklt) he (g3.2 k _ v (Er4 hklt) hv).1,(g3.2 k _ v (Er4 hklt) hv).2⟩
  ·intro blk i h
   obtain⟨b,k1,k2,k3⟩:=hcall blk i h;have hlt:=hbelow i b k1;obtain⟨t1,t2⟩:=htr.bo i b k1 (by rw[← k3];exact k2)
   refine⟨by rw[t1];exact k3,?_,hlt⟩
   obtain⟨_,_,cs'',_,_,j3,_⟩:=hbox i hlt;rw[AQ9.2 j3];rfl
  ·intro blk h
   refine hi.here blk fun e=>h ?_
   simp[owO,e]
  ·intro blk _ h
   exact⟨rfl,rfl,fun b hb=>h (.inl ⟨b,hb⟩),fun k fr hb=>h (.inr ⟨k,fr,hb⟩)⟩
  ·exact Ev2 _
  ·exact⟨rfl,rfl,rfl⟩
  ·intro i hlt
   obtain⟨_,_,cs'',_,_,j3,_⟩:=hbox i hlt;exact⟨rfl,by rw[AQ9.2 j3];rfl⟩
  ·exact .refl _ _
  ·intro j hj
   left
   simp only[bxO] at hj;split at hj
   ·rename_i k hk;exact (htks _ (V3 _ _ _ hk)).2.2
   ·cases hj
 have hrepl:S2 (owO a' tk' ow) (bxO a' tk' bx) w (c.G7 x) args:=by
  rw[hargs0];refine⟨by rw[f2];exact hargs.1,fun i e v he hv=> ?_⟩
  have hlt:i<es.length:=by rw[← f2];exact (Er5.1 he).1
  exact f3 a' tk' b3 b4 htr hdd i _ e v (Er4 hlt) he (hargs.2 i _ v (Er4 hlt) hv)
 refine (hc.go x y h4 w (owO a' tk' ow) (bxO a' tk' bx) args hglob (fun _=>rfl) hinv hrepl).mono fun e w' ⟨v,ow',tb',he,hinv',hv⟩=> ?_
 subst he;have hsz:=hinv'.size;simp only at hsz;generalize htn:(fun κ=>P1 dst tk' κ+BIG)=tn at h5 h6
 have htn5:∀κ,tn κ % 100000=κ % 100000:=by
  intro κ;subst htn;simp only[P1];split
  ·rename_i k hk
   have:=(htks _ (V3 _ _ _ hk)).2.1;simp only at this;rw[← this];unfold BIG;omega
  ·split
   ·rename_i dd _;unfold BIG;omega
   ·unfold BIG;omega
 let given:Nat→Prop:=fun blk=>∃k fr,owO a' tk' ow blk = .tok k fr
 let ow2:Nat→A1:=fun blk=>open Classical in if blk<w.heap.size∧¬given blk then ow blk else Au3 tn (ow' blk)
 have htnK:∀κ,tn κ=P1 dst tk' κ+BIG:=fun κ=>by rw[← htn]
 let tb2:Nat→Option (Nat×(Nat×Nat)):=fun j=>match bx.tb j with
  |some x=>some x
  |none=>match c.W7.find? (fun κ=>soft κ&&Eu6 (tn κ) j) with
   |some κ=>tb' κ
   |none=>none
 let bx2:Bx:=⟨bx.f,fun j=>bx.dead j||F4 (tk'.map (·.2)++c.W7.map (P1 dst tk')) j,tb2⟩
 let bxE:Bx:=⟨(bxO a' tk' bx).f,(bxO a' tk' bx).dead,tb'⟩
 have hM:∀blk b,ow blk = .box b→(∀i,(i,b)∉a')→owO a' tk' ow blk = .B8:=by
  intro blk b hb hn;unfold owO;rw[hb];simp only;split
  ·rename_i j hj;exact absurd (z8 _ _ _ hj) (hn j)
  ·rfl
 have hold:∀blk,blk<w.heap.size→(∀b,owO a' tk' ow blk≠ .box b)→¬given blk→w'.heap[blk]? = w.heap[blk]? ∧ow' blk=owO a' tk' ow blk:=by
  intro blk hlt h hg;obtain⟨g1,g2,_⟩:=hinv'.old blk hlt (fun h'=>h'.elim (fun ⟨b,hb⟩=>h b hb) hg)
  exact⟨g1,g2⟩
 have hboxg:∀blk b,ow blk = .box b→¬given blk:=by
  rintro blk b hb ⟨k,fr,h⟩
  obtain⟨_,_,h⟩:=BI2 h;rw[hb] at h;cases h
 have hoo:∀blk,blk<w.heap.size→¬given blk→ow2 blk=ow blk:=fun blk h1 h2=>if_pos ⟨h1,h2⟩
 have hon:∀blk,¬(blk<w.heap.size∧¬given blk)→ow2 blk=Au3 tn (ow' blk):=fun blk h=>if_neg h
 have hbx':∀blk i,owO a' tk' ow blk = .box i→ow' blk = .box i:=by
  intro blk i h;obtain⟨b,k1,k2,k3⟩:=hcall blk i h;have hlt:=hbelow i b k1;obtain⟨t1,_⟩:=htr.bo i b k1 (by rw[← k3];exact k2)
  obtain⟨h1,h2⟩:=hinv'.kept i hlt;obtain⟨cs,hcs⟩:=Option.isSome_iff_exists.1 h2;have:=(hinv'.box i cs hcs).1;rw[t1,← k3] at this;exact this
 have hst2:∀blk n,A5 ow' blk n→A5 ow2 blk n:=by
  intro blk n h;by_cases hlt:blk<w.heap.size∧¬given blk
  ·refine Z2 (ow:=ow) (CV0 (a:=a') (tk:=tk') ?_) (hoo blk hlt.1 hlt.2)
   by_cases hm:∀b,owO a' tk' ow blk≠ .box b
   ·exact Z2 h (hold blk hlt.1 hm hlt.2).2.symm
   ·exfalso
    obtain⟨i,hcb⟩:∃i,owO a' tk' ow blk = .box i:=Et1 fun hn=>hm fun b hb=>hn ⟨b,hb⟩
    exact As6 h i (hbx' blk i hcb)
  ·unfold A5
   rw[hon blk hlt];exact CV1 h
 have hkeep:E0 ow bx w ow2 bx2 w':=by
  refine⟨fun blk n c0 T fz h hc0=> ?_,fun blk k fr h hd=> ?_,fun k hd=> ?_,fun b h=> ?_,fun k x hx=>by simp only[bx2,tb2,hx]⟩
  ·have hlt:=hi.here blk (AK1 h)
   obtain⟨q1,c1,fz1,q2,q3⟩:=hinv'.st blk n c0 T fz (Au1 h) hc0;exact⟨hst2 blk n q1,c1,fz1,q2,q3⟩
  ·have hlt:=hi.here blk (by rw[h];intro e;cases e)
   have hng:¬given blk:=by
    rintro⟨κ,fr',hg⟩
    obtain⟨k',hk',hb'⟩:=BI2 hg;rw[h] at hb';cases hb';have hmem:k∈tk'.map (·.2)++c.W7.map (P1 dst tk'):=Et8 _ (Es9.2 ⟨_,hk',rfl⟩);have hkill:F4 (tk'.map (·.2)++c.W7.map (P1 dst tk')) k=true:=by unfold F4;rw[Eu2];exact⟨k,hmem,Et3 k⟩
    simp only[bx2,hdead k hmem,hkill] at hd;cases hd
   refine⟨by rw[hoo blk hlt hng];exact h,(hold blk hlt (fun b hb=> ?_) hng).1⟩
   obtain⟨_,_,g2⟩:=Au2 hb;rw[h] at g2;cases g2
  ·simp only[bx2,Eu5] at hd
   exact hd.1
  ·have hlt:=hi.here (bx b) (by rw[h];intro e;cases e)
   exact⟨rfl,by rw[hoo _ hlt (hboxg _ b h)];exact h⟩
 have hdat:∀e∈A8 c.outs c.A2 y,∃t v,e=EV.dat t v:=BH6 _ _ _;have htk2:∀κ∈c.W7,tn κ % 100000=κ % 100000∧(∀blk fr,ow' blk = .tok κ fr→ow2 blk = .tok (tn κ) fr)∧(soft κ=true→∀x,bxE.tb κ=some x→bx2.tb (tn κ)=some x):=by
  refine fun κ hκ=>⟨htn5 κ,fun blk fr h=> ?_,fun hs x hx=> ?_⟩
  rotate_left
  ·have hn:bx.tb (tn κ)=none:=by
    rw[htnK];exact BI3 hi (hdead _ (Eu3 _ (Es9.2 ⟨κ,hκ,rfl⟩)))
   have hf:c.W7.find? (fun κ'=>soft κ'&&Eu6 (tn κ') (tn κ))=some κ:=by exact CV5 (P1 dst tk') tn htnK _ κ h7 hκ hs
   simp only[bx2,tb2,hn,hf];exact hx
  have hn:¬(blk<w.heap.size∧¬given blk):=by
   rintro⟨hlt,hg⟩
   by_cases hm:∀b,owO a' tk' ow blk≠ .box b
   ·rw[(hold blk hlt hm hg).2] at h
    exact hg ⟨κ,fr,h⟩
   ·obtain⟨i,hcb⟩:∃i,owO a' tk' ow blk = .box i:=Et1 fun hn=>hm fun b hb=>hn ⟨b,hb⟩
    rw[hbx' blk i hcb] at h;cases h
  rw[hon blk hn,h];rfl
 have hbo2:∀i,ow' (bxE i) = .box i→bx2 (W8 a' i)=bxE i∧ow2 (bxE i) = .box (W8 a' i):=by
  intro i h;obtain⟨_,q2,q3⟩:=hinv'.back _ i h;obtain⟨b,cs,cs',k1,k2,_⟩:=hbox i q3;obtain⟨g1,_⟩:=hi.box b cs k2;have hbn:W8 a' i=b:=by unfold W8;rw[hok.key i b k1]
  have hbc:bxE i=bx b:=by simp[bxE,bxO,H7,hok.key i b k1]
  rw[hbn,hbc];have hlt:=hi.here (bx b) (by rw[g1];intro e;cases e)
  exact⟨rfl,by rw[hoo _ hlt (hboxg _ b g1)];exact g1⟩
 obtain⟨r1,r2,r3,r4⟩:=Ba6 (w:=w') (tn:=tn) (bn:=W8 a') (ow':=ow2) (bx:=bxE) (bx':=bx2) hst2 (fun _=>rfl) htk2 hbo2 c.rs _ (fun κ h=>Et8 _ h) hdat
 rw[h5] at r1 r2 r4;simp only at r1 r2 r4;have hv2:A0 ow2 bx2 w' (H2 vs) v:=CV4 r2 r4 hv;obtain⟨s1,s2,s3⟩:=CU9 (w:=w') (tn:=tn) (bn:=W8 a') (ow':=ow2) (bx:=bxE) (bx':=bx2) hst2 (fun _=>rfl) htk2 hbo2 c.aft (D9 id id c.rs (A8 c.outs c.A2 y)).2 (fun κ h=>Eu3 _ h) fun e he=>hdat e (r3 e he)
 rw[← r1] at s1 s2 s3;have hb1:c.S1 y=(G4 id id c.aft d).map some:=by unfold F9.S1;rw[← r1]
 obtain⟨k1,k3⟩:=CV2 _ _ _ h6;refine⟨v,ow2,bx2,rfl,hkeep,hv2,?_,fun j=>rfl⟩
 have hwsb:∀(k:Nat) x,ws[k]? = some x→(k,x.b)∈a':=by
  intro k x hx;have hk:k<(G4 tn (W8 a') c.aft d).length:=by rw[← k1];exact (Er5.1 hx).1
  obtain⟨b,cs,g1,g2,g3,g4⟩:=k3 k _ (Er4 hk);rw[hx] at g3;cases g3;rw[Et4] at g1;exact V3 _ _ _ g1
 constructor
 ·intro b cs2 hb2
  simp only[upd,P2] at hb2;by_cases hin:∃i,(i,b)∈a'
  ·obtain⟨i,hi'⟩:=hin
   have hlt:=hbelow i b hi';have hlt2:i<(G4 tn (W8 a') c.aft d).length:=by rw[s1,haft];exact hlt
   have hlt3:i<(G4 id id c.aft d).length:=by rw[s2,haft];exact hlt
   obtain⟨b',cs,q1,q2,q3,q4⟩:=k3 i _ (Er4 hlt2);rw[Et4,hok.key i b hi'] at q1;cases q1;obtain⟨b0,cs0,cs0',p1,p2,p3,p4,p5⟩:=hbox i hlt;have:b0=b:=by have:=hok.key i b0 p1;rw[hok.key i b hi'] at this;cases this;rfl
   subst this;have hrdb:rd b0=bg b0:=(hrd b0 (Es9.2 ⟨(i,b0),hi',rfl⟩)).symm;have hcs:cs=cs0:=by rw[hrdb,p2] at q2;cases q2;rfl
   subst hcs;rw[BH8 ws bg b0 _ cs i q3 p2 q4 (fun k x hx he=>by have:=hwsb k x hx;rw[he] at this;exact hok.inj k i b0 this hi')] at hb2
   obtain⟨z1,z2⟩:=s3 i _ _ (Er4 hlt3) (Er4 hlt2);generalize (G4 tn (W8 a') c.aft d)[i]=out at hb2 z1 z2 q4;cases hb2;obtain⟨g1,c0,T,g2,g3⟩:=hi.box b0 cs p2;obtain⟨t1,t2⟩:=htr.bo i b0 hi' g1;have hbg':A3 (c.S1 y) i=some ((G4 id id c.aft d)[i]):=by rw[hb1,AQ9];exact Er4 hlt3
   obtain⟨w1,c1,T1,w2,w3⟩:=hinv'.box i _ hbg';change ow' ((bxO a' tk' bx) i)=_ at w1;change w'.heap[(bxO a' tk' bx) i]? = _ at w2;rw[t1] at w1 w2;have hltb:=hi.here (bx b0) (by rw[g1];intro e;cases e)
   refine⟨by rw[hoo _ hltb (hboxg _ b0 g1)];exact g1,c1,T1,w2,by rw[z1];exact w3.1,fun k e v' he hv'=> ?_⟩
   have hklt:k<((G4 id id c.aft d)[i]).length:=by rw[← z1];exact (Er5.1 he).1
   obtain⟨r4,r5⟩:=w3.2 k _ v' (Er4 hklt) hv';exact⟨z2 k _ e v' (Er4 hklt) he r4,r5⟩
  ·have hne:∀x∈ws,x.b≠b:=fun x hx e=>by
    obtain⟨k,hk⟩:=Ex6 hx;exact hin ⟨k,e▸hwsb k x hk⟩
   rw[AZ5 ws bg b hne] at hb2;obtain⟨g1,c0,T,g2,g3⟩:=hi.box b cs2 hb2;have hltb:=hi.here (bx b) (by rw[g1];intro e;cases e)
   have hj:=hM (bx b) b g1 (fun i h=>hin ⟨i,h⟩)
   exact⟨by rw[hoo _ hltb (hboxg _ b g1)];exact g1,c0,T,by rw[(hold (bx b) hltb (by rw[hj];intro b h;cases h) (hboxg _ b g1)).1];exact g2,g3.keep hkeep⟩
 ·intro blk b h
  by_cases hlt:blk<w.heap.size∧¬given blk
  ·rw[hoo blk hlt.1 hlt.2] at h
   obtain⟨g1,g2,g3⟩:=hi.back blk b h;exact⟨g1,by simp only[upd,P2];rw[AZ6];exact g2,g3⟩
  ·rw[hon blk hlt] at h
   unfold Au3 at h;split at h <;> cases h
 ·intro blk h
  by_cases hlt:blk<w.heap.size∧¬given blk
  ·omega
  ·rw[hon blk hlt] at h
   refine hinv'.here blk fun e=>h ?_
   rw[e];rfl
 ·intro blk hlt hnm
  obtain⟨g1,g2,g3⟩:=hi.old blk hlt hnm;have hs:=hi.size;have hlt2:blk<w.heap.size:=by omega
  have hng:¬given blk:=by
   rintro⟨κ,fr,hg⟩
   obtain⟨k',_,hb'⟩:=BI2 hg;exact g3.2 _ _ hb'
  have hc':∀b,owO a' tk' ow blk≠ .box b:=by intro b hb;obtain⟨b',_,k2⟩:=Au2 hb;exact g3.1 b' k2
  exact⟨by rw[(hold blk hlt2 hc' hng).1];exact g1,by rw[hoo blk hlt2 hng];exact g2,by rw[hoo blk hlt2 hng];exact g3⟩
 ·have:=hi.size;omega
 ·obtain⟨e1,e2,e3⟩:=hinv'.env
  obtain⟨e4,e5,e6⟩:=hi.env;exact⟨by rw[e1];exact e4,by rw[e2];exact e5,by rw[e3];exact e6⟩
 ·intro b hb
  obtain⟨h1,h2⟩:=hi.kept b hb;exact⟨h1,by simp only[upd,P2];rw[AZ6];exact h2⟩
 ·exact hi.st.trans hkeep.st
 ·intro j hj
  exact CV6 hi htnK h8 hj
theorem Ba7 {f:Nat}:∀(l:List F9) (c:F9),Ar7 f l=some c→c∈l∧c.f=f
 | [],c,h=>by cases h
 |d::r,c,h=>by
  simp only[Ar7] at h;split at h
  ·rename_i hk
   cases h;exact⟨by simp,Er6 hk⟩
  ·obtain⟨h1,h2⟩:=Ba7 r c h
   exact⟨by simp[h1],h2⟩
theorem CV8 {A:Operand→EV}{o:Oper}{k:Call}{f:Operand}{fid:Nat}{fst caps:List EV}(ho:o.op = .call k)(hk:k.callee = .value f)(he:A f = .clo fid fst caps){ow:Nat→A1}{bx:Bx}{w:World}{a:Act}(hA:F5 ow bx w A a.eval o.op):
  ∃fs cs,a.eval f = .func (.func fid) fs cs∧S2 ow bx w (fst++k.args.toList.map A++caps) (fs++k.args.map a.eval++cs):=by
 have hall:=AK5 ho hA;have hfv:=hall f (by simp[Call.operands,hk])
 rw[he] at hfv;generalize hpe:a.eval f=u at hfv;cases hfv with
 |clo h1 h2 h3 h4=>
  rename_i fs cs;refine⟨fs,cs,rfl,by simp[h1,h2],fun i e v hi hv=> ?_⟩
  rw[Eu8] at hi;rw[Ex3] at hv;simp only[Es1,List.length_map,Array.length_toList,h1] at hi;simp only[Ev1,Array.size_map] at hv;split at hi
  ·rename_i hlt
   rw[if_pos hlt] at hv;rw[Eu8] at hi;rw[Ex3] at hv;rw[h1] at hi;split at hi
   ·rename_i hlt2
    rw[if_pos hlt2] at hv;exact h3 i e v hi hv
   ·rename_i hlt2
    rw[if_neg hlt2] at hv;simp only[Ew3,Array.getElem?_map,Option.map_eq_some_iff] at hi hv;obtain⟨x,hx,rfl⟩:=hi;obtain⟨y,hy,rfl⟩:=hv;have:x=y:=by
              have:k.args.toList[i-fs.size]? = some y:=by simpa using hy
              rw[hx] at this;cases this;rfl
    subst this;exact hall x (by simp only[Call.operands];exact Array.mem_append.2 (.inr (Array.mem_of_getElem? hy)))
  ·rename_i hlt
   rw[if_neg hlt] at hv;exact h4 _ e v hi hv
theorem CV9 {ρ:Type}{P:Program}{Γ:Cx}(hΓ:E3 P Γ){dead:List Nat}{rd:Nat→Option (List EV)}{o:Oper}{A:Operand→EV}{c:F9}{args:List EV}{q:EV→List Wr→List Nat→List Nat→Option ρ}{r:ρ}(hoc:BF6 Γ A o.op=some (c,args))
  (h:BE5 dead o.dst rd c args q=some r):∃v ws tr ks,q v ws tr ks=some r∧(∀k∈ks,k∉dead)∧(∀x∈ws,x.b∈tr∧∃cs,rd x.b=some cs∧x.off+x.new.length≤cs.length)∧
   ∀id B ow bx nb bg w (a:Act),Inv B ow bx nb bg w→F5 ow bx w A a.eval o.op→(∀b∈tr,bg b=rd b)→(∀k∈ks,bx.dead k=false)→AC4 P B ow bx nb bg w a o id v none ws ks []:=by
 unfold BF6 at hoc;split at hoc
 ·rename_i k ho
  split at hoc
  ·rename_i f hk
   split at hoc
   ·cases hoc
   ·split at hoc
    ·rename_i fid fst caps he
     split at hoc
     ·rename_i oc hf
      cases hoc;obtain⟨hmem,hfid⟩:=Ba7 _ _ hf;subst hfid;have hc:=hΓ.owns c hmem;unfold BE5 at h;split at h
      ·cases h
      ·rename_i l a tk h1
       split at h
       ·cases h
       ·rename_i l' a' tk' h2
        split at h
        ·rename_i x hp h3
         cases hF:c.F x with
         |none=>rw [hF] at h;cases h
         |some y=>
          rw[hF] at h;simp only[Option.bind_some] at h;split at h
          ·rename_i ws h6
           split at h
           rotate_left
           ·cases h
           rename_i h7;simp only[Er7] at h7;refine⟨_,_,_,_,h,fun k hk=> ?_,fun z hz=> ?_,fun id B ow bx nb bg w act hi hA hb hd=> ?_⟩
           ·rcases Ev9.1 hk with hk | hk
            rotate_left
            ·obtain⟨κ,hκ,rfl⟩:=Es9.1 hk
             have:=List.all_eq_true.1 h7.2 κ hκ;simp only[Er7,Es5] at this;exact P9 this.1
            obtain⟨p,hp,rfl⟩:=Es9.1 hk;have m5:=(Ah9 (ow:=fun _=>.B8) (ow':=fun _=>.B8) (bx:=⟨fun b=>b,fun _=>false,fun _=>none⟩) (bx':=⟨fun b=>b,fun _=>false,fun _=>none⟩) (w:=default) c.ps _ [] [] l a tk h1).2.2.2.2.1
            exact ((Au0 c.boxes 0 a tk l' a' tk' h2).2.2.2.2.1 (m5 fun p hp=>by simp at hp) p hp).1
           ·exact CV3 _ _ _ h6 z hz
           ·obtain⟨fs,cs,hf,hrl⟩:=CV8 ho hk he hA
            intro K Q hK;unfold Oper.wp;rw[At6 hc.fn ho hk hf];exact (CV7 (dst:=o.dst) hc h1 h2 hp h3 hF rfl h6 h7.1 (fun κ hκ hs=>(by have:=List.all_eq_true.1 h7.2 κ hκ;simp only[Er7,Eu9,hs,Bool.not_true] at this;exact Er8 (this.2.resolve_right (by simp)))) id hi hrl hb hd).mono fun e w' ⟨u,ow',bx',he,g1,g2,g3,g4⟩=>by subst he;exact hK u ow' bx' w' g1 g2 g3 g4 (fun p hp=>by simp at hp)
          ·cases h
        ·cases h
     ·cases hoc
    ·cases hoc
  ·cases hoc
 ·cases hoc

def Au4 (ow:Nat→A1)(w:World)(ty:Ty)(l':List ty.den)(vy:Value):Prop:=
 ∃adY capY,vy = .slice adY l'.length capY∧l'.length≤9223372036854775807∧l'.length≤capY∧
  (l'≠[]→∃blk off cY TY fzY,adY=some ⟨blk,off,none⟩∧w.heap[blk]? = some (.cells cY TY fzY)∧off+l'.length*ty.size≤cY.size∧(∀u∈(cY.toList.drop off).take (l'.length*ty.size),u.oneCell'=true)∧
   ∀(i:Nat) x,l'[i]? = some x→Rep ow w ty x ((((cY.toList.drop off).take (l'.length*ty.size)).drop (i*ty.size)).take ty.size))
theorem CW0 {ow:Nat→A1}{w:World}{ty:Ty}{l':List ty.den}{vy:Value}(hpos:0<ty.size)(hY:C7 ow w (.slice ty) l' vy):Au4 ow w ty l' vy:=by
 obtain⟨adY,capY,hvY,hY1,hY2,hY3⟩:=Ah7 hY hpos;refine⟨adY,capY,hvY,hY1,hY2,fun h=> ?_⟩
 obtain⟨blk,off,cY,TY,fzY,y1,y2,y3,y4,y5,y6⟩:=hY3 h;exact⟨blk,off,cY,TY,fzY,y1,y3,y4,y5,y6⟩
theorem CW1 {P:Program}{ow:Nat→A1}{w:World}{k e t tt:Nat}{ty:Ty}{i:TypeInfo}{z:Value}(hu:P.underlying t=some (.slice e))(hinf:P.info? e=some i)(hsz:i.size=ty.size)(hz:i.zero=some z)(hzs:z.cells.size=ty.size)
  (hpos:0<ty.size) (hbpos:0<i.bytes) {l l':List ty.den} {vx vy:Value} (hk5:k % 25000=e) (hXo:Own ow w k ty l vx) (hXn:∃adX capX,vx = .slice adX l.length capX∧l.length≤9223372036854775807∧l.length≤capX)
  (hXc:∀g cap c fz,vx = .slice (some ⟨g,0,none⟩) l.length cap→w.heap[g]? = some (.cells c (k % 25000) fz)→∀(i:Nat) x,l[i]? = some x→Rep ow w ty x (((c.toList.take (l.length*ty.size)).drop (i*ty.size)).take ty.size))
  (hYs:Au4 ow w ty l' vy) (hroom:(l.length+l'.length)*i.bytes≤140737488355328) (R:Prop)
  (hN:vx = .slice none 0 0→l=[]→l'=[]→(Builtin.append_ #[t,t] tt #[vx,vy]).run P w = .ok (.slice none 0 0) w→R)
  (fin:∀(w':World) (g cap':Nat) (cc:Array Value) (fz:Nat×Nat) (olds news:List Value),X1 fz cc.size→
      (Builtin.append_ #[t,t] tt #[vx,vy]).run P w = .ok (.slice (some ⟨g,0,none⟩) (l++l').length cap') w'→
      ((g=w.heap.size∧w'.heap.size=w.heap.size+1)∨(w'.heap.size=w.heap.size∧∃c₀,ow g = .tok k (H6 k (l.length*ty.size))∧w.heap[g]? = some (.cells c₀ e fz)∧cc.toList.take (H6 k (l.length*ty.size))=c₀.toList.take (H6 k (l.length*ty.size))))→
      w'.heap[g]? = some (.cells cc e fz)→(∀blk,blk<w.heap.size→blk≠g→w'.heap[blk]? = w.heap[blk]?)→(w'.tape=w.tape∧w'.os=w.os∧w'.output=w.output)→
      cc.toList.take ((l++l').length*ty.size)=olds++news→olds.length=l.length*ty.size→cc.size=cap'*ty.size→(l++l').length≤cap'→(l++l').length≤9223372036854775807→
      (∀(i:Nat) x,l[i]? = some x→Rep ow w ty x ((olds.drop (i*ty.size)).take ty.size))→(∀(i:Nat) x,l'[i]? = some x→Rep ow w ty x ((news.drop (i*ty.size)).take ty.size))→R):R:=by
 have hfr:∀n,H6 k n≤n:=fun n=>by unfold H6;cases soft k <;> simp
 have hlen:(l++l').length=l.length+l'.length:=Es1;have hmaxn:l.length+l'.length≤140737488355328:=by have:=Nat.le_mul_of_pos_right (l.length+l'.length) hbpos;omega
 have hby:i.bytes=i.bytes:=rfl;obtain⟨adY,capY,hvY,hY1,hY2,hY3⟩:=hYs;obtain⟨adX,capX,hvX,hX1,hX2⟩:=hXn;have hO:∀g cap c fz,vx = .slice (some ⟨g,0,none⟩) l.length cap→w.heap[g]? = some (.cells c (k % 25000) fz)→c.size=cap*ty.size→l.length≤cap→
   (c.toList.take (l.length*ty.size)).length=l.length*ty.size∧(∀j u,(c.toList.take (l.length*ty.size))[j]? = some u→w.cell? ((⟨g,0,none⟩:Addr).add j)=some u)∧
   ∀(i:Nat) x,l[i]? = some x→Rep ow w ty x (((c.toList.take (l.length*ty.size)).drop (i*ty.size)).take ty.size):=by
  intro g cap c fz hv hb hc hn;have hle:l.length*ty.size≤c.size:=by rw[hc];exact Et9 _ hn
  refine⟨by rw[Es8,V4 c,Eu4 hle],fun j u hj=> ?_,fun i x hx=> ?_⟩
  ·rw[Z3,AE8 hb,Et4]
   rw[Es2] at hj;split at hj
   ·simpa using hj
   ·cases hj
  ·exact hXc g cap c fz hv hb i x hx
 by_cases hl0:l'=[]
 ·subst hl0
  have hf:(Builtin.firstCells i.size 0 (.slice adY 0 capY)).run P w = .ok #[] w:=by
   cases adY with
   |none=>exact run_firstCells_none w i.size 0 0 capY
   |some a'=>exact run_firstCells_some w i.size 0 a' 0 capY [] (by simp) (by intro j v h';simp at h')
  have r0:(Builtin.append_ #[t,t] tt #[vx,vy]).run P w = .ok (.slice adX l.length capX) w:=by rw[hvX,hvY];cases adX <;> simp[Builtin.append_,run_underlying hu,sizeOf,typeInfo,hinf,Builtin.lenOf,hX2,hf,storeCells]
  rcases hXo with⟨hnil,hln⟩|⟨g,cap,cc,fz,hv,hown,hb,hlz,hc,hn,_⟩
  ·refine hN hnil hln rfl ?_
   rw[r0,← hvX,hnil]
  ·obtain⟨o1,o2,o3⟩:=hO g cap cc fz hv hb hc hn
   have hr:(.slice adX l.length capX:Value) = .slice (some ⟨g,0,none⟩) (l++[]).length cap:=by rw[← hvX,hv,List.append_nil]
   rw[hr] at r0;rw[hk5] at hb;refine fin w g cap cc fz _ [] hlz r0 (.inr ⟨rfl,cc,hown,hb,rfl⟩) hb (fun _ _ _=>rfl) ⟨rfl,rfl,rfl⟩ (by simp) o1 hc (by simpa using hn) (by simp;omega) o3 (fun i x hx=>by simp at hx)
 ·obtain⟨blk,off,cY,TY,fzY,y1,y3,y4,y5,y6⟩:=hY3 hl0
  have hposY:0<l'.length:=List.length_pos_iff.2 hl0;obtain⟨news,hnewsdef⟩:∃news,news=(cY.toList.drop off).take (l'.length*ty.size):=⟨_,rfl⟩;rw[← hnewsdef] at y5;have hnl:news.length=l'.length*ty.size:=by rw[hnewsdef,Es8,Et0,V4 cY,Eu4 (by omega)]
  have hnews:∀j u,news[j]? = some u→w.cell? ((⟨blk,off,none⟩:Addr).add j)=some u:=by
   intro j u hj;rw[Z3,AE8 y3];rw[hnewsdef,Es2] at hj;split at hj
   ·rw[Es3] at hj
    simpa using hj
   ·cases hj
  have y6':∀(i:Nat) x,l'[i]? = some x→Rep ow w ty x ((news.drop (i*ty.size)).take ty.size):=by rw[hnewsdef];exact y6
  have hnl':news.length=l'.length*i.size:=by rw[hnl,hsz]
  have hbytes:(l.length+l'.length)*i.bytes≤140737488355328:=by rw[hby];exact hroom
  rw[y1] at hvY;rcases hXo with⟨hnil,hln⟩|⟨g,cap,cc,fz,hv,hown,hb,hlz,hc,hn,_⟩
  ·have hl:l=[]:=hln
   subst hl;have hr:=run_append_nil (P:=P) w t tt e i z hu hinf hz ⟨blk,off,none⟩ l'.length capY news hnl' hnews hposY (by omega) (by simp at hbytes;omega)
   rw[← hvY,← hnil] at hr;have hge:=grownCap_ge w l'.length 0 e;refine fin _ w.heap.size (grownCap w l'.length 0 e) (news.toArray++Builtin.zeroCells z.cells (grownCap w l'.length 0 e-l'.length)) (0,0) [] news (AY4 _) hr (.inl ⟨rfl,At9 w _⟩) (heap_alloc_new w.drew _) (fun b hb _=>heap_alloc_old w.drew _ hb) ⟨rfl,rfl,rfl⟩ ?_ (by simp) ?_ (by simpa using hge) (by simp;omega) (fun i x hx=>by simp at hx) y6'
   ·simp only[Ey1,Ex0,Ex1]
    rw[← hnl];exact Ex4
   ·rw[Ev1,Eu1,size_zeroCells,hzs,hnl,← Ev3,Ey2 hge]
  ·obtain⟨o1,o2,o3⟩:=hO g cap cc fz hv hb hc hn
   rw[hk5] at hb;have hle:l.length*ty.size≤cc.size:=by rw[hc];exact Et9 _ hn
   by_cases hroom2:l.length+l'.length≤cap
   ·have hfit:l.length*ty.size+news.length≤cc.size:=by rw[hnl,hc,← Ev3];exact Et9 _ hroom2
    have hr:=Ba4 (P:=P) w t tt e i hu hinf g l.length cap cc fz hb hlz ⟨blk,off,none⟩ l'.length capY news hnl' hnews (fun u hu=>y5 u hu) hroom2 (by rw[hsz];exact hfit)
    rw[← hvY,← hv,hsz,← hlen] at hr;have hsame:(cc.toList.take (l.length*ty.size)++news++cc.toList.drop (l.length*ty.size+news.length)).toArray.size=cc.size:=by rw[Eu1,Es1,Es1,o1,Et0,V4 cc];omega
    refine fin _ g cap _ fz (cc.toList.take (l.length*ty.size)) news (by rw[hsame];exact hlz) hr (.inr ⟨setRow_size _ _ _,cc,hown,hb,?_⟩) (setRow_heap w g cc _ e fz hb) (fun b _ hne=>setRow_other w g b _ hne) ⟨rfl,rfl,rfl⟩ ?_ o1 ?_ (by omega) (by omega) o3 y6'
    ·rw[Ew4,Ew0 (by rw[o1];exact hfr _),Ew1,Eu4 (hfr _)]
    ·have:(l++l').length*ty.size=(cc.toList.take (l.length*ty.size)++news).length:=by rw[hlen,Ev3,Es1 (as:=cc.toList.take (l.length*ty.size)),o1,hnl]
     rw[this];exact Ex4
    ·rw[Eu1,Es1,Es1,o1,Et0,V4 cc,← hc]
     omega
   ·have hfitb:Builtin.nextslicecap (l.length+l'.length) cap*i.bytes≤281474976710656:=growslice_fits (by omega) hbytes
    have hr:=run_append_grow (P:=P) w t tt e i z hu hinf hz ⟨g,0,none⟩ l.length cap (cc.toList.take (l.length*ty.size)) (by rw[o1,hsz]) o2 ⟨blk,off,none⟩ l'.length capY news hnl' hnews (by omega) (by omega) hfitb
    rw[← hvY,← hv,← hlen] at hr;have hge:=grownCap_ge w (l++l').length cap e;refine fin _ w.heap.size (grownCap w (l++l').length cap e) _ (0,0) (cc.toList.take (l.length*ty.size)) news (AY4 _) hr (.inl ⟨rfl,At9 w _⟩) (heap_alloc_new w.drew _) (fun b hb _=>heap_alloc_old w.drew _ hb) ⟨rfl,rfl,rfl⟩ ?_ o1 ?_ hge (by omega) o3 y6'
    ·have:(l++l').length*ty.size=(cc.toList.take (l.length*ty.size)++news).length:=by rw[hlen,Ev3,Es1 (as:=cc.toList.take (l.length*ty.size)),o1,hnl]
     rw[this];simp only[Ey1];exact Ex4
    ·rw[Ev1,Ev1,Eu1,Eu1,size_zeroCells,hzs,hnl,o1,← Ev3,← Ev3,← hlen,Ey2 hge]

theorem CW2 {P:Program}{T:TypeId}{w:World}{b off n:Nat}{c:Array Value}{U:TypeId}{fz:Nat×Nat}{u:Value}(hs:(sizeOf T).run P w = .ok n w)(hn:u.cells.size=n)(hb:w.heap[b]? = some (.cells c U fz))(hz:X1 fz c.size)
  (hle:off+u.cells.size≤c.size) (h1:∀v∈u.cells.toList,v.oneCell'=true):
  (storeVar T ⟨b,off,none⟩ u).run P w = .ok () (w.setRow b (c.toList.take off++u.cells.toList++c.toList.drop (off+u.cells.toList.length)).toArray):=by
 have:=At8 P b off U fz u.cells.toList 0 c w hb hz (by simpa using hle) h1
 unfold storeVar;simp only[Ey3,hs,Ey7,hn,ne_eq,not_true_eq_false,if_false];simpa using this
theorem CW3 {α:Type}{C nvs:List α}{i o s:Nat}(ho:o+nvs.length≤s)(hC:i*s+s≤C.length)(j:Nat):
  ((C.take (i*s+o)++nvs++C.drop (i*s+o+nvs.length)).drop (j*s)).take s=
   if j=i then ((C.drop (i*s)).take s).take o++nvs++((C.drop (i*s)).take s).drop (o+nvs.length) else (C.drop (j*s)).take s:=by
 have hlt:j<i→j*s+s≤i*s:=fun h=>by have:=T4 (off:=0) (s:=s) h;omega
 have hgt:i<j→i*s+s≤j*s:=fun h=>by have:=T4 (off:=0) (s:=s) h;omega
 apply Ew5;intro m;split
 ·rename_i e
  subst e;simp only[Es2,Es3,Eu8,Es1,Es8,Et0];by_cases hm:m<s
  ·simp only[hm,if_true]
   by_cases h1:m<o
   ·have e1:j*s+m<min (j*s+o) C.length:=by omega
    have e2:m<min o (min s (C.length-j*s)):=by omega
    have e3:j*s+m<min (j*s+o) C.length+nvs.length:=by omega
    have e4:m<min o (min s (C.length-j*s))+nvs.length:=by omega
    have e5:j*s+m<j*s+o:=by omega
    simp only[e1,e2,e3,e4,e5,h1,if_true]
   ·have e1:¬j*s+m<min (j*s+o) C.length:=by omega
    have e2:¬m<min o (min s (C.length-j*s)):=by omega
    by_cases h2:m<o+nvs.length
    ·have e3:j*s+m<min (j*s+o) C.length+nvs.length:=by omega
     have e4:m<min o (min s (C.length-j*s))+nvs.length:=by omega
     simp only[e1,e2,e3,e4,if_true,if_false];congr 1;omega
    ·have e3:¬j*s+m<min (j*s+o) C.length+nvs.length:=by omega
     have e4:¬m<min o (min s (C.length-j*s))+nvs.length:=by omega
     have e5:o+nvs.length+(m-(min o (min s (C.length-j*s))+nvs.length))<s:=by omega
     simp only[e1,e2,e3,e4,e5,if_true,if_false];congr 1;omega
  ·have e4:¬m<min o (min s (C.length-j*s))+nvs.length:=by omega
   have e5:¬o+nvs.length+(m-(min o (min s (C.length-j*s))+nvs.length))<s:=by omega
   simp only[hm,e4,e5,if_false]
 ·rename_i hne
  simp only[Es2,Es3,Eu8,Es1,Es8];by_cases hm:m<s
  ·simp only[hm,if_true]
   by_cases hji:j<i
   ·have:=hlt hji
    have e1:j*s+m<min (i*s+o) C.length:=by omega
    have e3:j*s+m<min (i*s+o) C.length+nvs.length:=by omega
    have e5:j*s+m<i*s+o:=by omega
    simp only[e1,e3,e5,if_true]
   ·have:=hgt (by omega)
    have e3:¬j*s+m<min (i*s+o) C.length+nvs.length:=by omega
    simp only[e3,if_false];congr 1;omega
  ·simp only[hm,if_false]
section
variable {P:Program}{Γ:Cx}{dead:List Nat}{o:Oper}{A:Operand→EV}{r:AJ5}
def AZ9 (P:Program)(dead:List Nat)(A:Operand→EV)(o:Oper)(r:AJ5):Prop:=
 (∀k∈r.ks,k∉dead)∧(∀k∈r.us,k∉dead)∧(∀p∈r.up,p.1∈r.ks∧p.1<BIG)∧
 ∀id B ow bx nb bg w (a:Act),Inv B ow bx nb bg w→F5 ow bx w A a.eval o.op→(∀k∈r.ks,bx.dead k=false)→(∀k∈r.us,bx.dead k=false)→AC4 P B ow bx nb bg w a o id r.v none [] r.ks r.up
theorem CW4 {d e:Nat}(he:e<25000):soft (d*100000+75000+e+BIG)=true∧(d*100000+75000+e+BIG) % 25000=e:=by
 constructor
 ·unfold soft
  apply Ev6;unfold BIG;omega
 ·unfold BIG
  omega
theorem CW5 (hΓ:E3 P Γ){t:Nat}{n c:Operand}(ho:o.op = .makeSlice t n c)(h:BE8 Γ dead o.dst t (A n) (A c)=some r)(hc:r.c=true):AZ9 P dead A o r:=by
 unfold BE8 at h;split at h
 ·cases h
 ·rename_i d hdst
  split at h
  ·rename_i kn a ha
   split at h
   ·rename_i kc b hb
    split at h
    ·rename_i dt hdt
     split at h
     ·rename_i e es bytes hw
      split at h
      ·rename_i de hde
       split at h
       ·rename_i k0 z hty hz
        split at h
        ·rename_i z0 hz0
         split at h
         ·rename_i hck
          cases h;simp only[Er7,Es5,decide_eq_true_eq] at hck hc;obtain⟨⟨he,hnd⟩,hdB⟩:=hck;have hdB:d<9000000:=Er8 hdB;have he:e<25000:=Er8 he;obtain⟨⟨⟨ha0,hab⟩,hbb⟩,hb1⟩:=hc;have ha0:@LE.le Int _ 0 a:=ha0;have hab:@LE.le Int _ a b:=hab;have hb1:@LE.le Int _ b 140737488355328:=hb1;have hbb:@LE.le Int _ (@HMul.hMul Int Int Int _ b (bytes:Int)) 140737488355328:=hbb
          have hn1:Ey4 a≤Ey4 b:=by omega
          have hn2:Ey4 a≤9223372036854775807:=by omega
          refine⟨fun k hk=> ?_,fun k hk=>by simp at hk,fun p hp=>by simp at hp,fun id B ow bx nb bg w act hi hA hd _=> ?_⟩
          ·rw[Es4] at hk
           rw[hk];exact P9 hnd
          rw[ho] at hA;have hall:=I1 hA (by intros;simp)
          have hn:=hall n (by simp[Op.operands])
          have hcv:=hall c (by simp[Op.operands])
          rw[ha] at hn;rw[hb] at hcv;have hh:=(hΓ.td t dt hdt).how;simp only[hw] at hh;obtain⟨_,hu,⟨gi,zz,g1,g2,g3,g4⟩,_⟩:=hh;obtain⟨i',z',z1,z2,z3,z4,z5⟩:=(hΓ.td e de hde).zero;rw[g1] at z1;cases z1;rw[g4] at z2;cases z2;rw[hz] at z3 z4 z5;simp only[List.length_singleton] at z3 z4;have hrun:(execOp act.eval o).run P w = .ok (.value (.slice (some ⟨w.heap.size,0,none⟩) a.toNat b.toNat)) (w.alloc (.cells (madeCells zz.cells (b.toNat*gi.size)) e)):=by
           unfold execOp;rw[ho];simp only[(P7 hn).1,(P7 hcv).1,Ey3];rw[run_make w t e gi zz hu g1 g4 kn kc a b ha0 hab (by rw[g3,Int.mul_comm];exact Int.le_trans hbb (show (140737488355328:Int)≤281474976710656 by decide)) (Int.le_trans hb1 (show (140737488355328:Int)≤9223372036854775807 by decide))]
           simp
          have hsf:=CW4 (d:=d) he;obtain⟨K,hK⟩:∃K,K=d*100000+75000+e:=⟨_,rfl⟩;rw[← hK] at hsf hd;show AC4 P B ow bx nb bg w act o id (.own (d*100000+75000+e+BIG) (.int k0) (List.replicate a.toNat z0)) none [] [d*100000+75000+e] [];rw[← hK];obtain⟨j1,j2⟩:=hi.At0 (.tok (K+BIG) 0) (.cells (madeCells zz.cells (b.toNat*gi.size)) e) (.inr (.inr ⟨_,_,rfl⟩));have hdK:bx.dead K=false:=hd K (by simp)
          have htbn:=BI3 hi hdK
          let bx':Bx:=⟨bx.f,fun j=>bx.dead j||Eu6 K j,fun j=>if j=K+BIG then some (w.heap.size,a.toNat,b.toNat) else bx.tb j⟩
          have hk:E0 (fun blk=>if blk=w.heap.size then .tok (K+BIG) 0 else ow blk) bx {w with heap:=w.heap.push (.cells (madeCells zz.cells (b.toNat*gi.size)) e)} (fun blk=>if blk=w.heap.size then .tok (K+BIG) 0 else ow blk) bx' (w.alloc (.cells (madeCells zz.cells (b.toNat*gi.size)) e)):=by
           refine⟨.of fun _ _ h=>⟨h,rfl⟩,fun _ _ _ h _=>⟨h,rfl⟩,fun j h=> ?_,fun _ h=>⟨rfl,h⟩,fun j x hx=> ?_⟩
           ·simp only[bx',Eu5] at h
            exact h.1
           ·simp only[bx']
            rw[if_neg (fun e=>by rw[e,htbn] at hx;cases hx)]
            exact hx
          have hcell:∀j,j<b.toNat*gi.size→(madeCells zz.cells (b.toNat*gi.size))[j]? = some (.int k0 z0):=by
           intro j hj;have hone:zz.cells=#[.int k0 z0]∧fits k0 z0=true:=by
            obtain⟨q1,q2⟩:=z5 (fun _=>.B8) ⟨fun b=>b,fun _=>false,fun _=>none⟩ default
            have hv0:zz.cells.toList[0]? = some (zz.cells[0]'(by omega)):=by simp
            have q3:=w9 hz0 (q2 0 z _ rfl hv0).1;simp only[C7,Rep,List.cons.injEq,and_true] at q3;refine⟨?_,q3.2⟩;apply Array.ext
            ·simp[z4]
            ·intro m h1 h2
             have:m=0:=by omega
             subst this;simpa using q3.1
           simp[madeCells,hj,hone.1,Nat.mod_one]
          have hfit:fits k0 z0=true:=by
           obtain⟨q1,q2⟩:=z5 (fun _=>.B8) ⟨fun b=>b,fun _=>false,fun _=>none⟩ default
           have hv0:zz.cells.toList[0]? = some (zz.cells[0]'(by omega)):=by simp
           have q3:=w9 hz0 (q2 0 z _ rfl hv0).1;simp only[C7,Rep] at q3;exact q3.2
          intro Kk Q hKk;unfold Oper.wp;rw[hrun];refine hKk _ _ bx' _ (j1.trans hk) (.own (fun h=>(by rw[hsf.1] at h;cases h)) (fun _=>.inr ⟨w.heap.size,b.toNat,_,(0,0),by rw[Et6],by simp[H6,hsf.1],by rw[hsf.2];exact heap_alloc_new w _,AY4 _,by rw[size_madeCells,z3];rfl,by rw[Et6];exact hn1,fun _=>⟨by rw[Et6];exact hn2,fun i x hx=> ?_⟩⟩) fun _=>.inr ⟨w.heap.size,b.toNat,by simp[bx'],by rw[Et6],by rw[Et6];exact hn1,by rw[Et6];exact hn2⟩) ?_ (fun j=>by simp[bx',F4]) (fun p hp=>by simp at hp)
          ·have hil:i<Ey4 a:=by have:=(Er5.1 hx).1;simpa using this
           have hxz:x=z0:=by rw[List.getElem?_replicate] at hx;simp[hil] at hx;exact hx.symm
           subst hxz;refine⟨?_,hfit⟩;have hc:=hcell i (by rw[z3,Ew2];exact Nat.lt_of_lt_of_le hil hn1)
           simp only[Ty.size,Ew2];apply Ew5;intro m;rw[Es2,Es3];cases m with
           |zero=>simpa using hc
           |succ m=>simp
          ·constructor
           ·intro b' cs hb'
            obtain⟨q1,c1,T,q2,q3⟩:=j2.box b' cs hb';exact⟨q1,c1,T,q2,q3.keep hk⟩
           ·exact j2.back
           ·exact j2.here
           ·exact j2.old
           ·exact j2.size
           ·exact j2.env
           ·exact j2.kept
           ·exact j2.st.trans hk.st
           ·intro j hj
            simp only[bx'] at hj ⊢;split at hj
            ·rename_i e
             right
             rw[e,Ev0,Et3,Ew8];exact⟨rfl,by rw[hK];unfold BIG;omega⟩
            ·exact (hi.born j hj).imp (fun h=>h) fun h=>⟨by rw[h.1];rfl,h.2⟩
         ·cases h
        ·cases h
       ·cases h
      ·cases h
     ·cases h
    ·cases h
   ·cases h
  ·cases h
theorem CW6 (hΓ:E3 P Γ){t:Nat}{x:Operand}(ho:o.op = .load t x)(h:BE9 Γ dead t (A x)=some r):AZ9 P dead A o r:=by
 unfold BE9 at h;split at h
 ·rename_i k ty l i off he
  split at h
  ·cases h
  ·rename_i hnd
   split at h
   ·rename_i d hd
    have hOK:=hΓ.td t d hd;split at h
    ·rename_i v hv
     cases h;refine⟨fun k hk=>by simp at hk,fun k' hk=> ?_,fun p hp=>by simp at hp,fun id B ow bx nb bg w act hi hA _ hu=> ?_⟩
     ·rw[Es4] at hk
      rw[hk];exact P9 hnd
     rw[ho] at hA;have hp:=I1 hA (by intros;simp) x (by simp[Op.operands])
     rw[he] at hp;have hdk:=hu k (by simp)
     generalize hpe:act.eval x=u at hp;cases hp with
     |elo hb h0 h1 h'=>
      rename_i blk;obtain⟨_,c,fz,hc,_,⟨hle,hle2⟩,hcont⟩:=h' hdk;have hlt:i.toNat<l.length:=by omega
      have hgx:l.getD i.toNat ty.J7=l[i.toNat]'hlt:=by simp[List.getD,hlt]
      have hrep:=hcont i.toNat _ (Er4 hlt);rw[← hgx] at hrep;obtain⟨u,g1,g2,_⟩:=AK3 (P:=P) hOK (base:=i.toNat*ty.size) hv hc (vs:=(c.toList.drop (i.toNat*ty.size)).take ty.size) (fun j v hj=>by
       rw[Es2] at hj;split at hj
       ·rw[Es3] at hj;exact z6 hj
       ·cases hj) (AE7 _ _ _ hrep)
      exact (BX9 hi (AF0 ho hpe g1) g2).BH1
    ·cases h
   ·cases h
 ·cases h
theorem CW7 (hΓ:E3 P Γ){t:Nat}{x y:Operand}(ho:o.op = .store t x y)(h:BF0 Γ dead t (A x) (A y)=some r):AZ9 P dead A o r:=by
 unfold BF0 at h;split at h
 ·rename_i k ty l i off he
  split at h
  ·cases h
  ·rename_i hnd
   split at h
   ·rename_i d hd
    have hOK:=hΓ.td t d hd;split at h
    ·rename_i new hnew
     split at h
     ·rename_i hck
      simp only[Er7] at hck;obtain⟨⟨hl1,hl2⟩,hkB⟩:=hck;have hl1:=Er6 hl1;have hl2:=Er8 hl2;have hkB:k<BIG:=Er8 hkB;split at h
      ·rename_i v hasm
       cases h;refine⟨fun k' hk=> ?_,fun k hk=>by simp at hk,fun p hp=> ?_,fun id B ow bx nb bg w act hi hA hdd _=> ?_⟩
       ·rw[Es4] at hk
        rw[hk];exact P9 hnd
       ·rw[Es4] at hp
        rw[hp];exact⟨by simp,hkB⟩
       rw[ho] at hA;have hall:=I1 hA (by intros;simp)
       have hp:=hall x (by simp[Op.operands])
       have hy:=hall y (by simp[Op.operands])
       rw[he] at hp;have hdk:=hdd k (by simp)
       have hnv:=Ah2 hnew hy;generalize hpe:act.eval x=u at hp;cases hp with
       |elo hb h0 h1 h'=>
        rename_i blk cap;obtain⟨how,c,fz,hc,hz,⟨hle,hle2⟩,hcont⟩:=h' hdk;have hle3:l.length*ty.size≤c.size:=by rw[hle];exact Et9 _ hle2
        have hlt:i.toNat<l.length:=by omega
        have hgx:l.getD i.toNat ty.J7=l[i.toNat]'hlt:=by simp[List.getD,hlt]
        have hrep:=hcont i.toNat _ (Er4 hlt);rw[← hgx] at hrep;have hpart:=T4 (off:=0) (s:=ty.size) hlt;have hsz:(act.eval y).cells.size=d.zero.length:=by have:=hnv.1;simp at this;omega
        have hnl:(act.eval y).cells.toList.length=d.zero.length:=by simpa using hsz
        have hst:=CW2 (P:=P) (T:=t) (hOK.sizeOf (w:=w)) hsz hc hz (off:=i.toNat*ty.size+off) (by omega) hnv.AZ0
        have hrun:(execOp act.eval o).run P w = .ok .skip (w.setRow blk (c.toList.take (i.toNat*ty.size+off)++(act.eval y).cells.toList++c.toList.drop (i.toNat*ty.size+off+(act.eval y).cells.toList.length)).toArray):=by unfold execOp;rw[ho];simp only[hpe,Instr.storeAt,Instr.sureAddr,Ey3,Sem.run_pure,Ey7,hst]
        generalize hnc:(c.toList.take (i.toNat*ty.size+off)++(act.eval y).cells.toList++c.toList.drop (i.toNat*ty.size+off+(act.eval y).cells.toList.length)).toArray=nc at hrun;have hncs:nc.size=c.size:=by rw[← hnc,Eu1,Es1,Es1,Es8,Et0,V4 c];omega
        have hb':=setRow_heap w blk c nc (k % 25000) fz hc;obtain⟨hkeep,hinv⟩:=Ah8 hi (w':=w.setRow blk nc) (k:=k) (k':=k) (g:=blk) (fr:=0) (fz₀:=fz) (.inr ⟨setRow_size _ _ _,0,c,how,hc,Ev2 _,by simp⟩) hb' (fun b _ hne=>setRow_other w blk b _ hne) ⟨rfl,rfl,rfl⟩ hdk
        intro K Q hK;unfold Oper.wp;rw[hrun];refine hK _ _ _ _ hkeep (.undef _) hinv (fun j=>by simp[F4]) fun p hp=> ?_
        rw[Es4] at hp;subst hp;refine⟨undef,.fre undef (by rw[Ex2];exact hb) (by simp) ⟨by simp,nc,fz,hb',by rw[hncs];exact hz,⟨by rw[hncs];exact hle,by rw[Ex2];exact hle2⟩,fun j z hj=> ?_⟩ (.inr fun e=>by have:=congrArg List.length e;simp only[Ex2,Ex1] at this;omega)⟩
        have hjl:j<l.length:=by have:=(Er5.1 hj).1;simpa using this
        have hlaid:=CW3 (C:=c.toList) (nvs:=(act.eval y).cells.toList) (i:=i.toNat) (o:=off) (s:=ty.size) (by omega) (by rw[V4 c];omega) j
        have hncl:nc.toList=c.toList.take (i.toNat*ty.size+off)++(act.eval y).cells.toList++c.toList.drop (i.toNat*ty.size+off+(act.eval y).cells.toList.length):=by rw[← hnc]
        simp only;rw[hncl,hlaid];by_cases hij:i.toNat=j
        ·subst hij
         have hz:z=v:=by rw[List.getElem?_set_self hlt] at hj;cases hj;rfl
         rw[hz,if_pos rfl];have hcs:=(AE7 (bx:=bx) _ _ _ hrep).M1 hnv off;obtain⟨q1,q2,q3⟩:=AQ7 ty _ _ _ _ hasm hcs;have hlen:=hcs.1;have h2:=congrArg List.length q2;simp only[Ex1,Et0] at h2;rw[List.take_of_length_le (by omega)] at q1
         exact Rep.keep hkeep.st _ _ _ q1
        ·rw[if_neg (fun e=>hij e.symm)]
         rw[Ex7 hij] at hj;exact Rep.keep hkeep.st _ _ _ (hcont j z hj)
      ·cases h
     ·cases h
    ·cases h
   ·cases h
 ·cases h
theorem CW8 (hΓ:E3 P Γ){c:Call}{x y:Operand}{t t':Nat}(ho:o.op = .call c)(hcl:c.callee = .builtin .copy)(ha:c.args.toList=[x,y])(hts:c.argTypes.toList=[t,t'])(h:BF1 Γ dead t t' (A x) (A y)=some r)(hc:r.c=true):AZ9 P dead A o r:=by
 have ha:c.args=#[x,y]:=by apply Ex8;simpa using ha
 have hts:c.argTypes=#[t,t']:=by apply Ex8;simpa using hts
 unfold BF1 at h;split at h
 ·rename_i k ty l he
  split at h
  ·rename_i k0 l
   split at h
   ·rename_i hck
    simp only[Er7,Es5] at hck;obtain⟨⟨⟨⟨⟨hsf,hfm⟩,hnd⟩,hkB⟩,htt⟩,hsl⟩:=hck;have htt:=Er6 htt;subst htt;have hkB:k<BIG:=Er8 hkB;split at h
    ·rename_i m hm
     cases h;refine⟨fun k' hk=> ?_,fun k hk=>by simp at hk,fun p hp=> ?_,fun id B ow bx nb bg w act hi hA hdd _=> ?_⟩
     ·rw[Es4] at hk
      rw[hk];exact P9 hnd
     ·rw[Es4] at hp
      rw[hp];exact⟨by simp,hkB⟩
     have hall:=AK5 ho hA;have hp:=hall x (by simp[Call.operands,ha,hcl])
     have hy:=hall y (by simp[Call.operands,ha,hcl])
     rw[he] at hp;have hdk:=hdd k (by simp)
     have hY:C7 ow w (.slice (.int k0)) m (act.eval y):=w9 hm hy;obtain⟨d,e,s,bb,gi,q1,q2,q3,q4,q5⟩:=AZ1 hΓ hsl;have hE1:gi.size=1:=by rw[q5];rfl
     generalize hpe:act.eval x=u at hp;cases hp with
     |own _ h' hh=>
      have hlen:(m.take l.length++l.drop m.length).length=l.length:=by rw[Es1,Es8,Et0];omega
      obtain⟨adY,capY,hvY,hY1,hY2,hY3⟩:=Ah7 hY (show 0<1 by decide)
      have hrunB:∀v' w',(Builtin.copy_ #[t,t] o.type #[act.eval x,act.eval y]).run P w = .ok v' w'→(execOp act.eval o).run P w = .ok (.value v') w':=by intro v' w' hv;rw[Ah3 ho hcl,ha,hts];simp only[builtin,List.map_toArray,Ey0,List.map_nil];simp[hv]
      rcases hh hsf with⟨_,hnil,hl0⟩|⟨blk,cap,hb,hv,hn1,hn2⟩
      ·simp only[decide_eq_true_eq] at hc
       omega
      ·subst hv
       obtain⟨how,c,fz,hcb,hz,⟨hle1,hle2⟩,hcont⟩:=BY6 hsf (h' hdk);have hle:l.length≤c.size:=by rw[hle1];simpa[Ty.size] using hle2
       obtain⟨news,hnl,hnews,hone,hnv⟩:∃news:List Value,news.length=min m.length l.length∧(Builtin.firstCells gi.size (min m.length l.length) (.slice adY m.length capY)).run P w = .ok news.toArray w∧(∀v∈news,v.oneCell'=true)∧
         ∀(j:Nat) (x:Int),j<min m.length l.length→m[j]? = some x→news[j]? = some (.int k0 x)∧fits k0 x=true:=by
        by_cases hm0:m=[]
        ·subst hm0
         refine⟨[],by simp,?_,by simp,fun j x hj=>by simp at hj⟩
         have hmin:min ([]:List Int).length l.length=0:=by simp
         rw[show (min ([]:List (Ty.int k0).den).length l.length)=0 from hmin];cases adY with
         |none=>exact run_firstCells_none w gi.size 0 _ capY
         |some a'=>exact run_firstCells_some w gi.size 0 a' _ capY [] (by simp) (by intro j v h';simp at h')
        ·obtain⟨blkY,off,cY,TY,fzY,y1,y2,y3,y4,y5,y6⟩:=hY3 hm0
         have y4:off+m.length≤cY.size:=by simpa[Ty.size] using y4
         have hcell:∀(j:Nat) (x:Int),m[j]? = some x→cY[off+j]? = some (.int k0 x)∧fits k0 x=true:=by
          intro j x hj;have hjl:=(Er5.1 hj).1;obtain⟨r1,r2⟩:=y6 j x hj;refine⟨?_,r2⟩;have:=congrArg (·[0]?) r1;simp only[Ty.size,Ew2,Es2,Es3,Nat.lt_add_one,if_true,Ew9,Er9,hjl,Ev7] at this;exact this
         refine⟨(cY.toList.drop off).take (min m.length l.length),?_,?_,fun v hv=> ?_,fun j x hj hx=> ?_⟩
         ·rw[Es8,Et0,V4 cY]
          omega
         ·subst y1
          refine run_firstCells_some w gi.size (min m.length l.length) _ _ capY _ ?_ (fun j v hj=> ?_)
          ·rw[Es8,Et0,V4 cY,hE1]
           omega
          ·rw[Z3,AE8 y3]
           rw[Es2] at hj;split at hj
           ·rw[Es3] at hj
            simpa using hj
           ·cases hj
         ·obtain⟨j,hj⟩:=Ex6 hv
          rw[Es2] at hj;split at hj
          ·rename_i hlt
           obtain⟨x,hx⟩:∃x,m[j]? = some x:=⟨_,Er4 (by omega)⟩
           rw[Es3,Ev7,(hcell j x hx).1] at hj;cases hj;rfl
          ·cases hj
         ·rw[Es2,if_pos hj,Es3,Ev7]
          exact hcell j x hx
       have hst:=At8 P blk 0 (k % 25000) fz news 0 c w hcb hz (by omega) hone
       simp only[Et4,List.take_zero,Ex0] at hst;generalize hnc:(news++c.toList.drop news.length).toArray=nc at hst;have hrun:(execOp act.eval o).run P w = .ok (.value (goInt ((min m.length l.length:Nat):Int))) (w.setRow blk nc):=by refine hrunB _ _ ?_;rw[hpe,hvY];have hmn:Nat.min m.length l.length=min m.length l.length:=rfl;simp[Builtin.copy_,run_underlying q3,Builtin.lenOf,sizeOf,typeInfo,q4,hmn,hnews,hst]
       have hncs:nc.size=c.size:=by rw[← hnc,Eu1,Es1,Et0,V4 c];omega
       have hb':=setRow_heap w blk c nc (k % 25000) fz hcb;obtain⟨hkeep,hinv⟩:=Ah8 hi (w':=w.setRow blk nc) (k:=k) (k':=k) (g:=blk) (fr:=0) (fz₀:=fz) (.inr ⟨setRow_size _ _ _,0,c,how,hcb,Ev2 _,by simp⟩) hb' (fun b _ hne=>setRow_other w blk b _ hne) ⟨rfl,rfl,rfl⟩ hdk
       intro K Q hK;unfold Oper.wp;rw[hrun];have hmx:min m.length l.length≤9223372036854775807:=by omega
       refine hK _ _ _ _ hkeep (AY9 hmx) hinv (fun j=>by simp[F4]) fun p hp=> ?_
       rw[Es4] at hp;subst hp;refine⟨undef,.fre undef (by simp only;rw[hlen];exact hb) (by simp) ⟨by simp,nc,fz,hb',by rw[hncs];exact hz,⟨by rw[hncs];exact hle1,by simp only;rw[hlen];exact hle2⟩,fun j z hj=> ?_⟩ (.inl hfm)⟩
       have hncl:nc.toList=news++c.toList.drop news.length:=by rw[← hnc]
       have hjl:j<l.length:=by have:=(Er5.1 hj).1;rw[hlen] at this;exact this
       have key:nc.toList[j]? = some (.int k0 z)∧fits k0 z=true:=by
        rw[hncl];simp only at hj;by_cases hjm:j<m.length
        ·rw[Es0 (by rw[Es8];omega),Es2,if_pos hjl] at hj
         rw[Es0 (by omega)]
         exact hnv j z (by omega) hj
        ·rw[Et2 (by rw[Es8];omega),Es3,Es8] at hj
         rw[show m.length+(j-min l.length m.length)=j by omega] at hj
         obtain⟨r1,r2⟩:=hcont j z hj;refine⟨?_,r2⟩;rw[Et2 (by omega),Es3,show news.length+(j-news.length)=j by omega]
         have:=congrArg (·[0]?) r1;simp only[Ty.size,Ew2,Es2,Es3,Nat.lt_add_one,if_true,Ew9,Er9] at this;exact this
       refine⟨?_,key.2⟩;simp only[Ty.size,Ew2];apply Ew5;intro i;rw[Es2,Es3];cases i with
       |zero=>simpa using key.1
       |succ i=>simp
    ·cases h
   ·cases h
  ·cases h
 ·cases h
theorem CW9 {ow':Nat→A1}{w':World}{a:Ty}{l l':List a.den}{c:Array Value}{olds news:List Value}
  (ht:c.toList.take ((l++l').length*a.size)=olds++news) (hlo:olds.length=l.length*a.size)
  (h1:∀(i:Nat) x,l[i]? = some x→Rep ow' w' a x ((olds.drop (i*a.size)).take a.size)) (h2:∀(i:Nat) x,l'[i]? = some x→Rep ow' w' a x ((news.drop (i*a.size)).take a.size)):
  ∀(i:Nat) x,(l++l')[i]? = some x→Rep ow' w' a x ((c.toList.drop (i*a.size)).take a.size):=by
 intro i x hx;have hi:=(Er5.1 hx).1;have hle:=T4 (off:=0) (s:=a.size) hi;have e:(c.toList.drop (i*a.size)).take a.size=((olds++news).drop (i*a.size)).take a.size:=by rw[← ht,Ex5,Ew1,Eu4 (by omega)]
 rw[e];by_cases hl:i<l.length
 ·rw[Es0 hl] at hx
  have hle':=T4 (off:=0) (s:=a.size) hl;have:=h1 i x hx;rw[List.drop_append_of_le_length (by omega),Ew0 (by rw[Et0];omega)]
  exact this
 ·rw[Et2 (by omega)] at hx
  have:=h2 (i-l.length) x hx;have e2:(olds++news).drop (i*a.size)=news.drop ((i-l.length)*a.size):=by rw[List.drop_append,List.drop_eq_nil_of_le (by rw[hlo];exact Et9 _ (by omega)),Ex0,hlo,Nat.sub_mul]
  rw[e2];exact this
theorem Ba8 {B:E5}{ow:Nat→A1}{bx:Bx}{nb:Nat}{bg:Nat→Option (List EV)}{w:World}(hi:Inv B ow bx nb bg w){k tgt:Nat}{y:Option (Nat×(Nat×Nat))}(htg:tgt<BIG)(hno:bx.tb (tgt+BIG)=none):
  E0 ow bx w ow ⟨bx.f,fun j=>(bx.dead j||Eu6 k j)||Eu6 tgt j,fun j=>if j=tgt+BIG then y else bx.tb j⟩ w∧
  Inv B ow ⟨bx.f,fun j=>(bx.dead j||Eu6 k j)||Eu6 tgt j,fun j=>if j=tgt+BIG then y else bx.tb j⟩ nb bg w:=by
 have hk:E0 ow bx w ow ⟨bx.f,fun j=>(bx.dead j||Eu6 k j)||Eu6 tgt j,fun j=>if j=tgt+BIG then y else bx.tb j⟩ w:=by
  refine⟨.refl ow w,fun _ _ _ h _=>⟨h,rfl⟩,fun j h=> ?_,fun _ h=>⟨rfl,h⟩,fun j x hx=> ?_⟩
  ·simp only[Eu5] at h
   exact h.1.1
  ·simp only
   rw[if_neg (fun e=>by rw[e,hno] at hx;cases hx)]
   exact hx
 refine⟨hk,?_⟩;constructor
 ·intro b cs hcs
  obtain⟨g1,c1,T1,g2,g3⟩:=hi.box b cs hcs;exact⟨g1,c1,T1,g2,g3.keep hk⟩
 ·exact hi.back
 ·exact hi.here
 ·exact hi.old
 ·exact hi.size
 ·exact hi.env
 ·exact hi.kept
 ·exact hi.st.trans hk.st
 ·intro j hj
  simp only at hj ⊢;split at hj
  ·rename_i e
   right
   rw[e,Ev0,Et3,Ew8];exact⟨rfl,by omega⟩
  ·exact (hi.born j hj).imp (fun h=>h) fun h=>⟨by rw[h.1];rfl,h.2⟩
theorem CX0 {ty:Ty}{y:EV}{l':List ty.den}{us:List Nat}(hpos:0<ty.size)(h:BF3 ty dead y=some (l',us)):
  (∀k∈us,k∉dead)∧∀{ow:Nat→A1} {bx:Bx} {w:World} {v:Value},A0 ow bx w y v→(∀k∈us,bx.dead k=false)→Au4 ow w ty l' v:=by
 have plain:∀{y:EV},y.to (.slice ty)=some l'→∀{ow:Nat→A1} {bx:Bx} {w:World} {v:Value},A0 ow bx w y v→Au4 ow w ty l' v:=fun hy ow bx w v hv=>CW0 hpos (w9 hy hv)
 unfold BF3 at h;split at h
 ·rename_i k ty' l
  split at h
  ·rename_i hsf
   split at h
   ·cases h
   ·rename_i hnd
    split at h
    ·rename_i hty
     subst hty;cases h;refine⟨fun k' hk=>by rw[Es4] at hk;rw[hk];exact P9 hnd,fun {ow bx w v} hv hu=> ?_⟩
     cases hv with
     |own h h' hh=>
      rcases h' (hu k (by simp)) with⟨h1,h2⟩|⟨blk,cap,c,fz,h1,h2,h3,h3',h4,h5,h6⟩
      ·subst h1
       exact⟨none,0,by rw[h2];rfl,by rw[h2];simp,by rw[h2];simp,fun hne=>absurd h2 hne⟩
      ·subst h1
       obtain⟨h7,h8⟩:=h6 hsf;have hle:l.length*ty'.size≤c.size:=by rw[h4];exact Et9 _ h5
       have hcell:∀(i:Nat) x,l[i]? = some x→Rep ow w ty' x ((((c.toList.drop 0).take (l.length*ty'.size)).drop (i*ty'.size)).take ty'.size):=by
        intro i x hx;have hi:=(Er5.1 hx).1;have hle:=T4 (off:=0) (s:=ty'.size) hi;rw[List.drop_zero,Ex5,Ew1,Eu4 (by omega)]
        exact h8 i x hx
       refine⟨_,_,rfl,h7,h5,fun _=>⟨blk,0,c,_,fz,rfl,h3,by rw[Et4];exact hle,fun u hu=> ?_,hcell⟩⟩
       obtain⟨j,hj,rfl⟩:=List.mem_iff_getElem.1 hu;rw[List.drop_zero,Es8,V4 c,Eu4 hle] at hj;have hd:j/ty'.size<l.length:=(Nat.div_lt_iff_lt_mul hpos).2 hj;have hr:=hcell (j/ty'.size) _ (Er4 hd);have hm:=Nat.mod_lt j hpos;have hjm:j/ty'.size*ty'.size+j % ty'.size=j:=Nat.div_add_mod' j ty'.size;refine As7 _ _ _ hr _ (List.mem_iff_getElem?.2 ⟨j % ty'.size,?_⟩)
       rw[Es2,if_pos hm,Es3,hjm,Er4]
    ·cases h
  ·split at h
   ·rename_i l0 hl0
    cases h;exact⟨fun k hk=>(by cases hk),fun hv _=>plain hl0 hv⟩
   ·cases h
 ·split at h
  ·rename_i l0 hl0
   cases h;exact⟨fun k hk=>(by cases hk),fun hv _=>plain hl0 hv⟩
  ·cases h
theorem CX1 {ty:Ty}{e:Nat}{dst:Option Nat}{wish:Bool}{x:EV}{k tgt:Nat}{l:List ty.den}{c:Bool}(hpos:0<ty.size)(he:e<25000)(h:BF2 ty e dst wish dead x=some (k,tgt,l,c))(hc:c=true):
  k∉dead∧tgt∉dead∧tgt<BIG∧soft tgt=true∧tgt % 25000=e∧k % 25000=e∧H6 k (l.length*ty.size)=0∧(K4 tgt=true→K4 k=true∧soft k=true)∧
   ∀{ow:Nat→A1} {bx:Bx} {w:World} {v:Value},A0 ow bx w x v→bx.dead k=false→Own ow w k ty l v∧(K4 k=true→soft k=true→v≠ .slice none 0 0)∧(∃adX capX,v = .slice adX l.length capX∧l.length≤9223372036854775807∧l.length≤capX)∧
    ∀g cap c fz,v = .slice (some ⟨g,0,none⟩) l.length cap→w.heap[g]? = some (.cells c (k % 25000) fz)→∀(i:Nat) x,l[i]? = some x→Rep ow w ty x (((c.toList.take (l.length*ty.size)).drop (i*ty.size)).take ty.size):=by
 unfold BF2 at h;split at h
 ·rename_i k0 ty' l0
  split at h
  ·rename_i hsf
   split at h
   ·rename_i hck
    simp only[Er7,Es5] at hck;obtain⟨⟨h1,h2⟩,h3⟩:=hck;have h1:=Er6 h1;have h3:k0<BIG:=Er8 h3;split at h
    ·rename_i hty
     subst hty;cases h;refine⟨P9 h2,P9 h2,h3,hsf,h1,h1,by unfold H6;rw[hsf];rfl,fun hf=>⟨hf,hsf⟩,fun {ow bx w v} hv hd=> ?_⟩
     cases hv with
     |own h h' hh=>
      have ho:=h' hd;refine⟨ho,fun hf _ hnil=> ?_,?_⟩
      ·rcases hh hsf with⟨hf',_⟩|⟨blk,cap,_,hv,_⟩
       ·rw[hf] at hf';cases hf'
       ·rw[hnil] at hv;cases hv
      rcases ho with⟨h1,h2⟩|⟨blk,cap,c,fz,h1,h2,h3,h3',h4,h5,h6⟩
      ·subst h1
       refine⟨⟨none,0,by rw[h2];rfl,by rw[h2];simp,by rw[h2];simp⟩,fun g cap c fz hv=>by cases hv⟩
      ·subst h1
       refine⟨⟨_,_,rfl,(h6 hsf).1,h5⟩,fun g cap' c' fz' hv hb i x hx=> ?_⟩
       cases hv;rw[h3] at hb;cases hb;have hi:=(Er5.1 hx).1;have hle:=T4 (off:=0) (s:=ty'.size) hi;rw[Ex5,Ew1,Eu4 (by omega)]
       exact (h6 hsf).2 i x hx
    ·cases h
   ·cases h
  ·rename_i hsf
   split at h
   ·rename_i d
    split at h
    ·rename_i hck
     simp only[Er7,Es5] at hck;obtain⟨⟨⟨⟨⟨h1,h1'⟩,h2⟩,h3⟩,h4⟩,h5⟩:=hck;have h2:=Er6 h2;have h5:d<9000000:=Er8 h5;split at h
     ·rename_i hty
      subst hty;cases h;rename_i ty';have hl0:l0.length=0:=of_decide_eq_true hc;have hl0:l0=[]:=List.length_eq_zero_iff.1 hl0;subst hl0;have hm:(d*100000+50000+e) % 100000=50000+e:=by omega
      refine⟨P9 h3,P9 h4,by unfold BIG;omega,?_,by omega,by omega,by simp[H6,hsf],fun hf=> ?_,fun {ow bx w v} hv hd=> ?_⟩
      ·unfold soft
       rw[hm];exact Ev6 (by omega)
      ·unfold K4 at hf
       rw[hm] at hf;have:=Er8 hf;omega
      ·cases hv with
       |own h h' hh=>
        refine⟨h' hd,fun _ hs=>(by rw[hsf] at hs;cases hs),?_⟩
        obtain⟨adX,capX,hvX,hX1,hX2,hX3⟩:=Ah7 (h hsf) hpos;exact⟨⟨adX,capX,hvX,hX1,hX2⟩,fun g cap c fz _ _ i x hx=>by simp at hx⟩
     ·cases h
    ·cases h
   ·cases h
 ·split at h
  ·rename_i d
   split at h
   ·rename_i hck
    simp only[Er7,Es5] at hck;obtain⟨⟨_,h4⟩,h5⟩:=hck;have h5:d<9000000:=Er8 h5;cases h;have hm:(d*100000+50000+e) % 100000=50000+e:=by omega
    have hsf:soft (d*100000+50000+e)=true:=by unfold soft;rw[hm];exact Ev6 (by omega)
    have hnf:K4 (d*100000+50000+e)=true→False:=fun hf=>by unfold K4 at hf;rw[hm] at hf;have:=Er8 hf;omega
    refine⟨P9 h4,P9 h4,by unfold BIG;omega,hsf,by omega,by omega,by unfold H6;rw[hsf];rfl,fun hf=>(hnf hf).elim,fun {ow bx w v} hv hd=> ?_⟩
    cases hv;refine⟨.inl ⟨rfl,rfl⟩,fun hf=>(hnf hf).elim,⟨none,0,rfl,by simp,by simp⟩,fun g cap c fz hv=>by cases hv⟩
   ·cases h
  ·cases h
 ·cases h
theorem CX2 (hΓ:E3 P Γ){c:Call}{x y:Operand}{t t':Nat}(ho:o.op = .call c)(hcl:c.callee = .builtin .append)(ha:c.args.toList=[x,y])(hts:c.argTypes.toList=[t,t'])(h:BF4 Γ dead o.dst t t' (A x) (A y)=some r)(hc:r.c=true):AZ9 P dead A o r:=by
 have ha:c.args=#[x,y]:=by apply Ex8;simpa using ha
 have hts:c.argTypes=#[t,t']:=by apply Ex8;simpa using hts
 unfold BF4 at h;split at h
 ·rename_i ty bytes e hT
  obtain⟨i,z,hu,hinf,hsz,hby,hz,hzs,hpos,hbpos⟩:=Ba3 hΓ hT;split at h
  ·rename_i k tgt l c0 hx
   split at h
   ·rename_i l' us hy
    split at h
    ·rename_i hck
     simp only[Er7] at hck;obtain⟨htt,he⟩:=hck;have htt:=Er6 htt;have he:e<25000:=Er8 he;subst htt;cases h;obtain⟨hY1,hY2⟩:=CX0 hpos hy;simp only[Er7,decide_eq_true_eq] at hc;obtain⟨x1,x2,x3,x4,x5,x6,x7,x8,x9⟩:=CX1 hpos he hx hc.1
     replace hc:=hc.2
     refine⟨fun k' hk=> ?_,hY1,fun p hp=>by simp at hp,fun id B ow bx nb bg w act hi hA hdd huu=> ?_⟩
     ·rcases Es7.1 hk with h | h
      ·rw[h];exact x1
      ·rw[Es4.1 h];exact x2
     have hall:=AK5 ho hA;have hrx:=hall x (by simp[Call.operands,ha,hcl])
     have hry:=hall y (by simp[Call.operands,ha,hcl])
     have hdk:=hdd k (by simp)
     have hdt:=hdd tgt (by simp)
     obtain⟨hXo,hXf,hXn,hXc⟩:=x9 hrx hdk;have hYs:=hY2 hry huu;have hsK:soft (tgt+BIG)=true:=by rw[← x4];unfold soft;rw[show (tgt+BIG) % 100000=tgt % 100000 by unfold BIG;omega]
     have h5K:(tgt+BIG) % 25000=e:=by rw[← x5];unfold BIG;omega
     have hfK:K4 (tgt+BIG)=K4 tgt:=by unfold K4;rw[show (tgt+BIG) % 100000=tgt % 100000 by unfold BIG;omega]
     have hno:bx.tb (tgt+BIG)=none:=BI3 hi hdt;have hrun:∀v' w',(Builtin.append_ #[t,t] o.type #[act.eval x,act.eval y]).run P w = .ok v' w'→(execOp act.eval o).run P w = .ok (.value v') w':=by intro v' w' hv;rw[Ah3 ho hcl,ha,hts];simp only[builtin,List.map_toArray,Ey0,List.map_nil];simp[hv]
     refine CW1 (P:=P) (tt:=o.type) hu hinf hsz hz hzs hpos (by rw[hby];exact hbpos) x6 hXo hXn hXc hYs (by rw[hby];exact hc) _ ?_ ?_
     ·intro hnil hl hl' hr K Q hK
      have hff:K4 tgt=false:=by
       cases hf:K4 tgt with
       |false=>rfl
       |true=>exact absurd hnil (hXf (x8 hf).1 (x8 hf).2)
      unfold Oper.wp;rw[hrun _ _ hr];obtain⟨k1,k2⟩:=Ba8 hi (k:=k) (y:=none) x3 hno;refine hK _ _ _ _ k1 (.own (fun h=>(by rw[hsK] at h;cases h)) (fun _=>.inl ⟨rfl,by rw[hl,hl'];rfl⟩) fun _=>.inl ⟨by rw[hfK];exact hff,rfl,by rw[hl,hl'];rfl⟩) k2 (fun j=>by simp[F4,Bool.or_assoc]) (fun p hp=>by simp at hp)
     ·intro w' g cap' cc fz olds news hlz hr hg hb hold henv htake hlo hcs hcap hmax ho1 ho2 K Q hK
      rw[x7] at hg;obtain⟨hkeep,hinv⟩:=Ah8 hi (k:=k) (k':=tgt+BIG) (fr:=0) (fz₀:=fz) (hg.imp (fun h=>h) fun ⟨h1,c₀,h2,h3,h4⟩=>⟨h1,0,c₀,h2,h3,Ev2 _,h4⟩) hb hold henv hdk
      obtain⟨k1,k2⟩:=Ba8 (k:=k) (y:=some (g,(l++l').length,cap')) hinv x3 (by exact hno)
      unfold Oper.wp;rw[hrun _ _ hr];have hcont:=CW9 htake hlo (fun i x hx=>Rep.keep hkeep.st _ _ _ (ho1 i x hx)) (fun i x hx=>Rep.keep hkeep.st _ _ _ (ho2 i x hx))
      refine hK _ _ _ _ (hkeep.trans k1) (.own (fun h=>(by rw[hsK] at h;cases h)) (fun _=>.inr ⟨g,cap',cc,fz,rfl,by simp[H6,hsK],by rw[h5K];exact hb,hlz,hcs,hcap,fun _=>⟨hmax,hcont⟩⟩) fun _=>.inr ⟨g,cap',by simp,rfl,hcap,hmax⟩) k2 (fun j=>by simp[F4,Bool.or_assoc]) (fun p hp=>by simp at hp)
    ·cases h
   ·cases h
  ·cases h
 ·cases h
theorem CX3 (hΓ:E3 P Γ)(hs:BF5 Γ dead o.dst A o.op=some r)(hc:r.c=true):AZ9 P dead A o r:=by
 unfold BF5 at hs;split at hs
 ·rename_i t n c ho;exact CW5 hΓ ho hs hc
 ·rename_i t x ho;exact CW6 hΓ ho hs
 ·rename_i t x y ho;exact CW7 hΓ ho hs
 ·rename_i c ho
  split at hs
  ·rename_i hcl
   split at hs
   ·rename_i x y t t' h1 h2;exact CW8 hΓ ho hcl h1 h2 hs hc
   ·cases hs
  ·rename_i hcl
   split at hs
   ·rename_i x y t t' h1 h2;exact CX2 hΓ ho hcl h1 h2 hs hc
   ·cases hs
  ·cases hs
 ·cases hs
def I8 (ks:List Nat)(ow:Nat→A1):Nat→A1:=fun blk=>match ow blk with
 | .tok k fr=>bif F4 ks k then .E4 else .tok k fr
 |o=>o
theorem BI4 {ks:List Nat}{ow:Nat→A1}{blk n:Nat}(h:A5 ow blk n):A5 (I8 ks ow) blk n:=by
 rcases L4 h with h1 |⟨k,fr,h1,h2⟩|⟨fr,h1,h2⟩
 ·exact L3 (by simp[I8,h1])
 ·cases hk:F4 ks k with
  |true=>exact L3 (by simp[I8,h1,hk])
  |false=>exact u7 (k:=k) (fr:=fr) (by simp[I8,h1,hk]) h2
 ·exact X0 (fr:=fr) (by simp[I8,h1]) h2
theorem AR0 {ks:List Nat}{ow:Nat→A1}{blk b:Nat}:I8 ks ow blk = .box b↔ow blk = .box b:=by
 unfold I8;split
 ·rename_i k fr h
  rw[h];cases F4 ks k <;> simp
 ·exact Iff.rfl
theorem Au5 {ks:List Nat}{ow:Nat→A1}{bx:Bx}{w:World}(hd:∀k∈ks,bx.dead k=false):E0 ow bx w (I8 ks ow) ⟨bx.f,fun j=>bx.dead j||F4 ks j,bx.tb⟩ w:=by
 refine⟨.of fun _ _ h=>⟨BI4 h,rfl⟩,fun blk k fr h hdd=>⟨?_,rfl⟩,fun j h=> ?_,fun b h=>⟨rfl,AR0.2 h⟩,fun _ _ h=>h⟩
 ·have hk:F4 ks k=false:=by
   cases hk:F4 ks k with
   |false=>rfl
   |true=>
    simp only[hk,Ew8] at hdd;unfold F4 at hk;obtain⟨x,hx,hxk⟩:=Eu2.1 hk;have:=Er6 hxk;subst this;rw[hd x hx] at hdd;cases hdd
  simp[I8,h,hk]
 ·simp only[Eu5] at h
  exact h.1
theorem Ba9 {ks:List Nat}{B:E5}{ow:Nat→A1}{bx:Bx}{nb:Nat}{bg:Nat→Option (List EV)}{w:World}(hi:Inv B ow bx nb bg w)(hd:∀k∈ks,bx.dead k=false):Inv B (I8 ks ow) ⟨bx.f,fun j=>bx.dead j||F4 ks j,bx.tb⟩ nb bg w:=by
 have hk:=Au5 (ow:=ow) (w:=w) hd;constructor
 ·intro b cs hcs
  obtain⟨g1,c1,T1,g2,g3⟩:=hi.box b cs hcs;exact⟨AR0.2 g1,c1,T1,g2,g3.keep hk⟩
 ·intro blk b h
  exact hi.back blk b (AR0.1 h)
 ·intro blk h
  refine hi.here blk fun e=>h ?_
  simp[I8,e]
 ·intro blk h1 h2
  obtain⟨g1,g2,g3,g4⟩:=hi.old blk h1 h2;have e:I8 ks ow blk=ow blk:=by
   unfold I8;split
   ·rename_i k fr h;exact absurd h (g4 k fr)
   ·rfl
  exact⟨g1,by rw[e];exact g2,by rw[e];exact⟨g3,g4⟩⟩
 ·exact hi.size
 ·exact hi.env
 ·exact hi.kept
 ·exact hi.st.trans hk.st
 ·exact fun j h=>(hi.born j h).imp (fun h=>h) fun h=>⟨by simp only[h.1,Bool.true_or],h.2⟩
theorem Bb0 {k:Nat}{ks:List Nat}(h:E8 k ks=true):k∈ks∧F4 ks k=true:=by unfold E8 at h;obtain⟨x,hx,hxk⟩:=Eu2.1 h;have:=Er6 hxk;subst this;exact⟨hx,Eu2.2 ⟨k,hx,Et3 k⟩⟩
theorem Bb1 {ks:List Nat}{ow:Nat→A1}{bx:Bx}{w:World}{e:EV}{v:Value}(hs:∀k∈ks,soft k=true)(hd:∀k∈ks,bx.dead k=false)(h:A0 ow bx w e v):
  A0 (I8 ks ow) ⟨bx.f,fun j=>bx.dead j||F4 ks j,bx.tb⟩ w (Y9 ks e) v:=by
 have hk:=Au5 (ow:=ow) (w:=w) hd;unfold Y9;split
 ·rename_i k t l
  split
  ·rename_i hin
   obtain⟨hm,hkb⟩:=Bb0 hin;cases h with
   |own h h' hh=>
    rcases h' (hd k hm) with⟨h1,h2⟩|⟨blk,cap,c,fz,h1,h2,h3,h3',h4,h5,h6⟩
    ·subst h1
     subst h2;exact .dat (AK2 t)
    ·subst h1
     obtain⟨h7,h8⟩:=h6 (hs k hm);refine .dat ⟨some ⟨blk,0,none⟩,cap,rfl,⟨h7,h5⟩,fun _=>⟨blk,0,c,_,fz,rfl,L3 (by simp[I8,h2,hkb]),h3,fun i x hx=> ?_⟩⟩
     rw[Et4];exact Rep.keep hk.st _ _ _ (h8 i x hx)
  ·exact h.keep hk
 ·exact h.keep hk
theorem Ai0:∀(es:List EV),∀k∈AQ0 dead es,soft k=true∧k∉dead
 | [],k,hk=>by cases hk
 |e::r,k,hk=>by
  unfold AQ0 at hk;split at hk
  ·split at hk
   ·rename_i hc
    simp only[Er7,Es5] at hc;rcases Es7.1 hk with h | h
    ·rw[h];exact⟨hc.1,P9 hc.2⟩
    ·exact Ai0 r k h
   ·exact Ai0 r k hk
  ·exact Ai0 r k hk
theorem CX4 {ρ:Type}(hΓ:E3 P Γ){ks:List Nat}{id:Nat}{rd:Nat→Option (List EV)}{q:EV→Option (List EV)→List Wr→List Nat→Option ρ}{r:ρ}(hf:BF7 dead A o.op=some ks)
  (h:opE Γ id rd none (fun x=>Y9 ks (A x)) o.op q=some r):∃v n ws tr,q v n ws tr=some r∧(∀x∈ws,x.b∈tr∧∃cs,rd x.b=some cs∧x.off+x.new.length≤cs.length)∧(∀k∈ks,k∉dead)∧
   ∀B ow bx nb bg w (a:Act),Inv B ow bx nb bg w→F5 ow bx w A a.eval o.op→(∀b∈tr,bg b=rd b)→(n.isSome=true→bg id=none∧id<nb)→(∀k∈ks,bx.dead k=false)→AC4 P B ow bx nb bg w a o id v n ws ks []:=by
 obtain⟨v,n,ws,tr,h1,_,h3,h4⟩:=At7 hΓ h;unfold BF7 at hf;split at hf
 ·rename_i c ho
  split at hf
  ·split at hf
   ·cases hf
   ·rename_i k0 ks0 hks
    cases hf;have hsp:=Ai0 (dead:=dead) (c.args.toList.map A);rw[hks] at hsp;refine⟨v,n,ws,tr,h1,h3,fun k hk=>(hsp k hk).2,fun B ow bx nb bg w a hi hA hb hn hd K Q hK=> ?_⟩
    have hA':F5 (I8 (k0::ks0) ow) ⟨bx.f,fun j=>bx.dead j||F4 (k0::ks0) j,bx.tb⟩ w (fun x=>Y9 (k0::ks0) (A x)) a.eval o.op:=by rw[ho] at hA ⊢;exact fun x hx=>Bb1 (fun k hk=>(hsp k hk).1) hd (hA x hx)
    exact h4 (by simp) B _ _ nb bg w a (Ba9 hi hd) hA' hb hn K Q fun u ow' bx' w' g1 g2 g3 g4=>
     hK u ow' bx' w' ((Au5 hd).trans g1) g2 g3 (fun j=>by rw[g4]) fun p hp=>by cases hp
  ·cases hf
 ·cases hf
theorem Au6 {rd:Nat→Option (List EV)}{b:Nat}{cs':List EV}{ks:List Nat}:∀(es:List EV),AX8 dead rd es=some (b,cs',ks)→∃cs,rd b=some cs∧cs'=cs.map (Y9 ks)∧∀k∈ks,soft k=true∧k∉dead
 | [],h=>by cases h
 |e::r,h=>by
  unfold AX8 at h;split at h
  ·split at h
   ·rename_i cs hcs
    split at h
    ·exact Au6 r h
    ·rename_i k ks0 hks
     cases h;exact⟨cs,hcs,rfl,fun k' hk=>Ai0 cs k' (by rw[hks];exact hk)⟩
   ·exact Au6 r h
  ·exact Au6 r h
theorem CX5 {ρ:Type}(hΓ:E3 P Γ){b:Nat}{cs':List EV}{ks:List Nat}{id:Nat}{rd:Nat→Option (List EV)}{q:EV→Option (List EV)→List Wr→List Nat→Option ρ}{r:ρ}(hf:BF8 dead rd A o.op=some (b,cs',ks))
  (h:opE Γ id (Ag4 rd b cs') none A o.op q=some r):∃v n ws tr,q v n ws tr=some r∧(∀x∈(⟨b,0,cs'⟩:Wr)::ws,x.b∈b::tr∧∃cs,rd x.b=some cs∧x.off+x.new.length≤cs.length)∧(∀k∈ks,k∉dead)∧
   ∀B ow bx nb bg w (a:Act),Inv B ow bx nb bg w→F5 ow bx w A a.eval o.op→(∀y∈b::tr,bg y=rd y)→(n.isSome=true→bg id=none∧id<nb)→(∀k∈ks,bx.dead k=false)→AC4 P B ow bx nb bg w a o id v n (⟨b,0,cs'⟩::ws) ks []:=by
 obtain⟨v,n,ws,tr,h1,_,h3,h4⟩:=At7 hΓ h;unfold BF8 at hf;split at hf
 ·rename_i c ho
  split at hf
  ·obtain⟨cs,hcs,rfl,hks⟩:=Au6 _ hf
   have hrd:∀x y,Ag4 rd b (cs.map (Y9 ks)) x=some y→∃z,rd x=some z∧y.length=z.length:=by
    intro x y hxy;unfold Ag4 at hxy;split at hxy
    ·rename_i hb
     have:=Er6 hb;subst this;cases hxy;exact⟨cs,hcs,by simp⟩
    ·exact⟨y,hxy,rfl⟩
   refine⟨v,n,ws,tr,h1,fun x hx=> ?_,fun k hk=>(hks k hk).2,fun B ow bx nb bg w a hi hA hb hn hd K Q hK=> ?_⟩
   ·rcases Es7.1 hx with h | h
    ·rw[h]
     exact⟨by simp,cs,hcs,by simp⟩
    ·obtain⟨q1,z,q2,q3⟩:=h3 x h
     obtain⟨z',q4,q5⟩:=hrd _ _ q2;exact⟨Et7 _ q1,z',q4,by omega⟩
   have hbb:bg b=some cs:=by rw[hb b (by simp),hcs]
   have hk1:=Au5 (ow:=ow) (w:=w) hd;have hi1:=Ba9 hi hd;have hup:∀y,K6 bg ⟨b,0,cs.map (Y9 ks)⟩ y=if y=b then some (cs.map (Y9 ks)) else bg y:=by
    intro y;unfold K6;by_cases hy:y=b
    ·subst hy
     simp[hbb,M1]
    ·simp[hy]
   have hi2:Inv B (I8 ks ow) ⟨bx.f,fun j=>bx.dead j||F4 ks j,bx.tb⟩ nb (K6 bg ⟨b,0,cs.map (Y9 ks)⟩) w:=by
    constructor
    ·intro y ys hy
     rw[hup] at hy;split at hy
     ·rename_i hyb
      subst hyb;cases hy;obtain⟨g1,c1,T1,g2,g3⟩:=hi.box y cs hbb;refine⟨AR0.2 g1,c1,T1,g2,by simpa using g3.1,fun i e u he hu=> ?_⟩
      rw[Ew3] at he;cases hc:cs[i]? with
      |none=>rw [hc] at he;cases he
      |some e0=>
       rw[hc] at he;cases he;exact⟨Bb1 (fun k hk=>(hks k hk).1) hd (g3.2 i e0 u hc hu).1,(g3.2 i e0 u hc hu).2⟩
     ·exact hi1.box y ys hy
    ·intro blk y hy
     obtain⟨g1,g2,g3⟩:=hi1.back blk y hy;refine⟨g1,?_,g3⟩;rw[hup];split
     ·rfl
     ·exact g2
    ·exact hi1.here
    ·exact hi1.old
    ·exact hi1.size
    ·exact hi1.env
    ·intro y hy
     obtain⟨g1,g2⟩:=hi1.kept y hy;refine⟨g1,?_⟩;rw[hup];split
     ·rfl
     ·exact g2
    ·exact hi1.st
    ·exact hi1.born
   have hA':F5 (I8 ks ow) ⟨bx.f,fun j=>bx.dead j||F4 ks j,bx.tb⟩ w A a.eval o.op:=by rw[ho] at hA ⊢;exact fun x hx=>(hA x hx).keep hk1
   exact h4 (by simp) B _ _ nb (K6 bg ⟨b,0,cs.map (Y9 ks)⟩) w a hi2 hA' (fun y hy=>by
    rw[hup];unfold Ag4;by_cases hyb:y=b
    ·subst hyb;rw[if_pos rfl,Et3]
    ·rw[if_neg hyb]
     have:Eu6 y b=false:=by
      cases hq:Eu6 y b with
      |false=>rfl
      |true=>exact absurd (Er6 hq) hyb
     rw[this];exact hb y (Et7 _ hy)) (fun hns=>by
    obtain⟨g1,g2⟩:=hn hns;refine⟨?_,g2⟩;rw[hup,if_neg (fun e=>by rw[e,hbb] at g1;cases g1)]
    exact g1) K Q fun u ow' bx' w' g1 g2 g3 g4=>
     hK u ow' bx' w' (hk1.trans g1) g2 g3 (fun j=>by rw[g4]) fun p hp=>by cases hp
  ·cases hf
 ·cases hf
end

structure TI where
 s:Rg
 ch:List (Nat×Bool)
 v:EV
 n:Option (List EV)
 ws:List Wr
 tr:List Nat
 k:List Nat
 us:List Nat
 up:N9
def TI.next (t:TI)(o:Oper):Rg:=t.s.next ⟨o.dst,t.ch,t.v⟩ t.n t.ws t.tr t.k t.up
structure Bb2 (P:Program)(base:List EV)(o:Oper)(t:TI):Prop where
 ch:Ar3 t.s.rs o.guard=some t.ch
 dst:BW8 base.length o.dst=true
 quiet:guardOf t.s.rs t.ch=some false→t.n=none∧t.ws=[]
 CX6:guardOf t.s.rs t.ch=some false→t.k=[]
 fresh:∀k∈t.k,k∉t.s.dead
 used:∀k∈t.us,k+AJ4∈t.tr∧k∉t.s.dead
 upk:∀p∈t.up,p.1∈t.k∧p.1<BIG
 upq:guardOf t.s.rs t.ch=some false→t.up=[]
 wr:∀x∈t.ws,x.b∈t.tr∧∃cs,A3 t.s.bx x.b=some cs∧x.off+x.new.length≤cs.length
 go:guardOf t.s.rs t.ch≠some false→∀B ow bx nb bg w (a:Act),Inv B ow bx nb bg w→F5 ow bx w (M3 base t.s.rs t.ch o.op) a.eval o.op→(∀b∈t.tr,bg b=A3 t.s.bx b)→
  (t.n.isSome=true→bg t.s.bx.length=none∧t.s.bx.length<nb)→(∀k∈t.k,bx.dead k=false)→(∀k∈t.us,bx.dead k=false)→AC4 P B ow bx nb bg w a o t.s.bx.length t.v t.n t.ws t.k t.up
def D6 (P:Program)(base:List EV):List Oper→Rg→List TI→Rg→Prop
 | [],s,[],s'=>s=s'
 |o::os,s,t::ts,s'=>t.s=s∧Bb2 P base o t∧D6 P base os (t.next o) ts s'
 |_,_,_,_=>False
theorem AR1 {rs:List Rec}{ch:List (Nat×Bool)}(h:chainB rs ch=true):guardOf rs ch≠some false:=by
 unfold guardOf;cases ch with
 |nil=>simp
 |cons p r=>simp only[h];simp
theorem BI5 {rs:List Rec}{ch:List (Nat×Bool)}(h:chainB rs ch=false):guardOf rs ch=some false:=by
 cases ch with
 |nil=>cases h
 |cons p r=>unfold guardOf;simp only[h]
theorem T5 {ρ:Type}{P:Program}{Γ:Cx}(hΓ:E3 P Γ){base:List EV}{q:Rg→Option ρ}{r:ρ}:∀(l:List Oper) (s:Rg),Q6 Γ base l s q=some r→∃ts s',D6 P base l s ts s'∧q s'=some r
 | [],s,h=>⟨[],s,rfl,h⟩
 |o::os,s,h=>by
  simp only[Q6] at h;split at h
  ·rename_i ch hch hdst
   split at h
   ·rename_i x hso
    cases hcc:chainB s.rs ch with
    |false=>
     rw[hcc,cond_false] at h;obtain⟨ts,s',k1,k2⟩:=T5 hΓ os _ h;exact⟨⟨s,ch,_,none,[],[],[],[],[]⟩::ts,s',⟨rfl,⟨hch,hdst,fun _=>⟨rfl,rfl⟩,fun _=>rfl,(fun k hk=>by cases hk),(fun k hk=>by cases hk),(fun p hp=>by cases hp),(fun _=>rfl),(fun x hx=>by cases hx),fun hg=>absurd (BI5 hcc) hg⟩,k1⟩,k2⟩
    |true=>
    rw[hcc,cond_true] at h;have hcn:=AR1 hcc;obtain⟨h1,h2⟩:=O2 h;have hc:=h2 (by simp)
    obtain⟨q1,q2,q3,q4⟩:=CX3 hΓ hso hc;obtain⟨ts,s',k1,k2⟩:=T5 hΓ os _ h1;exact⟨⟨s,ch,x.v,none,[],x.us.map (· + AJ4),x.ks,x.us,x.up⟩::ts,s',⟨rfl,⟨hch,hdst,fun hne=>absurd hne hcn,fun hne=>absurd hne hcn,q1,(fun k hk=>⟨Es9.2 ⟨k,hk,rfl⟩,q2 k hk⟩),q3,fun hne=>absurd hne hcn,(fun x hx=>by cases hx),fun _ B ow bx nb bg w a hi hA _ _ hd hu=>q4 _ B ow bx nb bg w a hi hA hd hu⟩,k1⟩,k2⟩
   ·split at h
    ·rename_i x y t happ
     obtain⟨h,hcn⟩:=O2 h;have hcn:=AR1 (hcn (by simp))
     obtain⟨v,k,h1,h2,h3⟩:=CU2 hΓ happ h;obtain⟨ts,s',k1,k2⟩:=T5 hΓ os _ h1;exact⟨⟨s,ch,v,none,[],[],[k],[],[]⟩::ts,s',⟨rfl,⟨hch,hdst,fun hne=>absurd hne hcn,fun hne=>absurd hne hcn,(fun k' hk'=>by rw[Es4] at hk';rw[hk'];exact h2),(fun k hk=>by cases hk),(fun p hp=>by cases hp),(fun _=>rfl),(fun x hx=>by cases hx),fun _ B ow bx nb bg w a hi hA _ _ hd _=>h3 _ B ow bx nb bg w a hi hA (hd k (by simp))⟩,k1⟩,k2⟩
    split at h
    ·rename_i x t hmk
     obtain⟨h,hcn⟩:=O2 h;have hcn:=AR1 (hcn (by simp))
     obtain⟨v,k,h1,h2,h3⟩:=CU5 hΓ hmk h;obtain⟨ts,s',k1,k2⟩:=T5 hΓ os _ h1;exact⟨⟨s,ch,v,none,[],[],[k],[],[]⟩::ts,s',⟨rfl,⟨hch,hdst,fun hne=>absurd hne hcn,fun hne=>absurd hne hcn,(fun k' hk'=>by rw[Es4] at hk';rw[hk'];exact h2),(fun k hk=>by cases hk),(fun p hp=>by cases hp),(fun _=>rfl),(fun x hx=>by cases hx),fun _ B ow bx nb bg w a hi hA _ _ hd _=>h3 _ B ow bx nb bg w a hi hA (hd k (by simp))⟩,k1⟩,k2⟩
    split at h
    ·rename_i c args hoc
     cases hcc:chainB s.rs ch with
     |false=>
      rw[hcc,cond_false] at h;obtain⟨ts,s',k1,k2⟩:=T5 hΓ os _ h;exact⟨⟨s,ch,_,none,[],[],[],[],[]⟩::ts,s',⟨rfl,⟨hch,hdst,fun _=>⟨rfl,rfl⟩,fun _=>rfl,(fun k hk=>by cases hk),(fun k hk=>by cases hk),(fun p hp=>by cases hp),(fun _=>rfl),(fun x hx=>by cases hx),fun hg=>absurd (BI5 hcc) hg⟩,k1⟩,k2⟩
     |true=>
     rw[hcc,cond_true] at h;have hcn:=AR1 hcc;obtain⟨v,ws,tr,ks,h1,h2,h3,h4⟩:=CV9 hΓ hoc h;obtain⟨ts,s',k1,k2⟩:=T5 hΓ os _ h1;exact⟨⟨s,ch,v,none,ws,tr,ks,[],[]⟩::ts,s',⟨rfl,⟨hch,hdst,fun hne=>absurd hne hcn,fun hne=>absurd hne hcn,h2,(fun k hk=>by cases hk),(fun p hp=>by cases hp),(fun _=>rfl),h3,fun _ B ow bx nb bg w a hi hA hb _ hd _=>h4 _ B ow bx nb bg w a hi hA hb hd⟩,k1⟩,k2⟩
    split at h
    ·rename_i ks hfz
     obtain⟨h,hcn⟩:=O2 h;have hcn:=AR1 (hcn (by simp))
     obtain⟨v,n,ws,tr,h1,h3,h5,h4⟩:=CX4 hΓ hfz h;obtain⟨ts,s',k1,k2⟩:=T5 hΓ os _ h1;exact⟨⟨s,ch,v,n,ws,tr,ks,[],[]⟩::ts,s',⟨rfl,⟨hch,hdst,fun hne=>absurd hne hcn,fun hne=>absurd hne hcn,h5,(fun k hk=>by cases hk),(fun p hp=>by cases hp),(fun _=>rfl),h3,fun _ B ow bx nb bg w a hi hA hb hn hd _=>h4 B ow bx nb bg w a hi hA hb hn hd⟩,k1⟩,k2⟩
    split at h
    ·rename_i b cs ks hfb
     obtain⟨h,hcn⟩:=O2 h;have hcn:=AR1 (hcn (by simp))
     obtain⟨v,n,ws,tr,h1,h3,h5,h4⟩:=CX5 hΓ hfb h;obtain⟨ts,s',k1,k2⟩:=T5 hΓ os _ h1;exact⟨⟨s,ch,v,n,⟨b,0,cs⟩::ws,b::tr,ks,[],[]⟩::ts,s',⟨rfl,⟨hch,hdst,fun hne=>absurd hne hcn,fun hne=>absurd hne hcn,h5,(fun k hk=>by cases hk),(fun p hp=>by cases hp),(fun _=>rfl),h3,fun _ B ow bx nb bg w a hi hA hb hn hd _=>h4 B ow bx nb bg w a hi hA hb hn hd⟩,k1⟩,k2⟩
    split at h
    ·cases hcc:chainB s.rs ch with
     |false=>
      rw[hcc,cond_false] at h;obtain⟨ts,s',k1,k2⟩:=T5 hΓ os _ h;exact⟨⟨s,ch,_,none,[],[],[],[],[]⟩::ts,s',⟨rfl,⟨hch,hdst,fun _=>⟨rfl,rfl⟩,fun _=>rfl,(fun k hk=>by cases hk),(fun k hk=>by cases hk),(fun p hp=>by cases hp),(fun _=>rfl),(fun x hx=>by cases hx),fun hg=>absurd (BI5 hcc) hg⟩,k1⟩,k2⟩
     |true=>
     rw[hcc,cond_true] at h;have hcn:=AR1 hcc;obtain⟨v,n,ws,tr,h1,h2,h3,h4⟩:=At7 hΓ h;obtain⟨ts,s',k1,k2⟩:=T5 hΓ os _ h1;exact⟨⟨s,ch,v,n,ws,tr,[],[],[]⟩::ts,s',⟨rfl,⟨hch,hdst,fun hne=>absurd hne hcn,fun _=>rfl,(fun k hk=>by cases hk),(fun k hk=>by cases hk),(fun p hp=>by cases hp),(fun _=>rfl),h3,fun _ B ow bx nb bg w a hi hA hb hn _ _=>(h4 (by simp) B ow bx nb bg w a hi hA hb hn).BH1⟩,k1⟩,k2⟩
    ·obtain⟨v,n,ws,tr,h1,h2,h3,h4⟩:=At7 hΓ h
     obtain⟨ts,s',k1,k2⟩:=T5 hΓ os _ h1;exact⟨⟨s,ch,v,n,ws,tr,[],[],[]⟩::ts,s',⟨rfl,⟨hch,hdst,fun hne=>h2 (by rw[hne];rfl),fun _=>rfl,(fun k hk=>by cases hk),(fun k hk=>by cases hk),(fun p hp=>by cases hp),(fun _=>rfl),h3,fun hg B ow bx nb bg w a hi hA hb hn _ _=>(h4 hg B ow bx nb bg w a hi hA hb hn).BH1⟩,k1⟩,k2⟩
  ·cases h
def TI.wrs (t:TI):List Nat:=match t.n with
 |some _=>t.s.bx.length::(t.ws.map (·.b)++t.k.map (· + AJ4))
 |none=>t.ws.map (·.b)++t.k.map (· + AJ4)
section
variable {P:Program}{base:List EV}
theorem D6.length:∀{l:List Oper} {s:Rg} {ts:List TI} {s':Rg},D6 P base l s ts s'→ts.length=l.length
 | [],_,[],_,_=>rfl
 |o::os,s,t::ts,s',h=>by have:=D6.length h.2.2;simp[this]
theorem D6.at:∀{l:List Oper} {s:Rg} {ts:List TI} {s':Rg},D6 P base l s ts s'→∀(i:Nat) o t,l[i]? = some o→ts[i]? = some t→
  Bb2 P base o t∧t.s.rs.length=s.rs.length+i∧(∃more,s'.rs=t.s.rs++(⟨o.dst,t.ch,t.v⟩:Rec)::more)∧(∃more,s'.tw=t.s.tw++(t.tr,t.wrs)::more)∧t.s.tw.length=s.tw.length+i∧
   t.s.bx.length≤s'.bx.length∧(t.n.isSome=true→t.s.bx.length<s'.bx.length)∧s.bx.length≤t.s.bx.length
 | [],s,[],s',h,i,o,t,ho,ht=>by simp at ho
 |o0::os,s,t0::ts,s',h,i,o,t,ho,ht=>by
  obtain⟨h1,h2,h3⟩:=h;have hnl:t0.s.bx.length≤(t0.next o0).bx.length∧(t0.n.isSome=true→t0.s.bx.length<(t0.next o0).bx.length):=by
   have hfold:∀(ws:List Wr) (bx:List (Option (List EV))),(ws.foldl K9 bx).length=bx.length:=by
    intro ws
    induction ws with
    |nil=>intro bx;rfl
    |cons x r ih=>intro bx;simp only[Eu0];rw[ih];unfold K9;split <;> simp
   unfold TI.next Rg.next AX7;cases t0.n <;> simp[hfold]
  cases i with
  |zero=>
   simp at ho ht;subst ho ht;have tail:∀{l:List Oper} {s:Rg} {ts:List TI} {s':Rg},D6 P base l s ts s'→(∃more,s'.rs=s.rs++more)∧(∃more,s'.tw=s.tw++more)∧s.bx.length≤s'.bx.length:=by
    intro l
    induction l with
    |nil=>
     intro s ts s' h;cases ts with
     |nil=>cases h;exact⟨⟨[],by simp⟩,⟨[],by simp⟩,Ev2 _⟩
     |cons t ts=>exact absurd h id
    |cons o os ih=>
     intro s ts s' h;cases ts with
     |nil=>exact absurd h id
     |cons t ts=>
      obtain⟨g1,g2,g3⟩:=h;obtain⟨⟨m1,k1⟩,⟨m2,k2⟩,k3⟩:=ih g3;subst g1;have hfold:∀(ws:List Wr) (bx:List (Option (List EV))),(ws.foldl K9 bx).length=bx.length:=by
       intro ws
       induction ws with
       |nil=>intro bx;rfl
       |cons x r ih=>intro bx;simp only[Eu0];rw[ih];unfold K9;split <;> simp
      refine⟨⟨_,by rw[k1];unfold TI.next Rg.next;simp only[Ew4];rfl⟩,⟨_,by rw[k2];unfold TI.next Rg.next;simp only[Ew4];rfl⟩,?_⟩
      have:t.s.bx.length≤(t.next o).bx.length:=by unfold TI.next Rg.next AX7;cases t.n <;> simp[hfold]
      omega
   obtain⟨⟨m1,k1⟩,⟨m2,k2⟩,k3⟩:=tail h3;subst h1;refine⟨h2,by simp,⟨m1,by rw[k1];unfold TI.next Rg.next;simp⟩,⟨m2,by rw[k2];unfold TI.next Rg.next TI.wrs;cases t0.n <;> simp⟩,by simp,by omega,fun h=>by have:=hnl.2 h;omega,Ev2 _⟩
  |succ i=>
   obtain⟨g1,g2,g3,g4,g5,g6,g7,g8⟩:=D6.at h3 i o t (by simpa using ho) (by simpa using ht)
   refine⟨g1,?_,g3,g4,?_,g6,g7,?_⟩
   ·rw[g2];unfold TI.next Rg.next;simp[h1];omega
   ·rw[g5];unfold TI.next Rg.next;simp[h1];omega
   ·have:=hnl.1;rw[h1] at this;omega
def TI.f (t:TI)(b:Nat)(c:Option (List EV)):Option (List EV):=upd (fun _=>c) t.s.bx.length t.n t.ws b
theorem Bb3 (bg:Nat→Option (List EV))(id:Nat)(n:Option (List EV))(b:Nat):∀(ws:List Wr),upd bg id n ws b=upd (fun _=>bg b) id n ws b:=by
 have hw:∀(ws:List Wr) (bg bg':Nat→Option (List EV)),bg b=bg' b→ws.foldl K6 bg b=ws.foldl K6 bg' b:=by
  intro ws
  induction ws with
  |nil=>intro bg bg' h;exact h
  |cons x r ih=>
   intro bg bg' h;simp only[Eu0];refine ih _ _ ?_;unfold K6;split
   ·rw[h]
   ·exact h
 intro ws;unfold upd P2;cases n with
 |none=>exact hw ws _ _ rfl
 |some cs=>
  simp only;split
  ·rfl
  ·exact hw ws _ _ rfl
theorem TI.Au7 {t:TI}{b:Nat}{c:Option (List EV)}(h:b∉t.wrs):t.f b c=c:=by
 unfold TI.f upd P2;unfold TI.wrs at h;cases hn:t.n with
 |none=>
  rw[hn] at h;exact AZ5 _ _ _ fun x hx e=>h (Et8 _ (Es9.2 ⟨x,hx,e⟩))
 |some cs=>
  rw[hn] at h;simp only[Es7,not_or] at h;simp only[if_neg h.1];exact AZ5 _ _ _ fun x hx e=>h.2 (Et8 _ (Es9.2 ⟨x,hx,e⟩))
theorem Bb4 (t:TI)(o:Oper)(b:Nat):A3 (t.next o).bx b=t.f b (A3 t.s.bx b):=by
 have hfold:∀(ws:List Wr) (bx:List (Option (List EV))),(ws.foldl K9 bx).length=bx.length:=by
  intro ws
  induction ws with
  |nil=>intro bx;rfl
  |cons x r ih=>intro bx;simp only[Eu0];rw[ih];unfold K9;split <;> simp
 have hget:∀(ws:List Wr) (bx:List (Option (List EV))),A3 (ws.foldl K9 bx) b=ws.foldl K6 (fun _=>A3 bx b) b:=by
  intro ws
  induction ws with
  |nil=>intro bx;rfl
  |cons x r ih=>
   intro bx;simp only[Eu0];rw[ih];have hp:=Bb3 (K6 (fun _=>A3 bx b) x) 0 none b r
   unfold upd P2 at hp;simp only at hp;rw[hp];have key:A3 (K9 bx x) b=K6 (fun _=>A3 bx b) x b:=by
    unfold K9 K6;cases hx:A3 bx x.b with
    |none=>
     simp only;split
     ·rename_i e;rw[e,hx];rfl
     ·rfl
    |some cs=>
     simp only;split
     ·rename_i e
      subst e;rw[hx];simp only[Option.map_some];rw[O3] at hx ⊢;have:=(Er5.1 hx).1;simp[this]
     ·rename_i e
      unfold A3;rw[Ex7 (fun h=>e h.symm)]
   rw[key]
 unfold TI.next Rg.next TI.f upd P2 AX7;cases hn:t.n with
 |none=>simp only;exact hget _ _
 |some cs=>
  simp only;split
  ·rename_i e
   subst e;rw[O3];rw[← hfold t.ws t.s.bx];simp
  ·rename_i e
   rw[← hget];unfold A3;by_cases hlt:b<(t.ws.foldl K9 t.s.bx).length
   ·rw[Es0 hlt]
   ·rw[Et2 (by omega),Ev8 (by rw[hfold] at hlt ⊢;simp;omega),Ev8 (by omega)]
def foldI (D:Nat→Bool):List TI→Nat→Nat→Option (List EV)→Option (List EV)
 | [],_,_,c=>c
 |t::ts,k,b,c=>foldI D ts (k+1) b (if D k then t.f b c else c)
theorem Au8 {D:Nat→Bool}{b:Nat}:∀(ts:List TI) (k:Nat) (c:Option (List EV)),(∀(j:Nat) t,ts[j]? = some t→D (k+j)=true→b∉t.wrs)→foldI D ts k b c=c
 | [],_,_,_=>rfl
 |t::ts,k,c,h=>by
  simp only[foldI];have:(if D k then t.f b c else c)=c:=by
   split
   ·rename_i hd;exact TI.Au7 (h 0 t rfl (by simpa using hd))
   ·rfl
  rw[this];exact Au8 ts (k+1) c fun j t ht hd=>h (j+1) t (by simpa using ht) (by rw[show k+(j+1)=k+1+j by omega];exact hd)
theorem Ai1 {D D':Nat→Bool}{b:Nat}:∀(ts:List TI) (k:Nat) (c:Option (List EV)),(∀(j:Nat) t,ts[j]? = some t→b∈t.wrs→D (k+j)=D' (k+j))→foldI D ts k b c=foldI D' ts k b c
 | [],_,_,_=>rfl
 |t::ts,k,c,h=>by
  simp only[foldI];have:(if D k then t.f b c else c)=(if D' k then t.f b c else c):=by
   by_cases hb:b∈t.wrs
   ·have:=h 0 t rfl hb
    simp only[Ew9] at this;rw[this]
   ·rw[TI.Au7 hb];simp
  rw[this];exact Ai1 ts (k+1) _ fun j t ht hb=>by rw[show k+1+j=k+(j+1) by omega];exact h (j+1) t (by simpa using ht) hb
def G8 (D:Nat→Bool)(i:Nat):Nat→Bool:=fun k=>if k=i then true else D k
theorem Bb5 {D:Nat→Bool}{b i:Nat}:∀(ts:List TI) (k:Nat) (c:Option (List EV)) (t:TI),k≤i→ts[i-k]? = some t→D i=false→(∀(j:Nat) u,i<k+j→ts[j]? = some u→D (k+j)=true→b∈u.wrs→b∉t.wrs)→
  t.f b (foldI D ts k b c)=foldI (G8 D i) ts k b c
 | [],k,c,t,_,ht,_,_=>by simp at ht
 |u::ts,k,c,t,hk,ht,hD,h=>by
  simp only[foldI];by_cases he:k=i
  ·subst he
   simp only[Nat.sub_self,Er9,Option.some.injEq] at ht;subst ht;have e1:G8 D k k=true:=by simp[G8]
   rw[hD,e1];simp only[Ey5,if_false,if_true];have e2:∀c,foldI (G8 D k) ts (k+1) b c=foldI D ts (k+1) b c:=fun c=>Ai1 ts (k+1) c fun j t _ _=>by unfold G8;rw[if_neg (by omega)]
   rw[e2];by_cases hb:b∈u.wrs
   ·have hs:∀c,foldI D ts (k+1) b c=c:=fun c=>Au8 ts (k+1) c fun j v hv hd hbv=>h (j+1) v (by omega) (by simpa using hv) (by rw[show k+(j+1)=k+1+j by omega];exact hd) hbv hb
    rw[hs,hs]
   ·rw[TI.Au7 hb,TI.Au7 hb]
  ·have e1:G8 D i k=D k:=by unfold G8;rw[if_neg he]
   rw[e1];exact Bb5 ts (k+1) _ t (by omega) (by rw[show i-k=i-(k+1)+1 by omega] at ht;simpa using ht) hD fun j v hj hv hd=>h (j+1) v (by omega) (by simpa using hv) (by rw[show k+(j+1)=k+1+j by omega];exact hd)
theorem D6.boxes:∀{l:List Oper} {s:Rg} {ts:List TI} {s':Rg},D6 P base l s ts s'→∀(k b:Nat),A3 s'.bx b=foldI (fun _=>true) ts k b (A3 s.bx b)
 | [],s,[],s',h,k,b=>by cases h;rfl
 |o::os,s,t::ts,s',h,k,b=>by obtain⟨h1,h2,h3⟩:=h;simp only[foldI,if_true];rw[D6.boxes h3 (k+1) b,Bb4,h1]
theorem D6.Bb6:∀{l:List Oper} {s:Rg} {ts:List TI} {s':Rg},D6 P base l s ts s'→∀(i:Nat) t (k b:Nat),ts[i]? = some t→A3 t.s.bx b=foldI (fun j=>decide (j<k+i)) ts k b (A3 s.bx b)
 | [],s,[],s',h,i,t,k,b,ht=>by simp at ht
 |o::os,s,u::ts,s',h,i,t,k,b,ht=>by
  obtain⟨h1,h2,h3⟩:=h;cases i with
  |zero=>
   simp at ht;subst ht;rw[h1];refine (Au8 _ _ _ fun j v _ hd=> ?_).symm
   have:k+j<k+0:=by simpa using hd
   omega
  |succ i=>
   simp only[foldI];have hd:(if decide (k<k+(i+1))=true then u.f b (A3 s.bx b) else A3 s.bx b)=u.f b (A3 s.bx b):=if_pos (by simp)
   rw[hd,D6.Bb6 h3 i t (k+1) b (by simpa using ht),Bb4,h1]
   rw[show k+1+i=k+(i+1) by omega]
end

def F1 (R:List Rec)(k:Nat):Option Nat:=match R[k]? with
 |some r=>r.dst
 |none=>none
theorem Ai2 (rs:List Rec)(u:Nat):∀(m:Nat),(∀j r,I0 rs u m=some (j,r)→j<m∧rs[j]? = some r∧r.dst=some u∧∀k,j<k→k<m→F1 rs k≠some u)∧
  (I0 rs u m=none→∀k,k<m→F1 rs k≠some u):=by
 intro m
 induction m with
 |zero=>exact ⟨fun j r h=>by simp[I0] at h,fun _ k hk=>by omega⟩
 |succ m ih=>
  obtain⟨ih1,ih2⟩:=ih;have skip:F1 rs m≠some u→I0 rs u (m+1)=I0 rs u m:=by
   intro hne;simp only[I0];unfold F1 at hne;cases hm:rs[m]? with
   |none=>rfl
   |some r=>
    rw[hm] at hne;simp only at hne ⊢;cases hd:r.dst with
    |none=>rfl
    |some d=>
     rw[hd] at hne;simp only;split
     ·rename_i hb;exact absurd (by rw[Er6 hb]) hne
     ·rfl
  by_cases hne:F1 rs m=some u
  ·have hhit:∃r,rs[m]? = some r∧r.dst=some u:=by
    unfold F1 at hne;cases hm:rs[m]? with
    |none=>rw [hm] at hne;cases hne
    |some r=>rw [hm] at hne;exact⟨r,rfl,hne⟩
   obtain⟨r,hr,hd⟩:=hhit;have:I0 rs u (m+1)=some (m,r):=by simp only[I0,hr,hd,Et3]
   rw[this];exact⟨fun j r' h=>by cases h;exact⟨by omega,hr,hd,fun k h1 h2=>by omega⟩,fun h=>by cases h⟩
  ·rw[skip hne]
   refine⟨fun j r h=> ?_,fun h k hk=> ?_⟩
   ·obtain⟨g1,g2,g3,g4⟩:=ih1 j r h
    exact⟨by omega,g2,g3,fun k h1 h2=>by
     by_cases e:k=m
     ·subst e;exact hne
     ·exact g4 k h1 (by omega)⟩
   ·by_cases e:k=m
    ·subst e;exact hne
    ·exact ih2 h k (by omega)
def Ai3 (D:Nat→Bool)(R:List Rec)(n u:Nat):Option Nat→Prop
 |some m=>m<n∧D m=true∧F1 R m=some u∧∀k,m<k→k<n→D k=true→F1 R k≠some u
 |none=>∀k,k<n→D k=true→F1 R k≠some u
def Aa0 (ow:Nat→A1)(bx:Bx)(w:World)(base:List EV)(R:List Rec)(n:Nat)(D:Nat→Bool)(a:Act):Prop:=
 ∀u,u<base.length→(∃m r,Ai3 D R n u (some m)∧R[m]? = some r∧(guardOf R r.ch≠some false→A0 ow bx w r.val (a.tmps.getD u undef))∧(guardOf R r.ch=some false→a.tmps.getD u undef=undef))∨
  (Ai3 D R n u none∧∀e,base[u]? = some e→A0 ow bx w e (a.tmps.getD u undef))
theorem Bb7 (rs more:List Rec)(j:Nat)(h:j<rs.length):W5 (rs++more) j=W5 rs j:=by unfold W5 recAt;rw[Es0 h]
def ChB (n:Nat)(ch:List (Nat×Bool)):Prop:=∀p∈ch,p.1<n
theorem Bb8 (rs more:List Rec):∀(ch:List (Nat×Bool)),ChB rs.length ch→chainB (rs++more) ch=chainB rs ch
 | [],_=>rfl
 | [(j,w)],h=>by
  have:=Bb7 rs more j (h (j,w) (by simp))
  cases w <;> simp[chainB,this]
 | (j,w)::p::r,h=>by
  have h1:=Bb7 rs more j (h (j,w) (by simp))
  have h2:=Bb8 rs more (p::r) (fun q hq=>h q (by simp[hq]))
  cases w <;> simp only[chainB,h1,h2]
theorem CX7 (rs more:List Rec)(ch:List (Nat×Bool))(h:ChB rs.length ch):guardOf (rs++more) ch=guardOf rs ch:=by
 unfold guardOf;cases ch with
 |nil=>rfl
 |cons p r=>simp only;rw[Bb8 rs more _ h]
def Aa1 (rs:List Rec)(p:Nat×Bool):Bool:=match p.2 with
 |true=>W5 rs p.1
 |false=> !W5 rs p.1
theorem BI6 (rs:List Rec)(p:Nat×Bool)(r:List (Nat×Bool)):chainB rs (p::r)=(Aa1 rs p&&chainB rs r):=by
 obtain⟨j,w⟩:=p;cases r with
 |nil=>cases w <;> simp[chainB,Aa1]
 |cons q r=>cases w <;> simp[chainB,Aa1]
theorem BI7 (rs:List Rec):∀(ch:List (Nat×Bool)),chainB rs ch=true↔∀p∈ch,Aa1 rs p=true
 | []=>by simp[chainB]
 |p::r=>by rw[BI6,Er7,BI7 rs r];simp
theorem Bb9:∀(l:List (Nat×Bool)) (p:Nat×Bool),Ar1 p l=true→p∈l
 | [],_,h=>by cases h
 | (j,w)::r,p,h=>by
  simp only[Ar1,Eu9,Er7,beq_iff_eq] at h;rcases h with⟨h1,h2⟩ | h
  ·have:=Er6 h1
   obtain⟨a,b⟩:=p;simp only at this h2;subst this h2;simp
  ·exact Et7 _ (Bb9 r p h)
theorem Bc0:∀(a b:List (Nat×Bool)),Ar2 a b=true→∀p∈a,p∈b
 | [],_,_,p,h=>by simp at h
 |q::r,b,h,p,hp=>by
  simp only[Ar2,Er7] at h;rcases Es7.1 hp with rfl | hp
  ·exact Bb9 b p h.1
  ·exact Bc0 r b h.2 p hp
theorem guard_true {rs:List Rec}{ch:List (Nat×Bool)}:guardOf rs ch≠some false↔chainB rs ch=true:=by
 unfold guardOf;cases ch with
 |nil=>simp [chainB]
 |cons p r=>simp only;cases chainB rs (p::r) <;> simp
theorem guard_false {rs:List Rec}{ch:List (Nat×Bool)}:guardOf rs ch=some false↔chainB rs ch=false:=by
 unfold guardOf;cases ch with
 |nil=>simp [chainB]
 |cons p r=>simp
theorem Bc1 {rs:List Rec}{g:Option (Nat×Bool)}{ch:List (Nat×Bool)}(h:Ar3 rs g=some ch):(g=none∧ch=[])∨
  ∃j w r d b,g=some (j,w)∧rs[j]? = some r∧r.dst=some d∧r.val = .dat .bool b∧(∃r',I0 rs d rs.length=some (j,r'))∧ch=(j,w)::r.ch:=by
 unfold Ar3 at h;split at h
 ·cases h;exact .inl ⟨rfl,rfl⟩
 ·rename_i j w
  split at h
  ·rename_i r hr
   split at h
   ·rename_i d b hd hv
    split at h
    ·rename_i j' r' hl
     split at h
     ·rename_i hb
      cases h;have:=Er6 hb;subst this;exact .inr ⟨j,w,r,d,b,rfl,hr,hd,hv,⟨r',hl⟩,rfl⟩
     ·cases h
    ·cases h
   ·cases h
  ·cases h
theorem BI8 {ow:Nat→A1}{bx:Bx}{w:World}(v:Value):A0 ow bx w (ofConst v) v:=by
 unfold ofConst;split
 ·split
  ·rename_i hf;exact P8 hf
  ·exact .undef _
 ·exact V2
 ·split
  ·rename_i hs
   have:=Er8 hs;exact .dat ⟨rfl,by omega⟩
  ·exact .undef _
 ·exact .nil
 ·exact .undef _
section
variable {P:Program}{base:List EV}{ops:Array Oper}{s₀ s':Rg}{ts:List TI}{B:E5}{bg₀:Nat→Option (List EV)}
def Bc2 (D:Nat→Bool)(ts:List TI)(bx:Bx):Prop:=∀j,bx.dead j=true↔∃(i:Nat) (t:TI),ts[i]? = some t∧D i=true∧j∈t.k
def StD (B:E5)(base:List EV)(ts:List TI)(s':Rg)(bg₀:Nat→Option (List EV))(D:Nat→Bool)(a:Act)(w:World):Prop:=
 ∃ow bx,Inv B ow bx s'.bx.length (fun b=>foldI D ts 0 b (bg₀ b)) w∧Aa0 ow bx w base s'.rs ts.length D a∧a.tmps.size=base.length∧a.defers=[]∧Bc2 D ts bx∧∀(i:Nat) t,ts[i]? = some t→D i=true→∀p∈t.up,∃v,A0 ow bx w (.fre p.1 p.2.1 p.2.2) v
theorem AA1 (hL:D6 P base ops.toList s₀ ts s')(h0:s₀.rs=[]){i:Nat}{o:Oper}{t:TI}(ho:ops[i]? = some o)(ht:ts[i]? = some t):
  s'.rs[i]? = some ⟨o.dst,t.ch,t.v⟩∧t.s.rs.length=i∧∃more,s'.rs=t.s.rs++more:=by
 obtain⟨_,g2,⟨more,g3⟩,_⟩:=hL.at i o t (by simpa using ho) ht
 have hl:t.s.rs.length=i:=by rw[g2,h0];simp
 refine⟨?_,hl,_,g3⟩;rw[g3,Et2 (by omega),hl]
 simp
theorem CX8 (hL:D6 P base ops.toList s₀ ts s')(h0:s₀.rs=[]):∀(i:Nat) o t,ops[i]? = some o→ts[i]? = some t→ChB i t.ch:=by
 intro i
 induction i using Nat.strongRecOn with
 |_ i ih=>
  intro o t ho ht;obtain⟨g1,_⟩:=hL.at i o t (by simpa using ho) ht
  obtain⟨hr,hl,more,hm⟩:=AA1 hL h0 ho ht;rcases Bc1 g1.ch with⟨_,h⟩|⟨j,w,r,d,b,_,hj,_,_,_,h⟩
  ·rw[h];intro p hp;simp at hp
  ·have hji:j<i:=by rw[← hl];exact (Er5.1 hj).1
   have hlen:=hL.length;have hin:i<ops.toList.length:=by have:=(Et5.1 ho).1;simpa using this
   obtain⟨oj,hoj⟩:∃oj,ops[j]? = some oj:=⟨_,Es6 (by simp at hin;omega)⟩
   obtain⟨tj,htj⟩:∃tj,ts[j]? = some tj:=⟨_,Er4 (by rw[hlen];omega)⟩
   obtain⟨hrj,_⟩:=AA1 hL h0 hoj htj;have:s'.rs[j]? = some r:=by rw[hm,Es0 (by omega)];exact hj
   rw[hrj] at this;cases this;rw[h];intro p hp;rcases Es7.1 hp with rfl | hp
   ·exact hji
   ·have:=ih j hji oj tj hoj htj p hp
    omega
theorem Bc3 (hL:D6 P base ops.toList s₀ ts s')(h0:s₀.rs=[]){i:Nat}{o:Oper}{t:TI}(ho:ops[i]? = some o)(ht:ts[i]? = some t){D:Nat→Bool}{a:Act}{w:World}{ow:Nat→A1}{bx:Bx}
  (hS:Aa0 ow bx w base s'.rs ts.length D a) (hsz:a.tmps.size=base.length) {u:Nat} (hag:∀k,k<ts.length→F1 s'.rs k=some u→(D k=true↔k<i)) {ch:List (Nat×Bool)} (hch:chainB s'.rs ch=true):
  A0 ow bx w (Y8 base t.s.rs ch u) (a.tmps.getD u undef):=by
 obtain⟨hr,hl,more,hm⟩:=AA1 hL h0 ho ht;have hlen:=hL.length;have hi:i<ts.length:=(Er5.1 ht).1;have hdst:∀k,k<i→F1 t.s.rs k=F1 s'.rs k:=by intro k hk;unfold F1;rw[hm,Es0 (by omega)]
 obtain⟨sp1,sp2⟩:=Ai2 t.s.rs u t.s.rs.length;unfold Y8;split
 ·rename_i j r hlr
  obtain⟨k1,k2,k3,k4⟩:=sp1 j r hlr;split
  ·rename_i hsub
   have hjR:s'.rs[j]? = some r:=by rw[hm,Es0 (by omega)];exact k2
   have hub:u<base.length:=by
    obtain⟨oj,hoj⟩:∃oj,ops[j]? = some oj:=⟨_,Es6 (by have:=hlen;simp at this;omega)⟩
    obtain⟨tj,htj⟩:∃tj,ts[j]? = some tj:=⟨_,Er4 (by omega)⟩
    obtain⟨g1,_⟩:=hL.at j oj tj (by simpa using hoj) htj
    obtain⟨hrj,_⟩:=AA1 hL h0 hoj htj;rw[hjR] at hrj;cases hrj;have hd:=g1.dst;simp only at k3;rw[k3] at hd;exact Er8 hd
   have hdj:F1 s'.rs j=some u:=by unfold F1;rw[hjR];exact k3
   have huniq:∀m,m<ts.length→D m=true→F1 s'.rs m=some u→m≤j:=by intro m h1 h2 h3;have hmi:=(hag m h1 h3).1 h2;apply Et1;intro hn;exact k4 m (by omega) (by omega) (by rw[hdst m hmi];exact h3)
   have hDj:D j=true:=(hag j (by omega) hdj).2 (by omega)
   rcases hS u hub with⟨m,r',⟨q1,q2,q3,q4⟩,q5,q6,q7⟩|⟨q1,_⟩
   ·have:m=j:=by
     have h1:=huniq m q1 q2 q3;apply Et1;intro hn;exact q4 j (by omega) (by omega) hDj hdj
    subst this;rw[hjR] at q5;cases q5;refine q6 (guard_true.2 ((BI7 _ _).2 fun p hp=> ?_))
    exact (BI7 _ _).1 hch p (Bc0 _ _ hsub p hp)
   ·exact absurd hdj (q1 j (by omega) hDj)
  ·exact .undef _
 ·rename_i hlr
  have hno:=sp2 hlr;split
  ·rename_i e he
   have hub:u<base.length:=(Er5.1 he).1;rcases hS u hub with⟨m,r',⟨q1,q2,q3,q4⟩,_⟩|⟨_,q2⟩
   ·have hmi:=(hag m q1 q3).1 q2
    exact absurd (by rw[hdst m hmi];exact q3) (hno m (by omega))
   ·exact q2 e he
  ·exact .undef _
theorem CX9 (hL:D6 P base ops.toList s₀ ts s')(h0:s₀.rs=[]){i:Nat}{o:Oper}{t:TI}(ho:ops[i]? = some o)(ht:ts[i]? = some t){D:Nat→Bool}{a:Act}{w:World}{ow:Nat→A1}{bx:Bx}
  (hS:Aa0 ow bx w base s'.rs ts.length D a) (hsz:a.tmps.size=base.length) (hag:∀u∈o.looksAt ops,∀k,k<ts.length→F1 s'.rs k=some u→(D k=true↔k<i)) {ch:List (Nat×Bool)} (hch:chainB s'.rs ch=true):
  (hg:O1 ow w)→∀x,(∀u,x = .tmp u→u∈o.looksAt ops)→A0 ow bx w (W6 base t.s.rs ch x) (a.eval x):=by
 intro hg x hx;cases x with
 |tmp u=>exact Bc3 hL h0 ho ht hS hsz (hag u (hx u rfl)) hch
 |const v=>exact BI8 v
 |func f=>exact .clo (by simp) (by simp) (fun i e v he=>by simp at he) (fun i e v he=>by simp at he)
 |global g=>exact BH0 hg g
theorem Bc4 (hL:D6 P base ops.toList s₀ ts s')(h0:s₀.rs=[]){i:Nat}{o:Oper}{t:TI}(ho:ops[i]? = some o)(ht:ts[i]? = some t):guardOf s'.rs t.ch=guardOf t.s.rs t.ch:=by obtain⟨hr,hl,more,hm⟩:=AA1 hL h0 ho ht;rw[hm];exact CX7 _ _ _ (by rw[hl];exact CX8 hL h0 i o t ho ht)
theorem CY0 (hL:D6 P base ops.toList s₀ ts s')(h0:s₀.rs=[]){i:Nat}{o:Oper}{t:TI}(ho:ops[i]? = some o)(ht:ts[i]? = some t){D:Nat→Bool}{a:Act}{w:World}{ow:Nat→A1}{bx:Bx}
  (hS:Aa0 ow bx w base s'.rs ts.length D a) (hsz:a.tmps.size=base.length) (hag:∀u∈o.looksAt ops,∀k,k<ts.length→F1 s'.rs k=some u→(D k=true↔k<i)):
  Region.wanted o (yielded ops a.tmps)=chainB s'.rs t.ch:=by
 obtain⟨g1,_⟩:=hL.at i o t (by simpa using ho) ht
 obtain⟨hr,hl,more,hm⟩:=AA1 hL h0 ho ht;have hi:i<ts.length:=(Er5.1 ht).1;rcases Bc1 g1.ch with⟨h1,h2⟩|⟨j,wt,r,d,b,h1,h2,h3,h4,⟨r',h5⟩,h6⟩
 ·rw[h2];unfold Region.wanted;rw[h1];rfl
 ·have hji:j<i:=by rw[← hl];exact (Er5.1 h2).1
  have hlen:=hL.length;obtain⟨oj,hoj⟩:∃oj,ops[j]? = some oj:=⟨_,Es6 (by simp at hlen;omega)⟩
  obtain⟨tj,htj⟩:∃tj,ts[j]? = some tj:=⟨_,Er4 (by omega)⟩
  obtain⟨gj,_⟩:=hL.at j oj tj (by simpa using hoj) htj
  obtain⟨hrj,_⟩:=AA1 hL h0 hoj htj;have hjR:s'.rs[j]? = some r:=by rw[hm,Es0 (by omega)];exact h2
  have hjR':=hjR;rw[hrj] at hjR;cases hjR;simp only at h3 h4;have hlook:d∈o.looksAt ops:=by unfold Oper.looksAt;rw[h1];simp[hoj,h3]
  have hub:d<base.length:=by have hd:=gj.dst;rw[h3] at hd;exact Er8 hd
  have hdj:F1 s'.rs j=some d:=by unfold F1;rw[hrj];exact h3
  have hDj:D j=true:=(hag d hlook j (by omega) hdj).2 hji
  have hlast:∀k,j<k→k<i→F1 s'.rs k≠some d:=by
   intro k k1 k2;obtain⟨_,_,_,q⟩:=(Ai2 t.s.rs d t.s.rs.length).1 j r' h5;have:=q k k1 (by omega)
   unfold F1 at this ⊢;rw[hm,Es0 (by omega)]
   exact this
  have hbool:W5 s'.rs j=b:=by unfold W5 recAt;rw[hrj];simp[h4]
  have hyl:yielded ops a.tmps j=match a.tmps[d]? with
    |some (.bool b)=>some b
    |_=>none:=by
   unfold yielded;simp[hoj,h3];rfl
  have hget:a.tmps[d]? = some (a.tmps.getD d undef):=by
   have:d<a.tmps.size:=by omega
   simp[this]
  rw[h6,BI6];unfold Region.wanted;rw[h1];simp only;rw[hyl,hget];rcases hS d hub with⟨m,rm,⟨q1,q2,q3,q4⟩,q5,q6,q7⟩|⟨q1,_⟩
  ·have:m=j:=by
    have hmi:=(hag d hlook m q1 q3).1 q2;apply Et1;intro hn;by_cases hlt:m<j
    ·exact q4 j hlt (by omega) hDj hdj
    ·exact hlast m (by omega) hmi q3
   subst this;rw[hrj] at q5;cases q5;cases hc:chainB s'.rs tj.ch with
   |true=>
    have hv:=q6 (guard_true.2 hc);rw[h4] at hv;rw[AY8 hv];unfold Aa1;simp only[hbool,Bool.and_true];cases wt <;> cases b <;> rfl
   |false=>
    rw[q7 (guard_false.2 hc)];simp[undef]
  ·exact absurd hdj (q1 j (by omega) hDj)
theorem CY1 (hL:D6 P base ops.toList s₀ ts s')(h0:s₀.rs=[]){i:Nat}{o:Oper}{t:TI}(ho:ops[i]? = some o)(ht:ts[i]? = some t){D:Nat→Bool}{a:Act}{w:World}{ow:Nat→A1}{bx:Bx}
  (hS:Aa0 ow bx w base s'.rs ts.length D a) (hsz:a.tmps.size=base.length) (hag:∀u∈o.looksAt ops,∀k,k<ts.length→F1 s'.rs k=some u→(D k=true↔k<i)) (hch:chainB s'.rs t.ch=true) (hg:O1 ow w):
  F5 ow bx w (M3 base t.s.rs t.ch o.op) a.eval o.op:=by
 obtain⟨hr,hl,more,hm⟩:=AA1 hL h0 ho ht;have hlook:∀x∈o.op.operands,∀u,x = .tmp u→u∈o.looksAt ops:=by intro x hx u he;subst he;unfold Oper.looksAt;exact Et8 _ (List.mem_filterMap.2 ⟨.tmp u,by simpa using hx,rfl⟩)
 have usual:∀x∈o.op.operands,A0 ow bx w (W6 base t.s.rs t.ch x) (a.eval x):=fun x hx=>CX9 hL h0 ho ht hS hsz hag hch hg x (hlook x hx)
 unfold F5;split
 ·rename_i c x y hop
  rw[hop] at usual hlook;rw[hop];cases c with
  |tmp cu=>
   cases hlr:I0 t.s.rs cu t.s.rs.length with
   |none=>
    unfold M3;simp only[hlr];exact⟨usual (.tmp cu) (by simp[Op.operands]),fun b _=>⟨fun _=>usual x (by simp[Op.operands]),fun _=>usual y (by simp[Op.operands])⟩⟩
   |some jr=>
    obtain⟨j,rj⟩:=jr;have hcs:A0 ow bx w (Y8 base t.s.rs t.ch cu) (a.eval (.tmp cu)):=usual (.tmp cu) (by simp[Op.operands])
    obtain⟨k1,k2,k3,k4⟩:=(Ai2 t.s.rs cu t.s.rs.length).1 j rj hlr;have hA:M3 base t.s.rs t.ch (.pick (.tmp cu) x y) (.tmp cu)=Y8 base t.s.rs t.ch cu:=by unfold M3;simp only[hlr,Et3]
    refine⟨by rw[hA];exact hcs,fun b hb=> ?_⟩
    rw[hA] at hb;have hbj:W5 s'.rs j=b:=by
     unfold Y8 at hb;rw[hlr] at hb;simp only at hb;split at hb
     ·unfold W5 recAt
      rw[hm,Es0 k1,k2];simp[hb]
     ·cases hb
    have look:∀(v:Operand) (wt:Bool),v∈o.op.operands→b=wt→∀u,v = .tmp u→A0 ow bx w (Y8 base t.s.rs ((j,wt)::t.ch) u) (a.eval (.tmp u)):=by
     intro v wt hv hbw u hu;refine Bc3 hL h0 ho ht hS hsz (hag u (by rw[hop] at hv;exact hlook v hv u hu)) ?_
     rw[BI6,hch,Bool.and_true];unfold Aa1;simp only[hbj,hbw];cases wt <;> rfl
    have opx:∀(v:Operand) (wt:Bool),v∈o.op.operands→b=wt→(x=v∧wt=true∨y=v∧wt=false)→A0 ow bx w (M3 base t.s.rs t.ch (.pick (.tmp cu) x y) v) (a.eval v):=by
     intro v wt hv hbw hxy;unfold M3;simp only[hlr];cases v with
     |tmp u=>
      simp only;split
      ·exact usual (.tmp u) (by rw[hop] at hv;exact hv)
      ·split
       ·rename_i t'' cc
        split
        ·rename_i hb2
         have:=Er6 hb2;subst this;rcases hxy with⟨_,hw⟩|⟨h,_⟩
         ·subst hw;exact look _ true hv hbw u rfl
         ·cases h
        ·exact .undef _
       ·rename_i cc t''
        split
        ·rename_i hb2
         have:=Er6 hb2;subst this;rcases hxy with⟨h,_⟩|⟨_,hw⟩
         ·cases h
         ·subst hw;exact look _ false hv hbw u rfl
        ·exact .undef _
       ·exact .undef _
     |const cc=>exact usual (.const cc) (by rw[hop] at hv;exact hv)
     |global gg=>exact usual (.global gg) (by rw[hop] at hv;exact hv)
     |func ff=>exact usual (.func ff) (by rw[hop] at hv;exact hv)
    exact⟨fun ht=>opx x true (by rw[hop];simp[Op.operands]) ht (.inl ⟨rfl,rfl⟩),fun hf=>opx y false (by rw[hop];simp[Op.operands]) hf (.inr ⟨rfl,rfl⟩)⟩
  |const v=>exact ⟨usual (.const v) (by simp[Op.operands]),fun b _=>⟨fun _=>usual x (by simp[Op.operands]),fun _=>usual y (by simp[Op.operands])⟩⟩
  |global g=>exact ⟨usual (.global g) (by simp[Op.operands]),fun b _=>⟨fun _=>usual x (by simp[Op.operands]),fun _=>usual y (by simp[Op.operands])⟩⟩
  |func f=>exact ⟨usual (.func f) (by simp[Op.operands]),fun b _=>⟨fun _=>usual x (by simp[Op.operands]),fun _=>usual y (by simp[Op.operands])⟩⟩
 ·rename_i hnp
  have:M3 base t.s.rs t.ch o.op=W6 base t.s.rs t.ch:=by
   unfold M3;split
   ·rename_i c a b hop
    exact absurd hop (hnp _ _ _)
   ·rfl
  rw[this];exact usual
end

section
variable {P:Program}{base:List EV}{ops:Array Oper}{s₀ s':Rg}{ts:List TI}{B:E5}
theorem Bc5 (t:TI)(o:Oper):t.s.bx.length≤(t.next o).bx.length∧(t.n.isSome=true→t.s.bx.length<(t.next o).bx.length):=by
 have hfold:∀(ws:List Wr) (bx:List (Option (List EV))),(ws.foldl K9 bx).length=bx.length:=by
  intro ws
  induction ws with
  |nil=>intro bx;rfl
  |cons x r ih=>intro bx;simp only[Eu0];rw[ih];unfold K9;split <;> simp
 unfold TI.next Rg.next AX7;cases t.n <;> simp[hfold]
theorem D6.mono:∀{l:List Oper} {s:Rg} {ts:List TI} {s':Rg},D6 P base l s ts s'→∀(i k:Nat) t u,i<k→ts[i]? = some t→ts[k]? = some u→
  t.s.bx.length≤u.s.bx.length∧(t.n.isSome=true→t.s.bx.length<u.s.bx.length)
 | [],s,[],s',h,i,k,t,u,_,ht,_=>by simp at ht
 |o::os,s,t0::ts,s',h,i,k,t,u,hik,ht,hu=>by
  obtain⟨h1,h2,h3⟩:=h;cases k with
  |zero=>omega
  |succ k=>
   cases i with
   |zero=>
    simp at ht;subst ht;have hu':ts[k]? = some u:=by simpa using hu
    have hk:k<os.length:=by rw[← h3.length];exact (Er5.1 hu').1
    obtain⟨_,_,_,_,_,_,_,g8⟩:=h3.at k _ u (Er4 hk) hu';have:=Bc5 t0 o;exact⟨by omega,fun h=>by have:=this.2 h;omega⟩
   |succ i=>exact D6.mono h3 i k t u (by omega) (by simpa using ht) (by simpa using hu)
theorem D6.Aa2:∀{l:List Oper} {s:Rg} {ts:List TI} {s':Rg},D6 P base l s ts s'→(∀a∈s.dead,a∈s'.dead)∧(∀(i:Nat) t,ts[i]? = some t→∀a∈s.dead,a∈t.s.dead)∧
  (∀a∈s'.dead,a∈s.dead∨∃(i:Nat) (t:TI),ts[i]? = some t∧a∈t.k)∧∀(i:Nat) t,ts[i]? = some t→∀a∈t.k,a∈s'.dead
 | [],s,[],s',h=>by cases h;exact⟨fun a h=>h,fun i t ht=>by simp at ht,fun a h=>.inl h,fun i t ht=>by simp at ht⟩
 |o::os,s,t0::ts,s',h=>by
  obtain⟨h1,h2,h3⟩:=h;obtain⟨g1,g2,g3,g4⟩:=D6.Aa2 h3;subst h1;have hsub:∀a∈t0.s.dead,a∈(t0.next o).dead:=by intro a ha;unfold TI.next Rg.next;simp[ha]
  have hkill:∀a∈t0.k,a∈(t0.next o).dead:=by intro a ha;unfold TI.next Rg.next;simp[ha]
  refine⟨fun a ha=>g1 a (hsub a ha),fun i t ht a ha=> ?_,fun a ha=> ?_,fun i t ht a ha=> ?_⟩
  ·cases i with
   |zero=>simp at ht;subst ht;exact ha
   |succ i=>exact g2 i t (by simpa using ht) a (hsub a ha)
  ·rcases g3 a ha with h |⟨i,t,ht,hk⟩
   ·unfold TI.next Rg.next at h
    simp only[Ev9] at h;rcases h with h | h
    ·exact .inr ⟨0,t0,rfl,h⟩
    ·exact .inl h
   ·exact .inr ⟨i+1,t,by simpa using ht,hk⟩
  ·cases i with
   |zero=>simp at ht;subst ht;exact g1 a (hkill a ha)
   |succ i=>exact g4 i t (by simpa using ht) a ha
theorem D6.Bc6:∀{l:List Oper} {s:Rg} {ts:List TI} {s':Rg},D6 P base l s ts s'→∀(i k:Nat) t u a,i<k→ts[i]? = some t→ts[k]? = some u→a∈t.k→a∈u.s.dead
 | [],s,[],s',h,i,k,t,u,a,_,ht,_,_=>by simp at ht
 |o::os,s,t0::ts,s',h,i,k,t,u,a,hik,ht,hu,hta=>by
  obtain⟨h1,h2,h3⟩:=h;cases k with
  |zero=>omega
  |succ k=>
   have hu':ts[k]? = some u:=by simpa using hu
   cases i with
   |zero=>
    simp at ht;subst ht;refine h3.Aa2.2.1 k u hu' a ?_;unfold TI.next Rg.next;simp[hta]
   |succ i=>exact D6.Bc6 h3 i k t u a (by omega) (by simpa using ht) hu' hta
theorem D6.once:∀{l:List Oper} {s:Rg} {ts:List TI} {s':Rg},D6 P base l s ts s'→∀(i k:Nat) t u a,i<k→ts[i]? = some t→ts[k]? = some u→a∈t.k→a∉u.k
 | [],s,[],s',h,i,k,t,u,a,_,ht,_,_=>by simp at ht
 |o::os,s,t0::ts,s',h,i,k,t,u,a,hik,ht,hu,hta=>by
  obtain⟨h1,h2,h3⟩:=h;cases k with
  |zero=>omega
  |succ k=>
   have hu':ts[k]? = some u:=by simpa using hu
   cases i with
   |zero=>
    simp at ht;subst ht;have hk:k<os.length:=by rw[← h3.length];exact (Er5.1 hu').1
    obtain⟨g1,_⟩:=h3.at k _ u (Er4 hk) hu';intro hua;refine g1.fresh a hua (h3.Aa2.2.1 k u hu' a ?_);unfold TI.next Rg.next;simp[hta]
   |succ i=>exact D6.once h3 i k t u a (by omega) (by simpa using ht) hu' hta
theorem Bc7 {D:Nat→Bool}{b:Nat}:∀(ts:List TI) (k:Nat),(∀(j:Nat) t,ts[j]? = some t→D (k+j)=true→t.n.isSome=true→t.s.bx.length≠b)→foldI D ts k b none=none
 | [],_,_=>rfl
 |t::ts,k,h=>by
  simp only[foldI];have:(if D k then t.f b none else none)=none:=by
   split
   ·rename_i hd
    unfold TI.f upd P2;have hw:∀(ws:List Wr),ws.foldl K6 (fun _=>none) b=none:=by
     intro ws;have:=AZ6 ws (fun _=>none) b
     simpa using this
    cases hn:t.n with
    |none=>exact hw _
    |some cs=>
     simp only;rw[if_neg (fun e=>h 0 t rfl (by simpa using hd) (by rw[hn];rfl) e.symm)]
     exact hw _
   ·rfl
  rw[this];exact Bc7 ts (k+1) fun j t ht hd=>h (j+1) t (by simpa using ht) (by rw[show k+(j+1)=k+1+j by omega];exact hd)
theorem Ai3.add {D:Nat→Bool}{R:List Rec}{n u i:Nat}{m:Option Nat}(hi:F1 R i≠some u)(h:Ai3 D R n u m):Ai3 (G8 D i) R n u m:=by
 have hadd:∀k,G8 D i k=true→k=i∨D k=true:=by
  intro k hk;unfold G8 at hk;split at hk
  ·rename_i e;exact .inl e
  ·exact .inr hk
 cases m with
 |none=>
  intro k h1 h2;rcases hadd k h2 with rfl | h2
  ·exact hi
  ·exact h k h1 h2
 |some m=>
  obtain⟨h1,h2,h3,h4⟩:=h;refine⟨h1,by unfold G8;split <;> simp_all,h3,fun k k1 k2 k3=> ?_⟩
  rcases hadd k k3 with rfl | k3
  ·exact hi
  ·exact h4 k k1 k2 k3
theorem Bc8 (hL:D6 P base ops.toList s₀ ts s')(h0:s₀.rs=[]){i:Nat}{o:Oper}{t:TI}(ho:ops[i]? = some o)(ht:ts[i]? = some t){D:Nat→Bool}(hD:D i=false)
  (hagS:∀u∈o.looksAt ops,∀k,k<ts.length→F1 s'.rs k=some u→(D k=true↔k<i))
  (hagB:∀b∈t.tr,∀(k:Nat) u,ts[k]? = some u→b∈u.wrs→(D k=true↔k<i))
  (hpostS:∀k,i<k→k<ts.length→D k=true→∀u,F1 s'.rs k=some u→o.dst≠some u)
  (hpostB:∀(k:Nat) u,i<k→ts[k]? = some u→D k=true→∀b∈u.wrs,b∉t.wrs)
  {a:Act} {w:World} (hst:StD B base ts s' (A3 s₀.bx) D a w) {K:Act→World→Prop} {Q:Exit→Act→World→Prop} (hK:∀a' w',StD B base ts s' (A3 s₀.bx) (G8 D i) a' w'→K a' w'):
  wpOp P ops Q i K a w:=by
 obtain⟨ow,bx,hinv,hS,hsz,hdef,hdead,hwit⟩:=hst;have hfresh:∀k∈t.k,bx.dead k=false:=by
  intro k hk;cases hb:bx.dead k with
  |false=>rfl
  |true=>
   obtain⟨j,u,hj,hDj,huk⟩:=(hdead k).1 hb;rcases Ew6 j i with h | h | h
   ·exact absurd hk (hL.once j i u t k h hj ht huk)
   ·subst h;rw[hD] at hDj;cases hDj
   ·exact absurd huk (hL.once i j t u k h ht hj hk)
 have hused:∀k∈t.us,bx.dead k=false:=by
  intro k hk;obtain⟨g1,_⟩:=hL.at i o t (by simpa using ho) ht
  obtain⟨u1,u2⟩:=g1.used k hk;cases hb:bx.dead k with
  |false=>rfl
  |true=>
   obtain⟨j,u,hj,hDj,huk⟩:=(hdead k).1 hb;have hw:k+AJ4∈u.wrs:=by
    unfold TI.wrs;cases u.n with
    |none=>exact Eu3 _ (Es9.2 ⟨k,huk,rfl⟩)
    |some cs=>exact Et7 _ (Eu3 _ (Es9.2 ⟨k,huk,rfl⟩))
   have hji:=(hagB _ u1 j u hj hw).1 hDj;exact absurd (hL.Bc6 j i u t k hji hj ht huk) u2
 have hwits:∀{ow':Nat→A1} {bx':Bx} {w':World},E0 ow bx w ow' bx' w'→(∀p∈t.up,∃v,A0 ow' bx' w' (.fre p.1 p.2.1 p.2.2) v)→
   ∀(j:Nat) u,ts[j]? = some u→G8 D i j=true→∀p∈u.up,∃v,A0 ow' bx' w' (.fre p.1 p.2.1 p.2.2) v:=by
  intro ow' bx' w' hk hnew j u hj hd p hp;unfold G8 at hd;split at hd
  ·rename_i e
   subst e;rw[ht] at hj;cases hj;exact hnew p hp
  ·obtain⟨v,hv⟩:=hwit j u hj hd p hp
   exact⟨v,hv.keep hk⟩
 have hadd:∀{bx':Bx},(∀j,bx'.dead j=(bx.dead j||F4 t.k j))→Bc2 (G8 D i) ts bx':=by
  intro bx' hb j;rw[hb,Eu9];constructor
  ·rintro (h | h)
   ·obtain⟨m,u,h1,h2,h3⟩:=(hdead j).1 h
    exact⟨m,u,h1,by unfold G8;split <;> simp_all,h3⟩
   ·refine⟨i,t,ht,by simp[G8],?_⟩
    unfold F4 at h;rw[Eu2] at h;obtain⟨k,hk,hkj⟩:=h;rw[← Er6 hkj];exact hk
  ·rintro⟨m,u,h1,h2,h3⟩
   unfold G8 at h2;split at h2
   ·rename_i e
    subst e;rw[ht] at h1;cases h1
    right
    unfold F4;rw[Eu2];exact⟨j,h3,Et3 j⟩
   ·exact .inl ((hdead j).2 ⟨m,u,h1,h2,h3⟩)
 obtain⟨g1,_,_,_,_,g6,g7,g8⟩:=hL.at i o t (by simpa using ho) ht
 obtain⟨hr,hl,more,hm⟩:=AA1 hL h0 ho ht;have hi:i<ts.length:=(Er5.1 ht).1;have hwant:=CY0 (w:=w) hL h0 ho ht hS hsz hagS;have hdsti:F1 s'.rs i=o.dst:=by unfold F1;rw[hr]
 have hboxes:∀b,upd (fun b=>foldI D ts 0 b (A3 s₀.bx b)) t.s.bx.length t.n t.ws b=foldI (G8 D i) ts 0 b (A3 s₀.bx b):=by intro b;rw[Bb3];exact Bb5 ts 0 _ t (Nat.zero_le _) (by simpa using ht) hD fun j u hj hu hd hb=>hpostB j u (by omega) hu (by simpa using hd) b hb
 have C1:∀{ow' bx' w'} (u:Value),E0 ow bx w ow' bx' w'→(chainB s'.rs t.ch=true→A0 ow' bx' w' t.v u)→(chainB s'.rs t.ch=false→u=undef)→
   Aa0 ow' bx' w' base s'.rs ts.length (G8 D i) (a.put o.dst u)∧(a.put o.dst u).tmps.size=base.length∧(a.put o.dst u).defers=[]:=by
  intro ow' bx' w' u hk hu1 hu2;refine⟨fun x hx=> ?_,?_,?_⟩
  ·by_cases hox:o.dst=some x
   ·refine .inl ⟨i,_,⟨hi,by simp[G8],by rw[hdsti];exact hox,fun k k1 k2 k3 hk'=> ?_⟩,hr,fun hg=> ?_,fun hg=> ?_⟩
    ·have:D k=true:=by unfold G8 at k3;rw[if_neg (by omega)] at k3;exact k3
     exact hpostS k k1 k2 this x hk' hox
    ·have:(a.put o.dst u).tmps.getD x undef=u:=by
      rw[hox];unfold Act.put;have:x<a.tmps.size:=by omega
      simp[this]
     rw[this];exact hu1 (guard_true.1 hg)
    ·have:(a.put o.dst u).tmps.getD x undef=u:=by
      rw[hox];unfold Act.put;have:x<a.tmps.size:=by omega
      simp[this]
     rw[this];exact hu2 (guard_false.1 hg)
   ·have hne:F1 s'.rs i≠some x:=by rw[hdsti];exact hox
    have hget:(a.put o.dst u).tmps.getD x undef=a.tmps.getD x undef:=by
     cases hd:o.dst with
     |none=>rfl
     |some d=>
      have:d≠x:=fun e=>hox (by rw[hd,e])
      unfold Act.put;simp[Array.getElem?_setIfInBounds_ne this]
    rw[hget];rcases hS x hx with⟨m,r,q1,q2,q3,q4⟩|⟨q1,q2⟩
    ·exact .inl ⟨m,r,q1.add hne,q2,fun hg=>(q3 hg).keep hk,q4⟩
    ·exact .inr ⟨q1.add hne,fun e he=>(q2 e he).keep hk⟩
  ·unfold Act.put;cases o.dst <;> simp[hsz]
  ·unfold Act.put;cases o.dst <;> simp[hdef]
 unfold wpOp;simp only[ho,hwant];cases hc:chainB s'.rs t.ch with
 |false=>
  simp only[Ey5,if_false];have hne:guardOf t.s.rs t.ch=some false:=by rw[← Bc4 hL h0 ho ht];exact guard_false.2 hc
  obtain⟨q1,q2⟩:=g1.quiet hne;obtain⟨k1,k2,k3⟩:=C1 undef (E0.refl _ _ _) (fun h=>by rw[hc] at h;cases h) (fun _=>rfl)
  refine hK _ _ ⟨ow,bx,?_,k1,k2,k3,hadd fun j=>by rw[g1.CX6 hne];simp[F4],hwits (E0.refl _ _ _) fun p hp=>by rw[g1.upq hne] at hp;cases hp⟩
  have:(fun b=>foldI (G8 D i) ts 0 b (A3 s₀.bx b))=fun b=>foldI D ts 0 b (A3 s₀.bx b):=by funext b;rw[← hboxes b,q1,q2];rfl
  rw[this];exact hinv
 |true=>
  simp only[if_true];refine .inl ?_;have hgf:guardOf t.s.rs t.ch≠some false:=by rw[← Bc4 hL h0 ho ht];exact guard_true.2 hc
  refine g1.go hgf B ow bx s'.bx.length _ w a hinv (CY1 hL h0 ho ht hS hsz hagS hc hinv.AQ6) (fun b hb=> ?_) (fun hn=>⟨?_,g7 hn⟩) hfresh hused K Q fun u ow' bx' w' hk hu hinv' hdd hup=> ?_
  ·rw[hL.Bb6 i t 0 b ht]
   refine Ai1 ts 0 _ fun j v hv hbv=> ?_
   have:=hagB b hb j v hv hbv;rw[Et4,Et4];cases hdj:D j with
   |true=>exact (decide_eq_true (this.1 hdj)).symm
   |false=>
    have:¬j<i:=fun h=>by have:=this.2 h;rw[hdj] at this;cases this
    exact (decide_eq_false this).symm
  ·have:A3 s₀.bx t.s.bx.length=none:=by
    unfold A3;rw[Ev8 (by omega)]
   rw[this];refine Bc7 ts 0 fun j v hv hd hvn=> ?_
   rw[Et4] at hd;have hji:j≠i:=fun e=>by rw[e,hD] at hd;cases hd
   by_cases hlt:j<i
   ·have:=(hL.mono j i v t hlt hv ht).2 hvn
    omega
   ·have:=(hL.mono i j t v (by omega) ht hv).2 hn
    omega
  ·obtain⟨k1,k2,k3⟩:=C1 u hk (fun _=>hu) (fun h=>by rw[hc] at h;cases h)
   refine hK _ _ ⟨ow',bx',?_,k1,k2,k3,hadd hdd,hwits hk hup⟩;have:(fun b=>foldI (G8 D i) ts 0 b (A3 s₀.bx b))=upd (fun b=>foldI D ts 0 b (A3 s₀.bx b)) t.s.bx.length t.n t.ws:=by funext b;rw[← hboxes b]
   rw[this];exact hinv'
theorem BI9 (hL:D6 P base ops.toList s₀ ts s')(h0:s₀.rs=[]){Q:Exit→Act→World→Prop}(hQ:∀a w,StD B base ts s' (A3 s₀.bx) (fun k=>decide (k<ts.length)) a w→Q .normal a w):
  ∀(m i:Nat) (a:Act) (w:World),i+m=ts.length→StD B base ts s' (A3 s₀.bx) (fun k=>decide (k<i)) a w→wpOps P ops Q (List.range' i m) a w:=by
 intro m
 induction m with
 |zero=>
  intro i a w hi hst;simp only[Ew9] at hi;subst hi;exact hQ a w hst
 |succ m ih=>
  intro i a w hi hst;rw[List.range'_succ,wpOps_cons];have hlen:=hL.length;obtain⟨o,ho⟩:∃o,ops[i]? = some o:=⟨_,Es6 (by simp at hlen;omega)⟩
  obtain⟨t,ht⟩:∃t,ts[i]? = some t:=⟨_,Er4 (by omega)⟩
  refine Bc8 hL h0 ho ht (by simp) (fun u hu k hk hd=>by simp) (fun b hb k u hu hbu=>by simp) (fun k h1 h2 h3=>by simp at h3;omega) (fun k u h1 h2 h3=>by simp at h3;omega) hst fun a' w' hst'=> ?_
  refine ih (i+1) a' w' (by omega) ?_
  have:(fun k=>decide (k<i+1))=G8 (fun k=>decide (k<i)) i:=by
   funext k;unfold G8;by_cases hk:k=i
   ·simp[hk]
   ·rw[if_neg hk]
    congr 1;exact propext ⟨fun h=>by omega,fun h=>by omega⟩
  rw[this];exact hst'
end

def BJ0 (ops:Array Oper)(D:Nat→Bool):Prop:=∀(k:Nat) o,ops[k]? = some o→D k=true→∀e∈o.after,Region.binds .any e=true→D e.on=true
theorem Bc9 {acc:Array Nat}{i:Nat}:∀(l:List Edge) (s:Nat),(l.foldl (fun s e=>if Region.binds .any e then s ||| 2 ^ e.on ||| acc.getD e.on 0 else s) s).testBit i=true→
  s.testBit i=true∨∃e∈l,Region.binds .any e=true∧(e.on=i∨(acc.getD e.on 0).testBit i=true)
 | [],s,h=>.inl h
 |e::r,s,h=>by
  simp only[Eu0] at h;rcases Bc9 r _ h with h |⟨e',h1,h2,h3⟩
  ·split at h
   ·rename_i hb
    rw[Nat.testBit_or,Nat.testBit_or] at h;simp only[Eu9] at h;rcases h with (h | h) | h
    ·exact .inl h
    ·refine .inr ⟨e,by simp,hb,.inl ?_⟩
     rw[Nat.testBit_two_pow] at h;simpa using h
    ·exact .inr ⟨e,by simp,hb,.inr h⟩
   ·exact .inl h
  ·exact .inr ⟨e',by simp[h1],h2,h3⟩
theorem Bd0 {ops:Array Oper}{D:Nat→Bool}(hC:BJ0 ops D):∀(k i:Nat),((Region.before ops).getD k 0).testBit i=true→D k=true→D i=true:=by
 have key:∀(l:List Oper) (acc:Array Nat) (pre:Nat),acc.size=pre→(∀(j:Nat) o,l[j]? = some o→ops[pre+j]? = some o)→
   (∀k i,(acc.getD k 0).testBit i=true→D k=true→D i=true)→
   ∀k i,((l.foldl (fun acc o=>acc.push (o.after.foldl (fun s e=>if Region.binds .any e then s ||| 2 ^ e.on ||| acc.getD e.on 0 else s) 0)) acc).getD k 0).testBit i=true→D k=true→D i=true:=by
  intro l
  induction l with
  |nil=>intro acc pre _ _ h k i;exact h k i
  |cons o r ih=>
   intro acc pre hs hl h k i;simp only[Eu0];refine ih _ (pre+1) (by simp[hs]) (fun j o' hj=>by have:=hl (j+1) o' (by simpa using hj);rwa [show pre+(j+1)=pre+1+j by omega] at this) (fun k i hb hd=> ?_) k i
   by_cases hk:k=pre
   ·subst hk
    have hg:(acc.push (o.after.foldl (fun s e=>if Region.binds .any e then s ||| 2 ^ e.on ||| acc.getD e.on 0 else s) 0)).getD k 0=o.after.foldl (fun s e=>if Region.binds .any e then s ||| 2 ^ e.on ||| acc.getD e.on 0 else s) 0:=by simp[Ex9,← hs]
    rw[hg,← Ey6] at hb;rcases Bc9 _ _ hb with hb |⟨e,he,hbind,hb⟩
    ·simp at hb
    ·have hde:=hC k o (by have:=hl 0 o rfl;simpa using this) hd e (by simpa using he) hbind
     rcases hb with hb | hb
     ·rw[← hb];exact hde
     ·exact h e.on i hb hde
   ·have hg:(acc.push (o.after.foldl (fun s e=>if Region.binds .any e then s ||| 2 ^ e.on ||| acc.getD e.on 0 else s) 0)).getD k 0=acc.getD k 0:=by
     rw[Eu7,Eu7,Array.getElem?_push];rw[if_neg (by omega)]
    rw[hg] at hb;exact h k i hb hd
 intro k i h hd;unfold Region.before at h;rw[← Ey6] at h;exact key ops.toList #[] 0 rfl (fun j o hj=>by simpa using hj) (fun k i h=>by simp at h) k i h hd
theorem Au9:∀(a b:List Nat),meets a b=false→∀x∈a,x∉b
 | [],_,_,x,h=>by simp at h
 |y::r,b,h,x,hx=>by
  simp only[meets,Eu5] at h;rcases Es7.1 hx with rfl | hx
  ·intro hb
   have:=h.1;rw[List.any_eq_false] at this;exact this x hb (by rw[Et3])
  ·exact Au9 r b h.2 x hx
theorem Bd1 {ops:Array Oper}{i:Nat}{x:Oper}{tx:List Nat×List Nat}:∀(ys:List Oper) (tys:List (List Nat×List Nat)) (ms:List Nat) (j:Nat),AX9 ops i x tx j ys tys ms=true→
  ∀(k:Nat) y,ys[k]? = some y→∃ty m,tys[k]? = some ty∧ms[k]? = some m∧(m.testBit i=true∨AB7 ops x y tx ty=true)
 | [],tys,ms,j,h,k,y,hy=>by simp at hy
 |y::ys,[],ms,j,h,k,y',hy=>by simp[AX9] at h
 |y::ys,ty::tys,[],j,h,k,y',hy=>by simp[AX9] at h
 |y::ys,ty::tys,m::ms,j,h,k,y',hy=>by
  simp only[AX9,Er7,Eu9] at h;cases k with
  |zero=>simp at hy;subst hy;exact⟨ty,m,rfl,rfl,h.1⟩
  |succ k=>
   obtain⟨ty',m',h1,h2,h3⟩:=Bd1 ys tys ms (j+1) h.2 k y' (by simpa using hy)
   exact⟨ty',m',by simpa using h1,by simpa using h2,h3⟩
theorem Bd2 {ops:Array Oper}:∀(xs:List Oper) (txs:List (List Nat×List Nat)) (ms:List Nat) (i:Nat),AJ6 ops i xs txs ms=true→
  ∀(j k:Nat) x y,j<k→xs[j]? = some x→xs[k]? = some y→∃tx ty m,txs[j]? = some tx∧txs[k]? = some ty∧ms[k]? = some m∧(m.testBit (i+j)=true∨AB7 ops x y tx ty=true)
 | [],txs,ms,i,h,j,k,x,y,hjk,hx,hy=>by simp at hx
 |x::xs,[],ms,i,h,j,k,x',y,hjk,hx,hy=>by simp[AJ6] at h
 |x::xs,tx::txs,[],i,h,j,k,x',y,hjk,hx,hy=>by simp[AJ6] at h
 |x::xs,tx::txs,m::ms,i,h,j,k,x',y,hjk,hx,hy=>by
  simp only[AJ6,Er7] at h;cases k with
  |zero=>omega
  |succ k=>
   cases j with
   |zero=>
    simp at hx;subst hx;obtain⟨ty,m',h1,h2,h3⟩:=Bd1 xs txs ms (i+1) h.1 k y (by simpa using hy)
    exact⟨tx,ty,m',rfl,by simpa using h1,by simpa using h2,by simpa using h3⟩
   |succ j=>
    obtain⟨tx',ty,m',h1,h2,h3,h4⟩:=Bd2 xs txs ms (i+1) h.2 j k x' y (by omega) (by simpa using hx) (by simpa using hy)
    exact⟨tx',ty,m',by simpa using h1,by simpa using h2,by simpa using h3,by rw[show i+(j+1)=i+1+j by omega];exact h4⟩
theorem Bd3:∀(l:List Oper) (i:Nat),AY0 l i=true→∀(k:Nat) o,l[k]? = some o→∀e∈o.after,Region.binds .any e=true→e.on<i+k
 | [],i,_,k,o,ho=>by simp at ho
 |o0::r,i,h,k,o,ho=>by
  simp only[AY0,Er7] at h;cases k with
  |zero=>
   simp at ho;subst ho;intro e he hb;have:=(Array.all_eq_true_iff_forall_mem.1 h.1) e he;simp[hb] at this;simpa using this
  |succ k=>
   intro e he hb;have:=Bd3 r (i+1) h.2 k o (by simpa using ho) e he hb
   omega
section
variable {P:Program}{base:List EV}{ops:Array Oper}{s₀ s':Rg}{ts:List TI}{B:E5}
theorem StD.congr {D D':Nat→Bool}{a:Act}{w:World}{bg₀:Nat→Option (List EV)}(h:∀k,k<ts.length→D k=D' k)(hst:StD B base ts s' bg₀ D a w):StD B base ts s' bg₀ D' a w:=by
 obtain⟨ow,bx,h1,h2,h3,h4,h5,h6⟩:=hst;refine⟨ow,bx,?_,fun u hu=> ?_,h3,h4,(fun j=>(h5 j).trans ⟨fun ⟨i,t,q1,q2,q3⟩=>⟨i,t,q1,by rw[← h i (Er5.1 q1).1];exact q2,q3⟩,fun ⟨i,t,q1,q2,q3⟩=>⟨i,t,q1,by rw[h i (Er5.1 q1).1];exact q2,q3⟩⟩),fun i t q1 q2=>h6 i t q1 (by rw[h i (Er5.1 q1).1];exact q2)⟩
 ·have:(fun b=>foldI D' ts 0 b (bg₀ b))=fun b=>foldI D ts 0 b (bg₀ b):=by
   funext b;exact Ai1 ts 0 _ fun j t ht _=>by rw[Et4];exact (h j (Er5.1 ht).1).symm
  rw[this];exact h1
 ·rcases h2 u hu with⟨m,r,⟨q1,q2,q3,q4⟩,q5⟩|⟨q1,q2⟩
  ·exact .inl ⟨m,r,⟨q1,by rw[← h m q1];exact q2,q3,fun k k1 k2 k3=>q4 k k1 k2 (by rw[h k k2];exact k3)⟩,q5⟩
  ·exact .inr ⟨fun k k1 k2=>q1 k k1 (by rw[h k k1];exact k2),q2⟩
theorem CY2 (hL:D6 P base ops.toList s₀ ts s')(h0:s₀.rs=[])(h1:s₀.tw=[])(hB:AY0 ops.toList 0=true)(hd:AJ6 ops 0 ops.toList s'.tw (Region.before ops).toList=true){Q:Exit→Act→World→Prop}
  (hQ:∀a w,StD B base ts s' (A3 s₀.bx) (fun k=>decide (k<ts.length)) a w→Q .normal a w):
  ∀(fuel:Nat) (listed:Array Bool) (a:Act) (w:World),listed.size=ops.size→((Ey8 ops.size).filter fun k=> !listed.getD k true).length=fuel→BJ0 ops (fun k=>listed.getD k false)→
   StD B base ts s' (A3 s₀.bx) (fun k=>listed.getD k false) a w→wpAny P .any ops Q fuel listed a w:=by
 have hlen:=hL.length;have hn:ts.length=ops.size:=by simpa using hlen
 have hge:∀(listed:Array Bool) (k:Nat),listed.size=ops.size→k<ops.size→listed.getD k false=listed.getD k true:=by
  intro listed k hs hk;have:k<listed.size:=by omega
  simp[Ex9,this]
 have hall:∀(listed:Array Bool),listed.size=ops.size→Region.ready .any ops listed=[]→∀k,k<ops.size→listed.getD k false=true:=by
  intro listed hs hr k
  induction k using Nat.strongRecOn with
  |_ k ih=>
   intro hk;apply Et1;intro hn;have hf:listed.getD k true=false:=by rw[← hge listed k hs hk];simpa using hn
   have:k∈Region.ready .any ops listed:=by
    rw[mem_ready];refine⟨hf,ops[k],by simp[hk],fun e he hb=> ?_⟩
    have hlt:=Bd3 ops.toList 0 hB k ops[k] (by simp[hk]) e he hb
    exact ih e.on (by omega) (by omega)
   rw[hr] at this;simp at this
 intro fuel
 induction fuel with
 |zero=>
  intro listed a w hs hc hC hst;have hno:∀k,k<ops.size→listed.getD k true=true:=by
   intro k hk;apply Et1;intro hne;have:k∈(Ey8 ops.size).filter fun k=> !listed.getD k true:=by rw[List.mem_filter];exact⟨List.mem_range.2 hk,by simpa using hne⟩
   rw[List.eq_nil_of_length_eq_zero hc] at this;simp at this
  have hready:Region.ready .any ops listed=[]:=by apply List.eq_nil_iff_forall_not_mem.2;intro k hk;have:=(mem_ready.1 hk);obtain⟨q1,o,q2,_⟩:=this;have hk':k<ops.size:=(Et5.1 q2).1;rw[hno k hk'] at q1;cases q1
  refine⟨hready,hQ a w (hst.congr fun k hk=> ?_)⟩
  rw[hall listed hs hready k (by omega)]
  exact (decide_eq_true hk).symm
 |succ fuel ih=>
  intro listed a w hs hc hC hst;refine⟨fun hready=>hQ a w (hst.congr fun k hk=> ?_),fun i hi=> ?_⟩
  ·rw[hall listed hs hready k (by omega)]
   exact (decide_eq_true hk).symm
  ·obtain⟨hun,o,ho,hedges⟩:=mem_ready.1 hi
   have hin:i<ops.size:=(Et5.1 ho).1;obtain⟨t,ht⟩:∃t,ts[i]? = some t:=⟨_,Er4 (by omega)⟩
   have hDi:listed.getD i false=false:=by rw[hge listed i hs hin];exact hun
   have hget:∀k,(listed.setIfInBounds i true).getD k false=G8 (fun k=>listed.getD k false) i k:=by
    intro k;unfold G8;by_cases hk:k=i
    ·subst hk
     have:k<listed.size:=by omega
     simp[Ex9,this]
    ·rw[if_neg hk,getD_set_ne false (fun e=>hk e.symm)]
   have hC':BJ0 ops (fun k=>(listed.setIfInBounds i true).getD k false):=by
    intro k ok hok hk e he hb;simp only[hget] at hk ⊢;unfold G8 at hk ⊢;split
    ·rfl
    ·split at hk
     ·rename_i hki
      subst hki;rw[ho] at hok;cases hok;exact hedges e he hb
     ·exact hC k ok hok hk e he hb
   have hbefore:∀k,((Region.before ops).getD k 0).testBit i=true→listed.getD k false=false:=by
    intro k hb;cases hk:listed.getD k false with
    |false=>rfl
    |true=>
     have:=Bd0 hC k i hb hk;rw[hDi] at this;cases this
   have hafter:∀k,k<i→((Region.before ops).getD i 0).testBit k=true→listed.getD k false=true:=by
    intro k hk hb;have:=Bd0 hC' i k hb (by simp only[hget,G8];simp)
    simp only[hget,G8] at this;rw[if_neg (by omega)] at this
    exact this
   have hpair:∀j k x y,j<k→ops[j]? = some x→ops[k]? = some y→((Region.before ops).getD k 0).testBit j=true∨∃tj tk,ts[j]? = some tj∧ts[k]? = some tk∧AB7 ops x y (tj.tr,tj.wrs) (tk.tr,tk.wrs)=true:=by
    intro j k x y hjk hx hy;obtain⟨tx,ty,m,d1,d2,d3,d4⟩:=Bd2 _ _ _ _ hd j k x y hjk (by simpa using hx) (by simpa using hy)
    rcases d4 with d4 | d4
    ·refine .inl ?_
     have:(Region.before ops).getD k 0=m:=by
      have d3':(Region.before ops)[k]? = some m:=by simpa using d3
      rw[Eu7,d3'];rfl
     rw[this];simpa using d4
    ·have hjn:j<ts.length:=by have:=(Et5.1 hx).1;omega
     have hkn:k<ts.length:=by have:=(Et5.1 hy).1;omega
     have tw:∀(q:Nat) (oq:Oper) (tq:List Nat×List Nat) (hq:q<ts.length),ops[q]? = some oq→s'.tw[q]? = some tq→tq=((ts[q]'hq).tr,(ts[q]'hq).wrs):=by
      intro q oq tq hq hoq htq;obtain⟨_,_,_,⟨more,hm⟩,hl,_⟩:=hL.at q oq (ts[q]'hq) (by simpa using hoq) (Er4 hq)
      rw[h1] at hl;simp at hl;rw[hm,Et2 (by omega),hl] at htq
      simp at htq;exact htq.symm
     refine .inr ⟨_,_,Er4 hjn,Er4 hkn,?_⟩;rw[← tw j x tx hjn hx d1,← tw k y ty hkn hy d2];exact d4
   have hwr:∀(k:Nat) u,ts[k]? = some u→∀b∈u.tr,b∈u.tr:=fun _ _ _ b h=>h
   refine Bc8 hL h0 ho ht (D:=fun k=>listed.getD k false) hDi ?_ ?_ ?_ ?_ hst fun a' w' hst'=> ?_
   ·
    intro u hu k hk hdk;obtain⟨ok,hok⟩:∃ok,ops[k]? = some ok:=⟨_,Es6 (by omega)⟩
    obtain⟨tk,htk⟩:∃tk,ts[k]? = some tk:=⟨_,Er4 hk⟩;obtain⟨hrk,_⟩:=AA1 hL h0 hok htk;have hdst:ok.dst=some u:=by unfold F1 at hdk;rw[hrk] at hdk;exact hdk
    rcases Ew6 k i with hlt | heq | hgt
    ·refine⟨fun _=>hlt,fun _=> ?_⟩
     rcases hpair k i ok o hlt hok ho with hb |⟨tj,tk',_,_,hap⟩
     ·exact hafter k hlt hb
     ·simp only[AB7,Er7] at hap
      exact absurd hu ((Oper.apart_spec hap.1.1.1).1 u hdst)
    ·subst heq
     rw[ho] at hok;cases hok;exact⟨fun h=>(by rw[hDi] at h;cases h),fun h=>by omega⟩
    ·refine⟨fun h=> ?_,fun h=>by omega⟩
     rcases hpair i k o ok hgt ho hok with hb |⟨tj,tk',_,_,hap⟩
     ·have:=hbefore k hb
      rw[this] at h;cases h
     ·simp only[AB7,Er7] at hap
      exact absurd hu ((Oper.apart_spec hap.1.1.1).2.2 u hdst)
   ·intro b hb k u hu hbu
    have hk:k<ts.length:=(Er5.1 hu).1;obtain⟨ok,hok⟩:∃ok,ops[k]? = some ok:=⟨_,Es6 (by omega)⟩
    rcases Ew6 k i with hlt | heq | hgt
    ·refine⟨fun _=>hlt,fun _=> ?_⟩
     rcases hpair k i ok o hlt hok ho with hbb |⟨tj,tk',e1,e2,hap⟩
     ·exact hafter k hlt hbb
     ·rw[hu] at e1;cases e1
      rw[ht] at e2;cases e2;simp only[AB7,Er7,Es5] at hap;exact absurd hb (Au9 _ _ hap.1.1.2 b hbu)
    ·subst heq
     exact⟨fun h=>(by rw[hDi] at h;cases h),fun h=>by omega⟩
    ·refine⟨fun h=> ?_,fun h=>by omega⟩
     rcases hpair i k o ok hgt ho hok with hbb |⟨tj,tk',e1,e2,hap⟩
     ·have:=hbefore k hbb
      rw[this] at h;cases h
     ·rw[ht] at e1;cases e1
      rw[hu] at e2;cases e2;simp only[AB7,Er7,Es5] at hap;exact absurd hbu (Au9 _ _ hap.2 b hb)
   ·intro k hgt hk hDk u hdk hou
    obtain⟨ok,hok⟩:∃ok,ops[k]? = some ok:=⟨_,Es6 (by omega)⟩
    obtain⟨tk,htk⟩:∃tk,ts[k]? = some tk:=⟨_,Er4 hk⟩;obtain⟨hrk,_⟩:=AA1 hL h0 hok htk;have hdst:ok.dst=some u:=by unfold F1 at hdk;rw[hrk] at hdk;exact hdk
    rcases hpair i k o ok hgt ho hok with hbb |⟨tj,tk',_,_,hap⟩
    ·have:=hbefore k hbb
     rw[this] at hDk;cases hDk
    ·simp only[AB7,Er7] at hap
     exact (Oper.apart_spec hap.1.1.1).2.1 u hou hdst
   ·intro k u hgt hu hDk b hbu hbt
    have hk:k<ts.length:=(Er5.1 hu).1;obtain⟨ok,hok⟩:∃ok,ops[k]? = some ok:=⟨_,Es6 (by omega)⟩
    rcases hpair i k o ok hgt ho hok with hbb |⟨tj,tk',e1,e2,hap⟩
    ·have:=hbefore k hbb
     rw[this] at hDk;cases hDk
    ·rw[ht] at e1;cases e1
     rw[hu] at e2;cases e2;simp only[AB7,Er7,Es5] at hap;exact Au9 _ _ hap.1.2 b hbt hbu
   ·refine ih _ a' w' (by simp[hs]) ?_ hC' (hst'.congr fun k hk=>(hget k).symm)
    have hcnt:∀(l:List Nat),l.Nodup→i∈l→(l.filter fun k=> !(listed.setIfInBounds i true).getD k true).length+1=(l.filter fun k=> !listed.getD k true).length:=by
     intro l
     induction l with
     |nil=>intro _ h;simp at h
     |cons x r ihl=>
      intro hnd hmem;rw[List.nodup_cons] at hnd;have hsame:∀(r:List Nat),i∉r→(r.filter fun k=> !(listed.setIfInBounds i true).getD k true)=r.filter fun k=> !listed.getD k true:=by intro r hr;apply List.filter_congr;intro k hk;rw[getD_set_ne true (fun e=>hr (by rw[e];exact hk))]
      by_cases hx:x=i
      ·subst hx
       have e1:(listed.setIfInBounds x true).getD x true=true:=by
        have:x<listed.size:=by omega
        simp[Ex9,this]
       rw[Ev5,Ev5,e1,hun,hsame r hnd.1];simp
      ·have hmem':i∈r:=by
        rcases Es7.1 hmem with h | h
        ·exact absurd h.symm hx
        ·exact h
       have:=ihl hnd.2 hmem';rw[Ev5,Ev5,getD_set_ne true (fun e=>hx e.symm)]
       split
       ·simp only[Ev4];omega
       ·exact this
    have:=hcnt (Ey8 ops.size) List.nodup_range (List.mem_range.2 hin);omega
end
end Go.Proofs.YthfjpkdadjemcaaGreat
