/- In which order the frames of a cycle come makes no difference, if none of a kind comes twice, and not too many come. -/
import Derived.Test.YthfjpkdadjemcaaGreatTIJ
set_option linter.unusedSimpArgs false
set_option linter.unusedVariables false
namespace Go.Proofs.YthfjpkdadjemcaaGreat
open Go Go.RowKit
def Z1 (q:Int)(b:List Int):Option Int:=if (F5 b).2=0∧(F5 b).1.2.1=q then some (F5 b).1.1 else none
def twM (m:Mal):Int:=m.2.2.2.2.1
def T4 (m:Mal)(k v:Int):Mal:=if P9 m k=true then m else AB3 m k v
theorem CK2 (m:Mal):J8 m m:=⟨rfl,rfl⟩
theorem AO1 {a b c:Mal}(h:J8 a b)(h2:J8 b c):J8 a c:=⟨h2.1.trans h.1,h2.2.trans h.2⟩
theorem BV9 {a b:Mal}(h:J8 a b):J8 b a:=⟨h.1.symm,h.2.symm⟩
theorem AW7 {q k:Int}{b:List Int}(h:Z1 q b=some k):(k=1∨k=2∨k=3∨k=4∨k=5)∧(F5 b).2=0∧(F5 b).1.2.1=q∧(F5 b).1.1=k:=by
 unfold Z1 at h;split at h
 ·rename_i h1
  obtain rfl:=Option.some.inj h;exact⟨CH4 b h1.1,h1.1,h1.2,rfl⟩
 ·cases h
theorem Ao1 {q:Int}{b:List Int}(h:Z1 q b=none)(m:Mal):J8 m (A6 q m b):=by
 unfold Z1 at h;unfold A6;split at h
 ·cases h
 ·rename_i h1
  split
  ·exact⟨rfl,rfl⟩
  ·rename_i h2
   rw[if_pos (fun h3=>h1 ⟨by simpa using h2,h3⟩)]
   exact⟨rfl,rfl⟩
theorem Af4 {q k:Int}{b:List Int}(h:Z1 q b=some k)(m:Mal):J8 (T4 m k (F5 b).1.2.2) (A6 q m b):=by
 obtain⟨_,h1,h2,h3⟩:=AW7 h;have e:A6 q m b=if P9 m k=true then (m.1,m.2.1,m.2.2.1,m.2.2.2.1,IntKind.wrap .i64 (m.2.2.2.2.1+1),m.2.2.2.2.2) else AB3 m k (F5 b).1.2.2:=by unfold A6;rw[if_neg (by simpa using h1),if_neg (by simpa using h2),h3]
 rw[e];unfold T4;split
 ·exact⟨rfl,rfl⟩
 ·exact⟨rfl,rfl⟩
theorem BE4 {m m':Mal}(h:J8 m m')(k:Int):P9 m' k=P9 m k:=by unfold P9;rw[h.1]
theorem Ei8 {k:Int}(hk:k=1∨k=2∨k=3∨k=4∨k=5)(m:Mal)(v:Int):P9 (AB3 m k v) k=true:=by
 rcases hk with rfl | rfl | rfl | rfl | rfl <;> rfl
theorem Ei9 {k:Int}(hk:k=1∨k=2∨k=3∨k=4∨k=5)(m:Mal)(v:Int):P9 (T4 m k v) k=true:=by
 unfold T4;split
 ·assumption
 ·exact Ei8 hk m v
theorem Ej0 {k j:Int}(hk:k=1∨k=2∨k=3∨k=4∨k=5)(hj:j=1∨j=2∨j=3∨j=4∨j=5)(m:Mal)(v:Int)(h:P9 m j=true):P9 (AB3 m k v) j=true:=by
 rcases hk with rfl | rfl | rfl | rfl | rfl <;> rcases hj with rfl | rfl | rfl | rfl | rfl <;> first | exact h | rfl
theorem Ej1 {q j:Int}(hj:j=1∨j=2∨j=3∨j=4∨j=5)(m:Mal)(b:List Int)(h:P9 m j=true):P9 (A6 q m b) j=true:=by
 cases hg:Z1 q b with
 |none=>rw [BE4 (Ao1 hg m)];exact h
 |some k=>
  rw[BE4 (Af4 hg m)];unfold T4;split
  ·exact h
  ·exact Ej0 (AW7 hg).1 hj m _ h
theorem Ej2 {q k:Int}{b:List Int}(h:Z1 q b=some k)(m:Mal):P9 (A6 q m b) k=true:=by rw[BE4 (Af4 h m)];exact Ei9 (AW7 h).1 m _
theorem Ej3 (m:Mal)(k v:Int):(AB3 m k v).2.2=m.2.2:=by
 unfold AB3;split
 ·rfl
 split
 ·rfl
 split
 ·rfl
 split <;> rfl
theorem BW0 {q:Int}(m:Mal)(b:List Int)(h:0≤twM m∧twM m≤100000):twM m≤twM (A6 q m b)∧twM (A6 q m b)≤twM m+1∧(A6 q m b).2.2.2.2.2=m.2.2.2.2.2:=by
 unfold A6;split
 ·exact⟨Int.le_refl _,by show twM m≤twM m+1;omega,rfl⟩
 split
 ·exact⟨Int.le_refl _,by show twM m≤twM m+1;omega,rfl⟩
 split
 ·have e:IntKind.wrap .i64 (m.2.2.2.2.1+1)=m.2.2.2.2.1+1:=B0 (by unfold twM at h;omega)
  show twM m≤IntKind.wrap .i64 (m.2.2.2.2.1+1)∧IntKind.wrap .i64 (m.2.2.2.2.1+1)≤twM m+1∧m.2.2.2.2.2=m.2.2.2.2.2;rw[e];exact⟨by unfold twM;omega,by unfold twM;omega,rfl⟩
 ·have e:=Ej3 m (F5 b).1.1 (F5 b).1.2.2
  unfold twM;rw[e];exact⟨Int.le_refl _,by omega,rfl⟩
theorem Ej4 {q k:Int}{b:List Int}(hg:Z1 q b=some k)(m:Mal)(h:0≤twM m∧twM m≤100000)(hm:P9 m k=true):twM (A6 q m b)=twM m+1:=by
 obtain⟨_,h1,h2,h3⟩:=AW7 hg;unfold A6;rw[if_neg (by simpa using h1),if_neg (by simpa using h2),h3,if_pos hm]
 exact B0 (by unfold twM at h;omega)
theorem BE5 (q:Int):∀(l:List (List Int)) (m:Mal),0≤twM m→twM m+l.length≤100000→twM m≤twM (l.foldl (A6 q) m)∧twM (l.foldl (A6 q) m)≤twM m+l.length∧(l.foldl (A6 q) m).2.2.2.2.2=m.2.2.2.2.2
 | [],m,_,_=>⟨Int.le_refl _,by simp,rfl⟩
 |b::l,m,h0,h1=>by
  simp only[List.length_cons] at h1;obtain⟨a1,a2,a3⟩:=BW0 (q:=q) m b ⟨h0,by omega⟩
  obtain⟨b1,b2,b3⟩:=BE5 q l (A6 q m b) (by omega) (by omega)
  simp only[List.length_cons];refine⟨by rw[List.foldl_cons];omega,by rw[List.foldl_cons];omega,by rw[List.foldl_cons,b3,a3]⟩
theorem Ej5 {q k:Int}(l:List (List Int)):∀(m:Mal),0≤twM m→twM m+l.length≤100000→P9 m k=true→∀y∈l,Z1 q y=some k→twM m+1≤twM (l.foldl (A6 q) m):=by
 induction l with
 |nil=>
  intro m _ _ _ y hy;cases hy
 |cons b l ih=>
  intro m h0 h1 hm y hy hg;simp only[List.length_cons] at h1;obtain⟨a1,a2,_⟩:=BW0 (q:=q) m b ⟨h0,by omega⟩
  rw[List.foldl_cons];rcases List.mem_cons.1 hy with hyb | hy
  ·have e1:=Ej4 hg m ⟨h0,by omega⟩ hm
   rw[hyb] at e1;have e2:=(BE5 q l (A6 q m b) (by omega) (by omega)).1
   omega
  ·have e3:=ih (A6 q m b) (by omega) (by omega) (Ej1 (AW7 hg).1 m b hm) y hy hg
   omega
def Ao2 (q:Int)(x y:List Int):Prop:=∀k,Z1 q x=some k→Z1 q y≠some k
theorem CK3 {q:Int}:∀(l:List (List Int)) (m:Mal),0≤twM m→twM m+l.length≤100000→twM (l.foldl (A6 q) m)=twM m→l.Pairwise (Ao2 q)
 | [],_,_,_,_=>List.Pairwise.nil
 |x::l,m,h0,h1,h=>by
  simp only[List.length_cons] at h1;rw[List.foldl_cons] at h;obtain⟨a1,a2,_⟩:=BW0 (q:=q) m x ⟨h0,by omega⟩
  have b1:=(BE5 q l (A6 q m x) (by omega) (by omega)).1
  refine List.Pairwise.cons (fun y hy k hx hyk=> ?_) (CK3 l (A6 q m x) (by omega) (by omega) (by omega))
  have:=Ej5 l (A6 q m x) (by omega) (by omega) (Ej2 hx m) y hy hyk
  omega
theorem Ej6 {k j:Int}(hk:k=1∨k=2∨k=3∨k=4∨k=5)(hj:j=1∨j=2∨j=3∨j=4∨j=5)(h:k≠j)(m:Mal)(v u:Int):T4 (T4 m k v) j u=T4 (T4 m j u) k v:=by
 obtain⟨⟨a0,a1,a2,a3,a4,a5⟩,⟨v0,v1,v2,v3,v4,v5⟩,c⟩:=m;rcases hk with rfl | rfl | rfl | rfl | rfl <;> rcases hj with rfl | rfl | rfl | rfl | rfl <;> first
  |exact absurd rfl h
  | (cases a1 <;> cases a2 <;> cases a3 <;> cases a4 <;> cases a5 <;> rfl)
theorem CK4 {m m':Mal}(h:J8 m m')(k v:Int):J8 (T4 m k v) (T4 m' k v):=by
 unfold T4;rw[BE4 h k];split
 ·exact h
 ·obtain⟨m1,m2,c⟩:=m
  obtain⟨n1,n2,d⟩:=m';obtain⟨h1,h2⟩:=h;simp only at h1 h2;subst h1 h2;unfold AB3;split
  ·exact⟨rfl,rfl⟩
  split
  ·exact⟨rfl,rfl⟩
  split
  ·exact⟨rfl,rfl⟩
  split <;> exact⟨rfl,rfl⟩
theorem Ej7 {q:Int}{x y:List Int}(h:Ao2 q x y)(m:Mal):J8 (A6 q (A6 q m x) y) (A6 q (A6 q m y) x):=by
 cases hx:Z1 q x with
 |none=>exact AO1 (BV9 (BE2 (Ao1 hx m) q y)) (Ao1 hx _)
 |some k=>
  cases hy:Z1 q y with
  |none=>exact AO1 (BV9 (Ao1 hy _)) (BE2 (Ao1 hy m) q x)
  |some j=>
   have hkj:k≠j:=fun e=>h k hx (by rw[hy,e])
   have s1:J8 (T4 (T4 m k (F5 x).1.2.2) j (F5 y).1.2.2) (A6 q (A6 q m x) y):=AO1 (CK4 (Af4 hx m) j _) (Af4 hy _);have s2:J8 (T4 (T4 m j (F5 y).1.2.2) k (F5 x).1.2.2) (A6 q (A6 q m y) x):=AO1 (CK4 (Af4 hy m) k _) (Af4 hx _);rw[Ej6 (AW7 hx).1 (AW7 hy).1 hkj] at s1;exact AO1 (BV9 s1) s2
theorem CK5 {q:Int}{x:List Int}:∀(l:List (List Int)) (m:Mal),(∀y∈l,Ao2 q x y)→J8 (l.foldl (A6 q) (A6 q m x)) (A6 q (l.foldl (A6 q) m) x)
 | [],m,_=>CK2 _
 |y::l,m,h=>by rw[List.foldl_cons,List.foldl_cons];exact AO1 (BE3 q l (Ej7 (h y (by simp)) m)) (CK5 l (A6 q m y) fun z hz=>h z (by simp[hz]))
theorem CK6 {q:Int}:∀(l:List (List Int)) (m:Mal),l.Pairwise (Ao2 q)→J8 (l.foldl (A6 q) m) (l.reverse.foldl (A6 q) m)
 | [],m,_=>CK2 _
 |x::l,m,h=>by have h2:=List.pairwise_cons.1 h;rw[List.reverse_cons,List.foldl_append,List.foldl_cons];exact AO1 (CK5 l m h2.1) (BE2 (CK6 l m h2.2) q x)
def AW8 (q:Int×(Int×(Int×Int))):Prop:=¬0<IntKind.wrap .i64 (q.2.2.1+q.2.2.2)
theorem Ej8 {k:Nat}{L:List (List Int)}(hL:L.length≤40)(h:AW8 (P1 (k:Int) L).2.2):J8 (P1 (k:Int) L) (P1 (k:Int) L.reverse):=by
 unfold P1 at h ⊢;generalize bits .i64 .and (k:Int) 255=q at*;have hb:D5 L=if L.length≤32 then 0 else (L.length:Int)-32:=by
  unfold D5;by_cases h1:L.length≤32
  ·rw[if_neg (by omega),if_pos h1,Int.sub_self]
   rfl
  ·rw[if_pos (by omega),if_neg h1]
   exact B0 (by omega)
 have hm0:twM (D8 (D5 L))=0:=rfl;have ht:=BE5 q (L.take 32) (D8 (D5 L)) (by rw[hm0];omega) (by rw[hm0,List.length_take];omega)
 rw[hm0] at ht;obtain⟨t1,t2,t3⟩:=ht;have e:(D8 (D5 L)).2.2.2.2.2=D5 L:=rfl;rw[e] at t3;unfold AW8 at h;rw[t3] at h;have hlt:(L.take 32).length≤32:=by rw[List.length_take];omega
 have hsum:IntKind.wrap .i64 (((L.take 32).foldl (A6 q) (D8 (D5 L))).2.2.2.2.1+D5 L)=twM ((L.take 32).foldl (A6 q) (D8 (D5 L)))+D5 L:=by
  have hr:0≤D5 L∧D5 L≤40:=by rw[hb];split <;> omega
  exact B0 (by unfold twM at t1 t2;omega)
 rw[hsum,hb] at h;have hlen:L.length≤32:=by apply Classical.byContradiction;intro hc;rw[if_neg hc] at h;rw[hb,if_neg hc] at t1;omega
 rw[if_pos hlen] at h;rw[hb,if_pos hlen] at t1 ⊢;have hp:L.Pairwise (Ao2 q):=by
  have:=CK3 (q:=q) L (D8 0) (by show (0:Int)≤0;omega) (by show (0:Int)+L.length≤100000;omega) (by
   rw[List.take_of_length_le hlen] at h t1;show twM (L.foldl (A6 q) (D8 0))=0;omega)
  exact this
 have hb2:J8 (D8 0) (D8 (D5 L.reverse)):=⟨rfl,rfl⟩;rw[List.take_of_length_le hlen,List.take_of_length_le (by rw[List.length_reverse];exact hlen)]
 exact AO1 (CK6 L (D8 0) hp) (BE3 q L.reverse hb2)
theorem Ej9 (m:Mal)(cmd:Bool)(cy:Int)(s:A7):Al (U7 m cmd cy s) fun y=>y.1.2.2.2.2.2.2.2.2.2.2.2.2.2.2.2.2.2.2.2.2.2=m.2.2:=by
 rw[BE0];unfold AB4;refine Al.bnd fun y _=>Al.bnd fun z _=>Al.bnd fun x _=>Al.bnd fun s4 _=> ?_
 unfold AI4;refine Al.bnd fun w _=>Al.bnd fun pl _=>Al.bnd fun st _=>Al.bnd fun ro _=>Al.bnd fun r hr=>Al.some ?_
 have:Al (Y5 {s4 with watch:=w,place:=pl,still:=st,E7:=ro} y.1 cy x.2.2.2 (!x.2.2.1) m.2.2) fun r=>r.2.2.2.2.2.2.2.2.2.2.2.2.2.2.2.2.2.2.2.2.2=m.2.2:=by unfold Y5;exact Al.bnd fun nm _=>Al.bnd fun md _=>Al.cnd (fun _=>Al.some rfl) fun _=>Al.chk (Al.bnd fun rts _=>Al.bnd fun fr _=>Al.cnd (fun _=>Al.bnd fun pm _=>Al.some rfl) fun _=>Al.some rfl)
 exact this r hr
def AO2 (x:Cyc):Cyc:=(x.1.reverse,x.2)
theorem Ek0 (l:List Cyc)(hl:l.length≤999)(hF:∀x∈l,FOK x.1)(h40:∀x∈l,x.1.length≤40)(s:A7)(hs:SOK s)(hc:s.C5=0):
  ∃rs,goN s l=some rs∧rs.length=l.length∧((∀r∈rs,AW8 r.2.2.2.2.2.2.2.2.2.2.2.2.2.2.2.2.2.2.2.2.2)→∃rs',goN s (l.map AO2)=some rs'∧Y3 rs rs'=some true):=by
 obtain⟨rs,hr,hlen,hok⟩:=BD4 l s hs hF;refine⟨rs,hr,hlen,fun hP=> ?_⟩
 have hF':∀x∈l.map AO2,FOK x.1:=by intro x hx b hb;obtain⟨y,hy,rfl⟩:=List.mem_map.1 hx;exact hF y hy b (List.mem_reverse.1 hb)
 obtain⟨rs',h1,h2,h3⟩:=CJ6 (fun r=>AW8 r.2.2.2.2.2.2.2.2.2.2.2.2.2.2.2.2.2.2.2.2.2) l (l.map AO2) hl (by simp) hF hF' s hs hc rs hP hr (fun i x x' hx hx' hi=>by
  obtain⟨hlt,rfl⟩:=List.getElem?_eq_some_iff.1 hx;rw[List.getElem?_map,hx] at hx';obtain rfl:=Option.some.inj hx';refine⟨rfl,fun s y hPy hbr hy=>Ej8 (h40 _ (List.getElem_mem hlt)) ?_⟩
  have:=Ej9 _ _ _ _ y hy
  rwa [this] at hPy)
 exact⟨rs',h1,CJ5 h2 (by omega) hok h3⟩
theorem Ek1 (t:TkD)(l:List Cyc):Wp (AK2 t l) fun b=>b=true→l.length≤120∧∀x∈l,x.1.length≤40:=by
 unfold AK2;refine Wp.cnd (fun _=>Wp.some fun h=>by cases h) fun hc=> ?_
 have hl:t.1.length≤50∧l.length≤120:=by simp at hc;omega
 refine Wp.bnd (Q:=fun z=>∀b,z = .inl b→b=false) ?_ fun z hz=> ?_
 ·refine Wp.loop (fun i=>0≤i∧i≤(t.1.length:Int)) (fun i=>((t.1.length:Int)-i).toNat) ?_ ⟨by simp,by simp⟩
  rintro i ⟨h0,h1⟩
  refine Wp.cnd (fun hc=> ?_) fun _=>Wp.some (fun b h=>by cases h)
  have hi:i<(t.1.length:Int):=by simpa using hc
  have hw:=J7 h0 hi (by omega)
  refine Wp.chk (by simp only[Bool.and_eq_true,decide_eq_true_eq];exact⟨h0,hi⟩) (Wp.chk (by simp only[Bool.or_eq_true,Bool.and_eq_true,decide_eq_true_eq];exact .inl ⟨h0,hi⟩) (Wp.cnd (fun _=>Wp.some (fun b h=>by cases h;rfl)) fun _=>Wp.some ?_))
  simp only[hw];exact⟨⟨by omega,by omega⟩,by omega⟩
 ·rcases z with z | z
  ·obtain rfl:=hz z rfl
   exact Wp.some fun h=>by cases h
  ·refine Wp.bnd (Q:=fun z=>(∀b,z = .inl b→b=false)∧((∃u,z = .inr u)→∀x∈l,x.1.length≤40)) ?_ fun z hz=> ?_
   ·refine Wp.loop (fun i=>(0≤i∧i≤(l.length:Int))∧∀k:Nat,(k:Int)<i→(l.getD k ([],false)).1.length≤40) (fun i=>((l.length:Int)-i).toNat) ?_ ⟨⟨by simp,by simp⟩,fun k hk=>by omega⟩
    rintro i ⟨⟨h0,h1⟩,hk40⟩
    refine Wp.cnd (fun hc=> ?_) fun hc=>Wp.some ⟨fun b h=>(by cases h),fun _ x hx=> ?_⟩
    ·have hi:i<(l.length:Int):=by simpa using hc
     have hw:=J7 h0 hi (by omega)
     refine Wp.chk (by simp only[Bool.and_eq_true,decide_eq_true_eq];exact⟨h0,hi⟩) (Wp.cnd (fun _=>Wp.some ⟨fun b h=>(by cases h;rfl),fun h=>by obtain⟨u,h⟩:=h;cases h⟩) fun hc2=>Wp.chk (by simp only[Bool.and_eq_true,decide_eq_true_eq];exact⟨h0,hi⟩) (Wp.bnd (Q:=fun z=>∀b,z = .inl b→b=false) ?_ fun z hz=> ?_))
     ·have h40:(l.getD i.toNat ([],false)).1.length≤40:=by
       simp only[decide_eq_false_iff_not] at hc2;omega
      generalize (l.getD i.toNat ([],false)).1=y at h40;refine Wp.loop (fun i=>0≤i∧i≤(y.length:Int)) (fun i=>((y.length:Int)-i).toNat) ?_ ⟨by simp,by simp⟩
      rintro k ⟨k0,k1⟩
      refine Wp.cnd (fun hc=> ?_) fun _=>Wp.some (fun b h=>by cases h)
      have hk:k<(y.length:Int):=by simpa using hc
      have hw:=J7 k0 hk (by omega)
      refine Wp.chk (by simp only[Bool.and_eq_true,decide_eq_true_eq];exact⟨k0,hk⟩) (Wp.cnd (fun _=>Wp.some (fun b h=>by cases h;rfl)) fun _=>Wp.some ?_)
      simp only[hw];exact⟨⟨by omega,by omega⟩,by omega⟩
     ·rcases z with z | z
      ·obtain rfl:=hz z rfl
       exact Wp.some ⟨fun b h=>(by cases h;rfl),fun h=>by obtain⟨u,h⟩:=h;cases h⟩
      ·refine Wp.some ?_
       have h40:(l.getD i.toNat ([],false)).1.length≤40:=by simp only[decide_eq_false_iff_not] at hc2;omega
       simp only[hw];refine⟨⟨⟨by omega,by omega⟩,fun k hk=> ?_⟩,by omega⟩
       by_cases hki:(k:Int)<i
       ·exact hk40 k hki
       ·have:k=i.toNat:=by omega
        rw[this];exact h40
    ·have hi:i=(l.length:Int):=by
      simp at hc;omega
     obtain⟨k,hk,rfl⟩:=List.mem_iff_getElem.1 hx;have:=hk40 k (by omega)
     rwa [P7 hk] at this
   ·rcases z with z | z
    ·obtain rfl:=hz.1 z rfl
     exact Wp.some fun h=>by cases h
    ·exact Wp.some fun _=>⟨hl.2,hz.2 ⟨z,rfl⟩⟩
theorem Ek2 (x:List (List Int)){i:Nat}(h:i<x.length):x.getD (x.length-1-i) []=x.reverse.getD i []:=by rw[P7 (by omega),P7 (by simpa using h),List.getElem_reverse]
theorem Ek3 (c:Cfg)(t:TkD)(l:List Cyc)(hs:t.1.length≤200→∀s∈t.1,s.2.1.length≤big∧s.2.2.length≤big)(hN:Af0 t)(hF:∀x∈l,FOK x.1):BA4 c t l=some true:=by
 unfold BA4;obtain⟨b,hb,hq⟩:=Ek1 t l;rw[hb];simp only[Option.bind_some,BV1];cases b with
 |false=>rfl
 |true=>
  obtain⟨hl,h40⟩:=hq rfl;simp only[Bool.not_true,cond_false];refine AI2 l.length (fun i=>((l.take i).map AO2,(i:Int))) (l.map AO2) rfl ?_ ?_ ?_
  ·intro i hi
   have e1:(decide ((i:Int)<(l.length:Int)))=true:=by simpa using hi
   have e2:(decide ((0:Int)≤(i:Int)))=true:=by simp
   have e5:=q9 i (by omega)
   have hm:(l.getD i ([],false)).1.length≤40:=h40 _ (by simp[List.getD,hi])
   have hA:(l.take (i+1)).map AO2=(l.take i).map AO2++[((l.getD i ([],false)).1.reverse,(l.getD i ([],false)).2)]:=by rw[← Ae6 (d:=([],false)) hi,List.map_append];rfl
   obtain⟨x,hx⟩:∃x,l.getD i ([],false)=x:=⟨_,rfl⟩;rw[hx] at hm hA;simp only[e1,e2,cond_true,Bool.and_self,P6,Int.toNat_natCast,e5,hx,hA];refine AI2 x.1.length (fun j=>(x.1.reverse.take j,(j:Int))) x.1.reverse rfl ?_ ?_ ?_
   ·intro j hj
    have f1:(decide ((j:Int)<(x.1.length:Int)))=true:=by simpa using hj
    have f2:IntKind.wrap .i64 ((x.1.length:Int)-1)=(x.1.length:Int)-1:=B0 (by omega)
    have f3:IntKind.wrap .i64 ((x.1.length:Int)-1-(j:Int))=((x.1.length-1-j:Nat):Int):=by
     rw[B0 (by omega)]
     omega
    have f4:(decide ((0:Int)≤((x.1.length-1-j:Nat):Int)))=true:=by simp
    have f5:(decide (((x.1.length-1-j:Nat):Int)<(x.1.length:Int)))=true:=by rw[decide_eq_true_eq];omega
    have f6:=q9 j (by omega)
    have f7:decide (((x.1.reverse.take j).length+([x.1.reverse.getD j []]:List (List Int)).length)*24≤140737488355328)=true:=by simp only[List.length_take,List.length_reverse,List.length_cons,List.length_nil,decide_eq_true_eq];omega
    simp only[f1,cond_true,f2,f3,f4,f5,Bool.and_self,P6,Int.toNat_natCast,f6,Ek2 x.1 hj,f7];rw[Ae6 (l:=x.1.reverse) (d:=[]) (by simpa using hj)]
   ·have f1:(decide ((x.1.length:Int)<(x.1.length:Int)))=false:=by simp
    have f2:x.1.reverse.take x.1.length=x.1.reverse:=List.take_of_length_le (by simp)
    simp only[f1,cond_false,f2]
   ·have e6:decide ((((l.take i).map AO2).length+([(x.1.reverse,x.2)]:List Cyc).length)*32≤140737488355328)=true:=by
     simp only[List.length_map,List.length_take,List.length_cons,List.length_nil,decide_eq_true_eq];omega
    simp only[e6,P6]
  ·have e1:(decide ((l.length:Int)<(l.length:Int)))=false:=by simp
   simp only[e1,cond_false,List.take_length]
  ·rcases BU7 c t hs hN with h |⟨s,hsok,h0',h1',h2',h⟩
   ·simp only[h,Option.bind_some]
    have e4:Y3 [] []=some true:=BD5 (by simp) (by simp)
    refine AI2 0 (fun i=>(i:Int)) (.inr ()) rfl (fun i hi=>absurd hi (by omega)) rfl ?_
    simp only[e4];rfl
   ·obtain⟨rs,r1,r2,r3⟩:=Ek0 l (by omega) hF h40 s hsok h0'
    rw[h l rs (by omega) r1]
    simp only[Option.bind_some];have key:∀{f:Int→Option (Int ⊕ (Bool ⊕ Unit))} {K:(Bool ⊕ Unit)→Option Bool},
      (∀n:Nat,(hn:n<rs.length)→f (n:Int)=if 0<IntKind.wrap .i64 ((rs[n]).2.2.2.2.2.2.2.2.2.2.2.2.2.2.2.2.2.2.2.2.2.2.2.1+(rs[n]).2.2.2.2.2.2.2.2.2.2.2.2.2.2.2.2.2.2.2.2.2.2.2.2) then some (.inr (.inl true)) else some (.inl ((n+1:Nat):Int)))→
      f (rs.length:Int)=some (.inr (.inr ()))→K (.inl true)=some true→((∀r∈rs,AW8 r.2.2.2.2.2.2.2.2.2.2.2.2.2.2.2.2.2.2.2.2.2)→K (.inr ())=some true)→Option.bind (LP.lp f (0:Int)) K=some true:=by
     intro f K a1 a2 a3 a4;obtain⟨z,hz,hQ⟩:=Wp.loop (f:=f) (Q:=fun z=>z = .inl true∨(z = .inr ()∧∀r∈rs,AW8 r.2.2.2.2.2.2.2.2.2.2.2.2.2.2.2.2.2.2.2.2.2)) (fun i=>∃n:Nat,n≤rs.length∧i=(n:Int)∧∀k (hk:k<rs.length),k<n→AW8 (rs[k]).2.2.2.2.2.2.2.2.2.2.2.2.2.2.2.2.2.2.2.2.2) (fun i=>((rs.length:Int)-i).toNat) (s:=0) (by
      rintro i ⟨n,hn,rfl,hk⟩
      by_cases hlt:n<rs.length
      ·rw[a1 n hlt]
       by_cases hS:0<IntKind.wrap .i64 ((rs[n]).2.2.2.2.2.2.2.2.2.2.2.2.2.2.2.2.2.2.2.2.2.2.2.1+(rs[n]).2.2.2.2.2.2.2.2.2.2.2.2.2.2.2.2.2.2.2.2.2.2.2.2)
       ·rw[if_pos hS]
        exact Wp.some (.inl rfl)
       ·rw[if_neg hS]
        refine Wp.some ⟨⟨n+1,by omega,rfl,fun k hk1 hk2=> ?_⟩,by omega⟩
        rcases Nat.lt_succ_iff_lt_or_eq.1 hk2 with h | rfl
        ·exact hk k hk1 h
        ·exact hS
      ·have:n=rs.length:=by omega
       subst this;rw[a2];refine Wp.some (.inr ⟨rfl,fun r hr=> ?_⟩)
       obtain⟨k,hk1,rfl⟩:=List.mem_iff_getElem.1 hr;exact hk k hk1 hk1) ⟨0,by omega,rfl,fun k _ hk=>absurd hk (by omega)⟩
     rw[hz];rcases hQ with rfl |⟨rfl,hQ⟩
     ·exact a3
     ·exact a4 hQ
    refine key ?_ ?_ rfl ?_
    ·intro n hn
     have e1:(decide ((n:Int)<(rs.length:Int)))=true:=by simpa using hn
     have e2:(decide ((0:Int)≤(n:Int)))=true:=by simp
     have e5:=q9 n (by omega)
     simp only[e1,e2,cond_true,Bool.and_self,P6,Int.toNat_natCast,P7 hn,e5];by_cases hS:0<IntKind.wrap .i64 ((rs[n]).2.2.2.2.2.2.2.2.2.2.2.2.2.2.2.2.2.2.2.2.2.2.2.1+(rs[n]).2.2.2.2.2.2.2.2.2.2.2.2.2.2.2.2.2.2.2.2.2.2.2.2)
     ·rw[if_pos hS,decide_eq_true hS]
      rfl
     ·rw[if_neg hS,decide_eq_false hS]
      rfl
    ·have e1:(decide ((rs.length:Int)<(rs.length:Int)))=false:=by simp
     simp only[e1,cond_false]
    ·intro hP
     obtain⟨rs',r4,r5⟩:=r3 hP;simp only;rw[h _ rs' (by rw[List.length_map];omega) r4]
     simp only[Option.bind_some];rw[r5];rfl
end Go.Proofs.YthfjpkdadjemcaaGreat
