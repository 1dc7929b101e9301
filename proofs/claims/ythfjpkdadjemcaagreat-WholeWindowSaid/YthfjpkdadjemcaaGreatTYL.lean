/- The places of a group on the ways; how fast a train may be. -/
import Derived.Test.YthfjpkdadjemcaaGreatTVX
set_option linter.unusedSimpArgs false
set_option linter.unusedVariables false
namespace Go.Proofs.YthfjpkdadjemcaaGreat
open Go Go.RowKit
open Go.IntKind renaming wrap → Fl5, wrap_i64 → Fm5
open _root_.Option renaming bind_some → Fl6
open _root_.List renaming mem_singleton → Fl7, mem_map → Fm1, mem_append → Fm2, length_map → Fm3, length_pos_iff → Fm4
open _root_.Bool renaming and_eq_true → Fl8, not_true → Fl9
open _root_.Int renaming toNat_natCast → Fm0
theorem CO5 {t:TkD}(ht:I7 t){frm lo hi:Int}{p q:List Int}(h:T5 t frm lo hi p q)(hp:OnT t p):OnT t q:=by
 induction h with
 |done _ _=>exact hp
 |step h1 h2 h3 _ ih=>exact ih (BT9 ht hp h2 h3)
def u7 (t:TkD)(frm seg off:Int)(p:List Int)(y:Int):Prop:=∃j,j<p.length∧p.getD j 0=seg∧y=Fl5 .i64 (H7 t frm (p.take j)+off)
def Y1 (t:TkD)(g:Nat):Int:=(t.2.getD g (0,0,0,0,0)).2.1
def Q0 (t:TkD)(g:Nat):Int:=(t.2.getD g (0,0,0,0,0)).2.2.1
theorem Eg6 {t:TkD}(frm:Int)(R:List (List Int))(g:Nat)(hg:g<t.2.length)(hR:R.length≤16)(hon:∀p∈R,OnT t p):Wp (Az0 t (frm,R) (g:Int)) fun l=>l.length≤12*R.length∧∀p∈R,∀y,u7 t frm (Y1 t g) (Q0 t g) p y→y∈l:=by
 unfold Az0;have eg:(decide ((0:Int)≤(g:Int))&&decide ((g:Int)<(t.2.length:Int)))=true:=by simp only[Fl8,decide_eq_true_eq];omega
 refine Wp.bnd (Q:=fun l=>l.length≤12*R.length∧∀p∈R,∀y,u7 t frm (Y1 t g) (Q0 t g) p y→y∈l) ?_ fun _ h=>Wp.some h
 refine Wp.AJ6 (fun s:Int×List Int=>∃n:Nat,n≤R.length∧s.1=(n:Int)∧s.2.length≤12*n∧∀p∈R.take n,∀y,u7 t frm (Y1 t g) (Q0 t g) p y→y∈s.2) (fun s=>((R.length:Int)-s.1).toNat) ?_ ⟨0,by omega,rfl,by simp,by simp⟩
 rintro⟨i,out⟩ ⟨n,hn,hi,hlen,hall⟩
 simp only at hi hlen hall;subst hi;refine Wp.cnd (fun hc=> ?_) fun hc=> ?_
 ·have hlt:n<R.length:=by simpa using hc
  have e1:(decide ((0:Int)≤(n:Int))&&decide ((n:Int)<(R.length:Int)))=true:=by simp only[Fl8,decide_eq_true_eq];omega
  have hw:=X7 n (by omega)
  have hm:R.getD n []∈R:=by simp[List.getD,hlt]
  have hp:=hon _ hm;have ht:=r8 (l:=R) (d:=[]) hlt;obtain⟨p,hpe⟩:∃p,R.getD n []=p:=⟨_,rfl⟩;rw[hpe] at hp ht;simp only[Fm0,hpe,hw];have h12:=hp.2.1;refine Wp.bnd (Q:=fun o=>o.length≤12*n+p.length∧(∀y∈out,y∈o)∧∀y,u7 t frm (Y1 t g) (Q0 t g) p y→y∈o) ?_ fun o ho=>Wp.some ⟨⟨n+1,by omega,rfl,by have:=ho.1;show o.length≤12*(n+1);omega,fun q hq y hy=> ?_⟩,by simp only;omega⟩
  ·refine Wp.AJ6 (fun s:List Int×(Int×Int)=>∃k:Nat,k≤p.length∧s.2.1=(k:Int)∧s.2.2=H7 t frm (p.take k)∧s.1.length≤12*n+k∧(∀y∈out,y∈s.1)∧∀j,j<k→p.getD j 0=Y1 t g→Fl5 .i64 (H7 t frm (p.take j)+Q0 t g)∈s.1) (fun s=>((p.length:Int)-s.2.1).toNat) ?_ ⟨0,by omega,rfl,rfl,by simpa using hlen,fun y hy=>hy,fun j hj=>absurd hj (by omega)⟩
   rintro⟨o,kk,at'⟩ ⟨k,hk,hkk,hat,hol,hout,hpl⟩
   simp only at hkk hat hol hout hpl;subst hkk hat;refine Wp.chk e1 ?_;refine Wp.cnd (fun hc=> ?_) fun hc=> ?_
   ·have hklt:k<p.length:=by simpa using hc
    have e3:(decide ((0:Int)≤(k:Int))&&decide ((k:Int)<(p.length:Int)))=true:=by simp only[Fl8,decide_eq_true_eq];omega
    have hwk:=X7 k (by omega)
    have hkm:=hp.2.2 (p.getD k 0) (by simp[List.getD,hklt])
    refine Wp.chk e1 (Wp.chk e3 (Wp.chk eg ?_));simp only[Fm0,hwk];refine Wp.bnd (Q:=fun o'=>o'.length≤12*n+(k+1)∧(∀y∈o,y∈o')∧(p.getD k 0=Y1 t g→Fl5 .i64 (H7 t frm (p.take k)+Q0 t g)∈o')) ?_ fun o' ho'=>Wp.chk e1 (Wp.chk e3 (Wp.chk (by simp only[Fl8,decide_eq_true_eq];exact hkm) (Wp.some ⟨⟨k+1,by omega,rfl,?_,ho'.1,fun y hy=>ho'.2.1 y (hout y hy),fun j hj hs=> ?_⟩,by simp only;omega⟩)))
    ·refine Wp.cnd (fun hs=>Wp.chk eg ?_) fun hs=>Wp.some ⟨by omega,fun y hy=>hy,fun h=> ?_⟩
     ·refine Wp.bnd (Eg1 o _ (by omega)) fun o' h=>Wp.some ⟨by omega,h.1,fun _=>h.2.1⟩
     ·have h:p.getD k 0=(t.2.getD g ((0:Int),((0:Int),((0:Int),((0:Int),(0:Int)))))).2.1:=h
      rw[h] at hs;simp at hs
    ·simp only
     rw[← r8 (d:=(0:Int)) hklt,Aq1];rfl
    ·by_cases hjk:j=k
     ·subst hjk
      exact ho'.2.2 hs
     ·exact ho'.2.1 _ (hpl j (by omega) hs)
   ·have hkl:k=p.length:=by
     simp at hc;omega
    subst hkl;exact Wp.some ⟨hol,hout,fun y ⟨j,hj,hs,hy⟩=>hy▸hpl j hj hs⟩
  ·rw[← ht] at hq
   rcases Fm2.1 hq with hq | hq
   ·exact ho.2.1 _ (hall q hq y hy)
   ·obtain rfl:=Fl7.1 hq
    exact ho.2.2 y hy
 ·have hnl:n=R.length:=by
   simp at hc;omega
  subst hnl;rw[List.take_length] at hall;exact Wp.some ⟨hlen,hall⟩
theorem BU2 (n:Int):wrap64 n=Fl5 .i64 n:=by rw[Fm5];unfold wrap64;omega
theorem CO6 {t:TkD}{seg off:Int}:∀(is:List Int) (pre:List Int) (frm:Int) (acc ys:List Int),N0 t seg off is (H7 t frm pre) acc=some ys→∀y∈ys,y∈acc∨∃j,j<is.length∧is.getD j 0=seg∧y=Fl5 .i64 (H7 t frm (pre++is.take j)+off)
 | [],pre,frm,acc,ys,h,y,hy=>by rw[N0] at h;obtain rfl:=Option.some.inj h;exact .inl hy
 |i::is,pre,frm,acc,ys,h,y,hy=>by
  rw[N0] at h;split at h
  ·have e:wrap64 (H7 t frm pre+lenOf t i)=H7 t frm (pre++[i]):=by
    rw[Aq1,BU2]
   rw[e] at h;rcases CO6 is (pre++[i]) frm _ ys h y hy with h1 |⟨j,h1,h2,h3⟩
   ·split at h1
    ·rename_i hs
     rcases Fm2.1 h1 with h1 | h1
     ·exact .inl h1
     ·refine .inr ⟨0,by simp,by simpa using hs,?_⟩
      rw[Fl7.1 h1,BU2];simp only[List.take_zero,List.append_nil]
    ·exact .inl h1
   ·exact .inr ⟨j+1,by simpa using h1,by simpa using h2,by simpa using h3⟩
  ·cases h
theorem CO7 {t:TkD}{seg off frm:Int}:∀(rs:List RtD) (acc ys:List Int),l6 t frm seg off rs acc=some ys→∀y∈ys,y∈acc∨∃r∈rs,u7 t frm seg off (pathOf r) y
 | [],acc,ys,h,y,hy=>by obtain rfl:=Option.some.inj h;exact .inl hy
 |r::rs,acc,ys,h,y,hy=>by
  unfold l6 at h;rw[List.foldlM_cons] at h;cases hw:N0 t seg off (pathOf r) (wrap64 (-frm)) acc with
  |none=>rw [hw] at h;cases h
  |some zs=>
   rw[hw] at h;rcases CO7 rs zs ys h y hy with h1 |⟨r',h1,h2⟩
   ·have e:wrap64 (-frm)=H7 t frm []:=by
     show wrap64 (-frm)=Fl5 .i64 (0-frm);rw[BU2];congr 1;omega
    rw[e] at hw;rcases CO6 (pathOf r) [] frm acc zs hw y h1 with h3 |⟨j,h3,h4,h5⟩
    ·exact .inl h3
    ·exact .inr ⟨r,by simp,j,h3,h4,by simpa using h5⟩
   ·exact .inr ⟨r',by simp[h1],h2⟩
theorem Eg7 (s:J3)(t:TkD)(g:Nat):Al (AN2 s t (g:Int)) fun l=>∀y∈l,∃r∈s.2,u7 t s.1 (Y1 t g) (Q0 t g) (pathOf r) y:=by
 unfold AN2;split
 ·split
  ·refine Al.bnd fun ys hys=> ?_
   split
   ·refine Al.some fun y hy=> ?_
    have h1:=Bu3 hy;have h2:y∈ys:=(List.mergeSort_perm ys _).mem_iff.1 h1;rcases CO7 _ _ _ hys y h2 with h3 | h3
    ·cases h3
    ·exact h3
   ·intro y h
    cases h
  ·intro y h
   cases h
 ·exact Al.some (by simp)
def SpO (m:Int)(s:Int×Int):Prop:=s.1≤s.2∧ -m≤s.1∧s.2≤m
theorem BU3 (lo hi:Int)(a b:Bool):AE4 lo a hi b=some (if a=true∧b=true∧lo≤hi then ((lo,hi),true) else ((0,0),false)):=by
 unfold AE4;cases a
 ·rw[if_neg (by simp)]
  rfl
 cases b
 ·rw[if_neg (by simp)]
  rfl
 by_cases h:lo≤hi
 ·rw[if_pos ⟨rfl,rfl,h⟩,decide_eq_false (by omega)]
  rfl
 ·rw[if_neg (fun e=>h e.2.2),decide_eq_true (by omega)]
  rfl
theorem BU4 (a b:Int×Int):Al (V6 a b) fun z=>(z.2=true→z.1.1≤z.1.2∧a.1≤z.1.1∧b.1≤z.1.1∧z.1.2≤a.2∧z.1.2≤b.2)∧(z.2=false→z.1=(0,0)):=by
 unfold V6;simp only[BU3,Fl6];have h1:a.1≤(if b.1>a.1 then b.1 else a.1)∧b.1≤(if b.1>a.1 then b.1 else a.1):=by split <;> omega
 have h2:(if b.2<a.2 then b.2 else a.2)≤a.2∧(if b.2<a.2 then b.2 else a.2)≤b.2:=by split <;> omega
 generalize (if b.1>a.1 then b.1 else a.1)=lo at h1
 generalize (if b.2<a.2 then b.2 else a.2)=hi at h2
 by_cases h:lo≤hi
 ·rw[if_pos ⟨trivial,trivial,h⟩]
  exact Al.some ⟨fun _=>⟨h,h1.1,h1.2,h2.1,h2.2⟩,fun h=>(by cases h)⟩
 ·rw[if_neg (fun e=>h e.2.2)]
  exact Al.some ⟨fun h=>(by cases h),fun _=>rfl⟩
theorem Eg8 {c:Cfg}(hm:0≤c.2.2.2.2.2.2.1∧c.2.2.2.2.2.2.1≤16777216)(sp:Int×Int):Al (AN8 c sp) (SpO c.2.2.2.2.2.2.1):=by
 unfold AN8 AM3;refine Al.bnd fun z _=> ?_
 simp only[Fl6];rw[A5 (by omega)]
 refine Al.bnd fun y hy=>Al.some ?_
 obtain⟨h1,h2⟩:=BU4 _ _ y hy;cases hy2:y.2 with
 |true=>
  obtain⟨a1,a2,a3,a4,a5⟩:=h1 hy2;exact⟨a1,by simp only at a3;omega,by simp only at a5;omega⟩
 |false=>
  rw[h2 hy2];exact⟨by simp,by simp only;omega,by simp only;omega⟩
theorem CO8 {m:Int}(s:Int×Int)(x2 x3 x4:Int)(x5 x6:Bool)(x7 x8:Int)(h:SpO m (x2,x3)):Al (AO0 s x2 x3 x4 x5 x6 x7 x8) fun z=>SpO m (z.1,z.2.1):=by
 unfold AO0;refine Al.bnd fun z hz=>Al.cnd (fun _=>Al.some h) fun hc=>Al.some ?_
 have hc:z.2=true:=by simpa using hc
 obtain⟨a1,a2,_,a4,_⟩:=(BU4 _ _ z hz).1 hc;obtain⟨b1,b2,b3⟩:=h;exact⟨a1,by simp only at *;omega,by simp only at *;omega⟩
theorem CO9 {S X:Type}{f:S→Option (S ⊕ X)}{Q:X→Prop}(I:S→Prop)(h:∀s,I s→Al (f s) fun z=>match z with | .inl s'=>I s' | .inr x=>Q x){s:S}(hs:I s):Al (LP.lp f s) Q:=by
 intro x hx;obtain⟨n,hn⟩:=Bf5 (show z7 f s=some x from hx);have key:∀(n:Nat) (s:S),I s→E1 f n s=some x→Q x:=by
  intro n
  induction n with
  |zero=>intro s _ h2;cases h2
  |succ n ih=>
   intro s hI h2;rw[E1] at h2;cases hz:f s with
   |none=>rw [hz] at h2;cases h2
   |some z=>
    have h3:=h s hI z hz;rw[hz] at h2;cases z with
    |inl s'=>exact ih s' h3 h2
    |inr y=>
     obtain rfl:=Option.some.inj h2;exact h3
 exact key n s hs hn
theorem Eg9 {m:Int}(pr:Int×Int)(l:Sns×(Sns×Sns))(ac:Sns)(h:SpO m pr):Al (AE5 pr l ac) fun f=>SpO m f.1:=by
 unfold AE5;refine Al.bnd fun a _=>Al.bnd fun b _=> ?_
 refine Al.bnd fun r1 h1=> ?_
 have k1:SpO m (r1.2.2.2.1,r1.2.2.1):=by
  refine (show Al _ (fun r1:Int×(Bool×(Int×(Int×(Int×(Bool×Int)))))=>SpO m (r1.2.2.2.1,r1.2.2.1)) from ?_) r1 h1
  exact Al.cnd (fun _=>Al.bnd fun z hz=>Al.some (CO8 _ _ _ _ _ _ _ _ h z hz)) fun _=>Al.bnd fun _ _=>Al.some h
 refine Al.bnd fun r2 h2=> ?_
 have k2:SpO m (r2.2.2.2.1,r2.2.2.1):=by
  refine (show Al _ (fun r1:Int×(Bool×(Int×(Int×(Int×(Bool×Int)))))=>SpO m (r1.2.2.2.1,r1.2.2.1)) from ?_) r2 h2
  exact Al.cnd (fun _=>Al.bnd fun z hz=>Al.some (CO8 _ _ _ _ _ _ _ _ k1 z hz)) fun _=>Al.some k1
 refine Al.bnd fun r3 h3=> ?_
 refine Al.some ?_;refine (show Al _ (fun r:Bool×(Int×(Int×(Int×(Int×(Int×Bool)))))=>SpO m (r.2.2.2.2.1,r.2.1)) from ?_) r3 h3
 refine Al.cnd (fun _=>Al.bnd fun y _=>Al.bnd fun z hz=> ?_) fun _=>Al.some k2
 refine Al.some ?_;refine (show Al _ (fun r:Bool×(Int×(Int×(Int×(Int×(Int×Bool)))))=>SpO m (r.2.2.2.2.1,r.2.1)) from ?_) z hz
 refine CO9 (fun s:Bool×(Int×(Int×(Int×(Int×(Int×(Bool×Int))))))=>SpO m (s.2.2.2.2.1,s.2.1)) ?_ k2
 intro s hs;exact Al.cnd (fun _=>Al.chk (Al.chk (Al.bnd fun _ _=>Al.chk (Al.some hs)))) fun _=>Al.some hs
theorem Eh0 {s:C8}(hm:0≤s.c.2.2.2.2.2.2.1∧s.c.2.2.2.2.2.2.1≤16777216)(v1 v2 v3 v4:Int×Bool):Al (AE9 s v1 v2 v3 v4) fun y=>SpO s.c.2.2.2.2.2.2.1 y.1.1:=by unfold AE9;exact Al.bnd fun a _=>Al.bnd fun b _=>Al.bnd fun r _=>Al.bnd fun pr hpr=>Al.bnd fun ac _=>Al.bnd fun f hf=>Al.some (Eg9 _ _ _ (Eg8 hm _ pr hpr) f hf)

/- What a cycle leads to, of the place. -/
def gT (t:TkD)(g:Nat):Int×(Int×(Int×(Int×Int))):=t.2.getD g (0,0,0,0,0)
structure COK (c:Cfg)(t:TkD):Prop where
 ms:1≤c.2.2.2.2.2.2.1∧c.2.2.2.2.2.2.1≤16777216
 an:0≤c.2.2.2.2.2.2.2.2.1∧c.2.2.2.2.2.2.2.2.1≤1048576
 tg:I7 t
 g:∀g,g<t.2.length→1≤(gT t g).1∧(0≤(gT t g).2.1∧(gT t g).2.1<(t.1.length:Int))∧(0≤(gT t g).2.2.2.1∧(gT t g).2.2.2.1≤1048576)∧(0≤(gT t g).2.2.2.2∧(gT t g).2.2.2.2≤16777216)
 inc:∀a b,a<b→b<t.2.length→(gT t a).1<(gT t b).1
def XG (t:TkD)(B:Int)(p:Plc):Prop:=p.1=true→∃(g:Nat) (L:List (List Int)),g<t.2.length∧p.2.1=(g:Int)∧p.2.2.2.2=(Q0 t g,L.map J5)∧OnL t L∧SpO B p.2.2.1
theorem CP0 {t:TkD}{frm:Int}{L:List (List Int)}(h:OnL t L):AF0 t.1.length (frm,L.map J5):=by
 refine⟨by simpa using h.1,by simpa using h.2.1,fun r hr=> ?_⟩
 obtain⟨p,hp,rfl⟩:=Fm1.1 hr;have hon:=h.2.2 p hp;have h0:=Fm4.2 hon.1;have h1:=hon.2.1;refine⟨?_,?_,?_⟩
 ·show (1:Int)≤(p.length:Int)
  omega
 ·show (p.length:Int)≤12
  omega
 ·rw[u5 hon.2.1]
  exact hon.2.2
theorem Eh1 {t:TkD}(ht:I7 t){frm:Int}{L:List (List Int)}(hL:OnL t L)(p:Int×Int):Al (V3 (frm,L.map J5) t p) fun z=>z.2=0→∃L',OnL t L'∧z.1=(frm,L'.map J5):=by
 intro z hz h0;obtain⟨z2,hz2,hg⟩:=CG0 (frm,L.map J5) t p ht (CP0 hL);have e:z2=z:=Option.some.inj (hz2.symm.trans hz);subst e;have hfew:=(hg h0).few;unfold V3 at hz;split at hz
 ·split at hz
  ·obtain rfl:=Option.some.inj hz
   exact absurd h0 (show ¬(40:Int)=0 by decide)
  ·split at hz
   ·obtain⟨le,hle,hq⟩:=GQ.fold (fun (le:List RtD×Int) (r:RtD)=>(O3 (frm,L.map J5) t r).bind fun en=>C6 13 t p r en le) (fun r q=>T5 t frm p.1 p.2 (pathOf r) q) (fun r=>Deep t frm p.2 (pathOf r)) (L.map J5) (fun r hr le he=>by
     obtain⟨q,hq,rfl⟩:=Fm1.1 hr;have hon:=hL.2.2 q hq;rw[CN6 hon,Fl6,u5 hon.2.1];have:=Fm4.2 hon.1;exact BU0 ht frm p.1 p.2 13 q hon (by omega) le he) ([],0) (.inl rfl)
    rw[hle] at hz;simp only[Fl6] at hz;split at hz
    ·have hz:=Option.some.inj hz
     unfold K0 at hz;split at hz
     ·rename_i h1
      rw[← hz] at h0;exact absurd h0 h1
     ·split at hz
      ·rw[← hz] at h0
       exact absurd h0 (show ¬(40:Int)=0 by decide)
      ·rename_i h1
       have hz1:z2.1=(frm,G1 le.1):=by rw[← hz]
       have hcl:=hq.cl (fun x hx=>by cases hx)
       refine⟨(G1 le.1).map pathOf,⟨?_,?_,?_⟩,?_⟩
       ·intro h2
        have h3:=List.map_eq_nil_iff.1 h2;have h4:=Al4 le.1;rw[h3] at h4;exact h1 (List.eq_nil_of_length_eq_zero h4.symm)
       ·rw[Fm3]
        rw[hz1] at hfew;exact hfew
       ·intro q hq2
        obtain⟨x,hx,rfl⟩:=Fm1.1 hq2;rcases hq.sub x (Al5.1 hx) with h2 |⟨r,hr,h2⟩
        ·cases h2
        ·obtain⟨q0,hq0,rfl⟩:=Fm1.1 hr
         rw[u5 (hL.2.2 q0 hq0).2.1] at h2;exact CO5 ht h2 (hL.2.2 q0 hq0)
       ·rw[hz1,List.map_map]
        congr 1
        conv=>lhs;rw[← List.map_id (G1 le.1)]
        refine List.map_congr_left fun x hx=> ?_
        exact (BT7 (hcl x (Al5.1 hx))).symm
    ·cases hz
   ·cases hz
 ·obtain rfl:=Option.some.inj hz
  exact absurd h0 (show ¬(40:Int)=0 by decide)
theorem CP1 {a b:Int}(h : -4611686018427387904≤a∧a≤4611686018427387903)(h2 : -4611686018427387904≤b∧b≤4611686018427387903):V5 a b=some (a+b,true):=by
 unfold V5;simp only;rw[A5 (by omega)]
 by_cases ha:0≤a <;> by_cases hb:0≤b <;> by_cases hc:0≤a+b <;> simp only[ha,hb,hc,decide_true,decide_false] <;> first
  |rfl
  | (exfalso;omega)
theorem CP2 {B m:Int}{a b:Int×Int}(ha:SpO B a)(hb:SpO m b)(hB:B+m≤17592186044416)(hm:0≤m)(hB0:0≤B):l8 a b=some ((a.1+b.1,a.2+b.2),true):=by
 unfold l8 P4;obtain⟨a1,a2,a3⟩:=ha;obtain⟨b1,b2,b3⟩:=hb;simp only[Fl6,decide_eq_true a1,decide_eq_true b1,Fl9,Bool.not_false,cond_true,cond_false];rw[CP1 (by omega) (by omega),CP1 (by omega) (by omega)]
 simp only[Fl6,BU3];rw[if_pos ⟨trivial,trivial,by omega⟩]
def BC2 (t:TkD)(sp:Int×Int)(p q:Plc):Prop:=
 (q.1=true→q.2.1=p.2.1∧q.2.2.1=(p.2.2.1.1+sp.1,p.2.2.1.2+sp.2))∧
 ∀l:List RtD,V3 p.2.2.2.2 t (p.2.2.1.1+sp.1,p.2.2.1.2+sp.2)=some ((p.2.2.2.2.1,G1 l),0)→q.1=true∧q.2.2.2.2=(p.2.2.2.2.1,G1 l)
theorem Eh2 {t:TkD}(ht:I7 t){B m:Int}{p:Plc}{sp:Int×Int}(hp:XG t B p)(hon:p.1=true)(hs:SpO m sp)(hB:B+m≤17592186044416)(hm:0≤m)(hB0:0≤B):Al (l9 p t sp) fun q=>XG t (B+m) q.1∧BC2 t sp p q.1:=by
 obtain⟨g,L,hg,hpg,hset,hL,hpo⟩:=hp hon;unfold l9;simp only[hon,Fl9,cond_false];rw[CP2 hpo hs hB hm hB0];simp only[Fl6,Fl9,cond_false,Bool.not_false,cond_true];obtain⟨a1,a2,a3⟩:=hpo;obtain⟨b1,b2,b3⟩:=hs;have hin:AO1 (p.2.2.1.1+sp.1,p.2.2.1.2+sp.2) ((-17592186044416:Int),(17592186044416:Int))=some true:=by
  unfold AO1 P4;simp only[Fl6];rw[decide_eq_true (show p.2.2.1.1+sp.1≤p.2.2.1.2+sp.2 by omega),decide_eq_true (show (-17592186044416:Int)≤p.2.2.1.1+sp.1 by omega),decide_eq_true (show p.2.2.1.2+sp.2≤17592186044416 by omega)]
  rfl
 rw[hin];simp only[Fl6,Fl9,cond_false];refine Al.bnd fun z hz=>Al.cnd (fun hc=>Al.some ⟨fun h=>(by cases h),fun h=>(by cases h),fun l hl=> ?_⟩) fun hc=> ?_
 ·have e:z=((p.2.2.2.2.1,G1 l),0):=Option.some.inj (hz.symm.trans hl)
  rw[e] at hc;cases hc
 ·have hz0:z.2=0:=by simpa using hc
  rw[hset] at hz;obtain⟨L',hL',hz1⟩:=Eh1 ht hL _ z hz hz0;refine Al.bnd fun _ _=>Al.bnd fun _ _=>Al.bnd fun _ _=>Al.some ⟨fun _=>⟨g,L',hg,hpg,hz1,hL',?_⟩,fun _=>⟨rfl,rfl⟩,fun l hl=>⟨rfl,?_⟩⟩
  ·exact⟨by simp only;omega,by simp only;omega,by simp only;omega⟩
  ·rw[hset] at hl
   have e:z=((Q0 t g,G1 l),0):=Option.some.inj (hz.symm.trans hl);rw[hset,e]
theorem Eh3 {t:TkD}(ht:I7 t){B m:Int}{p:Plc}{sp:Int×Int}{d:Int}(hp:XG t B p)(hs:SpO m sp)(hB:B+m≤17592186044416)(hm:0≤m)(hB0:0≤B):Al (AP0 t sp d p) fun z=>XG t (B+m) z.2.2∧(p.1=true→BC2 t sp p z.2.2):=by
 unfold AP0;have key:∀(b:Bool) (d':Int),Al (bif p.1 then (l9 p t sp).bind fun q=>some ((bif b then true else (q.2==(20:Int))),(d',q.1)) else some (b,(d',p))) fun z=>XG t (B+m) z.2.2∧(p.1=true→BC2 t sp p z.2.2):=by
  intro b d';refine Al.cnd (fun hon=>Al.bnd fun q hq=> ?_) fun hon=>Al.some ⟨fun h=>(by rw[hon] at h;cases h),fun h=>(by rw[hon] at h;cases h)⟩
  obtain⟨h1,h2⟩:=Eh2 ht hp hon hs hB hm hB0 q hq;exact Al.some ⟨h1,fun _=>h2⟩
 refine Al.bnd fun _ _=>Al.bnd fun _ _=>Al.bnd fun _ _=>Al.cnd (fun _=> ?_) fun _=> ?_
 ·exact key false _
 ·exact key true _
theorem Eh4 {c:Cfg}{t:TkD}(hC:COK c t){g:Nat}(hg:g<t.2.length){sp:Int×Int}(hs:SpO 16777216 sp):Al (AO5 c t (g:Int) sp) (XG t 33554432):=by
 unfold AO5 AW2;refine Al.chk ?_;obtain⟨g1,g2,g3,g4⟩:=hC.g g hg;have e:(t.2.getD (g:Int).toNat ((0:Int),((0:Int),((0:Int),((0:Int),(0:Int))))))=gT t g:=rfl;obtain⟨a1,a2⟩:=hC.an;obtain⟨b1,b2,b3⟩:=hs;simp only[e];refine Al.bnd fun md _=>Al.some fun _=>⟨g,[[(gT t g).2.1]],hg,rfl,rfl,⟨by simp,by simp,fun p hp=> ?_⟩,?_⟩
 ·obtain rfl:=Fl7.1 hp
  refine⟨by simp,by simp,fun i hi=> ?_⟩
  obtain rfl:=Fl7.1 hi;exact g2
 ·have h1:(if sp.1<0 then sp.1 else 0)≤0∧ -16777216≤(if sp.1<0 then sp.1 else 0):=by split <;> omega
  have h2:0≤(if sp.2>0 then sp.2 else 0)∧(if sp.2>0 then sp.2 else 0)≤16777216:=by split <;> omega
  simp only;generalize (if sp.1<0 then sp.1 else 0)=u at h1
  generalize (if sp.2>0 then sp.2 else 0)=v at h2
  rw[A5 (n:=(gT t g).2.2.2.1+c.2.2.2.2.2.2.2.2.1) (by omega),A5 (n:=0-((gT t g).2.2.2.1+c.2.2.2.2.2.2.2.2.1)) (by omega),A5 (by omega),A5 (by omega)]
  exact⟨by simp only;omega,by simp only;omega,by simp only;omega⟩
theorem Eh5 (x:Fnd)(sp:Spn)(s:C8):Al (AP2 x sp s) fun z=>z.c=s.c∧z.t=s.t∧AO5 s.c s.t x.1 sp=some z.place:=by unfold AP2;exact Al.bnd fun p hp=>Al.cnd (fun _=>Al.chk (Al.bnd fun y _=>Al.some ⟨rfl,rfl,hp⟩)) fun _=>Al.some ⟨rfl,rfl,hp⟩
def Q3 (c:Cfg)(t:TkD)(g:Nat):Int:=(gT t g).2.2.2.1+c.2.2.2.2.2.2.2.2.1+(gT t g).2.2.2.2
def BU5 (pos sp:Int×Int):Int×Int:=(pos.1+(if sp.1<0 then sp.1 else 0),pos.2+(if sp.2>0 then sp.2 else 0))
def BU6 (c:Cfg)(t:TkD)(g:Nat)(pos sp:Int×Int)(y:Int):Prop:=(BU5 pos sp).1≤Fl5 .i64 (y+Q3 c t g)∧Fl5 .i64 (y-Q3 c t g)≤(BU5 pos sp).2
theorem Eh6 {a b:Int}(ha : -9223372036854775808≤a∧a≤9223372036854775807)(hb:0≤b∧b≤4611686018427387903):Al (V5 a b) fun z=>z.2=true→z.1=Fl5 .i64 (a+b):=by unfold V5;exact Al.cnd (fun _=>Al.some fun h=>by cases h) fun _=>Al.some fun _=>rfl
theorem Eh7 {a b:Int}:Al (AB4 a b) fun z=>z.2=true→z.1=Fl5 .i64 (a-b):=by unfold AB4;exact Al.cnd (fun _=>Al.some fun h=>by cases h) fun _=>Al.some fun _=>rfl
theorem Eh8 (a w:Int)(hw:0≤w∧w≤4611686018427387903)(ha : -9223372036854775808≤a∧a≤9223372036854775807):Al (AN6 a w) fun z=>z.2=true→z.1=(Fl5 .i64 (a-w),Fl5 .i64 (a+w)):=by
 unfold AN6 Z8 AN5 P4;simp only[Fl6];refine Al.bnd fun z hz=>Al.some ?_
 refine (show Al _ (fun z:(Int×Int)×Bool=>z.2=true→z.1=(Fl5 .i64 (a-w),Fl5 .i64 (a+w))) from ?_) z hz
 refine Al.cnd (fun _=>Al.some fun h=>by cases h) fun _=>Al.bnd fun x hx=>Al.bnd fun y hy=> ?_
 simp only[BU3,Fl6];refine Al.some fun h=> ?_
 split at h
 ·rename_i h2
  rw[if_pos h2,Eh7 x hx h2.1,Eh6 ha hw y hy h2.2.1]
 ·cases h
theorem Eh9 {α:Type}{c:Bool}{a:Option α}{Q:α→Prop}(h:c=true→Al a Q):Al (chk none c a) Q:=by
 cases c
 ·intro y e;cases e
 ·exact h rfl
theorem Ei0 {c:Cfg}{t:TkD}(hC:COK c t)(st:J3)(pa:Int×Int){g:Nat}(hg:g<t.2.length):Al (AE6 c t st pa (g:Int)) fun l=>∀y∈l,(∃r∈st.2,u7 t st.1 (Y1 t g) (Q0 t g) (pathOf r) y)∧pa.1≤Fl5 .i64 (y+Q3 c t g)∧Fl5 .i64 (y-Q3 c t g)≤pa.2:=by
 unfold AE6;refine Al.bnd fun pl hpl=> ?_
 have hpls:=Eg7 st t g pl hpl;refine Al.bnd fun l hl=>Al.some ?_
 refine (show Al _ (fun l:List Int=>∀y∈l,(∃r∈st.2,u7 t st.1 (Y1 t g) (Q0 t g) (pathOf r) y)∧pa.1≤Fl5 .i64 (y+Q3 c t g)∧Fl5 .i64 (y-Q3 c t g)≤pa.2) from ?_) l hl
 refine CO9 (fun s:List Int×Int=>∀y∈s.1,(∃r∈st.2,u7 t st.1 (Y1 t g) (Q0 t g) (pathOf r) y)∧pa.1≤Fl5 .i64 (y+Q3 c t g)∧Fl5 .i64 (y-Q3 c t g)≤pa.2) ?_ (by simp)
 rintro⟨out,i⟩ h2
 refine Al.cnd (fun _=>Eh9 fun hc=>Al.chk ?_) fun _=>Al.some h2
 simp only[Fl8,decide_eq_true_eq] at hc;obtain⟨h0',hi⟩:=hc;have hm:=hpls _ (R2 (d:=(0:Int)) h0' hi);obtain⟨g1,g2,g3,g4⟩:=hC.g g hg;have e:(t.2.getD (g:Int).toNat ((0:Int),((0:Int),((0:Int),((0:Int),(0:Int))))))=gT t g:=rfl;have hW:AW0 c (gT t g)=some (Q3 c t g):=by unfold AW0 Q3;have:=hC.an;simp only;rw[A5 (n:=(gT t g).2.2.2.1+c.2.2.2.2.2.2.2.2.1) (by omega),A5 (by omega)]
 have hw:0≤Q3 c t g∧Q3 c t g≤4611686018427387903:=by unfold Q3;have:=hC.an;omega
 simp only[e,hW,Fl6];generalize pl.getD i.toNat 0=y at hm;refine Al.bnd fun z hz=>Al.bnd fun u hu=>Al.bnd fun o ho=> ?_
 have hyr : -9223372036854775808≤y∧y≤9223372036854775807:=by obtain⟨r,_,j,_,_,h⟩:=hm;rw[h,Fm5];omega
 have hk:∀y∈o,(∃r∈st.2,u7 t st.1 (Y1 t g) (Q0 t g) (pathOf r) y)∧pa.1≤Fl5 .i64 (y+Q3 c t g)∧Fl5 .i64 (y-Q3 c t g)≤pa.2:=by
  refine (show Al _ (fun l:List Int=>∀y∈l,(∃r∈st.2,u7 t st.1 (Y1 t g) (Q0 t g) (pathOf r) y)∧pa.1≤Fl5 .i64 (y+Q3 c t g)∧Fl5 .i64 (y-Q3 c t g)≤pa.2) from ?_) o ho
  refine Al.cnd (fun hc=>Al.chk (Al.some fun x hx=> ?_)) fun _=>Al.some h2
  rcases Fm2.1 hx with hx | hx
  ·exact h2 x hx
  ·obtain rfl:=Fl7.1 hx
   cases hz2:z.2 with
   |false=>rw [hz2] at hc;cases hc
   |true=>
    rw[hz2] at hc;have hu2:u.2=true:=hc;have e1:=Eh8 x _ hw hyr z hz hz2;obtain⟨m1,m2,m3,m4,m5⟩:=(BU4 _ _ u hu).1 hu2;rw[e1] at m2 m4;simp only at m2 m4;exact⟨hm,by omega,by omega⟩
 exact Al.some hk

/- What is told of a cycle in which a group was read. -/
def u9 (r:G4):Bool:=r.2.2.2.2.2.2.2.2.2.2.2.2.2.1
def AF5 (r:G4):Bool:=r.2.2.2.2.2.2.2.2.2.2.2.2.2.2.1
def spR (r:G4):Int×Int:=r.2.2.2.2.2.1
theorem Ei1 (l:List RtD)(hl:l.length≤1000):Af8 l=some (l.map pathOf):=by
 unfold Af8;refine Q7 l.length (fun i=>((l.take i).map pathOf,(i:Int))) (l.map pathOf) (fun i hi=> ?_) ?_
 ·have e1:(decide ((i:Int)<(l.length:Int)))=true:=by simpa using hi
  have e2:(decide ((0:Int)≤(i:Int)))=true:=by simp
  have e5:=X7 i (by omega)
  have e6:∀p:List Int,decide ((((l.take i).map pathOf).length+([p]:List (List Int)).length)*24≤140737488355328)=true:=by intro p;simp only[Fm3,List.length_take,List.length_cons,List.length_nil,decide_eq_true_eq];omega
  simp only[e1,e2,cond_true,Bool.and_self,P5,Fm0,Ao0,Fl6,e5,e6];rw[← r8 (d:=((0:Int),((0:Int),((0:Int),((0:Int),((0:Int),((0:Int),((0:Int),((0:Int),((0:Int),((0:Int),((0:Int),((0:Int),(0:Int)))))))))))))) hi,List.map_append];rfl
 ·have e1:(decide ((l.length:Int)<(l.length:Int)))=false:=by simp
  simp only[e1,cond_false,List.take_length]
structure Told (t:TkD)(r:G4)(p:Plc):Prop where
 off:p.1=false→r.2.2.1=0
 on:p.1=true→r.2.2.1=(t.2.getD p.2.1.toNat (0,0,0,0,0)).1∧r.2.2.2.1=p.2.2.1∧r.2.2.2.2.2.2.2.2.1=p.2.2.2.2.2.map pathOf
theorem Ei2 (s:C8)(f:Fsd)(cy:Int)(a b:Bool)(q:Int×(Int×(Int×Int)))(hl:s.place.1=true→s.place.2.2.2.2.2.length≤1000):Al (AP3 s f cy a b q) fun r=>Told s.t r s.place∧spR r=f.1∧u9 r=a∧AF5 r=b:=by
 unfold AP3;refine Al.bnd fun nm _=>Al.bnd fun md _=>Al.cnd (fun h=>Al.some ⟨⟨fun _=>rfl,fun h2=> ?_⟩,rfl,rfl,rfl⟩) fun h=>Al.chk ?_
 ·rw[h2] at h
  cases h
 ·have hon:s.place.1=true:=by simpa using h
  rw[Ei1 _ (hl hon)];simp only[Fl6];refine Al.bnd fun fr _=>Al.cnd (fun _=>Al.bnd fun pm _=>Al.some ⟨⟨fun h2=> ?_,fun _=>⟨rfl,rfl,rfl⟩⟩,rfl,rfl,rfl⟩) fun _=>Al.some ⟨⟨fun h2=> ?_,fun _=>⟨rfl,rfl,rfl⟩⟩,rfl,rfl,rfl⟩
  ·rw[hon] at h2
   cases h2
  ·rw[hon] at h2
   cases h2
theorem Ei3 (c:Cfg)(t:TkD)(pl was:Plc)(sp:Spn)(v:Int×Bool):Al (AP1 c t pl was sp v) fun x=>(v.2=false→x.2.2.1=true∧x.2.2.2=false)∧
  (v.2=true→∃i,V7 t v.1=some i∧(i.2=false→x.2.2.1=false∧x.2.2.2=false)∧(i.2=true→x.2.2.2=x.2.2.1∧(pl.1=true→∃l,AX2 c t pl.2.2.2.2 was sp i.1=some l∧x.2.2.1=decide ((0:Int)<(l.length:Int))))):=by
 unfold AP1;refine Al.cnd (fun h=>Al.some ⟨fun _=>⟨rfl,rfl⟩,fun h2=> ?_⟩) fun h=>Al.bnd fun i hi=>Al.cnd (fun h3=>Al.some ⟨fun h2=> ?_,fun _=>⟨i,hi,fun _=>⟨rfl,rfl⟩,fun h4=> ?_⟩⟩) fun h3=>Al.cnd (fun hon=>Al.bnd fun l hl=>Al.some ⟨fun h2=> ?_,fun _=>⟨i,hi,fun h4=> ?_,fun _=>⟨rfl,fun _=>⟨l,hl,rfl⟩⟩⟩⟩) fun hon=>Al.some ⟨fun h2=> ?_,fun _=>⟨i,hi,fun h4=> ?_,fun _=>⟨rfl,fun h5=> ?_⟩⟩⟩
 ·rw[h2] at h;cases h
 ·rw[h2] at h;cases h
 ·rw[h4] at h3;cases h3
 ·rw[h2] at h;cases h
 ·rw[h4] at h3;cases h3
 ·rw[h2] at h;cases h
 ·rw[h4] at h3;cases h3
 ·rw[hon] at h5;cases h5
theorem Ei4 {t:TkD}{B:Int}{p:Plc}(h:XG t B p):X8 t p:=by intro hon;obtain⟨g,L,h1,h2,h3,h4,_⟩:=h hon;rw[h2,h3];exact⟨by omega,by omega,CP0 h4⟩
theorem BU7 {t:TkD}{B B':Int}{p:Plc}(h:XG t B p)(hB:B≤B'):XG t B' p:=by intro hon;obtain⟨g,L,h1,h2,h3,h4,h5,h6,h7⟩:=h hon;exact⟨g,L,h1,h2,h3,h4,h5,by omega,by omega⟩
def BC3 (c:Cfg)(t:TkD)(pl:Plc)(sp:Int×Int)(g:Nat):Prop:=∃L R:List (List Int),pl.2.2.2.2.2=L.map J5∧OnL t L∧pl.2.2.1.1+sp.1≤pl.2.2.1.2+sp.2∧¬pl.2.2.1.1+sp.1<Fl5 .i64 (0-pl.2.2.2.2.1)∧R≠[]∧R.length≤16∧
 (∀q,q∈R↔∃p∈L,T5 t pl.2.2.2.2.1 (pl.2.2.1.1+sp.1) (pl.2.2.1.2+sp.2) p q)∧(∀p∈L,¬Deep t pl.2.2.2.2.1 (pl.2.2.1.2+sp.2) p)∧∀p∈R,∀y,u7 t pl.2.2.2.2.1 (Y1 t g) (Q0 t g) p y→¬BU6 c t g pl.2.2.1 sp y
theorem Ei5 {B m:Int}{pos sp:Int×Int}(hp:SpO B pos)(hs:SpO m sp)(hB:B+m≤17592186044416)(hm:0≤m)(hB0:0≤B):AO3 pos sp=some (BU5 pos sp,true):=by
 unfold AO3;have h:SpO m ((if sp.1<0 then sp.1 else 0),(if sp.2>0 then sp.2 else 0)):=by obtain⟨a,b,c⟩:=hs;refine⟨?_,?_,?_⟩ <;> simp only <;> split <;> (try split) <;> omega
 simp only;rw[CP2 hp h hB hm hB0];rfl
theorem Ei6 {c:Cfg}{t:TkD}(hC:COK c t){B m:Int}{was pl:Plc}{sp:Int×Int}(hx:XG t B was)(hon:was.1=true)(hs:SpO m sp)(hB:B+m≤17592186044416)(hm:0≤m)(hB0:0≤B)(hmv:BC2 t sp was pl){g:Nat}(hg:g<t.2.length)(hN:BC3 c t was sp g):
  pl.1=true∧∀l,AX2 c t pl.2.2.2.2 was sp (g:Int)=some l→l=[]:=by
 obtain⟨L,R,n1,n2,n3,n4,n5,n6,n7,n8,n9⟩:=hN;obtain⟨_,_,_,_,_,_,hpo⟩:=hx hon;obtain⟨l,g1,g2,g3,g4,g5⟩:=Ef5 hC.tg n2 n3 n4 n5 n6 n7 n8;have hset:was.2.2.2.2=(was.2.2.2.2.1,L.map J5):=by rw[← n1]
 obtain⟨m1,m2⟩:=hmv.2 l (by rw[hset];exact g1)
 refine⟨m1,fun lst hl=> ?_⟩
 unfold AX2 at hl;rw[Ei5 hpo hs hB hm hB0] at hl;simp only[Fl6,Fl9,cond_false] at hl;apply List.eq_nil_iff_forall_not_mem.2;intro y hy;obtain⟨⟨r,hr,hpl⟩,h1,h2⟩:=Ei0 hC _ _ hg lst hl y hy;rw[m2] at hr hpl;exact n9 (pathOf r) (g5 r (Al5.1 hr)) y hpl ⟨h1,h2⟩
theorem Ei7 {s:C8}{B:Int}(hC:COK s.c s.t)(hx:XG s.t B s.place)(hB:B+16777216≤17592186044416)(hB0:0≤B)(m:Mal)(cmd:Bool)(cy:Int):Al (AX3 m cmd cy s) fun y=>y.2.c=s.c∧y.2.t=s.t∧XG s.t (B+33554432) y.2.place∧Told s.t y.1 y.2.place∧SpO 16777216 (spR y.1)∧
  ((mv5 m).2=false→u9 y.1=false∧AF5 y.1=false)∧
  ((mv5 m).2=true→∃i,V7 s.t (mv5 m).1=some i∧(i.2=false→u9 y.1=false∧AF5 y.1=true)∧(i.2=true→AF5 y.1 = !u9 y.1∧
   ∀g:Nat,i.1=(g:Int)→g<s.t.2.length→s.place.1=true→BC3 s.c s.t s.place (spR y.1) g→u9 y.1=false∧(y.2.place.1=true→y.2.place.2.1=s.place.2.1∧y.2.place.2.2.1=(s.place.2.2.1.1+(spR y.1).1,s.place.2.2.1.2+(spR y.1).2)))):=by
 rw[Ee7];have hms:=hC.ms;refine Al.bnd fun y0 hy0=> ?_
 have hsp0:=Eh0 ⟨by omega,hms.2⟩ _ _ _ _ y0 hy0
 have hsp:SpO 16777216 y0.1.1:=⟨hsp0.1,by have:=hsp0.2.1;omega,by have:=hsp0.2.2;omega⟩
 unfold CN3;refine Al.bnd fun z hz=> ?_
 obtain⟨z1,z2⟩:=Eh3 hC.tg hx hsp hB (by omega) hB0 z hz
 refine Al.bnd fun x hxl=> ?_
 obtain⟨l1,l2⟩:=Ei3 _ _ _ _ _ _ x hxl;obtain⟨x',hx',hidx⟩:=CG4 s.c s.t z.2.2 s.place y0.1.1 (mv5 m) hC.tg (Ei4 z1);obtain rfl:x'=x:=Option.some.inj (hx'.symm.trans hxl);refine Al.bnd fun s4 h4=> ?_
 have k4:s4.c=s.c∧s4.t=s.t∧XG s.t (B+33554432) s4.place∧(x'.2.2.2=false→s4.place=z.2.2):=by
  refine (show Al _ (fun s4:C8=>s4.c=s.c∧s4.t=s.t∧XG s.t (B+33554432) s4.place∧(x'.2.2.2=false→s4.place=z.2.2)) from ?_) s4 h4
  refine Al.cnd (fun ha=> ?_) fun _=>Al.some ⟨rfl,rfl,BU7 z1 (by omega),fun _=>rfl⟩
  intro w hw;obtain⟨a1,a2,a3⟩:=Eh5 _ _ _ w hw;have hi:=hidx ha;have hg:x'.1.toNat<s.t.2.length:=by omega
  have e:x'.1=((x'.1.toNat:Nat):Int):=by omega
  simp only at a3;rw[e] at a3;exact⟨a1,a2,BU7 (Eh4 hC hg hsp _ a3) (by omega),fun h=>by rw[ha] at h;cases h⟩
 obtain⟨c1,c2,c3,c4⟩:=k4;unfold CN2;refine Al.bnd fun w _=>Al.bnd fun pl hpl=> ?_
 have kp:XG s.t (B+33554432) pl∧(pl.1=true→pl=s4.place):=by
  refine (show Al _ (fun pl:Plc=>XG s.t (B+33554432) pl∧(pl.1=true→pl=s4.place)) from ?_) pl hpl
  exact Al.cnd (fun _=>Al.some ⟨fun h=>(by cases h),fun h=>(by cases h)⟩) fun _=>Al.some ⟨c3,fun _=>rfl⟩
 refine Al.bnd fun st _=>Al.bnd fun ro _=>Al.bnd fun r hr=>Al.some ?_
 have hlen:pl.1=true→pl.2.2.2.2.2.length≤1000:=by intro hon;obtain⟨g,L,_,_,h3,h4,_⟩:=kp.1 hon;rw[h3];simp only[Fm3];have:=h4.2.1;omega
 obtain⟨t1,t2,t3,t4⟩:=Ei2 {s4 with watch:=w,place:=pl,still:=st,E5:=ro} y0.1 cy x'.2.2.2 (!x'.2.2.1) m.2.2 hlen r hr;simp only at t1;rw[c2] at t1;refine⟨c1,c2,kp.1,t1,by rw[t2];exact hsp,fun hh=> ?_,fun hh=> ?_⟩
 ·obtain⟨a,b⟩:=l1 hh
  exact⟨by rw[t3,b],by rw[t4,a];rfl⟩
 ·obtain⟨i,i1,i2,i3⟩:=l2 hh
  refine⟨i,i1,fun hk=> ?_,fun hk=> ?_⟩
  ·obtain⟨a,b⟩:=i2 hk
   exact⟨by rw[t3,b],by rw[t4,a];rfl⟩
  ·obtain⟨a,b⟩:=i3 hk
   refine⟨by rw[t4,t3,a],fun g hgi hg hon hN=> ?_⟩
   rw[t2] at hN ⊢;obtain⟨n1,n2⟩:=Ei6 hC hx hon hsp hB (by omega) hB0 (z2 hon) hg hN
   obtain⟨l,h5,h6⟩:=b n1;rw[hgi] at h5;rw[n2 l h5] at h6;have hok:x'.2.2.1=false:=h6;have hacc:x'.2.2.2=false:=by rw[a,hok]
   refine⟨by rw[t3,hacc],fun hon2=> ?_⟩
   have hon2:pl.1=true:=hon2;show pl.2.1=s.place.2.1∧pl.2.2.1=_;rw[kp.2 hon2,c4 hacc];exact (z2 hon).1 n1
end Go.Proofs.YthfjpkdadjemcaaGreat
