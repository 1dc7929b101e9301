/- A group that isn't where it should be is never used. -/
import Derived.Test.YthfjpkdadjemcaaGreatTYL
import Derived.Test.YthfjpkdadjemcaaGreatWDR
import Derived.Test.YthfjpkdadjemcaaGreatImM
import Derived.Test.YthfjpkdadjemcaaGreatSearchF
set_option linter.unusedSimpArgs false
set_option linter.unusedVariables false
namespace Go.Proofs.YthfjpkdadjemcaaGreat
open Go Go.RowKit
open _root_.Option renaming bind_some → Fp2
open _root_.Bool renaming and_eq_true → Fp3, not_true → Fp7, not_false → Fp8, or_eq_true → Fp9
open _root_.Int renaming toNat_natCast → Fp4
open Go.IntKind renaming wrap → Fp5
open _root_.Classical renaming byContradiction → Fp6
theorem Em0 {c:Cfg}{t:TkD}(hw:r6 c=0)(hc:(G7 t).1=0):COK c t:=by
 obtain⟨p,lo,hi,rb,rp,ae,ms,ma,an,st,ss,ro,ti,br⟩:=c;have R:=Az7.1 hw;obtain⟨_,_,_,_,k5⟩:=Ag9 hc;have hinc:∀a,a+1<t.2.length→(gT t a).1<(gT t (a+1)).1:=by
  intro a ha;have h:=k5 (a+1) ha;unfold K5 at h;simp only[Fp3,Fp9,decide_eq_true_eq] at h;rcases h.1.1.1.2 with h1 | h1
  ·omega
  ·exact h1
 refine⟨R.hms,R.han,BB6 hc,fun g hg=> ?_,fun a b hab hb=> ?_⟩
 ·have h:=k5 g hg
  unfold K5 at h;simp only[Fp3,Fp9,decide_eq_true_eq] at h;exact⟨h.1.1.1.1.1,⟨h.1.1.2,h.1.2⟩,⟨h.2.1.1.1.2,h.2.1.1.2⟩,⟨h.2.1.2,h.2.2⟩⟩
 ·induction b with
  |zero=>omega
  |succ b ih=>
   have h1:=hinc b hb;by_cases e:a=b
   ·rw[e];exact h1
   ·have:=ih (by omega) (by omega)
    omega
theorem CP9 {c:Cfg}{t:TkD}(hC:COK c t){a b:Nat}(ha:a<t.2.length)(hb:b<t.2.length)(h:(gT t a).1=(gT t b).1):a=b:=by
 rcases Nat.lt_trichotomy a b with h1 | h1 | h1
 ·have:=hC.inc a b h1 hb
  omega
 ·exact h1
 ·have:=hC.inc b a h1 ha
  omega
theorem CQ0 (t:TkD)(id:Int)(hl:t.2.length≤400):Wp (An3 t id) fun r=>(∃g:Nat,r=(g:Int)∧g<t.2.length∧(gT t g).1=id)∨(r = -1∧∀g,g<t.2.length→(gT t g).1≠id):=by
 unfold An3;refine Wp.bnd (Q:=fun z:Int ⊕ Unit=>match z with | .inl r=>∃g:Nat,r=(g:Int)∧g<t.2.length∧(gT t g).1=id | .inr _=>∀g,g<t.2.length→(gT t g).1≠id) ?_ fun z hz=> ?_
 ·refine Wp.AJ6 (fun i:Int=>∃n:Nat,n≤t.2.length∧i=(n:Int)∧∀g,g<n→(gT t g).1≠id) (fun i=>((t.2.length:Int)-i).toNat) ?_ ⟨0,by omega,rfl,fun g hg=>absurd hg (by omega)⟩
  rintro i ⟨n,hn,rfl,hk⟩
  refine Wp.cnd (fun hc=> ?_) fun hc=> ?_
  ·have hlt:n<t.2.length:=by simpa using hc
   have hw:=X7 n (by omega)
   refine Wp.chk (by simp only[Fp3,decide_eq_true_eq];omega) ?_
   simp only[Fp4,hw];have e:t.2.getD n ((0:Int),((0:Int),((0:Int),((0:Int),(0:Int)))))=gT t n:=rfl;rw[e];refine Wp.cnd (fun h=>Wp.some ⟨n,rfl,hlt,by simpa using h⟩) fun h=>Wp.some ⟨⟨n+1,by omega,rfl,fun g hg=> ?_⟩,by simp only;omega⟩
   by_cases hgn:g=n
   ·rw[hgn]
    simpa using h
   ·exact hk g (by omega)
  ·have hnl:n=t.2.length:=by
    simp at hc;omega
   subst hnl;exact Wp.some hk
 ·rcases z with z | z
  ·exact Wp.some (.inl hz)
  ·exact Wp.some (.inr ⟨rfl,hz⟩)
theorem Em1 {c:Cfg}{t:TkD}(hC:COK c t)(id:Int):Al (V7 t id) fun i=>(i.2=true→∃g:Nat,i.1=(g:Int)∧g<t.2.length∧(gT t g).1=id)∧(i.2=false→∀g,g<t.2.length→(gT t g).1≠id):=by
 intro i hi;have hl:=hC.tg.n2;have hmono:∀a b:Nat,a≤b→b<t.2.length→(t.2.getD a gp0).1≤(t.2.getD b gp0).1:=by
  intro a b hab hb;by_cases e:a=b
  ·rw[e]
   exact Int.le_refl _
  ·have:=hC.inc a b (by omega) hb
   exact Int.le_of_lt this
 obtain⟨r,h1,h2,h3,h4⟩:=El9 t id (by omega) hmono
 obtain rfl:=Option.some.inj (h1.symm.trans hi);refine⟨fun h=> ?_,fun h g hg hid=> ?_⟩
 ·simp only[Fp3,decide_eq_true_eq] at h
  exact⟨r,rfl,h.1,h.2⟩
 ·have hid':(t.2.getD g gp0).1=id:=hid
  have hrg:r≤g:=by
   apply Fp6;intro hc;have:=h3 g (by omega)
   omega
  have h5:=h4 r (Nat.le_refl _) (by omega)
  have h6:=hmono r g hrg hg;have h7:(t.2.getD r gp0).1=id:=by omega
  have h8:(decide (r<t.2.length)&&decide ((t.2.getD r gp0).1=id))=true:=by
   rw[decide_eq_true (show r<t.2.length by omega),decide_eq_true h7]
   rfl
  have h9:(decide (r<t.2.length)&&decide ((t.2.getD r gp0).1=id))=false:=h;rw[h8] at h9;cases h9
theorem Em2 {c:Cfg}{t:TkD}(hC:COK c t){B:Int}(hB:0≤B∧B≤4000000000){p:Plc}(hx:XG t B p)(hon:p.1=true){was:G4}(hT:Told t was p){sp:Int×Int}(hs:SpO 16777216 sp){g:Nat}(hg:g<t.2.length):Wp (Az1 c t was sp (g:Int)) fun b=>b=false→BC3 c t p sp g:=by
 obtain⟨pg,L,x1,x2,x3,x4,x5⟩:=hx hon;obtain⟨t1,t2,t3⟩:=hT.on hon;have hl:=hC.tg.n2;rw[x2,Fp4] at t1;have t1:was.2.2.1=(gT t pg).1:=t1;have hroutes:was.2.2.2.2.2.2.2.2.1=L:=by
  rw[t3,x3];show (L.map J5).map pathOf=L;rw[List.map_map]
  conv=>rhs;rw[← List.map_id L]
  exact List.map_congr_left fun q hq=>u5 (x4.2.2 q hq).2.1
 obtain⟨s1,s2,s3⟩:=hs;obtain⟨y1,y2,y3⟩:=x5;unfold Az1;refine Wp.bnd (CQ0 t _ hl) fun r hr=> ?_
 have hrp:r=(pg:Int):=by
  rcases hr with⟨g',e1,e2,e3⟩|⟨_,e2⟩
  ·rw[t1] at e3
   rw[e1,CP9 hC e2 x1 e3]
  ·exact absurd t1.symm (e2 pg x1)
 subst hrp;refine Wp.chk (by simp only[Fp3,decide_eq_true_eq];omega) (Wp.chk (by simp only[Fp3,decide_eq_true_eq];omega) ?_)
 have ep:t.2.getD (pg:Int).toNat ((0:Int),((0:Int),((0:Int),((0:Int),(0:Int)))))=gT t pg:=rfl;have eg:t.2.getD (g:Int).toNat ((0:Int),((0:Int),((0:Int),((0:Int),(0:Int)))))=gT t g:=rfl;have ef:(gT t pg).2.2.1=Q0 t pg:=rfl;simp only[ep,eg,ef,hroutes,t2];rw[A5 (n:=p.2.2.1.1+sp.1) (by omega),A5 (n:=p.2.2.1.2+sp.2) (by omega)]
 obtain⟨g1,g2,g3,g4⟩:=hC.g g hg;have ha:=hC.an;rw[A5 (n:=(gT t g).2.2.2.1+c.2.2.2.2.2.2.2.2.1) (by omega),A5 (n:=(gT t g).2.2.2.1+c.2.2.2.2.2.2.2.2.1+(gT t g).2.2.2.2) (by omega)]
 have ew:(gT t g).2.2.2.1+c.2.2.2.2.2.2.2.2.1+(gT t g).2.2.2.2=Q3 c t g:=rfl;rw[ew];refine Wp.bnd (Eg5 hC.tg (Q0 t pg) (p.2.2.1.1+sp.1) (p.2.2.1.2+sp.2) L x4) fun z hz=>Wp.cnd (fun _=>Wp.some fun h=>by cases h) fun hc=> ?_
 have hz0:z.2=0:=by simpa using hc
 obtain⟨q1,q2,q3,q4,q5,q6,q7,q8⟩:=hz hz0;have hz1:z.1=(Q0 t pg,z.1.2):=by rw[← q3]
 rw[hz1];have honR:∀q∈z.1.2,OnT t q:=by intro q hq;obtain⟨p0,hp0,hcp⟩:=(q7 q).1 hq;exact CO5 hC.tg hcp (x4.2.2 p0 hp0)
 obtain⟨hu1,hu2⟩:(if sp.1<0 then sp.1 else 0)≤0∧ -16777216≤(if sp.1<0 then sp.1 else 0):=by constructor <;> split <;> omega
 obtain⟨hv1,hv2⟩:0≤(if sp.2>0 then sp.2 else 0)∧(if sp.2>0 then sp.2 else 0)≤16777216:=by constructor <;> split <;> omega
 refine Wp.bnd (Eg6 (Q0 t pg) z.1.2 g hg q5 honR) fun pls hpls=> ?_
 rw[A5 (n:=p.2.2.1.1+(if sp.1<0 then sp.1 else 0)) (by omega),A5 (n:=p.2.2.1.2+(if sp.2>0 then sp.2 else 0)) (by omega)]
 refine Wp.bnd (Q:=fun w:Bool ⊕ Unit=>match w with | .inl b=>b=true | .inr _=>∀y∈pls,¬BU6 c t g p.2.2.1 sp y) ?_ fun w hw=> ?_
 ·have hpl:=hpls.1
  refine Wp.AJ6 (fun i:Int=>∃n:Nat,n≤pls.length∧i=(n:Int)∧∀y∈pls.take n,¬BU6 c t g p.2.2.1 sp y) (fun i=>((pls.length:Int)-i).toNat) ?_ ⟨0,by omega,rfl,by simp⟩
  rintro i ⟨n,hn,rfl,hk⟩
  refine Wp.cnd (fun hc=> ?_) fun hc=> ?_
  ·have hlt:n<pls.length:=by simpa using hc
   have hwn:Fp5 .i64 ((n:Int)+1)=((n+1:Nat):Int):=by rw[IntKind.wrap_i64];omega
   refine Wp.chk (by simp only[Fp3,decide_eq_true_eq];omega) ?_
   simp only[Fp4,hwn];refine Wp.cnd (fun _=>Wp.some rfl) fun hf=>Wp.some ⟨⟨n+1,by omega,rfl,fun y hy=> ?_⟩,by simp only;omega⟩
   rw[← r8 (d:=(0:Int)) hlt] at hy;rcases List.mem_append.1 hy with hy | hy
   ·exact hk y hy
   ·obtain rfl:=List.mem_singleton.1 hy
    intro hF;obtain⟨f1,f2⟩:=hF;have f1:p.2.2.1.1+(if sp.1<0 then sp.1 else 0)≤Fp5 .i64 (pls.getD n 0+Q3 c t g):=f1
    rw[decide_eq_true f1] at hf;simp only[cond_true,decide_eq_false_iff_not] at hf;exact hf f2
  ·have hnl:n=pls.length:=by
    simp at hc;omega
   subst hnl;rw[List.take_length] at hk;exact Wp.some hk
 ·rcases w with w | w
  ·obtain rfl:=hw
   exact Wp.some fun h=>by cases h
  ·refine Wp.some fun _=>⟨L,z.1.2,by rw[x3],x4,?_,?_,q4,q5,?_,?_,?_⟩
   ·exact q1
   ·rw[x3];exact q2
   ·rw[x3];exact q7
   ·rw[x3];exact q8
   ·rw[x3]
    exact fun q hq y hy=>hw y (hpls.2 q hq y hy)

/- A group that isn't where it should be, or that the track doesn't know, is never used, and a fault is told. -/
structure CQ1 (c:Cfg)(t:TkD)(x:Sen)(p:Plc)(r:G4)(p':Plc):Prop where
 xg:XG t 4000000000 p
 told:Told t r p'
 sp:SpO 16777216 (spR r)
 no:x.2.2.2.2.1.2.2.2.2=false→u9 r=false∧AF5 r=false
 yes:x.2.2.2.2.1.2.2.2.2=true→∃i,V7 t x.2.2.2.1=some i∧(i.2=false→u9 r=false∧AF5 r=true)∧(i.2=true→AF5 r = !u9 r∧
  ∀g:Nat,i.1=(g:Int)→g<t.2.length→p.1=true→BC3 c t p (spR r) g→u9 r=false∧(p'.1=true→p'.2.1=p.2.1∧p'.2.2.1=(p.2.2.1.1+(spR r).1,p.2.2.1.2+(spR r).2)))
def BV0 (c:Cfg)(t:TkD):List Sen→List G4→Plc→Prop
 | [],[],_=>True
 |x::xs,r::rs,p=>∃p',CQ1 c t x p r p'∧BV0 c t xs rs p'
 |_,_,_=>False
theorem CQ2 {c:Cfg}{t:TkD}:∀(xs:List Sen) (rs:List G4) (p:Plc),BV0 c t xs rs p→xs.length=rs.length∧∀k (hx:k<xs.length) (hr:k<rs.length),∃q q',CQ1 c t xs[k] q rs[k] q'∧(k=0→q=p)∧(∀(h:k-1<rs.length),k≠0→Told t (rs[k-1]) q)
 | [],[],_,_=>⟨rfl,fun k hx=>absurd hx (by simp)⟩
 | [],r::rs,_,h=>h.elim
 |x::xs,[],_,h=>h.elim
 |x::xs,r::rs,p,h=>by
  obtain⟨p',h1,h2⟩:=h;obtain⟨h3,h4⟩:=CQ2 xs rs p' h2;refine⟨by simp[h3],fun k hx hr=> ?_⟩
  cases k with
  |zero=>exact ⟨p,p',h1,fun _=>rfl,fun _ hn=>absurd rfl hn⟩
  |succ k=>
   obtain⟨q,q',a1,a2,a3⟩:=h4 k (by simpa using hx) (by simpa using hr)
   refine⟨q,q',a1,fun hn=>absurd hn (by omega),fun hk _=> ?_⟩
   cases k with
   |zero=>
    rw[a2 rfl];exact h1.told
   |succ k=>exact a3 (by simp at hr ⊢;omega) (by omega)
theorem CQ3 {c:Cfg}{t:TkD}(hC:COK c t):∀(cs:List Cyc) (xs:List Sen) (k:Nat) (s:C8) (rs:List G4),cs.length=xs.length→k+xs.length≤100→(∀i (h:i<xs.length),cs[i]? = some (AC1 (((k+i) % 256:Nat):Int) xs[i],xs[i].2.2.2.2.2))→(∀x∈xs,AY3 x)→
  s.C9=(k:Int)→SOK s→s.broken=false→s.c=c→s.t=t→XG t (33554432*((k:Int)+1)) s.place→goN s cs=some rs→BV0 c t xs rs s.place
 | [],[],k,s,rs,_,_,_,_,_,_,_,_,_,_,h=>by
  rw[goN] at h;obtain rfl:=Option.some.inj h
  trivial
 | [],x::xs,_,_,_,hl,_,_,_,_,_,_,_,_,_,_=>by simp at hl
 |y::cs,[],_,_,_,hl,_,_,_,_,_,_,_,_,_,_=>by simp at hl
 |y::cs,x::xs,k,s,rs,hl,hk,hcs,hok,hcy,hs,hb,hc,ht,hx,h=>by
  simp only[List.length_cons] at hk hl;have h0:=hcs 0 (by simp)
  simp only[List.getElem?_cons_zero,Nat.add_zero,List.getElem_cons_zero,Option.some.injEq] at h0;have hxo:=hok x (by simp)
  subst h0;rw[goN] at h;cases hy:AB8 (AC1 ((k % 256:Nat):Int) x) x.2.2.2.2.2 s with
  |none=>rw [hy] at h;cases h
  |some z=>
   rw[hy] at h;simp only[Fp2] at h;cases hq:goN z.2 cs with
   |none=>rw [hq] at h;cases h
   |some qs=>
    rw[hq] at h;obtain rfl:=Option.some.inj h;have hf:=CN1 (q:=((k % 256:Nat):Int)) (by omega) hxo
    obtain⟨z2,e2,_,e4,e5,e6⟩:=CM8 _ x.2.2.2.2.2 s hs hf;obtain rfl:=Option.some.inj (e2.symm.trans hy);have hst:=hy;rw[Ee9 _ _ _ hf,hb,cond_false,hcy,Ee3 k x (by omega) hxo] at hst
    subst hc ht;obtain⟨f1,f2,f3,f4,f5,f6,f7⟩:=Ei7 (s:={s with broken:=false,C9:=Fp5 .i64 ((k:Int)+1)}) (B:=33554432*((k:Int)+1)) hC hx (by omega) (by omega) (BB9 x) x.2.2.2.2.2 (k:Int) z2 hst
    refine⟨z2.2.place,⟨BU7 hx (by omega),f4,f5,f6,fun hh=> ?_⟩,?_⟩
    ·obtain⟨i,i1,i2,i3⟩:=f7 hh
     have e:(mv5 (BB9 x)).1=x.2.2.2.1:=by show (bif x.2.2.2.2.1.2.2.2.2 then x.2.2.2.1 else 0)=_;rw[hh];rfl
     rw[e] at i1;exact⟨i,i1,i2,i3⟩
    ·refine CQ3 hC cs xs (k+1) z2.2 qs (by omega) (by omega) (fun i hi=> ?_) (fun w hw=>hok w (by simp[hw])) (by rw[e6,hcy,Ee8 k (by omega)]) e4 (by rw[e5,hb]) f1 f2 ?_ hq
     ·have:=hcs (i+1) (by simpa using hi)
      simp only[List.getElem?_cons_succ,List.getElem_cons_succ] at this;rw[this,show k+(i+1)=k+1+i by omega]
     ·have e:33554432*(((k+1:Nat):Int)+1)=33554432*((k:Int)+1)+33554432:=by omega
      rw[e];exact f3
theorem Em3 {c:Cfg}{t:TkD}(hc:(G7 t).1=0)(hN:AY1 t)(hf:Z7 c t=some (0,0)):Al (AX4 c (E0 (U5 t))) fun s=>s.c=c∧s.t=t∧s.broken=false∧s.place.1=false:=by unfold AX4;rw[CL3 _ (Ap1 (BB1 t)),Ec1 t hc hN];simp only[Fp2,beq_self_eq_true,cond_true,hf,Ap3,cond_false];exact Al.bnd fun g _=>Al.bnd fun en _=>Al.bnd fun a _=>Al.bnd fun b _=>Al.bnd fun sp _=>Al.some ⟨rfl,rfl,rfl,rfl⟩
theorem Em4 (c:Cfg)(t:TkD)(hs:t.1.length≤200→∀s∈t.1,s.2.1.length≤big∧s.2.2.length≤big)(hN:AY1 t):(∀l,AB7 c t l=some [])∨(COK c t∧∃s,SOK s∧s.C9=0∧s.c=c∧s.t=t∧s.broken=false∧s.place.1=false∧∀(l:List Cyc) (rs:List G4),l.length≤1000→goN s l=some rs→AB7 c t l=some rs):=by
 have he:=El4 c t hs;by_cases h0:(AJ7 c t).1=0
 ·right
  have hw:r6 c=0:=by apply Fp6;intro h;unfold AJ7 at h0;rw[if_pos h] at h0;cases h0
  have hck:(G7 t).1=0:=by
   apply Fp6;intro h;unfold AJ7 at h0;rw[if_neg (by omega),if_pos h] at h0
   cases h0
  have hfit:Z7 c t=some (0,0):=by
   rw[El3 c t hs hw];have h00:=h0;unfold AJ7 at h00 ⊢;rw[if_neg (by omega),if_neg (by omega)] at h00 ⊢
   split at h00
   ·cases h00
   ·rfl
  have hp:=Eb4 t (CL9 hck) hN;obtain⟨s,hn,h1,h2,h3,h4⟩:=Ed2 c (E0 (U5 t)) (Ap1 (BB1 t));obtain⟨a1,a2,a3,a4⟩:=Em3 hck hN hfit s hn;exact⟨Em0 hw hck,s,h2,h1,a1,a2,a3,a4,fun l rs hl hr=>EQ7 c t l hl he h0 hp hn hr⟩
 ·left
  intro l;unfold AB7;rw[he];have e1:((AJ7 c t).1 != (0:Int))=true:=by simpa using h0
  simp only[Fp2,e1,cond_true]
theorem Em5 (c:Cfg)(t:TkD)(l:List Sen)(hs:t.1.length≤200→∀s∈t.1,s.2.1.length≤big∧s.2.2.length≤big)(hN:AY1 t)(hF:∀x∈l,AY3 x):BC1 c t l=some true:=by
 unfold BC1;obtain⟨b,hb,hq⟩:=Ed3 t [];rw[hb];simp only[Fp2,Ec3];by_cases hl:(60:Int)<(l.length:Int)
 ·rw[decide_eq_true hl]
  rfl
 rw[decide_eq_false hl];simp only[Fp8,cond_true,Fp2,cond_false];cases b with
 |false=>rfl
 |true=>
  simp only[Fp7,cond_false];have hl2:l.length≤60:=by omega
  rw[Ee1 l (by omega) hF]
  simp only[Fp2];have fin:∀{rs:List G4} {f:Int→Option (Int ⊕ (Bool ⊕ Unit))} {K:(Bool ⊕ Unit)→Option Bool},(∀n:Nat,n<rs.length→f (n:Int)=some (.inl ((n+1:Nat):Int)))→f (rs.length:Int)=some (.inr (.inr ()))→K (.inr ())=some true→Option.bind (LP.lp f (0:Int)) K=some true:=by intro rs f K h1 h2 h3;exact Ap2 rs.length (fun i=>(i:Int)) (.inr ()) rfl h1 h2 h3
  rcases Em4 c t hs hN with h |⟨hC,s,hsok,h0,hc,ht,hbr,hpl,h⟩
  ·simp only[h,Fp2]
   refine fin (rs:=[]) (fun n hn=>absurd hn (by simp)) rfl rfl
  ·obtain⟨rs,hr,hlen,_⟩:=CM9 (AF4 l) s hsok (Ee5 hF)
   rw[BT6] at hlen;rw[h _ rs (by rw[BT6];omega) hr]
   simp only[Fp2];have hch:=CQ3 hC (AF4 l) l 0 s rs (BT6 l) (by omega) (fun i hi=>by rw[Ee6 l hi,Nat.zero_add]) hF h0 hsok hbr hc ht (fun hh=>by rw[hpl] at hh;cases hh) hr
   obtain⟨_,hat⟩:=CQ2 l rs s.place hch;refine fin (rs:=rs) (fun n hn=> ?_) ?_ rfl
   ·have hnl:n<l.length:=by omega
    obtain⟨q,q',hS,hq0,hqT⟩:=hat n hnl hn;have e1:(decide ((n:Int)<(rs.length:Int)))=true:=by simpa using hn
    have e2:(decide ((0:Int)≤(n:Int)))=true:=by simp
    have e3:(decide ((n:Int)<(l.length:Int)))=true:=by simpa using hnl
    have e5:=X7 n (by omega)
    have el:l.getD n (((0:Int),(0:Int)),((0:Int),((0:Int),((0:Int),((false,(false,(false,(false,false)))),false)))))=l[n]:=P6 hnl;have hx:=hF _ (List.getElem_mem hnl);have hw:=A5 (n:=(l[n]).2.2.2.1) (by have:=hx.g;omega)
    simp only[e1,e2,e3,cond_true,Bool.and_self,P5,Fp4,P6 hn,el,hw,e5];generalize l[n]=x at hS hx;obtain⟨rf,hrf,hfind⟩:=CQ0 t x.2.2.2.1 hC.tg.n2;rw[hrf];simp only[Fp2];have hacc:rs[n].2.2.2.2.2.2.2.2.2.2.2.2.2.1=u9 rs[n]:=rfl;have hflt:rs[n].2.2.2.2.2.2.2.2.2.2.2.2.2.2.1=AF5 rs[n]:=rfl;have hspr:rs[n].2.2.2.2.2.1=spR rs[n]:=rfl;simp only[hacc,hflt,hspr];cases hh:x.2.2.2.2.1.2.2.2.2 with
    |false=>
     obtain⟨a1,a2⟩:=hS.no hh;simp only[Fp8,cond_true,a1,a2,cond_false,Fp2]
    |true=>
     obtain⟨i,i1,i2,i3⟩:=hS.yes hh;obtain⟨j1,j2⟩:=Em1 hC _ i i1;simp only[Fp7,cond_false];cases hk:i.2 with
     |false=>
      obtain⟨a1,a2⟩:=i2 hk;have hneg:rf = -1:=by
       rcases hfind with⟨g,g1,g2,g3⟩|⟨g1,_⟩
       ·exact absurd g3 (j2 hk g g2)
       ·exact g1
      subst hneg;have hwn:(((decide ((0:Int)≤Fp5 .i64 ((n:Int)-1)))&&(decide (Fp5 .i64 ((n:Int)-1)<(rs.length:Int))))|| !(!((n:Int)==(0:Int))))=true:=by
       by_cases hn0:n=0
       ·subst hn0
        simp
       ·rw[A5 (by omega)]
        simp only[Fp9,Fp3,decide_eq_true_eq]
        left
        omega
      rw[hwn];have hbt:∀b:Bool,(bif b then true else true)=true:=fun b=>by cases b <;> rfl
      simp only[a1,a2,show ((false:Bool)==true)=false from rfl,show decide ((-1:Int)<0)=true from rfl,cond_true,cond_false,P5,hbt,Fp2]
     |true=>
      obtain⟨a1,a2⟩:=i3 hk;obtain⟨g,g1,g2,g3⟩:=j1 hk;have hrf2:rf=(g:Int):=by
       rcases hfind with⟨g',h1,h2,h3⟩|⟨_,h2⟩
       ·rw[h1,CP9 hC h2 g2 (h3.trans g3.symm)]
       ·exact absurd g3 (h2 g g2)
      subst hrf2;have hg0:decide (((g:Int))<0)=false:=decide_eq_false (by omega)
      have hbb:(u9 rs[n]==AF5 rs[n])=false:=by rw[a1];cases u9 rs[n] <;> rfl
      simp only[hg0,cond_false,hbb];by_cases hn0:n=0
      ·subst hn0
       simp only[show (((0:Nat):Int)==(0:Int))=true from rfl,Fp7,Fp8,Bool.or_true,P5,cond_true,Fp2]
      ·have hnz:((n:Int)==(0:Int))=false:=by
        rw[beq_eq_false_iff_ne];omega
       have hwn:Fp5 .i64 ((n:Int)-1)=((n-1:Nat):Int):=by
        rw[A5 (by omega)]
        omega
       have hn1:n-1<rs.length:=by omega
       have e6:(decide ((0:Int)≤((n-1:Nat):Int)))=true:=by simp
       have e7:(decide (((n-1:Nat):Int)<(rs.length:Int)))=true:=by rw[decide_eq_true_eq];omega
       simp only[hnz,hwn,e6,e7,Bool.and_self,Bool.true_or,P5,cond_false,Fp4,P6 hn1];have hT:=hqT hn1 hn0;cases hqon:q.1 with
       |false=>
        have:=hT.off hqon;rw[this];simp only[beq_self_eq_true,cond_true,Fp2]
       |true=>
        have hgrp:(rs[n-1].2.2.1==(0:Int))=false:=by obtain⟨pg,L,x1,x2,_⟩:=hS.xg hqon;obtain⟨t1,_,_⟩:=hT.on hqon;rw[x2,Fp4] at t1;have:=(hC.g pg x1).1;have t1:rs[n-1].2.2.1=(gT t pg).1:=t1;rw[beq_eq_false_iff_ne,t1];omega
        simp only[hgrp,cond_false];obtain⟨bf,hbf,hno⟩:=Em2 hC (B:=4000000000) (by omega) hS.xg hqon hT hS.sp g2
        rw[hbf];simp only[Fp2];cases bf with
        |true=>simp only[Fp7,cond_false,Fp2]
        |false=>
         obtain⟨b1,b2⟩:=a2 g g1 g2 hqon (hno rfl);have hfl:AF5 rs[n]=true:=by rw[a1,b1];rfl
         simp only[hfl,Fp7,Fp8,cond_false,cond_true];cases hq'on:q'.1 with
         |false=>
          have:=hS.told.off hq'on;have e:(rs[n].2.2.1 != (0:Int))=false:=by rw[this];rfl
          simp only[e,cond_false,Fp2]
         |true=>
          obtain⟨c1,c2⟩:=b2 hq'on;obtain⟨t1,t2,_⟩:=hT.on hqon;obtain⟨u1,u2,_⟩:=hS.told.on hq'on;obtain⟨_,_,_,_,_,_,y1,y2,y3⟩:=hS.xg hqon;obtain⟨s1,s2,s3⟩:=hS.sp;have d1:(rs[n].2.2.1 != rs[n-1].2.2.1)=false:=by rw[u1,t1,c1];exact Ap3 _
          have d2:(rs[n].2.2.2.1.1 != Fp5 .i64 (rs[n-1].2.2.2.1.1+(spR rs[n]).1))=false:=by
           rw[u2,t2,c2,A5 (by omega)]
           exact Ap3 _
          have d3:(rs[n].2.2.2.1.2 != Fp5 .i64 (rs[n-1].2.2.2.1.2+(spR rs[n]).2))=false:=by
           rw[u2,t2,c2,A5 (by omega)]
           exact Ap3 _
          simp only[d1,d2,d3,cond_false];cases (rs[n].2.2.1 != (0:Int)) <;> rfl
   ·have e1:(decide ((rs.length:Int)<(rs.length:Int)))=false:=by simp
    simp only[e1,cond_false]
end Go.Proofs.YthfjpkdadjemcaaGreat
