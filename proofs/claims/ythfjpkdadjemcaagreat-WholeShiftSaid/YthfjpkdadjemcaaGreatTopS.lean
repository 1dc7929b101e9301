/- At which counts the tachometers begin makes no difference. -/
import Derived.Test.YthfjpkdadjemcaaGreatTIJ
set_option linter.unusedSimpArgs false
set_option linter.unusedVariables false
namespace Go.Proofs.YthfjpkdadjemcaaGreat
open Go Go.RowKit
def ShK (by':Int)(k k':Cnt):Prop:=k'.1=k.1∧k'.2.2=k.2.2∧(k.1=true→k'.2.1=IntKind.wrap .u16 (k.2.1+by'))
theorem Eg7 {by' v:Int}{h:Bool}{k k':Cnt}(hk:ShK by' k k'){v':Int}(hv:h=true→v'=IntKind.wrap .u16 (v+by')){y:Cnt×(Int×Bool)}(hy:AG7 k v h=some y):
  ∃c,AG7 k' v' h=some (c,y.2)∧ShK by' y.1 c:=by
 obtain⟨a,b,c⟩:=k;obtain⟨a',b',c'⟩:=k';obtain⟨h1,h2,h3⟩:=hk;simp only at h1 h2 h3;subst h1 h2;unfold AG7 at hy ⊢;cases h with
 |false=>
  obtain rfl:=Option.some.inj hy;exact⟨_,rfl,rfl,rfl,fun h=>by cases h⟩
 |true=>
  have hv:=hv rfl;have e1:IntKind.wrap .u16 v'=IntKind.wrap .u16 (IntKind.wrap .u16 v+by'):=by rw[hv,W2,W2,W2,W2];omega
  cases a' with
  |false=>
   obtain rfl:=Option.some.inj hy;exact⟨_,rfl,rfl,rfl,fun _=>e1⟩
  |true=>
   have h3:=h3 rfl;have e2:AM4 b' (IntKind.wrap .u16 v')=AM4 b (IntKind.wrap .u16 v):=by
    unfold AM4;have:IntKind.wrap .u16 (IntKind.wrap .u16 v'-b')=IntKind.wrap .u16 (IntKind.wrap .u16 v-b):=by rw[e1,h3,W2,W2,W2,W2,W2];omega
    simp only[this]
   simp only[Bool.not_true,cond_false] at hy ⊢;rw[e2];cases hd:AM4 b (IntKind.wrap .u16 v) with
   |none=>rw [hd] at hy;cases hy
   |some d=>
    rw[hd] at hy;simp only[Option.bind_some] at hy ⊢;cases hs:Ac3 c' d with
    |none=>rw [hs] at hy;cases hy
    |some z=>
     rw[hs] at hy;obtain rfl:=Option.some.inj hy;exact⟨_,rfl,rfl,rfl,fun _=>e1⟩
theorem CJ7 {by' v:Int}{h:Bool}{k k':Cnt}(hk:ShK by' k k'){v':Int}(hv:h=true→v'=IntKind.wrap .u16 (v+by')){circ:Spn}{p:Int}{y:Sns×Cnt}(hy:Y4 k circ p (v,h)=some y):
  ∃c,Y4 k' circ p (v',h)=some (y.1,c)∧ShK by' y.2 c:=by
 unfold Y4 at hy ⊢;simp only at hy ⊢;cases hn:AG7 k v h with
 |none=>rw [hn] at hy;cases hy
 |some z=>
  obtain⟨c,hc,hs⟩:=Eg7 hk hv hn;rw[hn] at hy;rw[hc];simp only[Option.bind_some] at hy ⊢;cases hz:z.2.2 with
  |false=>
   rw[hz] at hy;obtain rfl:=Option.some.inj hy;exact⟨c,rfl,hs⟩
  |true=>
   rw[hz] at hy;simp only[Bool.not_true,cond_false] at hy ⊢;cases ht:AG9 z.2.1 circ p with
   |none=>rw [ht] at hy;cases hy
   |some w=>
    rw[ht] at hy;obtain rfl:=Option.some.inj hy;exact⟨c,rfl,hs⟩
def ShN (by0 by1:Int)(s s':A7):Prop:=∃a b,s'={s with k0:=a,k1:=b}∧ShK by0 s.k0 a∧ShK by1 s.k1 b
theorem Eg8 {by0 by1:Int}{s s':A7}(h:ShN by0 by1 s s'){a b a' b':Int}{ha hb:Bool}(h1:ha=true→a'=IntKind.wrap .u16 (a+by0))(h2:hb=true→b'=IntKind.wrap .u16 (b+by1)){v3 v4:Int×Bool}{y:Fsd×(Cnt×Cnt)}(hy:q8 s (a,ha) (b,hb) v3 v4=some y):
  ∃c d,q8 s' (a',ha) (b',hb) v3 v4=some (y.1,(c,d))∧ShK by0 y.2.1 c∧ShK by1 y.2.2 d:=by
 obtain⟨ka,kb,rfl,hk0,hk1⟩:=h;unfold q8 at hy ⊢;cases e1:Y4 s.k0 s.J4 s.c.1 (a,ha) with
 |none=>rw [e1] at hy;cases hy
 |some z=>
  obtain⟨c,hc,hs⟩:=CJ7 hk0 h1 e1;rw[e1] at hy;simp only[Option.bind_some] at hy ⊢;rw[hc];simp only[Option.bind_some];cases e2:Y4 s.k1 s.J5 s.c.1 (b,hb) with
  |none=>rw [e2] at hy;cases hy
  |some z2=>
   obtain⟨d,hd,hs2⟩:=CJ7 hk1 h2 e2;rw[e2] at hy;simp only[Option.bind_some] at hy;rw[hd];simp only[Option.bind_some];cases e3:Ad8 s.c v3 with
   |none=>rw [e3] at hy;cases hy
   |some r=>
    rw[e3] at hy;simp only[Option.bind_some] at hy ⊢;cases e4:Ac5 s.c s.speed with
    |none=>rw [e4] at hy;cases hy
    |some pr=>
     rw[e4] at hy;simp only[Option.bind_some] at hy ⊢;cases e5:Ad9 s.c s.t s.U5 s.speed s.place v4 with
     |none=>rw [e5] at hy;cases hy
     |some ac=>
      rw[e5] at hy;simp only[Option.bind_some] at hy ⊢;cases e6:AH2 pr (z.1,(z2.1,r)) ac with
      |none=>rw [e6] at hy;cases hy
      |some f=>
       rw[e6] at hy;obtain rfl:=Option.some.inj hy;exact⟨c,d,rfl,hs,hs2⟩
theorem Eg9 {by0 by1:Int}{s s':A7}(h:ShN by0 by1 s s'){m m':Mal}(e1:m'.1=m.1)(e2:m'.2.2=m.2.2)(h1:m.1.2.1=true→m'.2.1.2.1=IntKind.wrap .u16 (m.2.1.2.1+by0))(h2:m.1.2.2.1=true→m'.2.1.2.2.1=IntKind.wrap .u16 (m.2.1.2.2.1+by1))(h3:m'.2.1.2.2.2=m.2.1.2.2.2){cmd:Bool}{cy:Int}{y:E3×A7}(hy:U7 m cmd cy s=some y):
  ∃s2,U7 m' cmd cy s'=some (y.1,s2)∧ShN by0 by1 y.2 s2:=by
 rw[BE0] at hy ⊢;have m1:mv1 m'=(m'.2.1.2.1,m.1.2.1):=by unfold mv1;rw[e1]
 have m2:mv2 m'=(m'.2.1.2.2.1,m.1.2.2.1):=by unfold mv2;rw[e1]
 have m3:mv3 m'=mv3 m:=by unfold mv3;rw[e1,h3]
 have m4:mv4 m'=mv4 m:=by unfold mv4;rw[e1,h3]
 have m5:mv5 m'=mv5 m:=by unfold mv5;rw[e1,h3]
 rw[m1,m2,m3,m4,m5,e2];cases hs:q8 s (mv1 m) (mv2 m) (mv3 m) (mv4 m) with
 |none=>rw [hs] at hy;cases hy
 |some z=>
  obtain⟨c,d,h5,h6,h7⟩:=Eg8 h (a:=m.2.1.2.1) (b:=m.2.1.2.2.1) (ha:=m.1.2.1) (hb:=m.1.2.2.1) h1 h2 hs;rw[hs] at hy;rw[h5];simp only[Option.bind_some] at hy ⊢;obtain⟨ka,kb,rfl,_,_⟩:=h;rw[Eg3 (mv5 m) m.2.2 cmd cy s z.1 z.2.1 z.2.2 c d ka kb h6.2.1 h7.2.1,hy];have hk:∀y,AB4 (mv5 m) m.2.2 cmd cy s z.1 z.2.1 z.2.2=some y→y.2.k0=z.2.1∧y.2.k1=z.2.2:=Eg5 _ _ _ _ _ _ _ _;obtain⟨k0,k1⟩:=hk y hy
  exact⟨_,rfl,c,d,rfl,by rw[k0];exact h6,by rw[k1];exact h7⟩
def shX (by':Int×Int)(x:Sen):Sen:=((IntKind.wrap .u16 (x.1.1+by'.1),IntKind.wrap .u16 (x.1.2+by'.2)),x.2)
theorem BV5 {by':Int×Int}{x:Sen}(h:u7 x):u7 (shX by' x):=by refine⟨?_,?_,h.v,h.c,h.g⟩ <;> (simp only[shX];rw[W2];omega)
theorem Eh0 {by':Int×Int}{k:Nat}(hk:k≤1000){x:Sen}(hx:u7 x){s s':A7}(hc:s.C5=(k:Int))(hN:ShN by'.1 by'.2 s s'){y:E3×A7}(hy:U8 (Y9 ((k % 256:Nat):Int) x) x.2.2.2.2.2 s=some y):
  ∃s2,U8 (Y9 ((k % 256:Nat):Int) (shX by' x)) x.2.2.2.2.2 s'=some (y.1,s2)∧ShN by'.1 by'.2 y.2 s2:=by
 have hq:0≤((k % 256:Nat):Int)∧((k % 256:Nat):Int)≤255:=by omega
 rw[BE1 _ _ _ (BD8 hq hx)] at hy;rw[BE1 _ _ _ (BD8 hq (BV5 hx))];obtain⟨a,b,rfl,ha,hb⟩:=hN;simp only;cases hbr:s.broken with
 |true=>
  rw[hbr] at hy;obtain rfl:=Option.some.inj hy;exact⟨_,rfl,a,b,rfl,ha,hb⟩
 |false=>
  rw[hbr] at hy;simp only[cond_false] at hy ⊢;rw[hc,CJ0 k x (by omega) hx] at hy
  rw[hc,CJ0 k (shX by' x) (by omega) (BV5 hx)]
  obtain⟨xa,xb,_,_,_⟩:=hx;refine Eg9 (m:=Af2 x) (m':=Af2 (shX by' x)) (s:={s with C5:=IntKind.wrap .i64 ((k:Int)+1),broken:=false}) (s':={s with k0:=a,k1:=b,C5:=IntKind.wrap .i64 ((k:Int)+1),broken:=false}) ⟨a,b,rfl,ha,hb⟩ rfl rfl ?_ ?_ rfl hy
  ·intro h
   have h:x.2.2.2.2.1.1=true:=h;simp only[Af2,shX,h,cond_true]
  ·intro h
   have h:x.2.2.2.2.1.2.1=true:=h;simp only[Af2,shX,h,cond_true]
theorem Eh1 (by':Int×Int)(l:List Sen)(hl:l.length≤1000)(h:∀x∈l,u7 x)(s:A7)(hs:SOK s)(hc:s.C5=0)(h0:s.k0=(false,0,0))(h1:s.k1=(false,0,0)):∃rs,goN s (Z0 l)=some rs∧goN s (Z0 (l.map (shX by')))=some rs∧rs.length=l.length∧∀r∈rs,AH7 r:=by
 obtain⟨rs,hr,hlen,hok⟩:=BD4 (Z0 l) s hs (Ef3 h);rw[Af3] at hlen;obtain⟨rs',hr',hl2,heq⟩:=BV4 (R:=fun k s s'=>s.C5=(k:Int)∧SOK s∧ShN by'.1 by'.2 s s') (C:=fun k x x'=>∃a,u7 a∧k≤999∧x=(Y9 ((k % 256:Nat):Int) a,a.2.2.2.2.2)∧x'=(Y9 ((k % 256:Nat):Int) (shX by' a),a.2.2.2.2.2)) (A:=fun a b=>a=b) (fun _=>True)
  (fun k s s' x x' y hR hC _ hy=>by
   obtain⟨hc,hs,hN⟩:=hR;obtain⟨a,ha,hk,rfl,rfl⟩:=hC;obtain⟨s2,h2,h3⟩:=Eh0 (by':=by') (k:=k) (by omega) ha hc hN hy
   obtain⟨y2,e2,_,h5,_,h7⟩:=BU6 _ a.2.2.2.2.2 s hs (BD8 (q:=((k % 256:Nat):Int)) (by omega) ha)
   have e3:some y2=some y:=e2.symm.trans hy;obtain rfl:=Option.some.inj e3;exact⟨_,h2,rfl,by rw[h7,hc,CJ4 k (by omega)],h5,h3⟩)
  (Z0 l) (Z0 (l.map (shX by'))) 0 s s rs ⟨hc,hs,s.k0,s.k1,rfl,by rw[h0];exact⟨rfl,rfl,fun h=>by cases h⟩,by rw[h1];exact⟨rfl,rfl,fun h=>by cases h⟩⟩ (by rw[Af3,Af3,List.length_map]) (fun i x x' hx hx'=>by
   have hi:i<l.length:=by
    have:=(List.getElem?_eq_some_iff.1 hx).1
    rwa [Af3] at this
   rw[CJ2 l hi] at hx;rw[CJ2 _ (by rw[List.length_map];exact hi)] at hx'
   obtain rfl:=Option.some.inj hx;obtain rfl:=Option.some.inj hx';rw[Nat.zero_add];exact⟨l[i],h _ (List.getElem_mem hi),by omega,rfl,by rw[List.getElem_map];rfl⟩) (fun _ _=>trivial) hr
 have:rs=rs':=by
  apply List.ext_getElem?;intro i;by_cases hi:i<rs.length
  ·rw[List.getElem?_eq_getElem hi,List.getElem?_eq_getElem (by omega)]
   exact congrArg some (heq i _ _ (List.getElem?_eq_getElem hi) (List.getElem?_eq_getElem (by omega)))
  ·rw[List.getElem?_eq_none (by omega),List.getElem?_eq_none (by omega)]
 subst this;exact⟨rs,hr,hr',hlen,hok⟩
theorem Eh2 (c:Cfg)(t:TkD)(l:List Sen)(by':Int×Int)(hs:t.1.length≤200→∀s∈t.1,s.2.1.length≤big∧s.2.2.length≤big)(hN:Af0 t)(hF:∀x∈l,u7 x):BA3 c t l by'=some true:=by
 unfold BA3;obtain⟨b,hb,hq⟩:=CI5 t [];rw[hb];simp only[Option.bind_some,BV1];by_cases hl:(100:Int)<(l.length:Int)
 ·rw[decide_eq_true hl]
  rfl
 rw[decide_eq_false hl];simp only[Bool.not_false,cond_true,Option.bind_some,cond_false];cases b with
 |false=>rfl
 |true=>
  simp only[Bool.not_true,cond_false];have hl2:l.length≤100:=by omega
  refine AI2 l.length (fun i=>((i:Int),(l.take i).map (shX by'))) (l.map (shX by')) rfl ?_ ?_ ?_
  ·intro i hi
   have e1:(decide ((i:Int)<(l.length:Int)))=true:=by simpa using hi
   have e2:(decide ((0:Int)≤(i:Int)))=true:=by simp
   have e5:=q9 i (by omega)
   have e3:(l.getD i (((0:Int),(0:Int)),((0:Int),((0:Int),((0:Int),((false,(false,(false,(false,false)))),false))))))=l.getD i u6:=rfl;simp only[e1,e2,cond_true,Bool.and_self,P6,Int.toNat_natCast,e3,e5];have e6:decide ((((l.take i).map (shX by')).length+([((IntKind.wrap .u16 ((l.getD i u6).1.1+by'.1),IntKind.wrap .u16 ((l.getD i u6).1.2+by'.2)),(l.getD i u6).2)]:List Sen).length)*20≤140737488355328)=true:=by simp only[List.length_map,List.length_take,List.length_cons,List.length_nil,decide_eq_true_eq];omega
   rw[e6,P6,← Ae6 (d:=u6) hi,List.map_append];rfl
  ·have e1:(decide ((l.length:Int)<(l.length:Int)))=false:=by simp
   simp only[e1,cond_false,List.take_length]
  ·have hF2:∀x∈l.map (shX by'),u7 x:=by
    intro x hx;obtain⟨z,hz,rfl⟩:=List.mem_map.1 hx;exact BV5 (hF z hz)
   rw[CI8 l (by omega) hF,CI8 (l.map (shX by')) (by rw[List.length_map];omega) hF2]
   simp only[Option.bind_some];rcases BU7 c t hs hN with h |⟨s,hsok,h0,h1,h2,h⟩
   ·simp only[h,Option.bind_some]
    have e4:Y3 [] []=some true:=BD5 (by simp) (by simp)
    rw[e4];rfl
   ·obtain⟨rs,r1,r2,r3,r4⟩:=Eh1 by' l (by omega) hF s hsok h0 h1 h2
    rw[h _ rs (by rw[Af3];omega) r1,h _ rs (by rw[Af3,List.length_map];omega) r2]
    simp only[Option.bind_some];rw[BD5 (by omega) r4]
    rfl
end Go.Proofs.YthfjpkdadjemcaaGreat
