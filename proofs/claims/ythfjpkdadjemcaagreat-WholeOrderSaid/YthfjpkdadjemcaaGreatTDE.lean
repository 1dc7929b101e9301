/- Each part of a cycle has an answer, in a good state. -/
import Derived.Test.YthfjpkdadjemcaaGreatTopT
import Derived.Test.YthfjpkdadjemcaaGreatTABC
set_option linter.unusedSimpArgs false
set_option linter.unusedVariables false
namespace Go.Proofs.YthfjpkdadjemcaaGreat
open Go Go.RowKit
theorem Tot.wpT {α:Type}{a:Option α}(h:Tot a):Wp a fun _=>True:=by obtain⟨y,hy⟩:=h;exact⟨y,hy,trivial⟩
theorem J7 {i n:Int}(h0:0≤i)(h1:i<n)(hn:n≤1000000):IntKind.wrap .i64 (i+1)=i+1:=by rw[IntKind.wrap_i64];omega
theorem T0 {α:Type}{l:List α}{i:Int}{d:α}(h0:0≤i)(h1:i<(l.length:Int)):l.getD i.toNat d∈l:=by
 have h:i.toNat<l.length:=by omega
 simp[List.getD,h]
structure Q6 (t:TkD):Prop where
 ne:t.1≠[]
 n1:t.1.length≤200
 n2:t.2.length≤400
 seg:∀x∈t.1,x.2.1≠[]∧x.2.1.length≤64∧x.2.2.length≤2∧∀n∈x.2.2,0≤n∧n<(t.1.length:Int)
 grp:∀g∈t.2,0≤g.2.1∧g.2.1<(t.1.length:Int)
def Ae3 (n:Nat)(r:RtD):Prop:=1≤r.1∧r.1≤12∧∀i∈pathOf r,0≤i∧i<(n:Int)
structure AH6 (n:Nat)(s:L3):Prop where
 ne:s.2≠[]
 few:s.2.length≤100
 all:∀r∈s.2,Ae3 n r
def r6 (t:TkD)(p:Plc):Prop:=p.1=true→0≤p.2.1∧p.2.1<(t.2.length:Int)∧AH6 t.1.length p.2.2.2.2
theorem BS3 (r:RtD):Aa8 r=some (pathOf r):=rfl
theorem BB4 (r:RtD):(pathOf r).length≤12:=by obtain⟨n,s0,s1,s2,s3,s4,s5,s6,s7,s8,s9,s10,s11⟩:=r;unfold pathOf;rw[List.length_take];exact Nat.min_le_right _ _
theorem BS4 (s:L3)(t:TkD)(r:RtD)(h:∀i∈pathOf r,0≤i∧i<(t.1.length:Int)):Tot (S3 s t r):=by
 unfold S3;rw[BS3];simp only[Option.bind_some];refine Tot.bnd ?_ fun _=>Tot.some
 have hp:=BB4 r;refine Tot.loop (fun s=>0≤s.2∧s.2≤((pathOf r).length:Int)) (fun s=>(((pathOf r).length:Int)-s.2).toNat) ?_ ⟨by simp,by simp⟩
 rintro⟨a,i⟩ ⟨h0,h1⟩
 refine Wp.cnd (fun hc=> ?_) fun _=>Wp.some trivial
 have hi:i<((pathOf r).length:Int):=by simpa using hc
 have h0':0≤i:=h0;have hw:=J7 h0' hi (by omega)
 have hm:=h _ (T0 (d:=(0:Int)) h0' hi);refine Wp.chk (by simp only[hw,Bool.or_eq_true,Bool.and_eq_true,decide_eq_true_eq,Bool.not_eq_true',decide_eq_false_iff_not];omega) (Wp.chk ?_ (Wp.some ?_))
 ·simp only[Bool.and_eq_true,decide_eq_true_eq];exact hm
 ·simp only[hw];exact⟨⟨by omega,by omega⟩,by omega⟩
theorem CC0 (l:List (Int×Int))(s:Int×Int)(hl:l.length≤1000):Tot (AL1 l s):=by
 unfold AL1;refine Tot.bnd ?_ fun _=>Tot.some
 refine Tot.loop (fun s=>0≤s.2.1∧s.2.1≤(l.length:Int)) (fun s=>((l.length:Int)-s.2.1).toNat) ?_ ⟨by simp,by simp⟩
 rintro⟨a,i,b,f⟩ ⟨h0,h1⟩
 refine Wp.cnd (fun hc=> ?_) fun _=>Wp.some trivial
 have hi:i<(l.length:Int):=by simpa using hc
 have h0':0≤i:=h0;have hw:=J7 h0' hi (by omega)
 refine Wp.bnd (Tot.wpT ?_) fun _ _=>Wp.some ?_
 ·refine Tot.chk (by simp only[hw,Bool.or_eq_true,Bool.and_eq_true,decide_eq_true_eq,Bool.not_eq_true',decide_eq_false_iff_not];omega) (Tot.chk ?_ ?_)
  ·simp only[hw,Bool.or_eq_true,Bool.and_eq_true,decide_eq_true_eq,Bool.not_eq_true',decide_eq_false_iff_not];omega
  ·repeat' (first | (intro _) | (with_reducible (first | exact Tot.some | exact AB0 .. | exact AN5 .. | exact AV8 .. | exact p7 .. | exact Ad4 .. | exact Am4 .. | exact Am2 .. | exact Ad3 .. | exact Am3 .. | exact AH5 .. | exact Ad5 .. | exact AH4 .. | exact BA9 .. | exact Am5 .. | exact AV7 .. | exact AN4 .. | exact Ad7 .. | exact Ad6 .. | exact AV9 .. | refine Tot.bnd ?_ ?_ | refine Tot.cnd ?_ ?_ | refine Tot.chk ?_ ?_)))
 ·simp only[hw];exact⟨⟨by omega,by omega⟩,by omega⟩
theorem EM0 (n:Int)(st a b:Int)(x:List (Int×(List (Int×Int)×List Int)))(y:List (Int×(Int×(Int×(Int×Int)))))(f:Bool)(c d:Int)(h0:0≤n)(h1:n<(x.length:Int))(hl:∀z∈x,z.2.1.length≤64):
  Wp (AT6 n st a b x y f c d) fun z=>z.2.2.1=x:=by
 unfold AT6;have hm:=hl _ (T0 (d:=(0,[],[])) h0 h1);refine Wp.chk (by simp only[Bool.and_eq_true,decide_eq_true_eq];exact⟨h0,h1⟩) ?_
 refine Wp.bnd (p7 _ _).wpT fun _ _=>Wp.cnd (fun _=>Wp.some rfl) fun _=> ?_
 refine Wp.chk (by simp only[Bool.and_eq_true,decide_eq_true_eq];exact⟨h0,h1⟩) ?_
 refine Wp.bnd (CC0 _ _ (by omega)).wpT fun _ _=>Wp.bnd (Q:=fun _=>True) ?_ fun _ _=>Wp.bnd (AV8 _ _).wpT fun _ _=>Wp.some rfl
 exact Wp.cnd (fun _=>Wp.some trivial) fun _=>Wp.some trivial
theorem EM1 (s:L3)(t:TkD)(a b:Int)(x:List (Int×(List (Int×Int)×List Int)))(y:List (Int×(Int×(Int×(Int×Int)))))(f:Bool)(c d:Int)(hn:s.2.length≤1000)(hx:x.length=t.1.length)(hl:∀z∈x,z.2.1.length≤64)(hs:∀r∈s.2,∀i∈pathOf r,0≤i∧i<(t.1.length:Int)):Tot (AT7 s t a b x y f c d):=by
 unfold AT7;refine Tot.bnd ?_ fun _=>Tot.some
 refine Tot.loop (fun z=>0≤z.2.2.1∧z.2.2.1≤(s.2.length:Int)∧z.2.2.2.2.2.2.2=x) (fun z=>((s.2.length:Int)-z.2.2.1).toNat) ?_ ⟨by simp,by simp,rfl⟩
 rintro⟨a1,a2,i,a4,a5,a6,a7,a8⟩ ⟨h0,h1,hx8⟩
 simp only at hx8;subst hx8;refine Wp.cnd (fun hc=> ?_) fun _=>Wp.some trivial
 have hi:i<(s.2.length:Int):=by simpa using hc
 have h0':0≤i:=h0;have hw:=J7 h0' hi (by omega)
 have hm:=hs _ (T0 (d:=(0,0,0,0,0,0,0,0,0,0,0,0,0)) h0' hi);refine Wp.chk (by simp only[hw,Bool.or_eq_true,Bool.and_eq_true,decide_eq_true_eq,Bool.not_eq_true',decide_eq_false_iff_not];omega) ?_
 simp only[BS3,Option.bind_some];generalize s.2.getD i.toNat (0,0,0,0,0,0,0,0,0,0,0,0,0)=r at hm;have hp:=BB4 r;refine Wp.bnd (Q:=fun z=>z.2.2.2.2.2.1=a8) ?_ fun z hz=>Wp.some ?_
 ·refine Wp.loop (fun z=>0≤z.2.2.2.2.2.2.2.2∧z.2.2.2.2.2.2.2.2≤((pathOf r).length:Int)∧z.2.2.2.2.2.2.1=a8) (fun z=>(((pathOf r).length:Int)-z.2.2.2.2.2.2.2.2).toNat) ?_ ⟨by simp,by simp,rfl⟩
  rintro⟨b1,b2,b3,b4,b5,b6,b7,b8,k⟩ ⟨k0,k1,hb7⟩
  simp only at hb7;subst hb7;refine Wp.cnd (fun hc=> ?_) fun _=>Wp.some rfl
  have hk:k<((pathOf r).length:Int):=by simpa using hc
  have k0':0≤k:=k0;have hw2:=J7 k0' hk (by omega)
  have hm2:=hm _ (T0 (d:=(0:Int)) k0' hk);refine Wp.chk (by simp only[Bool.and_eq_true,decide_eq_true_eq];exact⟨k0',hk⟩) ?_
  refine Wp.bnd (EM0 _ _ _ _ _ _ _ _ _ hm2.1 (by rw[hx];exact hm2.2) hl) fun z hz=>Wp.chk ?_ (Wp.some ?_)
  ·simp only[Bool.and_eq_true,decide_eq_true_eq];exact hm2
  ·simp only[hw2];exact⟨⟨by omega,by omega,hz⟩,by omega⟩
 ·simp only[hw];exact⟨⟨by omega,by omega,hz⟩,by omega⟩
theorem EM2 (s:L3)(t:TkD)(p:Int×Int)(ht:Q6 t)(hs:AH6 t.1.length s):Tot (AT8 s t p):=by unfold AT8;exact Tot.bnd (EM1 _ _ _ _ _ _ _ _ _ (by have:=hs.few;omega) rfl (fun z hz=>(ht.seg z hz).2.1) fun r hr=>(hs.all r hr).2.2) fun _=>Tot.some
theorem EM3 (t:TkD)(gr:Spn)(pl:Plc)(ht:Q6 t)(hp:r6 t pl):Tot (BS2 t gr pl):=by
 unfold BS2 AT9;cases hon:pl.1 with
 |false=>exact Tot.some
 |true=>
  obtain⟨_,_,hs⟩:=hp hon;have hf:=hs.few;refine Tot.bnd ?_ fun z=> ?_
  ·refine Tot.loop (fun z=>0≤z.2.2∧z.2.2≤(pl.2.2.2.2.2.length:Int)) (fun z=>((pl.2.2.2.2.2.length:Int)-z.2.2).toNat) ?_ ⟨by simp,by simp⟩
   rintro⟨a,b,i⟩ ⟨h0,h1⟩
   refine Wp.cnd (fun hc=> ?_) fun _=>Wp.some trivial
   have hi:i<(pl.2.2.2.2.2.length:Int):=by simpa using hc
   have h0':0≤i:=h0;have hw:=J7 h0' hi (by omega)
   have hm:=hs.all _ (T0 (d:=(0,0,0,0,0,0,0,0,0,0,0,0,0)) h0' hi);refine Wp.chk (by simp only[hw,Bool.or_eq_true,Bool.and_eq_true,decide_eq_true_eq,Bool.not_eq_true',decide_eq_false_iff_not];omega) (Wp.bnd (BS4 _ _ _ hm.2.2).wpT fun _ _=>Wp.cnd (fun _=>Wp.some trivial) fun _=>Wp.some ?_)
   simp only[hw];exact⟨⟨by omega,by omega⟩,by omega⟩
  ·rcases z with z | z
   ·exact Tot.some
   ·exact Tot.bnd (EM2 _ _ _ ht hs) fun _=>Tot.cnd Tot.some Tot.some
theorem EM4 (c:Cfg)(t:TkD)(gr sp:Spn)(pl:Plc)(v:Int×Bool)(ht:Q6 t)(hp:r6 t pl):Tot (Ad9 c t gr sp pl v):=by unfold Ad9;exact Tot.cnd Tot.some (Tot.bnd (EM3 t gr pl ht hp) fun _=>Tot.bnd (EH3 _ _ _) fun _=>Tot.bnd (EH4 _ _) fun _=>Tot.some)
theorem CC1 (k:Cnt)(circ:Spn)(p:Int)(v:Int×Bool):Tot (Y4 k circ p v):=by unfold Y4;exact Tot.bnd (EG9 _ _ _) fun _=>Tot.cnd Tot.some (Tot.bnd (EG7 _ _ _) fun _=>Tot.some)
theorem EM5 (c:Cfg)(v:Int×Bool):Tot (Ad8 c v):=by unfold Ad8;exact Tot.cnd Tot.some (Tot.bnd (EH1 _ _) fun _=>Tot.some)
theorem EM6 (l:Sns×(Sns×Sns)):Wp (BQ4 l) fun r=>r.length≤3:=by obtain⟨⟨a,a2⟩,⟨b,b2⟩,⟨c,c2⟩⟩:=l;cases a <;> cases b <;> cases c <;> exact⟨_,rfl,by simp⟩
theorem EM7 (l:List (Int×Int))(hl:l.length≤1000):Tot (AU2 l):=by
 unfold AU2;by_cases h0:l.length=0
 ·have e:((l.length:Int)==(0:Int))=true:=by simp[h0]
  simp only[e,cond_true];exact Tot.some
 ·have e:((l.length:Int)==(0:Int))=false:=by simpa using h0
  simp only[e,cond_false];refine Tot.chk (by simp;omega) (Tot.bnd ?_ fun z=> ?_)
  ·refine Tot.loop (fun z=>0≤z.2.2.2.2∧z.2.2.2.2≤(l.length:Int)) (fun z=>((l.length:Int)-z.2.2.2.2).toNat) ?_ ⟨by simp,by simp⟩
   rintro⟨a,b,c,d,i⟩ ⟨h0,h1⟩
   refine Wp.cnd (fun hc=> ?_) fun _=>Wp.some trivial
   have hi:i<(l.length:Int):=by simpa using hc
   have h0':0≤i:=h0;have hw:=J7 h0' hi (by omega)
   refine Wp.chk (by simp only[hw,Bool.or_eq_true,Bool.and_eq_true,decide_eq_true_eq,Bool.not_eq_true',decide_eq_false_iff_not];omega) (Wp.bnd (p7 _ _).wpT fun _ _=>Wp.cnd (fun _=>Wp.some trivial) fun _=>Wp.some ?_)
   simp only[hw];exact⟨⟨by omega,by omega⟩,by omega⟩
  ·rcases z with z | z <;> exact Tot.some
theorem EM8 (l:List (Int×Int))(hl:l.length≤1000):Tot (AU3 l):=by
 unfold AU3;refine Tot.bnd ?_ fun _=>Tot.some
 refine Tot.loop (fun z=>0≤z.2.1∧z.2.1≤(l.length:Int)) (fun z=>((l.length:Int)-z.2.1).toNat) ?_ ⟨by simp,by simp⟩
 rintro⟨a,i,b,c⟩ ⟨h0,h1⟩
 refine Wp.cnd (fun hc=> ?_) fun _=>Wp.some trivial
 have hi:i<(l.length:Int):=by simpa using hc
 have h0':0≤i:=h0;have hw:=J7 h0' hi (by omega)
 refine Wp.chk (by simp only[hw,Bool.or_eq_true,Bool.and_eq_true,decide_eq_true_eq,Bool.not_eq_true',decide_eq_false_iff_not];omega) (Wp.chk ?_ (Wp.bnd (Tot.wpT ?_) fun _ _=>Wp.some ?_))
 ·simp only[hw,Bool.and_eq_true,decide_eq_true_eq];omega
 ·generalize hd:(l.take (l.length:Int).toNat).drop (IntKind.wrap .i64 (i+(1:Int))).toNat=m
  have hm:m.length≤1000:=by
   rw[← hd];simp
   omega
  refine Tot.loop (fun z=>0≤z.2.2.2∧z.2.2.2≤(m.length:Int)) (fun z=>((m.length:Int)-z.2.2.2).toNat) ?_ ⟨by simp,by simp⟩
  rintro⟨a,b,c,k⟩ ⟨k0,k1⟩
  refine Wp.cnd (fun hc=> ?_) fun _=>Wp.some trivial
  have hk:k<(m.length:Int):=by simpa using hc
  have k0':0≤k:=k0;have hw2:=J7 k0' hk (by omega)
  refine Wp.chk (by simp only[Bool.and_eq_true,decide_eq_true_eq];exact⟨k0',hk⟩) (Wp.bnd (p7 _ _).wpT fun _ _=>Wp.bnd (Tot.wpT ?_) fun _ _=>Wp.some ?_)
  ·repeat' (first | (intro _) | (with_reducible (first | exact Tot.some | exact AB0 .. | exact AN5 .. | exact AV8 .. | exact p7 .. | exact Ad4 .. | exact Am4 .. | exact Am2 .. | exact Ad3 .. | exact Am3 .. | exact AH5 .. | exact Ad5 .. | exact AH4 .. | exact BA9 .. | exact Am5 .. | exact AV7 .. | exact AN4 .. | exact Ad7 .. | exact Ad6 .. | exact AV9 .. | refine Tot.bnd ?_ ?_ | refine Tot.cnd ?_ ?_ | refine Tot.chk ?_ ?_)))
  ·simp only[hw2];exact⟨⟨by omega,by omega⟩,by omega⟩
 ·simp only[hw];exact⟨⟨by omega,by omega⟩,by omega⟩
theorem EM9 (f:Int×Int)(l:List (Int×Int))(hl:l.length≤2):Wp (AU5 f l) fun o=>o.length≤2∧∀i∈o,0≤i∧i<2:=by
 unfold AU5;refine Wp.bnd (Q:=fun o=>o.length≤2∧∀i∈o,0≤i∧i<2) ?_ fun _ h=>Wp.some h
 refine Wp.loop (fun z=>0≤z.2∧z.2≤(l.length:Int)∧(z.1.length:Int)≤z.2∧∀i∈z.1,0≤i∧i<2) (fun z=>((l.length:Int)-z.2).toNat) ?_ ⟨by simp,by simp,by simp,by simp⟩
 rintro⟨o,i⟩ ⟨h0,h1,h2,h3⟩
 refine Wp.cnd (fun hc=> ?_) fun _=>Wp.some ⟨?_,h3⟩
 ·have hi:i<(l.length:Int):=by simpa using hc
  have h0':0≤i:=h0;have h2':(o.length:Int)≤i:=h2;have hw:=J7 h0' hi (by omega)
  refine Wp.chk (by simp only[hw,Bool.or_eq_true,Bool.and_eq_true,decide_eq_true_eq,Bool.not_eq_true',decide_eq_false_iff_not];omega) (Wp.bnd (p7 _ _).wpT fun _ _=>Wp.bnd (Q:=fun o2=>(o2.length:Int)≤i+1∧∀k∈o2,0≤k∧k<2) ?_ fun o2 h=>Wp.some ?_)
  ·refine Wp.cnd (fun _=>Wp.chk ?_ (Wp.some ⟨?_,?_⟩)) fun _=>Wp.some ⟨by omega,h3⟩
   ·simp only[decide_eq_true_eq,List.length_cons,List.length_nil];omega
   ·simp;omega
   ·intro k hk
    rcases List.mem_append.1 hk with hk | hk
    ·exact h3 k hk
    ·simp at hk
     subst hk;exact⟨h0',by omega⟩
  ·simp only[hw];exact⟨⟨by omega,by omega,h.1,h.2⟩,by omega⟩
 ·have h1':i≤(l.length:Int):=h1
  have h2':(o.length:Int)≤i:=h2;show o.length≤2;omega
theorem EN0 (l:List (Int×Int))(hl:l.length≤1000):Tot (AU4 l):=by unfold AU4;exact Tot.bnd (EM7 l hl) fun _=>Tot.cnd Tot.some (Tot.cnd Tot.some (Tot.bnd (EM8 l hl) fun _=>Tot.some))
theorem EN1 (p:Int×Int)(three:Sns×(Sns×Sns))(a:Sns):Tot (AH2 p three a):=by
 unfold AH2;refine Wp.tot (Q:=fun _=>True) (Wp.bnd (EM6 three) fun l hl=>Tot.wpT ?_)
 refine Tot.bnd (EN0 l (by omega)) fun s=>Tot.bnd ?_ fun _=>Tot.bnd ?_ fun _=>Tot.bnd (Tot.cnd ?_ Tot.some) fun _=>Tot.some
 ·repeat' (first | (intro _) | (with_reducible (first | exact Tot.some | exact AB0 .. | exact AN5 .. | exact AV8 .. | exact p7 .. | exact Ad4 .. | exact Am4 .. | exact Am2 .. | exact Ad3 .. | exact Am3 .. | exact AH5 .. | exact Ad5 .. | exact AH4 .. | exact BA9 .. | exact Am5 .. | exact AV7 .. | exact AN4 .. | exact Ad7 .. | exact Ad6 .. | exact AV9 .. | refine Tot.bnd ?_ ?_ | refine Tot.cnd ?_ ?_ | refine Tot.chk ?_ ?_)))
 ·repeat' (first | (intro _) | (with_reducible (first | exact Tot.some | exact AB0 .. | exact AN5 .. | exact AV8 .. | exact p7 .. | exact Ad4 .. | exact Am4 .. | exact Am2 .. | exact Ad3 .. | exact Am3 .. | exact AH5 .. | exact Ad5 .. | exact AH4 .. | exact BA9 .. | exact Am5 .. | exact AV7 .. | exact AN4 .. | exact Ad7 .. | exact Ad6 .. | exact AV9 .. | refine Tot.bnd ?_ ?_ | refine Tot.cnd ?_ ?_ | refine Tot.chk ?_ ?_)))
 ·refine Wp.tot (Q:=fun _=>True) (Wp.bnd (EM9 _ _ (by simp)) fun o ho=>Tot.wpT (Tot.bnd ?_ fun _=>Tot.some))
  refine Tot.loop (fun z=>0≤z.2.2.2.2.2.2.2∧z.2.2.2.2.2.2.2≤(o.length:Int)) (fun z=>((o.length:Int)-z.2.2.2.2.2.2.2).toNat) ?_ ⟨by simp,by simp⟩
  rintro⟨a1,a2,a3,a4,a5,a6,a7,i⟩ ⟨h0,h1⟩
  refine Wp.cnd (fun hc=> ?_) fun _=>Wp.some trivial
  have hi:i<(o.length:Int):=by simpa using hc
  have h0':0≤i:=h0;have hw:=J7 h0' hi (by omega)
  have hm:=ho.2 _ (T0 (d:=(0:Int)) h0' hi);refine Wp.chk (by simp only[hw,Bool.or_eq_true,Bool.and_eq_true,decide_eq_true_eq,Bool.not_eq_true',decide_eq_false_iff_not];omega) (Wp.chk ?_ (Wp.bnd (Am5 _ _).wpT fun _ _=>Wp.chk ?_ (Wp.some ?_)))
  ·simp only[Bool.and_eq_true,decide_eq_true_eq];omega
  ·simp only[Bool.and_eq_true,decide_eq_true_eq];omega
  ·simp only[hw];exact⟨⟨by omega,by omega⟩,by omega⟩
theorem EN2 (s:A7)(v1 v2 v3 v4:Int×Bool)(ht:Q6 s.t)(hp:r6 s.t s.place):Tot (q8 s v1 v2 v3 v4):=by unfold q8;exact Tot.bnd (CC1 _ _ _ _) fun _=>Tot.bnd (CC1 _ _ _ _) fun _=>Tot.bnd (EM5 _ _) fun _=>Tot.bnd (EH2 _ _) fun _=>Tot.bnd (EM4 _ _ _ _ _ _ ht hp) fun _=>Tot.bnd (EN1 _ _ _) fun _=>Tot.some
end Go.Proofs.YthfjpkdadjemcaaGreat

/- A cycle has an answer, and a good state behind it. -/
set_option linter.unusedSimpArgs false
set_option linter.unusedVariables false
namespace Go.Proofs.YthfjpkdadjemcaaGreat
open Go Go.RowKit
theorem BS5 {α β:Type}{F:β→α→Option β}{P:β→Prop}:∀(l:List α) (b:β),P b→(∀b a,a∈l→P b→Wp (F b a) P)→Wp (l.foldlM F b) P
 | [],b,hb,_=>⟨b,rfl,hb⟩
 |a::l,b,hb,h=>by simp only[List.foldlM_cons];exact Wp.bnd (h b a (by simp) hb) fun c hc=>BS5 l c hc fun b a ha hb=>h b a (by simp[ha]) hb
theorem CC2 {r:RtD}{i:Nat}(h1:r.1≤12)(hi:(i:Int)<r.1):N9 r i∈pathOf r:=by
 obtain⟨n,s0,s1,s2,s3,s4,s5,s6,s7,s8,s9,s10,s11⟩:=r;unfold N9 pathOf;simp only at h1 hi ⊢;have e:(min (max n 0) 12).toNat=n.toNat:=by omega
 rw[e];have h2:i<n.toNat:=by omega
 have h3:i<12:=by omega
 have h4:(List.take n.toNat [s0,s1,s2,s3,s4,s5,s6,s7,s8,s9,s10,s11])[i]? = some ([s0,s1,s2,s3,s4,s5,s6,s7,s8,s9,s10,s11].getD i 0):=by rw[List.getElem?_take,if_pos h2];simp[List.getD,h3]
 exact List.mem_of_getElem? h4
theorem EN3 {r:RtD}{v:Int}(h1:1≤r.1)(h2:r.1≤11):pathOf (U3 r v)=pathOf r++[v]:=by
 obtain⟨n,s0,s1,s2,s3,s4,s5,s6,s7,s8,s9,s10,s11⟩:=r;simp only at h1 h2;have h:n=1∨n=2∨n=3∨n=4∨n=5∨n=6∨n=7∨n=8∨n=9∨n=10∨n=11:=by omega
 rcases h with rfl | rfl | rfl | rfl | rfl | rfl | rfl | rfl | rfl | rfl | rfl <;> rfl
theorem EN4 {n:Nat}{r:RtD}{v:Int}(h:Ae3 n r)(h2:r.1≤11)(hv:0≤v∧v<(n:Int)):Ae3 n (U3 r v):=by
 have h1:=h.1;refine⟨?_,?_,?_⟩
 ·show 1≤r.1+1
  omega
 ·show r.1+1≤12
  omega
 ·rw[EN3 h1 h2]
  intro i hi;rcases List.mem_append.1 hi with hi | hi
  ·exact h.2.2 i hi
  ·simp at hi
   subst hi;exact hv
def BS6 (n:Nat)(le:List RtD×Int):Prop:=le.1.length≤17∧(le.2=0→le.1.length≤16)∧∀r∈le.1,Ae3 n r
theorem EN5 (r:RtD)(l:List RtD):(I8 r l).length≤l.length+1:=by
 unfold I8;split
 ·omega
 ·simp
theorem CC3 {t:TkD}{p:Int×Int}(ht:Q6 t):∀(k:Nat) (r:RtD) (en:Int) (le:List RtD×Int),Ae3 t.1.length r→13≤k+r.1.toNat→BS6 t.1.length le→Wp (D1 k t p r en le) (BS6 t.1.length)
 |0,r,en,le,hr,hk,_=>by have:=hr.2.1;omega
 |k+1,r,en,le,hr,hk,hl=>by
  rw[D1];have h1:=hr.1;have h2:=hr.2.1;have hs:=hr.2.2 _ (CC2 (i:=(r.1-1).toNat) h2 (by omega))
  rw[if_pos ⟨h1,h2,hs.1,hs.2⟩];by_cases he:le.2=0
  ·rw[if_neg (by simpa using he)]
   have hl16:=hl.2.1 he;by_cases hc:p.2≤en∨F4 t (N9 r (r.1-1).toNat)=[]
   ·rw[if_pos hc]
    refine Wp.some ?_;have hi:=EN5 r le.1;by_cases hp:p.1≤en
    ·simp only[if_pos hp]
     refine⟨by show (I8 r le.1).length≤17;omega,fun h0=> ?_,fun x hx=> ?_⟩
     ·show (I8 r le.1).length≤16
      simp only at h0;by_cases h16:16<(I8 r le.1).length
      ·rw[if_pos h16] at h0;cases h0
      ·omega
     ·rcases Bs5 hx with rfl | hx
      ·exact hr
      ·exact hl.2.2 x hx
    ·simp only[if_neg hp]
     exact⟨hl.1,fun _=>hl16,hl.2.2⟩
   ·rw[if_neg hc]
    by_cases h12:r.1=12
    ·rw[if_pos h12]
     exact Wp.some ⟨hl.1,fun h0=>absurd h0 (by decide:¬(13:Int)=0),hl.2.2⟩
    ·rw[if_neg h12]
     refine BS5 _ _ hl fun b n hn hb=> ?_
     have hx:=(ht.seg _ (T0 (d:=(0,[],[])) hs.1 hs.2)).2.2.2 n hn;rw[if_pos hx];exact CC3 ht k _ _ _ (EN4 hr (by omega) hx) (by show 13≤k+(r.1+1).toNat;omega) hb
  ·rw[if_pos he]
   exact Wp.some hl
theorem CC4 {s:L3}{t:TkD}(ht:Q6 t)(hs:AH6 t.1.length s):AM1 s t=true:=by have h1:=hs.ne;have h2:=ht.ne;have h3:=hs.few;have h4:=ht.n1;simp only[AM1,Bool.and_eq_true,Bool.not_eq_true',decide_eq_true_eq,List.all_eq_true,List.isEmpty_eq_false_iff];exact⟨h1,h2,by omega,by omega,fun x hx=>by have:=(ht.seg x hx).2.2.1;omega⟩
theorem EN6 (s:L3)(t:TkD)(p:Int×Int)(ht:Q6 t)(hs:AH6 t.1.length s):Wp (AG5 s t p) fun y=>y.2=0→AH6 t.1.length y.1:=by
 unfold AG5;by_cases h1:p.1≤p.2
 ·rw[if_pos h1]
  by_cases h2:p.1<wrap64 (-s.1)
  ·rw[if_pos h2]
   exact Wp.some fun h=>by cases h
  ·rw[if_neg h2,if_pos (CC4 ht hs)]
   refine Wp.bnd (Q:=BS6 t.1.length) (BS5 _ _ ⟨by simp,by simp,by simp⟩ fun b r hr hb=> ?_) fun le hle=> ?_
   ·refine Wp.bnd (BS4 s t r (hs.all r hr).2.2).wpT fun en _=> ?_
    exact CC3 ht 13 r en b (hs.all r hr) (by omega) hb
   ·rw[if_pos (by have:=hle.1;omega)]
    refine Wp.some ?_;unfold L6;by_cases he:le.2=0
    ·rw[if_neg (by simpa using he)]
     by_cases hn:le.1=[]
     ·rw[if_pos hn]
      exact fun h=>by cases h
     ·rw[if_neg hn]
      intro _;refine⟨?_,?_,fun r hr=>hle.2.2 r (Bt5.1 hr)⟩
      ·intro h0
       have:(K1 le.1).length=0:=by rw[show K1 le.1=[] from h0];rfl
       rw[Ay2] at this;exact hn (List.eq_nil_of_length_eq_zero this)
      ·show (K1 le.1).length≤100
       rw[Ay2];have:=hle.1;omega
    ·rw[if_pos (by simpa using he)]
     exact fun h=>absurd h he
 ·rw[if_neg h1]
  exact Wp.some fun h=>by cases h
theorem Am8 (t:TkD)(p:Plc)(h:p.1=false):r6 t p:=fun h2=>by rw[h] at h2;cases h2
theorem CC5 (pl:Plc)(t:TkD)(sp:Spn)(ht:Q6 t)(hp:r6 t pl):Wp (AH3 pl t sp) fun q=>r6 t q.1:=by
 unfold AH3;refine Wp.cnd (fun _=>Wp.some (Am8 _ _ rfl)) fun hon=> ?_
 have hon:pl.1=true:=by simpa using hon
 obtain⟨g0,g1,hs⟩:=hp hon;refine Wp.bnd (AH4 _ _).wpT fun z _=>Wp.bnd (Tot.wpT (Tot.cnd (Ad5 _ _) Tot.some)) fun _ _=>Wp.cnd (fun _=>Wp.some (Am8 _ _ rfl)) fun _=> ?_
 refine Wp.bnd (EN6 _ _ _ ht hs) fun y hy=>Wp.cnd (fun _=>Wp.some (Am8 _ _ rfl)) fun he=> ?_
 have he:y.2=0:=by simpa using he
 refine Wp.bnd (AH5 _).wpT fun _ _=>Wp.bnd (Ad3 _ _).wpT fun _ _=>Wp.bnd (Am3 _ _ _).wpT fun _ _=>Wp.some ?_
 exact fun _=>⟨g0,g1,hy he⟩
theorem wp_move (t:TkD)(sp:Spn)(d:Int)(pl:Plc)(ht:Q6 t)(hp:r6 t pl):Wp (Ae0 t sp d pl) fun y=>r6 t y.2.2:=by
 unfold Ae0;refine Wp.bnd (AH5 _).wpT fun _ _=>Wp.bnd (EG4 _).wpT fun _ _=>Wp.bnd (BA6 _ _).wpT fun _ _=>Wp.cnd (fun _=> ?_) fun _=> ?_
 ·exact Wp.cnd (fun _=>Wp.bnd (CC5 pl t sp ht hp) fun q hq=>Wp.some hq) fun _=>Wp.some hp
 ·exact Wp.cnd (fun _=>Wp.bnd (CC5 pl t sp ht hp) fun q hq=>Wp.some hq) fun _=>Wp.some hp
theorem EN7 (t:TkD)(id:Int)(hn:t.2.length≤400):Wp (AM9 t id) fun i=>i.2=true→0≤i.1∧i.1<(t.2.length:Int):=by
 unfold AM9 Ac7;refine Wp.bnd (Q:=fun i=>i.2=true→0≤i.1∧i.1<(t.2.length:Int)) ?_ fun i h=>Wp.some h
 refine Wp.bnd (Q:=fun r=>0≤r∧r≤(t.2.length:Int)) ?_ fun r hr=> ?_
 ·refine Wp.loop (fun z=>0≤z.2∧z.2≤z.1∧z.1≤(t.2.length:Int)) (fun z=>(z.1-z.2).toNat) ?_ ⟨by simp,by simp,by simp⟩
  rintro⟨j,i⟩ ⟨h0,h1,h2⟩
  have h0:0≤i:=h0;have h1:i≤j:=h1;have h2:j≤(t.2.length:Int):=h2;refine Wp.cnd (fun hc=> ?_) fun _=>Wp.some ⟨h0,by omega⟩
  have hij:i<j:=by simpa using hc
  have e1:IntKind.wrap .i64 (i+j)=i+j:=by rw[IntKind.wrap_i64];omega
  have e2:IntKind.wrap .u64 (i+j)=i+j:=by
   have:(i+j) % 18446744073709551616=i+j:=by omega
   simpa[IntKind.wrap,IntKind.signed,IntKind.bits] using this
  have e3:(i+j).fdiv (2 ^ 1)=(i+j)/2:=by
   rw[Int.fdiv_eq_ediv_of_nonneg _ (by decide)]
   rfl
  have e4:IntKind.wrap .i64 ((i+j)/2)=(i+j)/2:=by rw[IntKind.wrap_i64];omega
  simp only[e1,e2,e3,e4];refine Wp.chk (by simp only[Bool.and_eq_true,decide_eq_true_eq];omega) (Wp.bnd (Ad7 _ _).wpT fun _ _=>Wp.bnd (Q:=fun q=>(0≤q.1∧q.1≤q.2∧q.2≤(t.2.length:Int))∧(q.2-q.1).toNat<(j-i).toNat) ?_ fun q hq=>Wp.some ⟨hq.1,hq.2⟩)
  refine Wp.cnd (fun _=>Wp.some ?_) fun _=>Wp.some ?_
  ·have e5:IntKind.wrap .i64 ((i+j)/2+1)=(i+j)/2+1:=by rw[IntKind.wrap_i64];omega
   simp only[e5];omega
  ·simp only
   omega
 ·refine Wp.chk ?_ (Wp.bnd (Tot.wpT (Tot.cnd (Ad7 _ _) Tot.some)) fun _ _=>Wp.some ?_)
  ·simp only[Bool.or_eq_true,Bool.and_eq_true,decide_eq_true_eq,Bool.not_eq_true',decide_eq_false_iff_not]
   omega
  ·intro h
   simp only at h ⊢;cases hc:decide (r<(t.2.length:Int)) with
   |true=>exact ⟨hr.1,by simpa using hc⟩
   |false=>rw [hc] at h;cases h
theorem CC6 {t:TkD}{seg off:Int}:∀(ps:List Int) (a:Int) (xs:List Int),(∀i∈ps,0≤i∧i<(t.1.length:Int))→Wp (Q5 t seg off ps a xs) fun ys=>ys.length≤xs.length+ps.length
 | [],a,xs,_=>⟨xs,rfl,by simp⟩
 |i::ps,a,xs,h=>by
  rw[Q5,if_pos (h i (by simp))]
  refine Wp.mono (CC6 ps _ _ fun j hj=>h j (by simp[hj])) fun ys hy=> ?_
  split at hy
  ·simp at hy ⊢;omega
  ·simp;omega
theorem CC7 {t:TkD}{frm seg off:Int}:∀(rs:List RtD) (xs:List Int),(∀r∈rs,Ae3 t.1.length r)→Wp (AD2 t frm seg off rs xs) fun ys=>ys.length≤xs.length+12*rs.length
 | [],xs,_=>⟨xs,rfl,by simp⟩
 |r::rs,xs,h=>by
  unfold AD2;simp only[List.foldlM_cons];refine Wp.bnd (CC6 (pathOf r) _ xs (h r (by simp)).2.2) fun c hc=> ?_
  refine Wp.mono (CC7 rs c fun q hq=>h q (by simp[hq])) fun ys hy=> ?_
  have:=BB4 r;simp
  omega
theorem EN8 (s:L3)(t:TkD)(g:Int)(ht:Q6 t)(hs:AH6 t.1.length s):Wp (Ac2 s t g) fun l=>l.length≤2000:=by
 unfold Ac2;by_cases h1:0≤g∧g<(t.2.length:Int)
 ·rw[if_pos h1,if_pos (CC4 ht hs)]
  refine Wp.bnd (CC7 s.2 [] hs.all) fun ys hy=> ?_
  have hf:=hs.few;have hy2:ys.length≤1200:=by simp at hy;omega
  rw[if_pos (by omega)]
  refine Wp.some ?_;have h3:=Bu4 (M7 ys);have h4:(M7 ys).length=ys.length:=by unfold M7;simp
  omega
 ·rw[if_neg h1]
  exact Wp.some (by simp)
theorem EN9 (c:Cfg)(t:TkD)(s:L3)(p:Spn)(g:Int)(ht:Q6 t)(hs:AH6 t.1.length s)(hg:0≤g∧g<(t.2.length:Int)):Tot (AN0 c t s p g):=by
 unfold AN0;refine Wp.tot (Q:=fun _=>True) (Wp.bnd (EN8 s t g ht hs) fun l hl=>Tot.wpT (Tot.bnd ?_ fun _=>Tot.some))
 refine Tot.loop (fun z=>0≤z.2∧z.2≤(l.length:Int)∧(z.1.length:Int)≤z.2) (fun z=>((l.length:Int)-z.2).toNat) ?_ ⟨by simp,by simp,by simp⟩
 rintro⟨o,i⟩ ⟨h0,h1,h2⟩
 refine Wp.cnd (fun hc=> ?_) fun _=>Wp.some trivial
 have hi:i<(l.length:Int):=by simpa using hc
 have h0':0≤i:=h0;have h2':(o.length:Int)≤i:=h2;have hw:=J7 h0' hi (by omega)
 refine Wp.chk (by simp only[hw,Bool.or_eq_true,Bool.and_eq_true,decide_eq_true_eq,Bool.not_eq_true',decide_eq_false_iff_not];omega) (Wp.chk (by simp only[Bool.and_eq_true,decide_eq_true_eq];exact hg) ?_)
 refine Wp.bnd (Am4 _ _).wpT fun _ _=>Wp.bnd (Ad4 _ _).wpT fun _ _=>Wp.bnd (p7 _ _).wpT fun _ _=>Wp.bnd (Q:=fun o2=>(o2.length:Int)≤i+1) ?_ fun o2 h=>Wp.some ?_
 ·refine Wp.cnd (fun _=>Wp.chk ?_ (Wp.some ?_)) fun _=>Wp.some (by omega)
  ·simp only[decide_eq_true_eq,List.length_cons,List.length_nil];omega
  ·simp;omega
 ·simp only[hw];exact⟨⟨by omega,by omega,h⟩,by omega⟩
theorem EO0 (c:Cfg)(t:TkD)(pl was:Plc)(sp:Spn)(v:Int×Bool)(ht:Q6 t)(hp:r6 t pl):Wp (Ae1 c t pl was sp v) fun x=>x.2.2.2=true→0≤x.1∧x.1<(t.2.length:Int):=by
 unfold Ae1;refine Wp.cnd (fun _=>Wp.some fun h=>by cases h) fun _=>Wp.bnd (EN7 t v.1 ht.n2) fun i hi=>Wp.cnd (fun _=>Wp.some fun h=>by cases h) fun hk=> ?_
 have hk:i.2=true:=by simpa using hk
 refine Wp.cnd (fun hon=> ?_) fun _=>Wp.some fun _=>hi hk
 refine Wp.bnd (Tot.wpT ?_) fun _ _=>Wp.some fun _=>hi hk
 unfold BB0;exact Tot.bnd (EI2 _ _) fun _=>Tot.cnd Tot.some (EN9 _ _ _ _ _ ht (hp hon).2.2 (hi hk))
theorem EO1 (c:Cfg)(t:TkD)(g:Int)(sp:Spn)(ht:Q6 t)(hg:0≤g∧g<(t.2.length:Int)):Wp (Al6 c t g sp) (r6 t):=by
 unfold Al6;have hm:=ht.grp _ (T0 (d:=(0,0,0,0,0)) hg.1 hg.2);refine Wp.chk (by simp only[Bool.and_eq_true,decide_eq_true_eq];exact hg) (Wp.bnd (AH5 _).wpT fun _ _=> ?_)
 unfold BQ9;refine Wp.bnd (Q:=fun s=>AH6 t.1.length s) (Wp.some ?_) fun s hs=>Wp.some fun _=>⟨hg.1,hg.2,hs⟩
 refine⟨by simp,by simp,fun r hr=> ?_⟩
 simp only[List.mem_singleton] at hr;subst hr;refine⟨(by decide:(1:Int)≤1),(by decide:(1:Int)≤12),fun i hi=> ?_⟩
 have hi':i∈[(t.2.getD g.toNat (0,0,0,0,0)).2.1]:=hi;simp only[List.mem_singleton] at hi';subst hi';exact hm
theorem EO2 (p:Int)(a b:Spn)(k0 k1:Cnt)(m0 m1:Int)(pos o:Spn)(at':Int):Tot (Ae2 p a b k0 k1 m0 m1 pos o at'):=by unfold Ae2;exact Tot.bnd (AN5 _) fun _=>Tot.bnd (AH4 _ _) fun _=>Tot.cnd Tot.some (Tot.bnd (AV9 _ _) fun _=>Tot.cnd Tot.some (Tot.bnd (Ad6 _ _ _ _) fun _=>Tot.bnd (Ad6 _ _ _ _) fun _=>Tot.some))
structure AD9 (s:A7):Prop where
 t:Q6 s.t
 ends:s.ends.length=s.t.1.length
 p:r6 s.t s.place
theorem EO3 (x:Fnd)(sp:Spn)(s:A7)(hs:AD9 s)(hx:0≤x.1∧x.1<(s.t.2.length:Int)):Wp (U6 x sp s) fun s'=>AD9 s'∧s'.broken=s.broken∧s'.C5=s.C5:=by
 unfold U6;refine Wp.bnd (EO1 _ _ _ _ hs.t hx) fun p hp=>Wp.cnd (fun hc=> ?_) fun _=>Wp.some ⟨⟨hs.t,hs.ends,hp⟩,rfl,rfl⟩
 refine Wp.chk ?_ (Wp.bnd (EO2 _ _ _ _ _ _ _ _ _ _).wpT fun _ _=>Wp.some ⟨⟨hs.t,hs.ends,hp⟩,rfl,rfl⟩)
 simp only[Bool.true_and,decide_eq_true_eq];cases h1:(bif s.place.1 then s.clean else false) with
 |false=>rw [h1] at hc;cases hc
 |true=>
  rw[h1] at hc;have:(x.2.1.length:Int)=1:=by simpa using hc
  omega
theorem EO4 (l:List RtD)(hl:l.length≤1000):Wp (BB1 l) fun o=>o.length≤1000∧∀p∈o,p.length≤12:=by
 unfold BB1;refine Wp.loop (fun z=>0≤z.2∧z.2≤(l.length:Int)∧(z.1.length:Int)≤z.2∧∀p∈z.1,p.length≤12) (fun z=>((l.length:Int)-z.2).toNat) ?_ ⟨by simp,by simp,by simp,by simp⟩
 rintro⟨o,i⟩ ⟨h0,h1,h2,h3⟩
 refine Wp.cnd (fun hc=> ?_) fun _=>Wp.some ⟨by have h1':i≤(l.length:Int):=h1;have h2':(o.length:Int)≤i:=h2;show o.length≤1000;omega,h3⟩
 have hi:i<(l.length:Int):=by simpa using hc
 have h0':0≤i:=h0;have h2':(o.length:Int)≤i:=h2;have hw:=J7 h0' hi (by omega)
 refine Wp.chk (by simp only[hw,Bool.or_eq_true,Bool.and_eq_true,decide_eq_true_eq,Bool.not_eq_true',decide_eq_false_iff_not];omega) ?_
 simp only[BS3,Option.bind_some];refine Wp.chk (by simp only[decide_eq_true_eq,List.length_cons,List.length_nil];omega) (Wp.some ?_)
 simp only[hw];refine⟨⟨by omega,by omega,?_,?_⟩,by omega⟩
 ·simp
  omega
 ·intro p hp
  rcases List.mem_append.1 hp with hp | hp
  ·exact h3 p hp
  ·simp at hp
   subst hp;exact BB4 _
theorem EO5 {r:RtD}{i:Int}(h1:r.1≤12)(h0:0≤i)(hi:i<r.1):List.getD [r.2.1,r.2.2.1,r.2.2.2.1,r.2.2.2.2.1,r.2.2.2.2.2.1,r.2.2.2.2.2.2.1,r.2.2.2.2.2.2.2.1,r.2.2.2.2.2.2.2.2.1,r.2.2.2.2.2.2.2.2.2.1,r.2.2.2.2.2.2.2.2.2.2.1,r.2.2.2.2.2.2.2.2.2.2.2.1,r.2.2.2.2.2.2.2.2.2.2.2.2] i.toNat 0∈pathOf r:=by
 have:=CC2 (r:=r) (i:=i.toNat) h1 (by omega)
 exact this
theorem EO6 (t:TkD)(en:List Int)(s:L3)(at':Int)(hs:AH6 t.1.length s)(he:en.length=t.1.length):Tot (AN2 t en s at'):=by
 unfold AN2;refine Tot.bnd ?_ fun _=>Tot.some
 have hf:=hs.few;refine Tot.loop (fun z=>0≤z.2.2∧z.2.2≤(s.2.length:Int)) (fun z=>((s.2.length:Int)-z.2.2).toNat) ?_ ⟨by simp,by simp⟩
 rintro⟨a,b,i⟩ ⟨h0,h1⟩
 refine Wp.cnd (fun hc=> ?_) fun _=>Wp.some trivial
 have hi:i<(s.2.length:Int):=by simpa using hc
 have h0':0≤i:=h0;have hw:=J7 h0' hi (by omega)
 have hm:=hs.all _ (T0 (d:=(0,0,0,0,0,0,0,0,0,0,0,0,0)) h0' hi);refine Wp.bnd (Tot.wpT (Tot.chk (by simp only[hw,Bool.or_eq_true,Bool.and_eq_true,decide_eq_true_eq,Bool.not_eq_true',decide_eq_false_iff_not];omega) ?_)) fun _ _=>Wp.some ?_
 ·simp only
  generalize s.2.getD i.toNat (0,0,0,0,0,0,0,0,0,0,0,0,0)=r at hm;have e1:IntKind.wrap .i64 (r.1-1)=r.1-1:=by have:=hm.1;have:=hm.2.1;rw[IntKind.wrap_i64];omega
  have hm1:=hm.1;have hm2:=hm.2.1;have hx:=hm.2.2 _ (EO5 (i:=r.1-1) hm2 (by omega) (by omega))
  rw[e1];refine Tot.chk (by simp only[Bool.and_eq_true,decide_eq_true_eq];omega) (Tot.chk ?_ (Tot.cnd Tot.some (Tot.bnd (BS4 _ _ _ hm.2.2) fun _=>Tot.bnd (Am2 _ _) fun _=> ?_)))
  ·simp only[Bool.and_eq_true,decide_eq_true_eq,he]
   exact hx
  ·exact Tot.bnd (Tot.cnd Tot.some Tot.some) fun _=>Tot.some
 ·simp only[hw];exact⟨⟨by omega,by omega⟩,by omega⟩
theorem EO7 (x:Int×Int):Tot (AV3 x):=by
 unfold AV3;refine Tot.bnd ?_ fun _=>Tot.some
 refine Tot.loop (fun z => -1≤z.1∧z.1≤63) (fun z=>(z.1+1).toNat) ?_ ⟨by simp,by simp⟩
 rintro⟨i,r⟩ ⟨h0,h1⟩
 refine Wp.cnd (fun hc=> ?_) fun _=>Wp.some trivial
 have hi:0≤i:=by simpa using hc
 have h1':i≤63:=h1;have hw:=CB1 i hi (by omega)
 refine Wp.chk (B5 _) (Wp.bnd (AV7 _ _).wpT fun _ _=>Wp.bnd (AN4 _ _).wpT fun _ _=>Wp.bnd (Tot.wpT (Tot.cnd Tot.some Tot.some)) fun _ _=>Wp.some ?_)
 simp only[hw];exact⟨⟨by omega,by omega⟩,by omega⟩
theorem EO8 (c:Cfg)(f:Int):Tot (AN3 c f):=by unfold AN3 Ad1;exact Tot.bnd (Tot.cnd Tot.some (Tot.bnd (AV7 _ _) fun _=>Tot.bnd (EO7 _) fun _=>Tot.some)) fun _=>Tot.cnd Tot.some Tot.some
def AH7 (r:E3):Prop:=r.2.2.2.2.2.2.2.2.1.length≤1000∧∀p∈r.2.2.2.2.2.2.2.2.1,p.length≤12
theorem EO9 (s:A7)(f:Fsd)(cy:Int)(a b:Bool)(q:Int×(Int×(Int×Int)))(hs:AD9 s):Wp (Y5 s f cy a b q) AH7:=by
 unfold Y5;refine Wp.bnd (AH5 _).wpT fun _ _=>Wp.bnd (EH8 _ _ _ _).wpT fun _ _=> ?_
 cases hon:s.place.1 with
 |false=>exact Wp.some ⟨by simp,by simp⟩
 |true=>
  obtain⟨g0,g1,hset⟩:=hs.p hon;refine Wp.chk (by simp only[Bool.and_eq_true,decide_eq_true_eq];exact⟨g0,g1⟩) (Wp.bnd (EO4 _ (by have:=hset.few;omega)) fun rts hr=>Wp.bnd (EO6 _ _ _ _ hset hs.ends).wpT fun _ _=>Wp.cnd (fun _=>Wp.bnd (EO8 _ _).wpT fun _ _=>Wp.some hr) fun _=>Wp.some hr)
theorem EP0 (m:Mal)(cmd:Bool)(cy:Int)(s:A7)(hs:AD9 s):Wp (U7 m cmd cy s) fun y=>AH7 y.1∧AD9 y.2∧y.2.broken=s.broken∧y.2.C5=s.C5:=by
 unfold U7;refine Wp.bnd (EN2 s _ _ _ _ hs.t hs.p).wpT fun y _=>Wp.bnd (wp_move _ _ _ _ hs.t hs.p) fun z hz=>Wp.bnd (EO0 _ _ _ _ _ _ hs.t hz) fun x hx=>Wp.bnd (Q:=fun s'=>AD9 s'∧s'.broken=s.broken∧s'.C5=s.C5) ?_ fun s4 h4=> ?_
 ·refine Wp.cnd (fun hc=> ?_) fun _=>Wp.some ⟨⟨hs.t,hs.ends,hz⟩,rfl,rfl⟩
  exact Wp.mono (EO3 x _ _ ⟨hs.t,hs.ends,hz⟩ (hx hc)) fun s' h=>h
 ·refine Wp.bnd (EH7 _ _ _ _ _ _).wpT fun w _=>Wp.bnd (Q:=fun pl=>r6 s4.t pl) ?_ fun pl hpl=>Wp.bnd (EI0 _ _ _ _).wpT fun st _=>Wp.bnd (EI1 _ _ _ _ _).wpT fun ro _=> ?_
  ·exact Wp.cnd (fun _=>Wp.some (Am8 _ _ rfl)) fun _=>Wp.some h4.1.p
  ·have h5:AD9 {s4 with watch:=w,place:=pl,still:=st,E7:=ro}:=⟨h4.1.t,h4.1.ends,hpl⟩
   exact Wp.bnd (EO9 _ _ _ _ _ _ h5) fun r hr=>Wp.some ⟨hr,h5,h4.2.1,h4.2.2⟩
end Go.Proofs.YthfjpkdadjemcaaGreat
