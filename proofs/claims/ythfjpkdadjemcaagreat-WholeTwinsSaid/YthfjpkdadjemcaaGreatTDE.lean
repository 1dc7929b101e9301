/- Each part of a cycle has an answer, in a good state. -/
import Derived.Test.YthfjpkdadjemcaaGreatTopT
import Derived.Test.YthfjpkdadjemcaaGreatTABC
set_option linter.unusedSimpArgs false
set_option linter.unusedVariables false
namespace Go.Proofs.YthfjpkdadjemcaaGreat
open Go Go.RowKit
open _root_.Bool renaming and_eq_true → FN6, not_eq_true' → FN7, or_eq_true → FN8
open Go.IntKind renaming wrap → FN9, wrap_i64 → FO0
open _root_.Option renaming bind_some → FO1
open _root_.List renaming length_cons → FO2, length_nil → FO3, mem_append → FO4, mem_singleton → FO5
theorem Tot.wpT {α:Type}{a:Option α}(h:Tot a):Wp a fun _=>True:=by obtain⟨y,hy⟩:=h;exact⟨y,hy,trivial⟩
theorem L9 {i n:Int}(h0:0≤i)(h1:i<n)(hn:n≤1000000):FN9 .i64 (i+1)=i+1:=by rw[FO0];omega
theorem T3 {α:Type}{l:List α}{i:Int}{d:α}(h0:0≤i)(h1:i<(l.length:Int)):l.getD i.toNat d∈l:=by
 have h:i.toNat<l.length:=by omega
 simp[List.getD,h]
structure R2 (t:TkD):Prop where
 ne:t.1≠[]
 n1:t.1.length≤200
 n2:t.2.length≤400
 seg:∀x∈t.1,x.2.1≠[]∧x.2.1.length≤64∧x.2.2.length≤2∧∀n∈x.2.2,0≤n∧n<(t.1.length:Int)
 grp:∀g∈t.2,0≤g.2.1∧g.2.1<(t.1.length:Int)
def Ae1 (n:Nat)(r:RtD):Prop:=1≤r.1∧r.1≤12∧∀i∈pathOf r,0≤i∧i<(n:Int)
structure AI3 (n:Nat)(s:M6):Prop where
 ne:s.2≠[]
 few:s.2.length≤100
 all:∀r∈s.2,Ae1 n r
def p8 (t:TkD)(p:Plc):Prop:=p.1=true→0≤p.2.1∧p.2.1<(t.2.length:Int)∧AI3 t.1.length p.2.2.2.2
theorem BR8 (r:RtD):Aa7 r=some (pathOf r):=rfl
theorem BA1 (r:RtD):(pathOf r).length≤12:=by obtain⟨n,s0,s1,s2,s3,s4,s5,s6,s7,s8,s9,s10,s11⟩:=r;unfold pathOf;rw[List.length_take];exact Nat.min_le_right _ _
theorem BR9 (s:M6)(t:TkD)(r:RtD)(h:∀i∈pathOf r,0≤i∧i<(t.1.length:Int)):Tot (S5 s t r):=by
 unfold S5;rw[BR8];simp only[FO1];refine Tot.bnd ?_ fun _=>Tot.some
 have hp:=BA1 r;refine Tot.loop (fun s=>0≤s.2∧s.2≤((pathOf r).length:Int)) (fun s=>(((pathOf r).length:Int)-s.2).toNat) ?_ ⟨by simp,by simp⟩
 rintro⟨a,i⟩ ⟨h0,h1⟩
 refine Wp.cnd (fun hc=> ?_) fun _=>Wp.some trivial
 have hi:i<((pathOf r).length:Int):=by simpa using hc
 have h0':0≤i:=h0;have hw:=L9 h0' hi (by omega)
 have hm:=h _ (T3 (d:=(0:Int)) h0' hi);refine Wp.chk (by simp only[hw,FN8,FN6,decide_eq_true_eq,FN7,decide_eq_false_iff_not];omega) (Wp.chk ?_ (Wp.some ?_))
 ·simp only[FN6,decide_eq_true_eq];exact hm
 ·simp only[hw];exact⟨⟨by omega,by omega⟩,by omega⟩
theorem CF0 (l:List (Int×Int))(s:Int×Int)(hl:l.length≤1000):Tot (AM1 l s):=by
 unfold AM1;refine Tot.bnd ?_ fun _=>Tot.some
 refine Tot.loop (fun s=>0≤s.2.1∧s.2.1≤(l.length:Int)) (fun s=>((l.length:Int)-s.2.1).toNat) ?_ ⟨by simp,by simp⟩
 rintro⟨a,i,b,f⟩ ⟨h0,h1⟩
 refine Wp.cnd (fun hc=> ?_) fun _=>Wp.some trivial
 have hi:i<(l.length:Int):=by simpa using hc
 have h0':0≤i:=h0;have hw:=L9 h0' hi (by omega)
 refine Wp.bnd (Tot.wpT ?_) fun _ _=>Wp.some ?_
 ·refine Tot.chk (by simp only[hw,FN8,FN6,decide_eq_true_eq,FN7,decide_eq_false_iff_not];omega) (Tot.chk ?_ ?_)
  ·simp only[hw,FN8,FN6,decide_eq_true_eq,FN7,decide_eq_false_iff_not];omega
  ·exact Tot.auto
 ·simp only[hw];exact⟨⟨by omega,by omega⟩,by omega⟩
theorem EM4 (n:Int)(st a b:Int)(x:List (Int×(List (Int×Int)×List Int)))(y:List (Int×(Int×(Int×(Int×Int)))))(f:Bool)(c d:Int)(h0:0≤n)(h1:n<(x.length:Int))(hl:∀z∈x,z.2.1.length≤64):
  Wp (AU7 n st a b x y f c d) fun z=>z.2.2.1=x:=by
 unfold AU7;have hm:=hl _ (T3 (d:=(0,[],[])) h0 h1);refine Wp.chk (by simp only[FN6,decide_eq_true_eq];exact⟨h0,h1⟩) ?_
 refine Wp.bnd (Ad8 _ _).wpT fun _ _=>Wp.cnd (fun _=>Wp.some rfl) fun _=> ?_
 refine Wp.chk (by simp only[FN6,decide_eq_true_eq];exact⟨h0,h1⟩) ?_
 refine Wp.bnd (CF0 _ _ (by omega)).wpT fun _ _=>Wp.bnd (Q:=fun _=>True) ?_ fun _ _=>Wp.bnd (BR2 _ _).wpT fun _ _=>Wp.some rfl
 exact Wp.cnd (fun _=>Wp.some trivial) fun _=>Wp.some trivial
theorem EM5 (s:M6)(t:TkD)(a b:Int)(x:List (Int×(List (Int×Int)×List Int)))(y:List (Int×(Int×(Int×(Int×Int)))))(f:Bool)(c d:Int)(hn:s.2.length≤1000)(hx:x.length=t.1.length)(hl:∀z∈x,z.2.1.length≤64)(hs:∀r∈s.2,∀i∈pathOf r,0≤i∧i<(t.1.length:Int)):Tot (AU8 s t a b x y f c d):=by
 unfold AU8;refine Tot.bnd ?_ fun _=>Tot.some
 refine Tot.loop (fun z=>0≤z.2.2.1∧z.2.2.1≤(s.2.length:Int)∧z.2.2.2.2.2.2.2=x) (fun z=>((s.2.length:Int)-z.2.2.1).toNat) ?_ ⟨by simp,by simp,rfl⟩
 rintro⟨a1,a2,i,a4,a5,a6,a7,a8⟩ ⟨h0,h1,hx8⟩
 simp only at hx8;subst hx8;refine Wp.cnd (fun hc=> ?_) fun _=>Wp.some trivial
 have hi:i<(s.2.length:Int):=by simpa using hc
 have h0':0≤i:=h0;have hw:=L9 h0' hi (by omega)
 have hm:=hs _ (T3 (d:=(0,0,0,0,0,0,0,0,0,0,0,0,0)) h0' hi);refine Wp.chk (by simp only[hw,FN8,FN6,decide_eq_true_eq,FN7,decide_eq_false_iff_not];omega) ?_
 simp only[BR8,FO1];generalize s.2.getD i.toNat (0,0,0,0,0,0,0,0,0,0,0,0,0)=r at hm;have hp:=BA1 r;refine Wp.bnd (Q:=fun z=>z.2.2.2.2.2.1=a8) ?_ fun z hz=>Wp.some ?_
 ·refine Wp.loop (fun z=>0≤z.2.2.2.2.2.2.2.2∧z.2.2.2.2.2.2.2.2≤((pathOf r).length:Int)∧z.2.2.2.2.2.2.1=a8) (fun z=>(((pathOf r).length:Int)-z.2.2.2.2.2.2.2.2).toNat) ?_ ⟨by simp,by simp,rfl⟩
  rintro⟨b1,b2,b3,b4,b5,b6,b7,b8,k⟩ ⟨k0,k1,hb7⟩
  simp only at hb7;subst hb7;refine Wp.cnd (fun hc=> ?_) fun _=>Wp.some rfl
  have hk:k<((pathOf r).length:Int):=by simpa using hc
  have k0':0≤k:=k0;have hw2:=L9 k0' hk (by omega)
  have hm2:=hm _ (T3 (d:=(0:Int)) k0' hk);refine Wp.chk (by simp only[FN6,decide_eq_true_eq];exact⟨k0',hk⟩) ?_
  refine Wp.bnd (EM4 _ _ _ _ _ _ _ _ _ hm2.1 (by rw[hx];exact hm2.2) hl) fun z hz=>Wp.chk ?_ (Wp.some ?_)
  ·simp only[FN6,decide_eq_true_eq];exact hm2
  ·simp only[hw2];exact⟨⟨by omega,by omega,hz⟩,by omega⟩
 ·simp only[hw];exact⟨⟨by omega,by omega,hz⟩,by omega⟩
theorem EM6 (s:M6)(t:TkD)(p:Int×Int)(ht:R2 t)(hs:AI3 t.1.length s):Tot (AU9 s t p):=by unfold AU9;exact Tot.bnd (EM5 _ _ _ _ _ _ _ _ _ (by have:=hs.few;omega) rfl (fun z hz=>(ht.seg z hz).2.1) fun r hr=>(hs.all r hr).2.2) fun _=>Tot.some
theorem EM7 (t:TkD)(gr:Spn)(pl:Plc)(ht:R2 t)(hp:p8 t pl):Tot (BR7 t gr pl):=by
 unfold BR7 AV0;cases hon:pl.1 with
 |false=>exact Tot.some
 |true=>
  obtain⟨_,_,hs⟩:=hp hon;have hf:=hs.few;refine Tot.bnd ?_ fun z=> ?_
  ·refine Tot.loop (fun z=>0≤z.2.2∧z.2.2≤(pl.2.2.2.2.2.length:Int)) (fun z=>((pl.2.2.2.2.2.length:Int)-z.2.2).toNat) ?_ ⟨by simp,by simp⟩
   rintro⟨a,b,i⟩ ⟨h0,h1⟩
   refine Wp.cnd (fun hc=> ?_) fun _=>Wp.some trivial
   have hi:i<(pl.2.2.2.2.2.length:Int):=by simpa using hc
   have h0':0≤i:=h0;have hw:=L9 h0' hi (by omega)
   have hm:=hs.all _ (T3 (d:=(0,0,0,0,0,0,0,0,0,0,0,0,0)) h0' hi);refine Wp.chk (by simp only[hw,FN8,FN6,decide_eq_true_eq,FN7,decide_eq_false_iff_not];omega) (Wp.bnd (BR9 _ _ _ hm.2.2).wpT fun _ _=>Wp.cnd (fun _=>Wp.some trivial) fun _=>Wp.some ?_)
   simp only[hw];exact⟨⟨by omega,by omega⟩,by omega⟩
  ·rcases z with z | z
   ·exact Tot.some
   ·exact Tot.bnd (EM6 _ _ _ ht hs) fun _=>Tot.cnd Tot.some Tot.some
theorem EM8 (c:Cfg)(t:TkD)(gr sp:Spn)(pl:Plc)(v:Int×Bool)(ht:R2 t)(hp:p8 t pl):Tot (Ao5 c t gr sp pl v):=by unfold Ao5;exact Tot.cnd Tot.some (Tot.bnd (EM7 t gr pl ht hp) fun _=>Tot.bnd (CC5 _ _ _) fun _=>Tot.bnd (CC6 _ _) fun _=>Tot.some)
theorem CF1 (k:Cnt)(circ:Spn)(p:Int)(v:Int×Bool):Tot (AO7 k circ p v):=by unfold AO7;exact Tot.bnd (CC2 _ _ _) fun _=>Tot.cnd Tot.some (Tot.bnd (CC1 _ _ _) fun _=>Tot.some)
theorem EM9 (c:Cfg)(v:Int×Bool):Tot (Ao4 c v):=by unfold Ao4;exact Tot.cnd Tot.some (Tot.bnd (CC3 _ _) fun _=>Tot.some)
theorem EN0 (l:Sns×(Sns×Sns)):Wp (Az4 l) fun r=>r.length≤3:=by obtain⟨⟨a,a2⟩,⟨b,b2⟩,⟨c,c2⟩⟩:=l;cases a <;> cases b <;> cases c <;> exact⟨_,rfl,by simp⟩
theorem EN1 (l:List (Int×Int))(hl:l.length≤1000):Tot (AH5 l):=by
 unfold AH5;by_cases h0:l.length=0
 ·have e:((l.length:Int)==(0:Int))=true:=by simp[h0]
  simp only[e,cond_true];exact Tot.some
 ·have e:((l.length:Int)==(0:Int))=false:=by simpa using h0
  simp only[e,cond_false];refine Tot.chk (by simp;omega) (Tot.bnd ?_ fun z=> ?_)
  ·refine Tot.loop (fun z=>0≤z.2.2.2.2∧z.2.2.2.2≤(l.length:Int)) (fun z=>((l.length:Int)-z.2.2.2.2).toNat) ?_ ⟨by simp,by simp⟩
   rintro⟨a,b,c,d,i⟩ ⟨h0,h1⟩
   refine Wp.cnd (fun hc=> ?_) fun _=>Wp.some trivial
   have hi:i<(l.length:Int):=by simpa using hc
   have h0':0≤i:=h0;have hw:=L9 h0' hi (by omega)
   refine Wp.chk (by simp only[hw,FN8,FN6,decide_eq_true_eq,FN7,decide_eq_false_iff_not];omega) (Wp.bnd (Ad8 _ _).wpT fun _ _=>Wp.cnd (fun _=>Wp.some trivial) fun _=>Wp.some ?_)
   simp only[hw];exact⟨⟨by omega,by omega⟩,by omega⟩
  ·rcases z with z | z <;> exact Tot.some
theorem EN2 (l:List (Int×Int))(hl:l.length≤1000):Tot (AH6 l):=by
 unfold AH6;refine Tot.bnd ?_ fun _=>Tot.some
 refine Tot.loop (fun z=>0≤z.2.1∧z.2.1≤(l.length:Int)) (fun z=>((l.length:Int)-z.2.1).toNat) ?_ ⟨by simp,by simp⟩
 rintro⟨a,i,b,c⟩ ⟨h0,h1⟩
 refine Wp.cnd (fun hc=> ?_) fun _=>Wp.some trivial
 have hi:i<(l.length:Int):=by simpa using hc
 have h0':0≤i:=h0;have hw:=L9 h0' hi (by omega)
 refine Wp.chk (by simp only[hw,FN8,FN6,decide_eq_true_eq,FN7,decide_eq_false_iff_not];omega) (Wp.chk ?_ (Wp.bnd (Tot.wpT ?_) fun _ _=>Wp.some ?_))
 ·simp only[hw,FN6,decide_eq_true_eq];omega
 ·generalize hd:(l.take (l.length:Int).toNat).drop (FN9 .i64 (i+(1:Int))).toNat=m
  have hm:m.length≤1000:=by
   rw[← hd];simp
   omega
  refine Tot.loop (fun z=>0≤z.2.2.2∧z.2.2.2≤(m.length:Int)) (fun z=>((m.length:Int)-z.2.2.2).toNat) ?_ ⟨by simp,by simp⟩
  rintro⟨a,b,c,k⟩ ⟨k0,k1⟩
  refine Wp.cnd (fun hc=> ?_) fun _=>Wp.some trivial
  have hk:k<(m.length:Int):=by simpa using hc
  have k0':0≤k:=k0;have hw2:=L9 k0' hk (by omega)
  refine Wp.chk (by simp only[FN6,decide_eq_true_eq];exact⟨k0',hk⟩) (Wp.bnd (Ad8 _ _).wpT fun _ _=>Wp.bnd (Tot.wpT ?_) fun _ _=>Wp.some ?_)
  ·exact Tot.auto
  ·simp only[hw2];exact⟨⟨by omega,by omega⟩,by omega⟩
 ·simp only[hw];exact⟨⟨by omega,by omega⟩,by omega⟩
theorem EN3 (f:Int×Int)(l:List (Int×Int))(hl:l.length≤2):Wp (AH8 f l) fun o=>o.length≤2∧∀i∈o,0≤i∧i<2:=by
 unfold AH8;refine Wp.bnd (Q:=fun o=>o.length≤2∧∀i∈o,0≤i∧i<2) ?_ fun _ h=>Wp.some h
 refine Wp.loop (fun z=>0≤z.2∧z.2≤(l.length:Int)∧(z.1.length:Int)≤z.2∧∀i∈z.1,0≤i∧i<2) (fun z=>((l.length:Int)-z.2).toNat) ?_ ⟨by simp,by simp,by simp,by simp⟩
 rintro⟨o,i⟩ ⟨h0,h1,h2,h3⟩
 refine Wp.cnd (fun hc=> ?_) fun _=>Wp.some ⟨?_,h3⟩
 ·have hi:i<(l.length:Int):=by simpa using hc
  have h0':0≤i:=h0;have h2':(o.length:Int)≤i:=h2;have hw:=L9 h0' hi (by omega)
  refine Wp.chk (by simp only[hw,FN8,FN6,decide_eq_true_eq,FN7,decide_eq_false_iff_not];omega) (Wp.bnd (Ad8 _ _).wpT fun _ _=>Wp.bnd (Q:=fun o2=>(o2.length:Int)≤i+1∧∀k∈o2,0≤k∧k<2) ?_ fun o2 h=>Wp.some ?_)
  ·refine Wp.cnd (fun _=>Wp.chk ?_ (Wp.some ⟨?_,?_⟩)) fun _=>Wp.some ⟨by omega,h3⟩
   ·simp only[decide_eq_true_eq,FO2,FO3];omega
   ·simp;omega
   ·intro k hk
    rcases FO4.1 hk with hk | hk
    ·exact h3 k hk
    ·simp at hk
     subst hk;exact⟨h0',by omega⟩
  ·simp only[hw];exact⟨⟨by omega,by omega,h.1,h.2⟩,by omega⟩
 ·have h1':i≤(l.length:Int):=h1
  have h2':(o.length:Int)≤i:=h2;show o.length≤2;omega
theorem EN4 (l:List (Int×Int))(hl:l.length≤1000):Tot (AH7 l):=by unfold AH7;exact Tot.bnd (EN1 l hl) fun _=>Tot.cnd Tot.some (Tot.cnd Tot.some (Tot.bnd (EN2 l hl) fun _=>Tot.some))
theorem EN5 (p:Int×Int)(three:Sns×(Sns×Sns))(a:Sns):Tot (AA8 p three a):=by
 unfold AA8;refine Wp.tot (Q:=fun _=>True) (Wp.bnd (EN0 three) fun l hl=>Tot.wpT ?_)
 refine Tot.bnd (EN4 l (by omega)) fun s=>Tot.bnd ?_ fun _=>Tot.bnd ?_ fun _=>Tot.bnd (Tot.cnd ?_ Tot.some) fun _=>Tot.some
 ·exact Tot.auto
 ·exact Tot.auto
 ·refine Wp.tot (Q:=fun _=>True) (Wp.bnd (EN3 _ _ (by simp)) fun o ho=>Tot.wpT (Tot.bnd ?_ fun _=>Tot.some))
  refine Tot.loop (fun z=>0≤z.2.2.2.2.2.2.2∧z.2.2.2.2.2.2.2≤(o.length:Int)) (fun z=>((o.length:Int)-z.2.2.2.2.2.2.2).toNat) ?_ ⟨by simp,by simp⟩
  rintro⟨a1,a2,a3,a4,a5,a6,a7,i⟩ ⟨h0,h1⟩
  refine Wp.cnd (fun hc=> ?_) fun _=>Wp.some trivial
  have hi:i<(o.length:Int):=by simpa using hc
  have h0':0≤i:=h0;have hw:=L9 h0' hi (by omega)
  have hm:=ho.2 _ (T3 (d:=(0:Int)) h0' hi);refine Wp.chk (by simp only[hw,FN8,FN6,decide_eq_true_eq,FN7,decide_eq_false_iff_not];omega) (Wp.chk ?_ (Wp.bnd (Az6 _ _).wpT fun _ _=>Wp.chk ?_ (Wp.some ?_)))
  ·simp only[FN6,decide_eq_true_eq];omega
  ·simp only[FN6,decide_eq_true_eq];omega
  ·simp only[hw];exact⟨⟨by omega,by omega⟩,by omega⟩
theorem EN6 (s:C2)(v1 v2 v3 v4:Int×Bool)(ht:R2 s.t)(hp:p8 s.t s.place):Tot (AB0 s v1 v2 v3 v4):=by unfold AB0;exact Tot.bnd (CF1 _ _ _ _) fun _=>Tot.bnd (CF1 _ _ _ _) fun _=>Tot.bnd (EM9 _ _) fun _=>Tot.bnd (CC4 _ _) fun _=>Tot.bnd (EM8 _ _ _ _ _ _ ht hp) fun _=>Tot.bnd (EN5 _ _ _) fun _=>Tot.some

/- A cycle has an answer, and a good state behind it. -/
theorem BS0 {α β:Type}{F:β→α→Option β}{P:β→Prop}:∀(l:List α) (b:β),P b→(∀b a,a∈l→P b→Wp (F b a) P)→Wp (l.foldlM F b) P
 | [],b,hb,_=>⟨b,rfl,hb⟩
 |a::l,b,hb,h=>by simp only[List.foldlM_cons];exact Wp.bnd (h b a (by simp) hb) fun c hc=>BS0 l c hc fun b a ha hb=>h b a (by simp[ha]) hb
theorem CF2 {r:RtD}{i:Nat}(h1:r.1≤12)(hi:(i:Int)<r.1):O4 r i∈pathOf r:=by
 obtain⟨n,s0,s1,s2,s3,s4,s5,s6,s7,s8,s9,s10,s11⟩:=r;unfold O4 pathOf;simp only at h1 hi ⊢;have e:(min (max n 0) 12).toNat=n.toNat:=by omega
 rw[e];have h2:i<n.toNat:=by omega
 have h3:i<12:=by omega
 have h4:(List.take n.toNat [s0,s1,s2,s3,s4,s5,s6,s7,s8,s9,s10,s11])[i]? = some ([s0,s1,s2,s3,s4,s5,s6,s7,s8,s9,s10,s11].getD i 0):=by rw[List.getElem?_take,if_pos h2];simp[List.getD,h3]
 exact List.mem_of_getElem? h4
theorem EN7 {r:RtD}{v:Int}(h1:1≤r.1)(h2:r.1≤11):pathOf (U2 r v)=pathOf r++[v]:=by
 obtain⟨n,s0,s1,s2,s3,s4,s5,s6,s7,s8,s9,s10,s11⟩:=r;simp only at h1 h2;have h:n=1∨n=2∨n=3∨n=4∨n=5∨n=6∨n=7∨n=8∨n=9∨n=10∨n=11:=by omega
 rcases h with rfl | rfl | rfl | rfl | rfl | rfl | rfl | rfl | rfl | rfl | rfl <;> rfl
theorem EN8 {n:Nat}{r:RtD}{v:Int}(h:Ae1 n r)(h2:r.1≤11)(hv:0≤v∧v<(n:Int)):Ae1 n (U2 r v):=by
 have h1:=h.1;refine⟨?_,?_,?_⟩
 ·show 1≤r.1+1
  omega
 ·show r.1+1≤12
  omega
 ·rw[EN7 h1 h2]
  intro i hi;rcases FO4.1 hi with hi | hi
  ·exact h.2.2 i hi
  ·simp at hi
   subst hi;exact hv
def BS1 (n:Nat)(le:List RtD×Int):Prop:=le.1.length≤17∧(le.2=0→le.1.length≤16)∧∀r∈le.1,Ae1 n r
theorem EN9 (r:RtD)(l:List RtD):(I9 r l).length≤l.length+1:=by
 unfold I9;split
 ·omega
 ·simp
theorem CF3 {t:TkD}{p:Int×Int}(ht:R2 t):∀(k:Nat) (r:RtD) (en:Int) (le:List RtD×Int),Ae1 t.1.length r→13≤k+r.1.toNat→BS1 t.1.length le→Wp (C9 k t p r en le) (BS1 t.1.length)
 |0,r,en,le,hr,hk,_=>by have:=hr.2.1;omega
 |k+1,r,en,le,hr,hk,hl=>by
  rw[C9];have h1:=hr.1;have h2:=hr.2.1;have hs:=hr.2.2 _ (CF2 (i:=(r.1-1).toNat) h2 (by omega))
  rw[if_pos ⟨h1,h2,hs.1,hs.2⟩];by_cases he:le.2=0
  ·rw[if_neg (by simpa using he)]
   have hl16:=hl.2.1 he;by_cases hc:p.2≤en∨F3 t (O4 r (r.1-1).toNat)=[]
   ·rw[if_pos hc]
    refine Wp.some ?_;have hi:=EN9 r le.1;by_cases hp:p.1≤en
    ·simp only[if_pos hp]
     refine⟨by show (I9 r le.1).length≤17;omega,fun h0=> ?_,fun x hx=> ?_⟩
     ·show (I9 r le.1).length≤16
      simp only at h0;by_cases h16:16<(I9 r le.1).length
      ·rw[if_pos h16] at h0;cases h0
      ·omega
     ·rcases Bs1 hx with rfl | hx
      ·exact hr
      ·exact hl.2.2 x hx
    ·simp only[if_neg hp]
     exact⟨hl.1,fun _=>hl16,hl.2.2⟩
   ·rw[if_neg hc]
    by_cases h12:r.1=12
    ·rw[if_pos h12]
     exact Wp.some ⟨hl.1,fun h0=>absurd h0 (by decide:¬(13:Int)=0),hl.2.2⟩
    ·rw[if_neg h12]
     refine BS0 _ _ hl fun b n hn hb=> ?_
     have hx:=(ht.seg _ (T3 (d:=(0,[],[])) hs.1 hs.2)).2.2.2 n hn;rw[if_pos hx];exact CF3 ht k _ _ _ (EN8 hr (by omega) hx) (by show 13≤k+(r.1+1).toNat;omega) hb
  ·rw[if_pos he]
   exact Wp.some hl
theorem CF4 {s:M6}{t:TkD}(ht:R2 t)(hs:AI3 t.1.length s):AN3 s t=true:=by have h1:=hs.ne;have h2:=ht.ne;have h3:=hs.few;have h4:=ht.n1;simp only[AN3,FN6,FN7,decide_eq_true_eq,List.all_eq_true,List.isEmpty_eq_false_iff];exact⟨h1,h2,by omega,by omega,fun x hx=>by have:=(ht.seg x hx).2.2.1;omega⟩
theorem EO0 (s:M6)(t:TkD)(p:Int×Int)(ht:R2 t)(hs:AI3 t.1.length s):Wp (AG8 s t p) fun y=>y.2=0→AI3 t.1.length y.1:=by
 unfold AG8;by_cases h1:p.1≤p.2
 ·rw[if_pos h1]
  by_cases h2:p.1<wrap64 (-s.1)
  ·rw[if_pos h2]
   exact Wp.some fun h=>by cases h
  ·rw[if_neg h2,if_pos (CF4 ht hs)]
   refine Wp.bnd (Q:=BS1 t.1.length) (BS0 _ _ ⟨by simp,by simp,by simp⟩ fun b r hr hb=> ?_) fun le hle=> ?_
   ·refine Wp.bnd (BR9 s t r (hs.all r hr).2.2).wpT fun en _=> ?_
    exact CF3 ht 13 r en b (hs.all r hr) (by omega) hb
   ·rw[if_pos (by have:=hle.1;omega)]
    refine Wp.some ?_;unfold L8;by_cases he:le.2=0
    ·rw[if_neg (by simpa using he)]
     by_cases hn:le.1=[]
     ·rw[if_pos hn]
      exact fun h=>by cases h
     ·rw[if_neg hn]
      intro _;refine⟨?_,?_,fun r hr=>hle.2.2 r (Bt1.1 hr)⟩
      ·intro h0
       have:(J9 le.1).length=0:=by rw[show J9 le.1=[] from h0];rfl
       rw[Ay4] at this;exact hn (List.eq_nil_of_length_eq_zero this)
      ·show (J9 le.1).length≤100
       rw[Ay4];have:=hle.1;omega
    ·rw[if_pos (by simpa using he)]
     exact fun h=>absurd h he
 ·rw[if_neg h1]
  exact Wp.some fun h=>by cases h
theorem Ao7 (t:TkD)(p:Plc)(h:p.1=false):p8 t p:=fun h2=>by rw[h] at h2;cases h2
theorem CF5 (pl:Plc)(t:TkD)(sp:Spn)(ht:R2 t)(hp:p8 t pl):Wp (AH9 pl t sp) fun q=>p8 t q.1:=by
 unfold AH9;refine Wp.cnd (fun _=>Wp.some (Ao7 _ _ rfl)) fun hon=> ?_
 have hon:pl.1=true:=by simpa using hon
 obtain⟨g0,g1,hs⟩:=hp hon;refine Wp.bnd (BR4 _ _).wpT fun z _=>Wp.bnd (Tot.wpT (Tot.cnd (CC0 _ _) Tot.some)) fun _ _=>Wp.cnd (fun _=>Wp.some (Ao7 _ _ rfl)) fun _=> ?_
 refine Wp.bnd (EO0 _ _ _ ht hs) fun y hy=>Wp.cnd (fun _=>Wp.some (Ao7 _ _ rfl)) fun he=> ?_
 have he:y.2=0:=by simpa using he
 refine Wp.bnd (Ao3 _).wpT fun _ _=>Wp.bnd (CB4 _ _).wpT fun _ _=>Wp.bnd (CB7 _ _ _).wpT fun _ _=>Wp.some ?_
 exact fun _=>⟨g0,g1,hy he⟩
theorem wp_move (t:TkD)(sp:Spn)(d:Int)(pl:Plc)(ht:R2 t)(hp:p8 t pl):Wp (Ad9 t sp d pl) fun y=>p8 t y.2.2:=by
 unfold Ad9;refine Wp.bnd (Ao3 _).wpT fun _ _=>Wp.bnd (CB6 _).wpT fun _ _=>Wp.bnd (CB3 _ _).wpT fun _ _=>Wp.cnd (fun _=> ?_) fun _=> ?_
 ·exact Wp.cnd (fun _=>Wp.bnd (CF5 pl t sp ht hp) fun q hq=>Wp.some hq) fun _=>Wp.some hp
 ·exact Wp.cnd (fun _=>Wp.bnd (CF5 pl t sp ht hp) fun q hq=>Wp.some hq) fun _=>Wp.some hp
theorem EO1 (t:TkD)(id:Int)(hn:t.2.length≤400):Wp (AO0 t id) fun i=>i.2=true→0≤i.1∧i.1<(t.2.length:Int):=by
 unfold AO0 Ad2;refine Wp.bnd (Q:=fun i=>i.2=true→0≤i.1∧i.1<(t.2.length:Int)) ?_ fun i h=>Wp.some h
 refine Wp.bnd (Q:=fun r=>0≤r∧r≤(t.2.length:Int)) ?_ fun r hr=> ?_
 ·refine Wp.loop (fun z=>0≤z.2∧z.2≤z.1∧z.1≤(t.2.length:Int)) (fun z=>(z.1-z.2).toNat) ?_ ⟨by simp,by simp,by simp⟩
  rintro⟨j,i⟩ ⟨h0,h1,h2⟩
  have h0:0≤i:=h0;have h1:i≤j:=h1;have h2:j≤(t.2.length:Int):=h2;refine Wp.cnd (fun hc=> ?_) fun _=>Wp.some ⟨h0,by omega⟩
  have hij:i<j:=by simpa using hc
  have e1:FN9 .i64 (i+j)=i+j:=by rw[FO0];omega
  have e2:FN9 .u64 (i+j)=i+j:=by
   have:(i+j) % 18446744073709551616=i+j:=by omega
   simpa[FN9,IntKind.signed,IntKind.bits] using this
  have e3:(i+j).fdiv (2 ^ 1)=(i+j)/2:=by
   rw[Int.fdiv_eq_ediv_of_nonneg _ (by decide)]
   rfl
  have e4:FN9 .i64 ((i+j)/2)=(i+j)/2:=by rw[FO0];omega
  simp only[e1,e2,e3,e4];refine Wp.chk (by simp only[FN6,decide_eq_true_eq];omega) (Wp.bnd (BR6 _ _).wpT fun _ _=>Wp.bnd (Q:=fun q=>(0≤q.1∧q.1≤q.2∧q.2≤(t.2.length:Int))∧(q.2-q.1).toNat<(j-i).toNat) ?_ fun q hq=>Wp.some ⟨hq.1,hq.2⟩)
  refine Wp.cnd (fun _=>Wp.some ?_) fun _=>Wp.some ?_
  ·have e5:FN9 .i64 ((i+j)/2+1)=(i+j)/2+1:=by rw[FO0];omega
   simp only[e5];omega
  ·simp only
   omega
 ·refine Wp.chk ?_ (Wp.bnd (Tot.wpT (Tot.cnd (BR6 _ _) Tot.some)) fun _ _=>Wp.some ?_)
  ·simp only[FN8,FN6,decide_eq_true_eq,FN7,decide_eq_false_iff_not]
   omega
  ·intro h
   simp only at h ⊢;cases hc:decide (r<(t.2.length:Int)) with
   |true=>exact ⟨hr.1,by simpa using hc⟩
   |false=>rw [hc] at h;cases h
theorem CF6 {t:TkD}{seg off:Int}:∀(ps:List Int) (a:Int) (xs:List Int),(∀i∈ps,0≤i∧i<(t.1.length:Int))→Wp (Q9 t seg off ps a xs) fun ys=>ys.length≤xs.length+ps.length
 | [],a,xs,_=>⟨xs,rfl,by simp⟩
 |i::ps,a,xs,h=>by
  rw[Q9,if_pos (h i (by simp))]
  refine Wp.mono (CF6 ps _ _ fun j hj=>h j (by simp[hj])) fun ys hy=> ?_
  split at hy
  ·simp at hy ⊢;omega
  ·simp;omega
theorem CF7 {t:TkD}{frm seg off:Int}:∀(rs:List RtD) (xs:List Int),(∀r∈rs,Ae1 t.1.length r)→Wp (AD0 t frm seg off rs xs) fun ys=>ys.length≤xs.length+12*rs.length
 | [],xs,_=>⟨xs,rfl,by simp⟩
 |r::rs,xs,h=>by
  unfold AD0;simp only[List.foldlM_cons];refine Wp.bnd (CF6 (pathOf r) _ xs (h r (by simp)).2.2) fun c hc=> ?_
  refine Wp.mono (CF7 rs c fun q hq=>h q (by simp[hq])) fun ys hy=> ?_
  have:=BA1 r;simp
  omega
theorem EO2 (s:M6)(t:TkD)(g:Int)(ht:R2 t)(hs:AI3 t.1.length s):Wp (Ab9 s t g) fun l=>l.length≤2000:=by
 unfold Ab9;by_cases h1:0≤g∧g<(t.2.length:Int)
 ·rw[if_pos h1,if_pos (CF4 ht hs)]
  refine Wp.bnd (CF7 s.2 [] hs.all) fun ys hy=> ?_
  have hf:=hs.few;have hy2:ys.length≤1200:=by simp at hy;omega
  rw[if_pos (by omega)]
  refine Wp.some ?_;have h3:=Bu0 (N1 ys);have h4:(N1 ys).length=ys.length:=by unfold N1;simp
  omega
 ·rw[if_neg h1]
  exact Wp.some (by simp)
theorem EO3 (c:Cfg)(t:TkD)(s:M6)(p:Spn)(g:Int)(ht:R2 t)(hs:AI3 t.1.length s)(hg:0≤g∧g<(t.2.length:Int)):Tot (AO1 c t s p g):=by
 unfold AO1;refine Wp.tot (Q:=fun _=>True) (Wp.bnd (EO2 s t g ht hs) fun l hl=>Tot.wpT (Tot.bnd ?_ fun _=>Tot.some))
 refine Tot.loop (fun z=>0≤z.2∧z.2≤(l.length:Int)∧(z.1.length:Int)≤z.2) (fun z=>((l.length:Int)-z.2).toNat) ?_ ⟨by simp,by simp,by simp⟩
 rintro⟨o,i⟩ ⟨h0,h1,h2⟩
 refine Wp.cnd (fun hc=> ?_) fun _=>Wp.some trivial
 have hi:i<(l.length:Int):=by simpa using hc
 have h0':0≤i:=h0;have h2':(o.length:Int)≤i:=h2;have hw:=L9 h0' hi (by omega)
 refine Wp.chk (by simp only[hw,FN8,FN6,decide_eq_true_eq,FN7,decide_eq_false_iff_not];omega) (Wp.chk (by simp only[FN6,decide_eq_true_eq];exact hg) ?_)
 refine Wp.bnd (CD2 _ _).wpT fun _ _=>Wp.bnd (CB8 _ _).wpT fun _ _=>Wp.bnd (Ad8 _ _).wpT fun _ _=>Wp.bnd (Q:=fun o2=>(o2.length:Int)≤i+1) ?_ fun o2 h=>Wp.some ?_
 ·refine Wp.cnd (fun _=>Wp.chk ?_ (Wp.some ?_)) fun _=>Wp.some (by omega)
  ·simp only[decide_eq_true_eq,FO2,FO3];omega
  ·simp;omega
 ·simp only[hw];exact⟨⟨by omega,by omega,h⟩,by omega⟩
theorem EO4 (c:Cfg)(t:TkD)(pl was:Plc)(sp:Spn)(v:Int×Bool)(ht:R2 t)(hp:p8 t pl):Wp (Ae0 c t pl was sp v) fun x=>x.2.2.2=true→0≤x.1∧x.1<(t.2.length:Int):=by
 unfold Ae0;refine Wp.cnd (fun _=>Wp.some fun h=>by cases h) fun _=>Wp.bnd (EO1 t v.1 ht.n2) fun i hi=>Wp.cnd (fun _=>Wp.some fun h=>by cases h) fun hk=> ?_
 have hk:i.2=true:=by simpa using hk
 refine Wp.cnd (fun hon=> ?_) fun _=>Wp.some fun _=>hi hk
 refine Wp.bnd (Tot.wpT ?_) fun _ _=>Wp.some fun _=>hi hk
 unfold Az7;exact Tot.bnd (CD1 _ _) fun _=>Tot.cnd Tot.some (EO3 _ _ _ _ _ ht (hp hon).2.2 (hi hk))
theorem EO5 (c:Cfg)(t:TkD)(g:Int)(sp:Spn)(ht:R2 t)(hg:0≤g∧g<(t.2.length:Int)):Wp (An7 c t g sp) (p8 t):=by
 unfold An7;have hm:=ht.grp _ (T3 (d:=(0,0,0,0,0)) hg.1 hg.2);refine Wp.chk (by simp only[FN6,decide_eq_true_eq];exact hg) (Wp.bnd (Ao3 _).wpT fun _ _=> ?_)
 unfold Ad4;refine Wp.bnd (Q:=fun s=>AI3 t.1.length s) (Wp.some ?_) fun s hs=>Wp.some fun _=>⟨hg.1,hg.2,hs⟩
 refine⟨by simp,by simp,fun r hr=> ?_⟩
 simp only[FO5] at hr;subst hr;refine⟨(by decide:(1:Int)≤1),(by decide:(1:Int)≤12),fun i hi=> ?_⟩
 have hi':i∈[(t.2.getD g.toNat (0,0,0,0,0)).2.1]:=hi;simp only[FO5] at hi';subst hi';exact hm
theorem EO6 (p:Int)(a b:Spn)(k0 k1:Cnt)(m0 m1:Int)(pos o:Spn)(at':Int):Tot (AO8 p a b k0 k1 m0 m1 pos o at'):=by unfold AO8;exact Tot.bnd (BR1 _) fun _=>Tot.bnd (BR4 _ _) fun _=>Tot.cnd Tot.some (Tot.bnd (CB9 _ _) fun _=>Tot.cnd Tot.some (Tot.bnd (BR5 _ _ _ _) fun _=>Tot.bnd (BR5 _ _ _ _) fun _=>Tot.some))
structure AD7 (s:C2):Prop where
 t:R2 s.t
 ends:s.ends.length=s.t.1.length
 p:p8 s.t s.place
theorem EO7 (x:Fnd)(sp:Spn)(s:C2)(hs:AD7 s)(hx:0≤x.1∧x.1<(s.t.2.length:Int)):Wp (AI1 x sp s) fun s'=>AD7 s'∧s'.broken=s.broken∧s'.C6=s.C6:=by
 unfold AI1;refine Wp.bnd (EO5 _ _ _ _ hs.t hx) fun p hp=>Wp.cnd (fun hc=> ?_) fun _=>Wp.some ⟨⟨hs.t,hs.ends,hp⟩,rfl,rfl⟩
 refine Wp.chk ?_ (Wp.bnd (EO6 _ _ _ _ _ _ _ _ _ _).wpT fun _ _=>Wp.some ⟨⟨hs.t,hs.ends,hp⟩,rfl,rfl⟩)
 simp only[Bool.true_and,decide_eq_true_eq];cases h1:(bif s.place.1 then s.clean else false) with
 |false=>rw [h1] at hc;cases hc
 |true=>
  rw[h1] at hc;have:(x.2.1.length:Int)=1:=by simpa using hc
  omega
theorem EO8 (l:List RtD)(hl:l.length≤1000):Wp (Az8 l) fun o=>o.length≤1000∧∀p∈o,p.length≤12:=by
 unfold Az8;refine Wp.loop (fun z=>0≤z.2∧z.2≤(l.length:Int)∧(z.1.length:Int)≤z.2∧∀p∈z.1,p.length≤12) (fun z=>((l.length:Int)-z.2).toNat) ?_ ⟨by simp,by simp,by simp,by simp⟩
 rintro⟨o,i⟩ ⟨h0,h1,h2,h3⟩
 refine Wp.cnd (fun hc=> ?_) fun _=>Wp.some ⟨by have h1':i≤(l.length:Int):=h1;have h2':(o.length:Int)≤i:=h2;show o.length≤1000;omega,h3⟩
 have hi:i<(l.length:Int):=by simpa using hc
 have h0':0≤i:=h0;have h2':(o.length:Int)≤i:=h2;have hw:=L9 h0' hi (by omega)
 refine Wp.chk (by simp only[hw,FN8,FN6,decide_eq_true_eq,FN7,decide_eq_false_iff_not];omega) ?_
 simp only[BR8,FO1];refine Wp.chk (by simp only[decide_eq_true_eq,FO2,FO3];omega) (Wp.some ?_)
 simp only[hw];refine⟨⟨by omega,by omega,?_,?_⟩,by omega⟩
 ·simp
  omega
 ·intro p hp
  rcases FO4.1 hp with hp | hp
  ·exact h3 p hp
  ·simp at hp
   subst hp;exact BA1 _
theorem EO9 {r:RtD}{i:Int}(h1:r.1≤12)(h0:0≤i)(hi:i<r.1):List.getD [r.2.1,r.2.2.1,r.2.2.2.1,r.2.2.2.2.1,r.2.2.2.2.2.1,r.2.2.2.2.2.2.1,r.2.2.2.2.2.2.2.1,r.2.2.2.2.2.2.2.2.1,r.2.2.2.2.2.2.2.2.2.1,r.2.2.2.2.2.2.2.2.2.2.1,r.2.2.2.2.2.2.2.2.2.2.2.1,r.2.2.2.2.2.2.2.2.2.2.2.2] i.toNat 0∈pathOf r:=by
 have:=CF2 (r:=r) (i:=i.toNat) h1 (by omega)
 exact this
theorem EP0 (t:TkD)(en:List Int)(s:M6)(at':Int)(hs:AI3 t.1.length s)(he:en.length=t.1.length):Tot (AO4 t en s at'):=by
 unfold AO4;refine Tot.bnd ?_ fun _=>Tot.some
 have hf:=hs.few;refine Tot.loop (fun z=>0≤z.2.2∧z.2.2≤(s.2.length:Int)) (fun z=>((s.2.length:Int)-z.2.2).toNat) ?_ ⟨by simp,by simp⟩
 rintro⟨a,b,i⟩ ⟨h0,h1⟩
 refine Wp.cnd (fun hc=> ?_) fun _=>Wp.some trivial
 have hi:i<(s.2.length:Int):=by simpa using hc
 have h0':0≤i:=h0;have hw:=L9 h0' hi (by omega)
 have hm:=hs.all _ (T3 (d:=(0,0,0,0,0,0,0,0,0,0,0,0,0)) h0' hi);refine Wp.bnd (Tot.wpT (Tot.chk (by simp only[hw,FN8,FN6,decide_eq_true_eq,FN7,decide_eq_false_iff_not];omega) ?_)) fun _ _=>Wp.some ?_
 ·simp only
  generalize s.2.getD i.toNat (0,0,0,0,0,0,0,0,0,0,0,0,0)=r at hm;have e1:FN9 .i64 (r.1-1)=r.1-1:=by have:=hm.1;have:=hm.2.1;rw[FO0];omega
  have hm1:=hm.1;have hm2:=hm.2.1;have hx:=hm.2.2 _ (EO9 (i:=r.1-1) hm2 (by omega) (by omega))
  rw[e1];refine Tot.chk (by simp only[FN6,decide_eq_true_eq];omega) (Tot.chk ?_ (Tot.cnd Tot.some (Tot.bnd (BR9 _ _ _ hm.2.2) fun _=>Tot.bnd (CB5 _ _) fun _=> ?_)))
  ·simp only[FN6,decide_eq_true_eq,he]
   exact hx
  ·exact Tot.bnd (Tot.cnd Tot.some Tot.some) fun _=>Tot.some
 ·simp only[hw];exact⟨⟨by omega,by omega⟩,by omega⟩
theorem EP1 (x:Int×Int):Tot (AW1 x):=by
 unfold AW1;refine Tot.bnd ?_ fun _=>Tot.some
 refine Tot.loop (fun z => -1≤z.1∧z.1≤63) (fun z=>(z.1+1).toNat) ?_ ⟨by simp,by simp⟩
 rintro⟨i,r⟩ ⟨h0,h1⟩
 refine Wp.cnd (fun hc=> ?_) fun _=>Wp.some trivial
 have hi:0≤i:=by simpa using hc
 have h1':i≤63:=h1;have hw:=CA9 i hi (by omega)
 refine Wp.chk (CA8 _) (Wp.bnd (BQ8 _ _).wpT fun _ _=>Wp.bnd (BR0 _ _).wpT fun _ _=>Wp.bnd (Tot.wpT (Tot.cnd Tot.some Tot.some)) fun _ _=>Wp.some ?_)
 simp only[hw];exact⟨⟨by omega,by omega⟩,by omega⟩
theorem EP2 (c:Cfg)(f:Int):Tot (AO5 c f):=by unfold AO5 Ad7;exact Tot.bnd (Tot.cnd Tot.some (Tot.bnd (BQ8 _ _) fun _=>Tot.bnd (EP1 _) fun _=>Tot.some)) fun _=>Tot.cnd Tot.some Tot.some
def AI4 (r:D0):Prop:=r.2.2.2.2.2.2.2.2.1.length≤1000∧∀p∈r.2.2.2.2.2.2.2.2.1,p.length≤12
theorem EP3 (s:C2)(f:Fsd)(cy:Int)(a b:Bool)(q:Int×(Int×(Int×Int)))(hs:AD7 s):Wp (AI2 s f cy a b q) AI4:=by
 unfold AI2;refine Wp.bnd (Ao3 _).wpT fun _ _=>Wp.bnd (CC8 _ _ _ _).wpT fun _ _=> ?_
 cases hon:s.place.1 with
 |false=>exact Wp.some ⟨by simp,by simp⟩
 |true=>
  obtain⟨g0,g1,hset⟩:=hs.p hon;refine Wp.chk (by simp only[FN6,decide_eq_true_eq];exact⟨g0,g1⟩) (Wp.bnd (EO8 _ (by have:=hset.few;omega)) fun rts hr=>Wp.bnd (EP0 _ _ _ _ hset hs.ends).wpT fun _ _=>Wp.cnd (fun _=>Wp.bnd (EP2 _ _).wpT fun _ _=>Wp.some hr) fun _=>Wp.some hr)
theorem EP4 (m:Mal)(cmd:Bool)(cy:Int)(s:C2)(hs:AD7 s):Wp (AO9 m cmd cy s) fun y=>AI4 y.1∧AD7 y.2∧y.2.broken=s.broken∧y.2.C6=s.C6:=by
 unfold AO9;refine Wp.bnd (EN6 s _ _ _ _ hs.t hs.p).wpT fun y _=>Wp.bnd (wp_move _ _ _ _ hs.t hs.p) fun z hz=>Wp.bnd (EO4 _ _ _ _ _ _ hs.t hz) fun x hx=>Wp.bnd (Q:=fun s'=>AD7 s'∧s'.broken=s.broken∧s'.C6=s.C6) ?_ fun s4 h4=> ?_
 ·refine Wp.cnd (fun hc=> ?_) fun _=>Wp.some ⟨⟨hs.t,hs.ends,hz⟩,rfl,rfl⟩
  exact Wp.mono (EO7 x _ _ ⟨hs.t,hs.ends,hz⟩ (hx hc)) fun s' h=>h
 ·refine Wp.bnd (CC7 _ _ _ _ _ _).wpT fun w _=>Wp.bnd (Q:=fun pl=>p8 s4.t pl) ?_ fun pl hpl=>Wp.bnd (CC9 _ _ _ _).wpT fun st _=>Wp.bnd (CD0 _ _ _ _ _).wpT fun ro _=> ?_
  ·exact Wp.cnd (fun _=>Wp.some (Ao7 _ _ rfl)) fun _=>Wp.some h4.1.p
  ·have h5:AD7 {s4 with watch:=w,place:=pl,still:=st,E7:=ro}:=⟨h4.1.t,h4.1.ends,hpl⟩
   exact Wp.bnd (EP3 _ _ _ _ _ _ h5) fun r hr=>Wp.some ⟨hr,h5,h4.2.1,h4.2.2⟩
end Go.Proofs.YthfjpkdadjemcaaGreat
