/- What is fused of two tachometers doesn't depend on which is which. -/
import Derived.Test.YthfjpkdadjemcaaGreatTIJ
import Derived.Test.YthfjpkdadjemcaaGreatFnsT
set_option linter.unusedSimpArgs false
set_option linter.unusedVariables false
namespace Go.Proofs.YthfjpkdadjemcaaGreat
open Go Go.RowKit
open _root_.Option renaming bind_some → Fa5
open Go.IntKind renaming wrap → Fa6
open _root_.List renaming length_map → Fa7, getElem?_eq_getElem → Fa8, range → Fa9, getD_eq_getElem?_getD → Fb1, length_take → Fb5, getElem?_eq_none → Fb6
open _root_.Int renaming toNat_natCast → Fb0, max_comm → Fb3, min_comm → Fb4
open _root_.Bool renaming and_self → Fb2
open _root_.Nat renaming beq → Fb7
theorem BU8 {S X σ:Type}{f:S→Option (S ⊕ X)}(n:Nat)(sh:σ→Nat→S)(step:Nat→σ→Option σ)(out:Option σ→X)
  (hstep:∀k s,k<n→f (sh s k)=match step k s with | some s'=>some (.inl (sh s' (k+1))) | none=>some (.inr (out none)))
  (hend:∀s,f (sh s n)=some (.inr (out (some s)))) (s:σ):LP.lp f (sh s 0)=some (out ((Fa9 n).foldl (fun o k=>o.bind (step k)) (some s))):=by
 have hnone:∀l:List Nat,l.foldl (fun (o:Option σ) k=>o.bind (step k)) none=none:=by
  intro l
  induction l with
  |nil=>rfl
  |cons k l ih=>exact ih
 have key:∀(m k:Nat) (s:σ),k+m=n→∃z,D2 f z (sh s k)=some (out ((List.range' k m).foldl (fun o k=>o.bind (step k)) (some s))):=by
  intro m
  induction m with
  |zero=>
   intro k s hk;have:k=n:=by omega
   subst this;exact⟨1,by simp[D2,hend]⟩
  |succ m ih=>
   intro k s hk;have h1:=hstep k s (by omega)
   rw[List.range'_succ,List.foldl_cons];cases hs:step k s with
   |none=>
    rw[hs] at h1;refine⟨1,?_⟩;simp only[D2,h1,Fa5,hs,hnone]
   |some s'=>
    rw[hs] at h1;obtain⟨z,hz⟩:=ih (k+1) s' (by omega)
    refine⟨z+1,?_⟩;simp only[D2,h1,Fa5,hs,hz]
 obtain⟨z,hz⟩:=key n 0 s (by omega)
 rw[← List.range_eq_range'] at hz;exact p0 hz
def F8 (s t:Spn):Option Spn:=bif decide (min s.2 t.2<max s.1 t.1) then none else some (max s.1 t.1,min s.2 t.2)
def AX1 (o:Option Spn):Spn×Bool:=match o with
 |some w=>(w,true)
 |none=>((0,0),false)
theorem BU9 (s t:Spn):R0 s t=some (AX1 (F8 s t)):=by
 unfold R0 AH2 F8;have e1:(if t.1>s.1 then t.1 else s.1)=max s.1 t.1:=by split <;> omega
 have e2:(if t.2<s.2 then t.2 else s.2)=min s.2 t.2:=by split <;> omega
 simp only[e1,e2,Bool.not_true,cond_false,Fa5];cases decide (min s.2 t.2<max s.1 t.1) <;> rfl
theorem Ea7 (s t:Spn):F8 s t=F8 t s:=by unfold F8;rw[Fb3,Fb4]
theorem BV0 {s t w:Spn}(h:F8 s t=some w):w.1≤w.2:=by
 unfold F8 at h;cases hd:decide (min s.2 t.2<max s.1 t.1) with
 |true=>rw [hd] at h;cases h
 |false=>
  rw[hd] at h;obtain rfl:=Option.some.inj h;have:=of_decide_eq_false hd;simp only;omega
def Af7 (s t:Spn):Spn:=bif !decide (s.1≤s.2) then t else bif !decide (t.1≤t.2) then s else (min s.1 t.1,max s.2 t.2)
theorem Ea8 (s t:Spn):X7 s t=some (Af7 s t):=by
 unfold X7 Q7 Af7;have e1:(if t.1<s.1 then t.1 else s.1)=min s.1 t.1:=by split <;> omega
 have e2:(if t.2>s.2 then t.2 else s.2)=max s.2 t.2:=by split <;> omega
 simp only[e1,e2,Fa5];cases decide (s.1≤s.2) <;> cases decide (t.1≤t.2) <;> rfl
def AD9 (l:List Spn):Option Spn:=match l with
 | []=>none
 |a::_=>(Fa9 l.length).foldl (fun o k=>o.bind fun w=>F8 w (l.getD k (0,0))) (some a)
theorem Ea9 (l:List Spn)(hl:l.length≤1000):AH5 l=some (AX1 (AD9 l)):=by
 unfold AH5 AD9;cases l with
 |nil=>rfl
 |cons a r=>
  have e:(((a::r).length:Int)==(0:Int))=false:=by first | (simp;done) | (simp;omega)
  have e0:decide ((0:Int)<((a::r).length:Int))=true:=by first | (simp;done) | (simp;omega)
  have ea:(a::r).getD (0:Int).toNat ((0:Int),(0:Int))=a:=rfl;simp only[e,e0,ea,cond_false,Fb2,R1];generalize hL:a::r=L at hl;have:=BU8 (σ:=Spn) (X:=(Int×(Int×Bool)) ⊕ (Int×(Int×(Int×Int)))) L.length (fun w k=>(w.2,(0:Int),(0:Int),w.1,(k:Int))) (fun k w=>F8 w (L.getD k (0,0))) (fun o=>match o with | some w=>.inr (w.2,0,0,w.1) | none=>.inl (0,0,false)) (f:=fun s_5=>
    (bif decide (s_5.2.2.2.2<(L.length:Int)) then
     chk none ((decide ((0:Int)≤s_5.2.2.2.2))&&(decide (s_5.2.2.2.2<(L.length:Int))))<|
     (R0 (s_5.2.2.2.1,s_5.1) (L.getD s_5.2.2.2.2.toNat ((0:Int),(0:Int)))).bind fun t24_13=>
     (bif (!t24_13.2) then some (.inr (.inl (0,0,false)))
     else some (.inl (t24_13.1.2,s_5.2.1,s_5.2.2.1,t24_13.1.1,Fa6 .i64 (s_5.2.2.2.2+(1:Int)))))
    else some (.inr (.inr (s_5.1,s_5.2.1,s_5.2.2.1,s_5.2.2.2.1))))) (fun k w hk=>by
     have e1:decide ((k:Int)<(L.length:Int))=true:=by simpa using hk
     have e2:decide ((0:Int)≤(k:Int))=true:=by simp
     have e3:=p7 k (by omega)
     simp only[e1,e2,cond_true,Fb2,R1,Fb0,BU9,Fa5,e3];cases F8 (w.1,w.2) (L.getD k (0,0)) <;> rfl) (fun w=>by
     have e1:decide ((L.length:Int)<(L.length:Int))=false:=by simp
     simp only[e1,cond_false]) a
  refine (congrArg (Option.bind · _) this).trans ?_;simp only[Fa5];cases (Fa9 L.length).foldl (fun o k=>o.bind fun w=>F8 w (L.getD k (0,0))) (some a) <;> rfl
theorem Eb0 (a b:Spn):AD9 [a,b]=AD9 [b,a]:=by
 have h:∀a b:Spn,AD9 [a,b]=bif decide (min a.2 b.2<max a.1 b.1) then none else some (max a.1 b.1,min a.2 b.2):=by
  intro a b;change ((F8 a a).bind fun w=>F8 w b)=_
  unfold F8;rw[Int.max_self,Int.min_self];cases h1:decide (a.2<a.1) with
  |true=>
   have h1:=of_decide_eq_true h1;have:decide (min a.2 b.2<max a.1 b.1)=true:=by rw[decide_eq_true_eq];omega
   rw[this];rfl
  |false=>rfl
 rw[h,h,Fb3,Fb4]
theorem Eb1 (a b r:Spn):AD9 [a,b,r]=AD9 [b,a,r]:=by
 have h:∀a b:Spn,AD9 [a,b,r]=bif decide (min (min a.2 b.2) r.2<max (max a.1 b.1) r.1) then none else some (max (max a.1 b.1) r.1,min (min a.2 b.2) r.2):=by
  intro a b;change (((F8 a a).bind fun w=>F8 w b).bind fun w=>F8 w r)=_
  unfold F8;rw[Int.max_self,Int.min_self];cases h1:decide (a.2<a.1) with
  |true=>
   have h1:=of_decide_eq_true h1;have:decide (min (min a.2 b.2) r.2<max (max a.1 b.1) r.1)=true:=by rw[decide_eq_true_eq];omega
   rw[this];rfl
  |false=>
   simp only[cond_false,Fa5];cases h2:decide (min a.2 b.2<max a.1 b.1) with
   |true=>
    have h2:=of_decide_eq_true h2;have:decide (min (min a.2 b.2) r.2<max (max a.1 b.1) r.1)=true:=by rw[decide_eq_true_eq];omega
    rw[this];rfl
   |false=>rfl
 rw[h,h,Fb3 a.1,Fb4 a.2]
def Q5 (s:Bool×Spn)(o:Option Spn):Bool×Spn:=match o with
 |some w=>(true,bif s.1 then Af7 s.2 w else w)
 |none=>s
def BV1 (s:Bool×Spn):Prop:=s.1=true→s.2.1≤s.2.2
theorem Eb2 {s:Bool×Spn}(h:BV1 s){o:Option Spn}(ho:∀w,o=some w→w.1≤w.2):BV1 (Q5 s o):=by
 cases o with
 |none=>exact h
 |some w=>
  have hw:=ho w rfl;intro _;unfold Q5;cases hs:s.1 with
  |false=>exact hw
  |true=>
   have:=h hs;simp only[cond_true,Af7];rw[decide_eq_true this,decide_eq_true hw];simp only[Bool.not_true,cond_false];omega
theorem Eb3 {s:Bool×Spn}(h:BV1 s){o p:Option Spn}(ho:∀w,o=some w→w.1≤w.2)(hp:∀w,p=some w→w.1≤w.2):Q5 (Q5 s o) p=Q5 (Q5 s p) o:=by
 cases o with
 |none=>rfl
 |some w=>
  cases p with
  |none=>rfl
  |some v=>
   have hw:=ho w rfl;have hv:=hp v rfl;have hull:∀{s t:Spn},s.1≤s.2→t.1≤t.2→Af7 s t=(min s.1 t.1,max s.2 t.2):=fun h1 h2=>by unfold Af7;rw[decide_eq_true h1,decide_eq_true h2];rfl
   unfold Q5;simp only[cond_true];congr 1;cases hs:s.1 with
   |false=>
    simp only[cond_false];rw[hull hw hv,hull hv hw,Fb4,Fb3]
   |true=>
    have hg:=h hs;simp only[cond_true];rw[hull hg hw,hull hg hv,hull (by simp only;omega) hv,hull (by simp only;omega) hw]
    simp only;congr 1 <;> omega
def AX2 (l:List Spn):Bool×Spn:=(Fa9 l.length).foldl (fun s k=>(Fa9 ((l.take l.length).drop (k+1)).length).foldl (fun s j=>Q5 s (F8 (l.getD k (0,0)) (((l.take l.length).drop (k+1)).getD j (0,0)))) s) (false,(0,0))
theorem BV2 {σ:Type}(g:Nat→σ→σ):∀(l:List Nat) (s:σ),l.foldl (fun (o:Option σ) k=>o.bind fun s=>some (g k s)) (some s)=some (l.foldl (fun s k=>g k s) s)
 | [],s=>rfl
 |k::l,s=>BV2 g l (g k s)
theorem Eb4 (l:List Spn)(hl:l.length≤1000):AH6 l=some ((AX2 l).2,(AX2 l).1):=by
 unfold AH6;have inner:∀(a:Spn) (m:List Spn) (s:Bool×Spn),m.length≤1000→LP.lp (X:=(Bool×(Int×Int))) (fun (s_11:Bool×(Int×(Int×Int)))=>
      (bif decide (s_11.2.2.2<(m.length:Int)) then
       chk none ((decide ((0:Int)≤s_11.2.2.2))&&(decide (s_11.2.2.2<(m.length:Int))))<|
       (R0 a (m.getD s_11.2.2.2.toNat ((0:Int),(0:Int)))).bind fun t31_18=>
       Option.bind (
        (bif (bif t31_18.2 then s_11.1 else false) then
         (X7 (s_11.2.2.1,s_11.2.1) t31_18.1).bind fun t41_20=>
         some (t41_20.2,t41_20.1,s_11.1)
        else
         Option.bind (
          (bif t31_18.2 then
           some (t31_18.1.1,t31_18.1.2,true)
          else
           some (s_11.2.2.1,s_11.2.1,s_11.1))) fun r_21=>
         some (r_21.2.1,r_21.1,r_21.2.2))) fun r_25=>
       some (.inl (r_25.2.2,r_25.1,r_25.2.1,Fa6 .i64 (s_11.2.2.2+(1:Int))))
      else
       some (.inr (s_11.1,s_11.2.1,s_11.2.2.1)))) (s.1,s.2.2,s.2.1,(0:Int))=some (((Fa9 m.length).foldl (fun s j=>Q5 s (F8 a (m.getD j (0,0)))) s).1,((Fa9 m.length).foldl (fun s j=>Q5 s (F8 a (m.getD j (0,0)))) s).2.2,((Fa9 m.length).foldl (fun s j=>Q5 s (F8 a (m.getD j (0,0)))) s).2.1):=by
  intro a m s hm;refine Eq.trans (BU8 (σ:=Bool×Spn) m.length (fun s k=>(s.1,s.2.2,s.2.1,(k:Int))) (fun k s=>some (Q5 s (F8 a (m.getD k (0,0))))) (fun o=>match o with | some s=>(s.1,s.2.2,s.2.1) | none=>(false,0,0)) (fun k s hk=>by
     have e1:decide ((k:Int)<(m.length:Int))=true:=by simpa using hk
     have e2:decide ((0:Int)≤(k:Int))=true:=by simp
     have e3:=p7 k (by omega)
     simp only[e1,e2,cond_true,Fb2,R1,Fb0,BU9,Fa5,e3,Ea8];obtain⟨fd,lo,hi⟩:=s;cases F8 a (m.getD k (0,0)) <;> cases fd <;> rfl) (fun s=>by
     have e1:decide ((m.length:Int)<(m.length:Int))=false:=by simp
     simp only[e1,cond_false]) s) ?_
  rw[BV2 (fun k s=>Q5 s (F8 a (m.getD k (0,0))))]
 have:=BU8 (σ:=Bool×Spn) (X:=(Bool×(Int×Int))) l.length (fun s k=>(s.1,(k:Int),s.2.2,s.2.1)) (fun k s=>some ((Fa9 ((l.take l.length).drop (k+1)).length).foldl (fun s j=>Q5 s (F8 (l.getD k (0,0)) (((l.take l.length).drop (k+1)).getD j (0,0)))) s)) (fun o=>match o with | some s=>(s.1,s.2.2,s.2.1) | none=>(false,0,0)) (f:=fun s_2=>
   (bif decide (s_2.2.1<(l.length:Int)) then
    chk none ((decide ((0:Int)≤s_2.2.1))&&(decide (s_2.2.1<(l.length:Int))))<|
    chk none ((decide ((0:Int)≤(Fa6 .i64 (s_2.2.1+(1:Int)))))&&(decide ((Fa6 .i64 (s_2.2.1+(1:Int)))≤(l.length:Int)))&&(decide ((l.length:Int)≤(l.length:Int))))<|
    Option.bind (LP.lp (X:=(Bool×(Int×Int))) (fun (s_11:Bool×(Int×(Int×Int)))=>
      (bif decide (s_11.2.2.2<(((l.take (l.length:Int).toNat).drop (Fa6 .i64 (s_2.2.1+(1:Int))).toNat).length:Int)) then
       chk none ((decide ((0:Int)≤s_11.2.2.2))&&(decide (s_11.2.2.2<(((l.take (l.length:Int).toNat).drop (Fa6 .i64 (s_2.2.1+(1:Int))).toNat).length:Int))))<|
       (R0 (l.getD s_2.2.1.toNat ((0:Int),(0:Int))) (((l.take (l.length:Int).toNat).drop (Fa6 .i64 (s_2.2.1+(1:Int))).toNat).getD s_11.2.2.2.toNat ((0:Int),(0:Int)))).bind fun t31_18=>
       Option.bind (
        (bif (bif t31_18.2 then s_11.1 else false) then
         (X7 (s_11.2.2.1,s_11.2.1) t31_18.1).bind fun t41_20=>
         some (t41_20.2,t41_20.1,s_11.1)
        else
         Option.bind (
          (bif t31_18.2 then
           some (t31_18.1.1,t31_18.1.2,true)
          else
           some (s_11.2.2.1,s_11.2.1,s_11.1))) fun r_21=>
         some (r_21.2.1,r_21.1,r_21.2.2))) fun r_25=>
       some (.inl (r_25.2.2,r_25.1,r_25.2.1,Fa6 .i64 (s_11.2.2.2+(1:Int))))
      else
       some (.inr (s_11.1,s_11.2.1,s_11.2.2.1)))) (s_2.1,s_2.2.2.1,s_2.2.2.2,(0:Int))) fun r_30=>
    some (.inl (r_30.1,Fa6 .i64 (s_2.2.1+(1:Int)),r_30.2.1,r_30.2.2))
   else some (.inr (s_2.1,s_2.2.2.1,s_2.2.2.2)))) (fun k s hk=>by
     have e1:decide ((k:Int)<(l.length:Int))=true:=by simpa using hk
     have e2:decide ((0:Int)≤(k:Int))=true:=by simp
     have e3:=p7 k (by omega)
     have e4:decide ((0:Int)≤((k+1:Nat):Int))=true:=by simp;omega
     have e5:decide (((k+1:Nat):Int)≤(l.length:Int))=true:=by rw[decide_eq_true_eq];omega
     have e6:decide ((l.length:Int)≤(l.length:Int))=true:=by simp
     simp only[e1,e2,e3,e4,e5,e6,cond_true,Fb2,R1,Fb0];rw[inner _ _ s (by simp;omega)]
     rfl) (fun s=>by
     have e1:decide ((l.length:Int)<(l.length:Int))=false:=by simp
     simp only[e1,cond_false]) (false,(0,0))
 refine (congrArg (Option.bind · _) this).trans ?_;rw[BV2 (fun k s=>(Fa9 ((l.take l.length).drop (k+1)).length).foldl (fun s j=>Q5 s (F8 (l.getD k (0,0)) (((l.take l.length).drop (k+1)).getD j (0,0)))) s)]
 rfl
theorem Eb5 (a b r:Spn):AX2 [a,b,r]=AX2 [b,a,r]:=by
 have h:∀a b:Spn,AX2 [a,b,r]=Q5 (Q5 (Q5 (false,(0,0)) (F8 a b)) (F8 a r)) (F8 b r):=fun a b=>rfl
 rw[h,h,Ea7 b a];exact Eb3 (Eb2 (fun h=>by cases h) fun w=>BV0) (fun w=>BV0) fun w=>BV0
def BV3 (f a b:Spn):List Int:=(match F8 f a with | some _=>[] | none=>[0])++(match F8 f b with | some _=>[] | none=>[1])
theorem Eb6 (f a b:Spn):AH8 f [a,b]=some (BV3 f a b):=by
 unfold AH8 BV3;simp only[BU9,Fa5];have w1:Fa6 .i64 (1:Int)=1:=by decide
 have w2:Fa6 .i64 (2:Int)=2:=by decide
 cases h1:F8 f a <;> cases h2:F8 f b
 ·refine (congrArg (Option.bind · _) (p0 (n:=3) (x:=[0,1]) ?_)).trans rfl
  simp[D2,chk,h1,h2,AX1,w1,w2]
 ·refine (congrArg (Option.bind · _) (p0 (n:=3) (x:=[0]) ?_)).trans rfl
  simp[D2,chk,h1,h2,AX1,w1,w2]
 ·refine (congrArg (Option.bind · _) (p0 (n:=3) (x:=[1]) ?_)).trans rfl
  simp[D2,chk,h1,h2,AX1,w1,w2]
 ·refine (congrArg (Option.bind · _) (p0 (n:=3) (x:=[]) ?_)).trans rfl
  simp[D2,chk,h1,h2,AX1,w1,w2]
def u4 (a b r:Sns):List Spn:=((bif a.1 then [a.2] else [])++(bif b.1 then [b.2] else []))++(bif r.1 then [r.2] else [])
theorem CN2 (a b r:Sns):Az4 (a,(b,r))=some (u4 a b r):=by obtain⟨fa,sa⟩:=a;obtain⟨fb,sb⟩:=b;obtain⟨fr,sr⟩:=r;cases fa <;> cases fb <;> cases fr <;> rfl
def Y7 (l:List Spn):Spn×(Bool×Bool):=match AD9 l with
 |some w=>(w,true,true)
 |none=>bif decide ((l.length:Int)<(3:Int)) then ((0,0),false,false) else ((AX2 l).2,(AX2 l).1,false)
theorem CN3 (l:List Spn)(hl:l.length≤1000):AH7 l=some (Y7 l):=by
 unfold AH7 Y7;rw[Ea9 l hl];cases AD9 l with
 |some w=>rfl
 |none=>
  simp only[AX1,Fa5,cond_false];cases decide ((l.length:Int)<(3:Int)) with
  |true=>rfl
  |false=>simp only[cond_false,Eb4 l hl,Fa5]
theorem Eb7 (a b r:Sns):Y7 (u4 b a r)=Y7 (u4 a b r)∧(u4 b a r).length=(u4 a b r).length∧(u4 a b r).length≤1000:=by
 obtain⟨fa,sa⟩:=a;obtain⟨fb,sb⟩:=b;obtain⟨fr,sr⟩:=r;have same:∀{l l':List Spn},l'=l→l.length≤1000→Y7 l'=Y7 l∧l'.length=l.length∧l.length≤1000:=fun h h2=>by rw[h];exact⟨rfl,rfl,h2⟩
 cases fa with
 |false=>cases fb <;> cases fr <;> exact same rfl (by simp[u4])
 |true=>
  cases fb with
  |false=>cases fr <;> exact same rfl (by simp[u4])
  |true=>
   cases fr with
   |false=>
    have:Y7 [sb,sa]=Y7 [sa,sb]:=by unfold Y7;rw[Eb0];rfl
    exact⟨this,rfl,by simp[u4]⟩
   |true=>
    have:Y7 [sb,sa,sr]=Y7 [sa,sb,sr]:=by unfold Y7;rw[Eb1,Eb5];rfl
    exact⟨this,rfl,by simp[u4]⟩
theorem CN4 (s:Spn)(x2 x3 x4:Int)(x5 x6:Bool)(x7 x8:Int):Al (AN9 s x2 x3 x4 x5 x6 x7 x8) fun y=>y.2.2.2.2.2.1=x7∧y.2.2.2.2.2.2=x8:=by unfold AN9;exact Al.bnd fun _ _=>Al.cnd (fun _=>Al.some ⟨rfl,rfl⟩) fun _=>Al.some ⟨rfl,rfl⟩
theorem CN5 {α β γ:Type}{A:Option α}{k:α→Option β}{k':α→Option γ}{g:β→γ}{Q:α→Prop}(hA:Al A Q)(h:∀x,Q x→k' x=(k x).map g):A.bind k'=(A.bind k).map g:=by
 cases A with
 |none=>rfl
 |some x=>exact h x (hA x rfl)
def swF (f:Fsd):Fsd:=(f.1,(f.2.1,(f.2.2.1,(f.2.2.2.1,(f.2.2.2.2.2,f.2.2.2.2.1)))))
theorem lp3 {S X:Type}{f:S→Option (S ⊕ X)}{s:S}(x:X)(h:D2 f 3 s=some x):LP.lp f s=some x:=p0 h
theorem Eb8 (p:Spn)(a b r acc:Sns):AA8 p (b,(a,r)) acc=(AA8 p (a,(b,r)) acc).map swF:=by
 obtain⟨t1,t2,t3⟩:=Eb7 a b r;unfold AA8;rw[CN2,CN2];simp only[Fa5];rw[CN3 _ t3,CN3 _ (by omega),t1,t2]
 simp only[Fa5];generalize Y7 (u4 a b r)=T;generalize (u4 a b r).length=n;refine CN5 (Q:=fun x=>x.1=0∧x.2.2.2.2.1=0) (Al.cnd (fun _=>Al.bnd fun y hy=>Al.some (CN4 _ _ _ _ _ _ _ _ y hy)) fun _=>Al.bnd fun y hy=>Al.some ⟨rfl,rfl⟩) fun x hx=> ?_
 obtain⟨hx1,hx2⟩:=hx;refine CN5 (Q:=fun x=>x.1=0∧x.2.2.2.2.1=0) (Al.cnd (fun _=>Al.bnd fun y hy=>Al.some (by have:=CN4 _ _ _ _ _ _ _ _ y hy;exact⟨this.1.trans hx1,this.2.trans hx2⟩)) fun _=>Al.some ⟨hx1,hx2⟩) fun y hy=> ?_
 obtain⟨hy1,hy2⟩:=hy;simp only[hy1,hy2];refine Af2 (u:=fun r:Bool×(Int×(Int×(Int×(Int×(Int×Bool)))))=>(r.1,r.2.1,r.2.2.1,r.2.2.2.2.2.1,r.2.2.2.2.1,r.2.2.2.1,r.2.2.2.2.2.2)) ?_ fun r=>rfl
 refine AP3 ?_ rfl;obtain⟨va,ha⟩:=Az6 a.2 T.1;obtain⟨vb,hb⟩:=Az6 b.2 T.1;have w1:Fa6 .i64 (1:Int)=1:=by decide
 have w2:Fa6 .i64 (2:Int)=2:=by decide
 simp only[Eb6,Fa5,BV3];cases h1:F8 T.1 b.2 <;> cases h2:F8 T.1 a.2 <;> simp only[List.nil_append,List.append_nil,List.cons_append]
 ·rw[lp3 (y.2.1,y.2.2.1,y.2.2.2.2.2.2,vb,y.2.2.2.1,va,y.2.2.2.2.2.1),lp3 (y.2.1,y.2.2.1,y.2.2.2.2.2.2,va,y.2.2.2.1,vb,y.2.2.2.2.2.1)]
  ·rfl
  ·simp[D2,chk,ha,hb,w1,w2]
  ·simp[D2,chk,ha,hb,w1,w2]
 ·rw[lp3 (y.2.1,y.2.2.1,y.2.2.2.2.2.2,vb,y.2.2.2.1,0,y.2.2.2.2.2.1),lp3 (y.2.1,y.2.2.1,y.2.2.2.2.2.2,0,y.2.2.2.1,vb,y.2.2.2.2.2.1)]
  ·rfl
  ·simp[D2,chk,ha,hb,w1,w2]
  ·simp[D2,chk,ha,hb,w1,w2]
 ·rw[lp3 (y.2.1,y.2.2.1,y.2.2.2.2.2.2,0,y.2.2.2.1,va,y.2.2.2.2.2.1),lp3 (y.2.1,y.2.2.1,y.2.2.2.2.2.2,va,y.2.2.2.1,0,y.2.2.2.2.2.1)]
  ·rfl
  ·simp[D2,chk,ha,hb,w1,w2]
  ·simp[D2,chk,ha,hb,w1,w2]
 ·rw[lp3 (y.2.1,y.2.2.1,y.2.2.2.2.2.2,0,y.2.2.2.1,0,y.2.2.2.2.2.1),lp3 (y.2.1,y.2.2.1,y.2.2.2.2.2.2,0,y.2.2.2.1,0,y.2.2.2.2.2.1)]
  ·rfl
  ·simp[D2,chk,ha,hb,w1,w2]
  ·simp[D2,chk,ha,hb,w1,w2]

/- With the tachometers the other way round the same is told, the other way round. -/
def swR (r:D0):D0:=(r.1,(r.2.1,(r.2.2.1,(r.2.2.2.1,(r.2.2.2.2.1,(r.2.2.2.2.2.1,(r.2.2.2.2.2.2.1,(r.2.2.2.2.2.2.2.1,(r.2.2.2.2.2.2.2.2.1,(r.2.2.2.2.2.2.2.2.2.1,(r.2.2.2.2.2.2.2.2.2.2.1,(r.2.2.2.2.2.2.2.2.2.2.2.1,((r.2.2.2.2.2.2.2.2.2.2.2.2.1.2,r.2.2.2.2.2.2.2.2.2.2.2.2.1.1),(r.2.2.2.2.2.2.2.2.2.2.2.2.2.1,(r.2.2.2.2.2.2.2.2.2.2.2.2.2.2.1,(r.2.2.2.2.2.2.2.2.2.2.2.2.2.2.2.1,(r.2.2.2.2.2.2.2.2.2.2.2.2.2.2.2.2.1,(r.2.2.2.2.2.2.2.2.2.2.2.2.2.2.2.2.2.1,(r.2.2.2.2.2.2.2.2.2.2.2.2.2.2.2.2.2.2.1,(r.2.2.2.2.2.2.2.2.2.2.2.2.2.2.2.2.2.2.2.1,((r.2.2.2.2.2.2.2.2.2.2.2.2.2.2.2.2.2.2.2.2.1.2,r.2.2.2.2.2.2.2.2.2.2.2.2.2.2.2.2.2.2.2.2.1.1),r.2.2.2.2.2.2.2.2.2.2.2.2.2.2.2.2.2.2.2.2.2)))))))))))))))))))))
def swN (s:C2):C2:={s with k0:=s.k1,k1:=s.k0,I3:=s.I4,I4:=s.I3,U4:=s.U5,U5:=s.U4}
theorem AP5 {α β:Type}{A:Option α}{a:α}{k:α→Option β}{y:β}(h:A=some a)(hk:k a=some y):Option.bind A k=some y:=by rw[h];exact hk
theorem CN6 {α β γ:Type}(A:Option α)(B:Option β)(k:α→β→Option γ):(A.bind fun a=>B.bind fun b=>k a b)=B.bind fun b=>A.bind fun a=>k a b:=by cases A <;> cases B <;> rfl
theorem Eb9 (s:C2)(v1 v2 v3 v4:Int×Bool):AB0 (swN s) v2 v1 v3 v4=(AB0 s v1 v2 v3 v4).map fun y=>(swF y.1,(y.2.2,y.2.1)):=by
 unfold AB0;simp only[swN];rw[CN6];refine M7 fun a=>M7 fun b=>M7 fun r=>M7 fun pr=>M7 fun ac=> ?_
 exact Af2 (Eb8 pr a.1 b.1 r ac) fun f=>rfl
theorem Ec0 (p:Int)(c0 c1:Spn)(k0 k1:Cnt)(s0 s1:Int)(pos origin:Spn)(at':Int):AO8 p c1 c0 k1 k0 s1 s0 pos origin at'=(AO8 p c0 c1 k0 k1 s0 s1 pos origin at').map fun y=>(y.2,y.1):=by
 unfold AO8;refine M7 fun a=>M7 fun w=>AP3 rfl (M7 fun z=>AP3 rfl ?_)
 rw[CN6];exact M7 fun x=>M7 fun y=>rfl
theorem Ec1 (x:Fnd)(sp:Spn)(s:C2):AI1 x sp (swN s)=(AI1 x sp s).map swN:=by unfold AI1;refine M7 fun p=>AP3 (CL7 (Af2 (Ec0 s.c.1 s.I3 s.I4 s.k0 s.k1 s.U4 s.U5 p.2.2.1 s.origin _) fun y=>rfl)) rfl
theorem Ec2 (s:C2)(f:Fsd)(cy:Int)(a b:Bool)(q:Int×(Int×(Int×Int))):AI2 (swN s) (swF f) cy a b q=(AI2 s f cy a b q).map swR:=by unfold AI2;exact M7 fun nm=>M7 fun md=>AP3 rfl (CL7 (M7 fun rts=>M7 fun fr=>AP3 (M7 fun pm=>rfl) rfl))
theorem Ec3 (z1 x1 x2:Bool)(q:Int×(Int×(Int×Int)))(cmd:Bool)(cy:Int)(f:Fsd)(s4:C2):BC6 z1 x1 x2 q cmd cy (swF f) (swN s4)=(BC6 z1 x1 x2 q cmd cy f s4).map fun y=>(swR y.1,swN y.2):=by
 unfold BC6;refine M7 fun w=>M7 fun pl=>M7 fun st=>M7 fun ro=> ?_
 exact Af2 (Ec2 {s4 with watch:=w,place:=pl,still:=st,E7:=ro} f cy x2 (!x1) q) fun r=>rfl
theorem Ec4 (v5:Int×Bool)(q:Int×(Int×(Int×Int)))(cmd:Bool)(cy:Int)(s:C2)(f:Fsd)(ka kb:Cnt):BC7 v5 q cmd cy (swN s) (swF f) kb ka=(BC7 v5 q cmd cy s f ka kb).map fun y=>(swR y.1,swN y.2):=by
 unfold BC7;refine M7 fun z=>M7 fun x=>Af2 (u:=swN) ?_ fun s4=>Ec3 z.1 x.2.2.1 x.2.2.2 q cmd cy f s4
 exact AP3 (Ec1 x f.1 {s with k0:=ka,k1:=kb,clean:=bif s.clean then f.2.2.1 else false,speed:=f.1,J5:=z.2.1,place:=z.2.2}) rfl
theorem Ec5 {m m':Mal}(h1:mv1 m'=mv2 m)(h2:mv2 m'=mv1 m)(h3:mv3 m'=mv3 m)(h4:mv4 m'=mv4 m)(h5:mv5 m'=mv5 m)(hq:m'.2.2=m.2.2)(cmd:Bool)(cy:Int)(s:C2):
  AO9 m' cmd cy (swN s)=(AO9 m cmd cy s).map fun y=>(swR y.1,swN y.2):=by
 rw[CL8,CL8,h1,h2,h3,h4,h5,hq];exact Af2 (Eb9 s (mv1 m) (mv2 m) (mv3 m) (mv4 m)) fun y=>Ec4 _ _ _ _ _ _ _ _
def swX (x:Sen):Sen:=((x.1.2,x.1.1),(x.2.1,(x.2.2.1,(x.2.2.2.1,((x.2.2.2.2.1.2.1,(x.2.2.2.2.1.1,x.2.2.2.2.1.2.2)),x.2.2.2.2.2)))))
theorem BV4 {x:Sen}(h:r9 x):r9 (swX x):=⟨h.b,h.a,h.v,h.c,h.g⟩
theorem Ec6 {k:Nat}(hk:k≤1000){x:Sen}(hx:r9 x){s:C2}(hc:s.C6=(k:Int)):U6 (Y6 ((k % 256:Nat):Int) (swX x)) x.2.2.2.2.2 (swN s)=(U6 (Y6 ((k % 256:Nat):Int) x) x.2.2.2.2.2 s).map fun y=>(swR y.1,swN y.2):=by
 have hq:0≤((k % 256:Nat):Int)∧((k % 256:Nat):Int)≤255:=by omega
 rw[CM0 _ _ _ (BC5 hq hx),CM0 _ _ _ (BC5 hq (BV4 hx))];have e1:(swN s).broken=s.broken:=rfl;have e2:(swN s).C6=s.C6:=rfl;rw[e1,e2,hc,CL5 k x (by omega) hx,CL5 k (swX x) (by omega) (BV4 hx)]
 exact AP3 rfl (Ec5 (m:=BC3 x) (m':=BC3 (swX x)) rfl rfl rfl rfl rfl rfl _ _ {s with C6:=Fa6 .i64 ((k:Int)+1)})
theorem Ec7 (l:List Sen)(hl:l.length≤1000)(h:∀x∈l,r9 x)(s:C2)(hs:SOK s)(hc:s.C6=0)(hw:swN s=s):∃rs,goN s (U8 l)=some rs∧goN s (U8 (l.map swX))=some (rs.map swR)∧rs.length=l.length∧∀r∈rs,AI4 r:=by
 obtain⟨rs,hr,hlen,hok⟩:=CL1 (U8 l) s hs (EZ3 h);rw[Af1] at hlen;obtain⟨rs',hr',hl2,heq⟩:=CL9 (R:=fun k s s'=>s.C6=(k:Int)∧SOK s∧s'=swN s) (C:=fun k x x'=>∃a,r9 a∧k≤999∧x=(Y6 ((k % 256:Nat):Int) a,a.2.2.2.2.2)∧x'=(Y6 ((k % 256:Nat):Int) (swX a),a.2.2.2.2.2)) (A:=fun a b=>b=swR a) (fun _=>True)
  (fun k s s' x x' y hR hC _ hy=>by
   obtain⟨hc,hs,rfl⟩:=hR;obtain⟨a,ha,hk,rfl,rfl⟩:=hC;obtain⟨y2,e2,_,h5,_,h7⟩:=CL0 _ a.2.2.2.2.2 s hs (BC5 (q:=((k % 256:Nat):Int)) (by omega) ha)
   have e3:some y2=some y:=e2.symm.trans hy;obtain rfl:=Option.some.inj e3;refine⟨(swR y2.1,swN y2.2),?_,rfl,by rw[h7,hc,EZ4 k (by omega)],h5,rfl⟩
   rw[Ec6 (by omega) ha hc,hy]
   rfl)
  (U8 l) (U8 (l.map swX)) 0 s s rs ⟨hc,hs,hw.symm⟩ (by rw[Af1,Af1,Fa7]) (fun i x x' hx hx'=>by
   have hi:i<l.length:=by
    have:=(List.getElem?_eq_some_iff.1 hx).1
    rwa [Af1] at this
   rw[CL6 l hi] at hx;rw[CL6 _ (by rw[Fa7];exact hi)] at hx'
   obtain rfl:=Option.some.inj hx;obtain rfl:=Option.some.inj hx';rw[Nat.zero_add];exact⟨l[i],h _ (List.getElem_mem hi),by omega,rfl,by rw[List.getElem_map];rfl⟩) (fun _ _=>trivial) hr
 refine⟨rs,hr,?_,hlen,hok⟩;have:rs.map swR=rs':=by
  apply List.ext_getElem?;intro i;by_cases hi:i<rs.length
  ·rw[List.getElem?_map,Fa8 hi,Fa8 (by omega)]
   exact congrArg some (heq i _ _ (Fa8 hi) (Fa8 (by omega))).symm
  ·rw[Fb6 (by rw[Fa7];omega),Fb6 (by omega)]
 rw[this];exact hr'
theorem Ec8 (c:Cfg)(img:List Int):Al (AW4 c img) fun s=>swN s=s:=by
 unfold AW4;refine Al.bnd fun o _=>Al.bnd fun e _=>Al.cnd (fun _=>Al.some rfl) fun _=>Al.bnd fun g _=>Al.bnd fun en _=>Al.bnd fun a ha=>Al.bnd fun b hb=>Al.bnd fun sp _=>Al.some ?_
 rw[ha] at hb;obtain rfl:=Option.some.inj hb;rfl
theorem CN7 (c:Cfg)(t:TkD)(l:List Cyc):AP4 c t l=AI0 c t l:=rfl
theorem Ec9 (c:Cfg)(t:TkD)(hs:t.1.length≤200→∀s∈t.1,s.2.1.length≤big∧s.2.2.length≤big)(hN:BB9 t):(∀l,AP4 c t l=some [])∨∃s,SOK s∧s.C6=0∧swN s=s∧∀(l:List Cyc) (rs:List D0),l.length≤1000→goN s l=some rs→AP4 c t l=some rs:=by
 obtain⟨e,he,hc⟩:=EX4 c t hs;by_cases h0:e.1=0
 ·right
  have hck:=hc h0;have hp:=EW6 t (EW3 hck) hN;obtain⟨s,hn,h1,h2,h3,h4⟩:=EX7 c (I5 (AP2 t)) (BT7 (CK0 t));exact⟨s,h2,h1,Ec8 c _ s hn,fun l rs hl hr=>(CN7 c t l).trans (EM3 c t l hl he h0 hp hn hr)⟩
 ·left
  intro l;rw[CN7];unfold AI0;rw[he];have e1:(e.1 != (0:Int))=true:=by simpa using h0
  simp only[Fa5,e1,cond_true]
theorem Ed0 {α:Type}{l:List α}{i:Nat}{x d:α}(h:i<l.length):(l.set i x).getD i d=x:=by rw[Fb1,List.getElem?_set_self h];rfl
def AE0:D0:=((0:Int),((0:Int),((0:Int),(((0:Int),(0:Int)),((0:Int),(((0:Int),(0:Int)),((0:Int),((0:Int),([],((0:Int),(false,(false,(((0:Int),(0:Int)),(false,(false,(false,(false,(false,(((0:Int),(0:Int)),((0:Int),((((0:Int),(0:Int)),((0:Int),(0:Int))),((0:Int),((0:Int),((0:Int),(0:Int)))))))))))))))))))))))))
def tw1 (x z:D0):D0:=(z.1,(z.2.1,(z.2.2.1,(z.2.2.2.1,(z.2.2.2.2.1,(z.2.2.2.2.2.1,(z.2.2.2.2.2.2.1,(z.2.2.2.2.2.2.2.1,(z.2.2.2.2.2.2.2.2.1,(z.2.2.2.2.2.2.2.2.2.1,(z.2.2.2.2.2.2.2.2.2.2.1,(z.2.2.2.2.2.2.2.2.2.2.2.1,((x.2.2.2.2.2.2.2.2.2.2.2.2.1.2,z.2.2.2.2.2.2.2.2.2.2.2.2.1.2),z.2.2.2.2.2.2.2.2.2.2.2.2.2)))))))))))))
def tw2 (x z:D0):D0:=(z.1,(z.2.1,(z.2.2.1,(z.2.2.2.1,(z.2.2.2.2.1,(z.2.2.2.2.2.1,(z.2.2.2.2.2.2.1,(z.2.2.2.2.2.2.2.1,(z.2.2.2.2.2.2.2.2.1,(z.2.2.2.2.2.2.2.2.2.1,(z.2.2.2.2.2.2.2.2.2.2.1,(z.2.2.2.2.2.2.2.2.2.2.2.1,((z.2.2.2.2.2.2.2.2.2.2.2.2.1.1,x.2.2.2.2.2.2.2.2.2.2.2.2.1.1),z.2.2.2.2.2.2.2.2.2.2.2.2.2)))))))))))))
def tw3 (x z:D0):D0:=(z.1,(z.2.1,(z.2.2.1,(z.2.2.2.1,(z.2.2.2.2.1,(z.2.2.2.2.2.1,(z.2.2.2.2.2.2.1,(z.2.2.2.2.2.2.2.1,(z.2.2.2.2.2.2.2.2.1,(z.2.2.2.2.2.2.2.2.2.1,(z.2.2.2.2.2.2.2.2.2.2.1,(z.2.2.2.2.2.2.2.2.2.2.2.1,(z.2.2.2.2.2.2.2.2.2.2.2.2.1,(z.2.2.2.2.2.2.2.2.2.2.2.2.2.1,(z.2.2.2.2.2.2.2.2.2.2.2.2.2.2.1,(z.2.2.2.2.2.2.2.2.2.2.2.2.2.2.2.1,(z.2.2.2.2.2.2.2.2.2.2.2.2.2.2.2.2.1,(z.2.2.2.2.2.2.2.2.2.2.2.2.2.2.2.2.2.1,(z.2.2.2.2.2.2.2.2.2.2.2.2.2.2.2.2.2.2.1,(z.2.2.2.2.2.2.2.2.2.2.2.2.2.2.2.2.2.2.2.1,((x.2.2.2.2.2.2.2.2.2.2.2.2.2.2.2.2.2.2.2.2.1.2,z.2.2.2.2.2.2.2.2.2.2.2.2.2.2.2.2.2.2.2.2.1.2),z.2.2.2.2.2.2.2.2.2.2.2.2.2.2.2.2.2.2.2.2.2)))))))))))))))))))))
def tw4 (x z:D0):D0:=(z.1,(z.2.1,(z.2.2.1,(z.2.2.2.1,(z.2.2.2.2.1,(z.2.2.2.2.2.1,(z.2.2.2.2.2.2.1,(z.2.2.2.2.2.2.2.1,(z.2.2.2.2.2.2.2.2.1,(z.2.2.2.2.2.2.2.2.2.1,(z.2.2.2.2.2.2.2.2.2.2.1,(z.2.2.2.2.2.2.2.2.2.2.2.1,(z.2.2.2.2.2.2.2.2.2.2.2.2.1,(z.2.2.2.2.2.2.2.2.2.2.2.2.2.1,(z.2.2.2.2.2.2.2.2.2.2.2.2.2.2.1,(z.2.2.2.2.2.2.2.2.2.2.2.2.2.2.2.1,(z.2.2.2.2.2.2.2.2.2.2.2.2.2.2.2.2.1,(z.2.2.2.2.2.2.2.2.2.2.2.2.2.2.2.2.2.1,(z.2.2.2.2.2.2.2.2.2.2.2.2.2.2.2.2.2.2.1,(z.2.2.2.2.2.2.2.2.2.2.2.2.2.2.2.2.2.2.2.1,((z.2.2.2.2.2.2.2.2.2.2.2.2.2.2.2.2.2.2.2.2.1.1,x.2.2.2.2.2.2.2.2.2.2.2.2.2.2.2.2.2.2.2.2.1.1),z.2.2.2.2.2.2.2.2.2.2.2.2.2.2.2.2.2.2.2.2.2)))))))))))))))))))))
def inB (s:List D0)(i:Int):Bool:=(decide ((0:Int)≤i))&&(decide (i<(s.length:Int)))
def twB (n:Nat)(s:List D0×Int):Option ((List D0×Int) ⊕ List D0):=
 bif decide (s.2<(n:Int)) then
  chk none (inB s.1 s.2)<|chk none (inB s.1 s.2)<|chk none (inB s.1 s.2)<|
  let l1:=s.1.set s.2.toNat (tw1 (s.1.getD s.2.toNat AE0) (s.1.getD s.2.toNat AE0))
  let l2:=bif Fb7 s.1.length l1.length then l1 else []
  chk none (inB l2 s.2)<|
  let l3:=l2.set s.2.toNat (tw2 (s.1.getD s.2.toNat AE0) (l2.getD s.2.toNat AE0))
  let l4:=bif Fb7 l2.length l3.length then l3 else []
  chk none (inB l4 s.2)<|chk none (inB l4 s.2)<|chk none (inB l4 s.2)<|
  let l5:=l4.set s.2.toNat (tw3 (l4.getD s.2.toNat AE0) (l4.getD s.2.toNat AE0))
  let l6:=bif Fb7 l4.length l5.length then l5 else []
  chk none (inB l6 s.2)<|
  let l7:=l6.set s.2.toNat (tw4 (l4.getD s.2.toNat AE0) (l6.getD s.2.toNat AE0))
  let l8:=bif Fb7 l6.length l7.length then l7 else []
  some (.inl (l8,Fa6 .i64 (s.2+(1:Int))))
 else some (.inr s.1)
theorem Ed1 {n i:Nat}{B:List D0}(hB:i<B.length)(hn:i<n)(hi:i≤1000):twB n (B,(i:Int))=some (.inl (B.set i (swR (B.getD i AE0)),((i+1:Nat):Int))):=by
 have e1:(decide ((i:Int)<(n:Int)))=true:=by simpa using hn
 have e2:∀C:List D0,C.length=B.length→inB C (i:Int)=true:=fun C hC=>by unfold inB;simp;omega
 have e5:=p7 i hi;have hbeq:∀n:Nat,Fb7 n n=true:=Nat.beq_refl;unfold twB;simp only[e1,e5,e2,cond_true,R1,Fb0,List.length_set,hbeq,Ed0 hB,List.set_set];rfl
theorem Ed2 (rs:List D0)(i:Nat)(h:i<rs.length)(d:D0):((rs.take i).map swR++rs.drop i).getD i d=rs.getD i d∧((rs.take i).map swR++rs.drop i).set i (swR (rs.getD i d))=(rs.take (i+1)).map swR++rs.drop (i+1):=by
 have e:rs.drop i=rs[i]::rs.drop (i+1):=List.drop_eq_getElem_cons h;have e2:((rs.take i).map swR).length=i:=by rw[Fa7,Fb5];omega
 have e3:rs.getD i d=rs[i]:=by rw[Fb1,Fa8 h];rfl
 rw[e3,e];constructor
 ·rw[Fb1,List.getElem?_append_right (by omega),e2,Nat.sub_self]
  rfl
 ·rw[List.set_append_right _ _ (by omega),e2,Nat.sub_self,List.set_cons_zero,List.take_succ_eq_append_getElem h,List.map_append,List.append_assoc]
  rfl
theorem Ed3 (c:Cfg)(t:TkD)(l:List Sen)(hs:t.1.length≤200→∀s∈t.1,s.2.1.length≤big∧s.2.2.length≤big)(hN:BB9 t)(hF:∀x∈l,r9 x):BD4 c t l=some true:=by
 unfold BD4;obtain⟨b,hb,hq⟩:=EY3 t [];show Option.bind (bif !decide ((100:Int)<(l.length:Int)) then Aj5 t [] else some false) (fun t18=>bif (bif decide ((100:Int)<(l.length:Int)) then true else !t18) then (Y1 ()).bind (fun x=>some x) else _)=some true
 by_cases hl:(100:Int)<(l.length:Int)
 ·rw[decide_eq_true hl]
  refine AP5 (a:=false) rfl ?_;show (Y1 ()).bind (fun x=>some x)=some true
  rw[BT9];rfl
 rw[decide_eq_false hl];refine AP5 (a:=b) hb ?_;cases b with
 |false=>
  show (Y1 ()).bind (fun x=>some x)=some true
  rw[BT9];rfl
 |true=>
  have hl2:l.length≤100:=by omega
  show Option.bind (LP.lp _ _) _=some true;refine AX0 l.length (fun i=>((l.take i).map swX,(i:Int))) (l.map swX) rfl ?_ ?_ ?_
  ·intro i hi
   have e1:(decide ((i:Int)<(l.length:Int)))=true:=by simpa using hi
   have e2:(decide ((0:Int)≤(i:Int)))=true:=by simp
   have e5:=p7 i (by omega)
   have e3:(l.getD i (((0:Int),(0:Int)),((0:Int),((0:Int),((0:Int),((false,(false,(false,(false,false)))),false))))))=l.getD i AI9:=rfl;simp only[e1,e2,cond_true,Fb2,R1,Fb0,e3,e5];have e6:∀x:Sen,decide ((((l.take i).map swX).length+([x]:List Sen).length)*20≤140737488355328)=true:=fun x=>by simp only[Fa7,Fb5,List.length_cons,List.length_nil,decide_eq_true_eq];omega
   rw[e6,R1,← BA4 (d:=AI9) hi,List.map_append];rfl
  ·have e1:(decide ((l.length:Int)<(l.length:Int)))=false:=by simp
   simp only[e1,cond_false,List.take_length]
  ·have hF2:∀x∈l.map swX,r9 x:=by
    intro x hx;obtain⟨z,hz,rfl⟩:=List.mem_map.1 hx;exact BV4 (hF z hz)
   have two:∃rs:List D0,AP4 c t (U8 l)=some rs∧AP4 c t (U8 (l.map swX))=some (rs.map swR)∧rs.length≤1000∧∀r∈rs,AI4 r:=by
    rcases Ec9 c t hs hN with h |⟨s,hsok,h0,hw,h⟩
    ·exact⟨[],h _,h _,by simp,by simp⟩
    ·obtain⟨rs,r1,r2,r3,r4⟩:=Ec7 l (by omega) hF s hsok h0 hw
     exact⟨rs,h _ rs (by rw[Af1];omega) r1,h _ _ (by rw[Af1,Fa7];omega) r2,by omega,r4⟩
   obtain⟨rs,r1,r2,hrl,hok⟩:=two;refine AP5 (CL4 l (by omega) hF) ?_
   refine AP5 r1 ?_;refine AP5 (CL4 (l.map swX) (by rw[Fa7];omega) hF2) ?_
   refine AP5 r2 ?_;have hml:(rs.map swR).length=rs.length:=Fa7 ..;have hmm:(rs.map swR).map swR=rs:=by rw[List.map_map];exact List.map_id' rs
   generalize rs.map swR=ms at hml hmm;refine AX0 ms.length (fun i=>((ms.take i).map swR++ms.drop i,(i:Int))) rs rfl ?_ ?_ ?_
   ·intro i hi
    have hlen:((ms.take i).map swR++ms.drop i).length=ms.length:=by rw[List.length_append,Fa7,Fb5,List.length_drop];omega
    obtain⟨g1,g2⟩:=Ed2 ms i hi AE0;change twB ms.length ((ms.take i).map swR++ms.drop i,(i:Int))=some (.inl ((ms.take (i+1)).map swR++ms.drop (i+1),((i+1:Nat):Int)));rw[Ed1 (by omega) hi (by omega),g1,g2]
   ·have e1:(decide ((ms.length:Int)<(ms.length:Int)))=false:=by simp
    change twB ms.length ((ms.take ms.length).map swR++ms.drop ms.length,(ms.length:Int))=some (.inr rs);unfold twB;simp only[e1,cond_false,List.take_length,List.drop_length,List.append_nil,hmm]
   ·refine AP5 (EY2 hrl hok) ?_
    refine AP5 (a:=true) BT9 ?_;rfl
end Go.Proofs.YthfjpkdadjemcaaGreat
