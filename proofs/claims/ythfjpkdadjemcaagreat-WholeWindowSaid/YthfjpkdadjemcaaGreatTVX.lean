/- The ways that a train may have gone: the program's search and the document's find the same. -/
import Derived.Test.YthfjpkdadjemcaaGreatTIJ
import Derived.Test.YthfjpkdadjemcaaGreatFnsF4
set_option linter.unusedSimpArgs false
set_option linter.unusedVariables false
namespace Go.Proofs.YthfjpkdadjemcaaGreat
open Go Go.RowKit
open _root_.List renaming length_cons → Fj1, mem_append_left → Fj3, length_nil → Fj4, length_append → Fj5, mem_append → Fj6, mem_singleton → Fj9, mem_map → Fk0, length_pos_iff → Fk2, mem_append_right → Fk3, take_length → Fk4, mem_cons → Fk5, getD → Fk9, nodup_cons → Fl0, length_map → Fl1
open _root_.Option renaming bind_some → Fj2
open Go.IntKind renaming wrap → Fj7, wrap_i64 → Fk1
open _root_.Int renaming toNat_natCast → Fj8
open _root_.Bool renaming and_self → Fk6, and_eq_true → Fk7, not_false → Fl2, not_true → Fl3
open _root_.Classical renaming byContradiction → Fk8
open _root_.Nat renaming le_trans → Fl4
def J5 (p:List Int):RtD:=((p.length:Int),p.getD 0 0,p.getD 1 0,p.getD 2 0,p.getD 3 0,p.getD 4 0,p.getD 5 0,p.getD 6 0,p.getD 7 0,p.getD 8 0,p.getD 9 0,p.getD 10 0,p.getD 11 0)
theorem u5 {p:List Int}(h:p.length≤12):pathOf (J5 p)=p:=by
 rcases p with _ |⟨a0,_ |⟨a1,_ |⟨a2,_ |⟨a3,_ |⟨a4,_ |⟨a5,_ |⟨a6,_ |⟨a7,_ |⟨a8,_ |⟨a9,_ |⟨a10,_ |⟨a11,_ |⟨a12,p⟩⟩⟩⟩⟩⟩⟩⟩⟩⟩⟩⟩⟩
 all_goals first
  |rfl
  | (simp only[Fj1] at h;omega)
theorem Ef2 {p:List Int}(h:p.length<12)(v:Int):T3 (J5 p) v=J5 (p++[v]):=by
 rcases p with _ |⟨a0,_ |⟨a1,_ |⟨a2,_ |⟨a3,_ |⟨a4,_ |⟨a5,_ |⟨a6,_ |⟨a7,_ |⟨a8,_ |⟨a9,_ |⟨a10,_ |⟨a11,p⟩⟩⟩⟩⟩⟩⟩⟩⟩⟩⟩⟩
 all_goals first
  |rfl
  | (simp only[Fj1] at h;omega)
def N4 (p:List Int):Int:=p.getD (p.length-1) 0
theorem Ef3 {p:List Int}(h0:p≠[])(h:p.length≤12):M8 (J5 p) ((J5 p).1-1).toNat=N4 p:=by
 rcases p with _ |⟨a0,_ |⟨a1,_ |⟨a2,_ |⟨a3,_ |⟨a4,_ |⟨a5,_ |⟨a6,_ |⟨a7,_ |⟨a8,_ |⟨a9,_ |⟨a10,_ |⟨a11,_ |⟨a12,p⟩⟩⟩⟩⟩⟩⟩⟩⟩⟩⟩⟩⟩
 all_goals first
  |exact absurd rfl h0
  |rfl
  | (simp only[Fj1] at h;omega)
def H7 (t:TkD)(frm:Int)(p:List Int):Int:=p.foldl (fun a i=>Fj7 .i64 (a+lenOf t i)) (Fj7 .i64 (0-frm))
theorem Aq1 (t:TkD)(frm:Int)(p:List Int)(n:Int):H7 t frm (p++[n])=Fj7 .i64 (H7 t frm p+lenOf t n):=by unfold H7;rw[List.foldl_append];rfl
def u6 (t:TkD)(frm hi:Int)(p:List Int):Prop:=hi≤H7 t frm p∨D2 t (N4 p)=[]
instance (t:TkD)(frm hi:Int)(p:List Int):Decidable (u6 t frm hi p):=inferInstanceAs (Decidable (_∨_))
inductive T5 (t:TkD)(frm lo hi:Int):List Int→List Int→Prop
 |done {p:List Int} (h:u6 t frm hi p) (h2:lo≤H7 t frm p):T5 t frm lo hi p p
 |step {p q:List Int} {n:Int} (h:¬u6 t frm hi p) (h2:p.length≠12) (h3:n∈D2 t (N4 p)) (h4:T5 t frm lo hi (p++[n]) q):T5 t frm lo hi p q
inductive Deep (t:TkD)(frm hi:Int):List Int→Prop
 |here {p:List Int} (h:¬u6 t frm hi p) (h2:p.length=12):Deep t frm hi p
 |step {p:List Int} {n:Int} (h:¬u6 t frm hi p) (h2:p.length≠12) (h3:n∈D2 t (N4 p)) (h4:Deep t frm hi (p++[n])):Deep t frm hi p
def OnT (t:TkD)(p:List Int):Prop:=p≠[]∧p.length≤12∧∀i∈p,0≤i∧i<(t.1.length:Int)
def Clean (r:RtD):Prop:=∃p:List Int,p.length≤12∧r=J5 p
theorem BT7 {r:RtD}(h:Clean r):J5 (pathOf r)=r:=by obtain⟨p,hp,rfl⟩:=h;rw[u5 hp]
theorem BT8 {p:List Int}(h:p≠[]):N4 p∈p:=by
 unfold N4;have:p.length-1<p.length:=by have:=Fk2.2 h;omega
 simp[Fk9,this]
theorem BT9 {t:TkD}(ht:I7 t){p:List Int}(hp:OnT t p)(hl:p.length≠12){n:Int}(hn:n∈D2 t (N4 p)):OnT t (p++[n]):=by
 obtain⟨h0,h1,h2⟩:=hp;have hm:=h2 _ (BT8 h0);have hs:=ht.seg _ (R2 (d:=(0,[],[])) hm.1 hm.2);refine⟨by simp,by rw[Fj5];simp;omega,fun i hi=> ?_⟩
 rcases Fj6.1 hi with hi | hi
 ·exact h2 i hi
 ·obtain rfl:=Fj9.1 hi
  exact hs.2.2.2 i hn
structure GQ (le le':List RtD×Int)(C:List Int→Prop)(D:Prop):Prop where
 e:(le.2=0∨le.2=13)→(le'.2=0∨le'.2=13)
 nd:le.1.Nodup→le'.1.Nodup
 cl:(∀x∈le.1,Clean x)→∀x∈le'.1,Clean x
 sub:∀x∈le'.1,x∈le.1∨C (pathOf x)
 sup:∀x∈le.1,x∈le'.1
 all:le'.2=0→∀q,C q→∃x∈le'.1,pathOf x=q
 bad:le'.2=13→le.2=13∨D∨16<le'.1.length
 Aq2:le.2≠0→le'=le
theorem GQ.zero {le le':List RtD×Int}{C:List Int→Prop}{D:Prop}(h:GQ le le' C D)(h0:le'.2=0):le.2=0:=by apply Fk8;intro hc;rw[h.Aq2 hc] at h0;exact hc h0
theorem GQ.trans {a b c:List RtD×Int}{C C':List Int→Prop}{D D':Prop}(h:GQ a b C D)(k:GQ b c C' D'):GQ a c (fun q=>C q∨C' q) (D∨D'):=by
 refine⟨fun e=>k.e (h.e e),fun n=>k.nd (h.nd n),fun n=>k.cl (h.cl n),fun x hx=> ?_,fun x hx=>k.sup x (h.sup x hx),fun h0 q hq=> ?_,fun hb=> ?_,fun h0=> ?_⟩
 ·rcases k.sub x hx with h1 | h1
  ·rcases h.sub x h1 with h2 | h2
   ·exact .inl h2
   ·exact .inr (.inl h2)
  ·exact .inr (.inr h1)
 ·rcases hq with hq | hq
  ·obtain⟨x,h1,h2⟩:=h.all (k.zero h0) q hq
   exact⟨x,k.sup x h1,h2⟩
  ·exact k.all h0 q hq
 ·rcases k.bad hb with h1 | h1 | h1
  ·rcases h.bad h1 with h2 | h2 | h2
   ·exact .inl h2
   ·exact .inr (.inl (.inl h2))
   ·have:c=b:=k.Aq2 (by omega)
    rw[this];exact .inr (.inr h2)
  ·exact .inr (.inl (.inr h1))
  ·exact .inr (.inr h1)
 ·have h1:=h.Aq2 h0
  have h2:=k.Aq2 (by rw[h1];exact h0)
  rw[h2,h1]
theorem GQ.refl (le:List RtD×Int):GQ le le (fun _=>False) False:=
 ⟨id,id,id,fun _ h=>.inl h,fun _ h=>h,fun _ _ h=>h.elim,fun h=>.inl h,fun _=>rfl⟩
theorem GQ.iff {a b:List RtD×Int}{C C':List Int→Prop}{D D':Prop}(h:GQ a b C D)(hC:∀q,C q↔C' q)(hD:D→D'):GQ a b C' D':=
 ⟨h.e,h.nd,h.cl,fun x hx=>(h.sub x hx).imp id (hC _).1,h.sup,fun h0 q hq=>h.all h0 q ((hC q).2 hq),fun hb=>(h.bad hb).imp id (Or.imp hD id),h.Aq2⟩
theorem GQ.fold {β:Type}(f:List RtD×Int→β→Option (List RtD×Int))(C:β→List Int→Prop)(D:β→Prop):∀(ns:List β),(∀n∈ns,∀le,(le.2=0∨le.2=13)→Wp (f le n) (fun le'=>GQ le le' (C n) (D n)))→
  ∀le,(le.2=0∨le.2=13)→Wp (ns.foldlM f le) (fun le'=>GQ le le' (fun q=>∃n∈ns,C n q) (∃n∈ns,D n))
 | [],_,le,_=>Wp.some ((GQ.refl le).iff (fun q=>by simp) (fun h=>h.elim))
 |n::ns,h,le,he=>by rw[List.foldlM_cons];refine Wp.bnd (h n (by simp) le he) fun le1 h1=>Wp.mono (GQ.fold f C D ns (fun m hm=>h m (by simp[hm])) le1 (h1.e he)) fun le2 h2=>(h1.trans h2).iff (fun q=>by simp) (fun hd=>by simpa using hd)
theorem CN4 {t:TkD}{frm lo hi:Int}{p q:List Int}(h:¬u6 t frm hi p)(h2:p.length≠12):T5 t frm lo hi p q↔∃n∈D2 t (N4 p),T5 t frm lo hi (p++[n]) q:=by
 constructor
 ·intro hc
  cases hc with
  |done h3 _=>exact absurd h3 h
  |step _ _ h3 h4=>exact ⟨_,h3,h4⟩
 ·rintro⟨n,h3,h4⟩
  exact .step h h2 h3 h4
theorem CN5 {t:TkD}{frm lo hi:Int}{p q:List Int}(h:u6 t frm hi p):T5 t frm lo hi p q↔q=p∧lo≤H7 t frm p:=by
 constructor
 ·intro hc
  cases hc with
  |done _ h2=>exact ⟨rfl,h2⟩
  |step h2 _ _ _=>exact absurd h h2
 ·rintro⟨rfl,h2⟩
  exact .done h h2
theorem BU0 {t:TkD}(ht:I7 t)(frm lo hi:Int):∀(k:Nat) (p:List Int),OnT t p→13≤p.length+k→∀le:List RtD×Int,(le.2=0∨le.2=13)→
  Wp (C6 k t (lo,hi) (J5 p) (H7 t frm p) le) (fun le'=>GQ le le' (fun q=>T5 t frm lo hi p q) (Deep t frm hi p))
 |0,p,hp,hk,le,he=>by have:=hp.2.1;omega
 |k+1,p,hp,hk,le,he=>by
  obtain⟨h0,h1,h2⟩:=hp;have hl:=Ef3 h0 h1;have hm:=h2 _ (BT8 h0);have hlen:(J5 p).1=(p.length:Int):=rfl;have hpos:=Fk2.2 h0;rw[C6,hl,if_pos (by rw[hlen];omega)]
  by_cases hz:le.2=0
  ·rw[if_neg (by omega)]
   by_cases hs:u6 t frm hi p
   ·rw[if_pos (show (lo,hi).2≤H7 t frm p∨D2 t (N4 p)=[] from hs)]
    refine Wp.some ⟨fun _=> ?_,fun hn=> ?_,fun hc=> ?_,fun x hx=> ?_,fun x hx=> ?_,fun h3 q hq=> ?_,fun hb=> ?_,fun h3=>absurd hz h3⟩
    ·have:∀n:Nat,(if 16<n then (13:Int) else 0)=0∨(if 16<n then (13:Int) else 0)=13:=fun n=>by split <;> simp
     exact this _
    ·simp only
     split
     ·unfold G3
      split
      ·exact hn
      ·rename_i h3
       exact List.nodup_append.2 ⟨hn,by simp,fun a ha b hb=>by obtain rfl:=Fj9.1 hb;intro e;exact h3 (e▸ha)⟩
     ·exact hn
    ·simp only
     split
     ·unfold G3
      split
      ·exact hc
      ·intro x hx
       rcases Fj6.1 hx with hx | hx
       ·exact hc x hx
       ·obtain rfl:=Fj9.1 hx
        exact⟨p,h1,rfl⟩
     ·exact hc
    ·simp only at hx
     split at hx
     ·rename_i h3
      unfold G3 at hx;split at hx
      ·exact .inl hx
      ·rcases Fj6.1 hx with hx | hx
       ·exact .inl hx
       ·obtain rfl:=Fj9.1 hx
        refine .inr ?_;rw[u5 h1];exact .done hs h3
     ·exact .inl hx
    ·simp only
     split
     ·unfold G3
      split
      ·exact hx
      ·exact Fj3 _ hx
     ·exact hx
    ·obtain⟨rfl,h4⟩:=(CN5 hs).1 hq
     refine⟨J5 q,?_,u5 h1⟩;simp only;rw[if_pos h4];unfold G3;split
     ·assumption
     ·simp
    ·simp only at hb ⊢
     refine .inr (.inr ?_);apply Fk8;intro hc;rw[if_neg hc] at hb;exact absurd hb (by decide)
   ·rw[if_neg (show ¬((lo,hi).2≤H7 t frm p∨D2 t (N4 p)=[]) from hs)]
    by_cases h12:p.length=12
    ·rw[if_pos (by rw[hlen];omega)]
     exact Wp.some ⟨fun _=>.inr rfl,fun hn=>hn,fun hc=>hc,fun x hx=>.inl hx,fun x hx=>hx,fun h3=>absurd h3 (show ¬(13:Int)=0 by decide),fun _=>.inr (.inl (.here hs h12)),fun h3=>absurd hz h3⟩
    ·rw[if_neg (by rw[hlen];omega)]
     refine Wp.mono (GQ.fold _ (fun n q=>T5 t frm lo hi (p++[n]) q) (fun n=>Deep t frm hi (p++[n])) _ (fun n hn le1 he1=> ?_) le he) fun le' h=>h.iff (fun q=>(CN4 hs h12).symm) (fun hd=> ?_)
     ·have hp2:=BT9 ht ⟨h0,h1,h2⟩ h12 hn
      have hn2:=hp2.2.2 n (by simp)
      rw[if_pos hn2,Ef2 (by omega),← Aq1]
      exact BU0 ht frm lo hi k (p++[n]) hp2 (by rw[Fj5];simp;omega) le1 he1
     ·obtain⟨n,hn,hd⟩:=hd
      exact .step hs h12 hn hd
  ·rw[if_pos hz]
   exact Wp.some ⟨fun h=>h,fun h=>h,fun h=>h,fun x hx=>.inl hx,fun x hx=>hx,fun h3=>absurd h3 hz,fun h3=>.inl h3,fun _=>rfl⟩
theorem CN6 {t:TkD}{s:J3}{p:List Int}(hp:OnT t p):O3 s t (J5 p)=some (H7 t s.1 p):=by
 unfold O3;rw[Ao0,u5 hp.2.1];simp only[Fj2];have h12:=hp.2.1;refine Ap2 p.length (fun i=>(H7 t s.1 (p.take i),(i:Int))) (H7 t s.1 p) rfl ?_ ?_ rfl
 ·intro i hi
  have e1:(decide ((i:Int)<(p.length:Int)))=true:=by simpa using hi
  have e2:(decide ((0:Int)≤(i:Int)))=true:=by simp
  have hm:=hp.2.2 (p.getD i 0) (by simp[Fk9,hi])
  have e3:(decide ((0:Int)≤p.getD i 0))=true:=by rw[decide_eq_true_eq];exact hm.1
  have e4:(decide (p.getD i 0<(t.1.length:Int)))=true:=by rw[decide_eq_true_eq];exact hm.2
  have e5:=X7 i (by omega)
  simp only[e1,e2,cond_true,Fk6,P5,Fj8,e3,e4,e5];rw[← r8 (d:=(0:Int)) hi,Aq1];rfl
 ·have e1:(decide ((p.length:Int)<(p.length:Int)))=false:=by simp
  simp only[e1,cond_false,Fk4]
theorem CN7 {α β:Type}{f:α→β}:∀(l:List α),(∀x∈l,∀y∈l,f x=f y→x=y)→l.Nodup→(l.map f).Nodup
 | [],_,_=>by simp
 |a::l,h,hn=>by
  have hn2:=Fl0.1 hn;rw[List.map_cons];refine Fl0.2 ⟨fun hm=> ?_,CN7 l (fun x hx y hy=>h x (by simp[hx]) y (by simp[hy])) hn2.2⟩
  obtain⟨b,hb,e⟩:=Fk0.1 hm;have:=h b (by simp[hb]) a (by simp) e
  exact hn2.1 (this▸hb)
theorem CN8 {α:Type}:∀(l m:List α),l.Nodup→(∀x∈l,x∈m)→l.length≤m.length
 | [],_,_,_=>by simp
 |a::l,m,hn,h=>by
  have hn2:=Fl0.1 hn;obtain⟨b,c,rfl⟩:=List.append_of_mem (h a (by simp))
  have:=CN8 l (b++c) hn2.2 fun x hx=>by
   have h3:=h x (by simp[hx])
   rcases Fj6.1 h3 with h3 | h3
   ·exact Fj3 _ h3
   ·rcases Fk5.1 h3 with rfl | h3
    ·exact absurd hx hn2.1
    ·exact Fk3 _ h3
  simp only[Fj5,Fj1] at this ⊢;omega
def OnL (t:TkD)(L:List (List Int)):Prop:=L≠[]∧L.length≤100∧∀p∈L,OnT t p
theorem Ef4 {t:TkD}(ht:I7 t){s:J3}(hs:s.2≠[]∧s.2.length≤100):AB3 s t=true:=by
 unfold AB3;have h1:=ht.n1;simp only[Fk7,Bool.not_eq_true',List.isEmpty_eq_false_iff,decide_eq_true_eq,List.all_eq_true];refine⟨hs.1,ht.ne,by omega,by omega,fun x hx=> ?_⟩
 have:=(ht.seg x hx).2.2.1;omega
theorem Ef5 {t:TkD}(ht:I7 t){frm lo hi:Int}{L R:List (List Int)}(hL:OnL t L)(h1:lo≤hi)(h2:¬lo<Fj7 .i64 (0-frm))(hR:R≠[])(hR16:R.length≤16)(hq:∀q,q∈R↔∃p∈L,T5 t frm lo hi p q)(hd:∀p∈L,¬Deep t frm hi p):
  ∃l:List RtD,V3 (frm,L.map J5) t (lo,hi)=some ((frm,G1 l),0)∧l≠[]∧l.length≤16∧(∀x∈l,Clean x)∧∀x∈l,pathOf x∈R:=by
 unfold V3;have hw:wrap64 (-frm)=Fj7 .i64 (0-frm):=by rw[Fk1];unfold wrap64;omega
 have hok:AB3 (frm,L.map J5) t=true:=Ef4 ht ⟨by simpa using hL.1,by simpa using hL.2.1⟩
 simp only;rw[if_pos h1,hw,if_neg h2,if_pos hok];obtain⟨le,hle,hg⟩:=GQ.fold (fun (le:List RtD×Int) (r:RtD)=>(O3 (frm,L.map J5) t r).bind fun en=>C6 13 t (lo,hi) r en le) (fun r q=>T5 t frm lo hi (pathOf r) q) (fun r=>Deep t frm hi (pathOf r)) (L.map J5) (fun r hr le he=>by obtain⟨p,hp,rfl⟩:=Fk0.1 hr;have hon:=hL.2.2 p hp;rw[CN6 hon,Fj2,u5 hon.2.1];have:=Fk2.2 hon.1;exact BU0 ht frm lo hi 13 p hon (by omega) le he) ([],0) (.inl rfl)
 rw[hle];simp only[Fj2];have hsub:∀x∈le.1,pathOf x∈R:=by
  intro x hx;rcases hg.sub x hx with h |⟨r,hr,hc⟩
  ·cases h
  ·obtain⟨p,hp,rfl⟩:=Fk0.1 hr
   rw[u5 (hL.2.2 p hp).2.1] at hc;exact (hq _).2 ⟨p,hp,hc⟩
 have hcl:∀x∈le.1,Clean x:=hg.cl (fun x hx=>by cases hx)
 have hlen:le.1.length≤16:=by
  have hn:(le.1.map pathOf).Nodup:=by refine CN7 _ ?_ (hg.nd List.nodup_nil);intro x hx y hy e;rw[← BT7 (hcl x hx),← BT7 (hcl y hy),e]
  have:=CN8 _ R hn fun q hq'=>by obtain⟨x,hx,rfl⟩:=Fk0.1 hq';exact hsub x hx
  rw[Fl1] at this;omega
 have he:le.2=0:=by
  rcases hg.e (.inl rfl) with h | h
  ·exact h
  ·rcases hg.bad h with h3 |⟨r,hr,h3⟩ | h3
   ·exact absurd h3 (by decide)
   ·obtain⟨p,hp,rfl⟩:=Fk0.1 hr
    rw[u5 (hL.2.2 p hp).2.1] at h3;exact absurd h3 (hd p hp)
   ·omega
 have hne:le.1≠[]:=by
  obtain⟨q,hqR⟩:=List.exists_mem_of_ne_nil R hR;obtain⟨p,hp,hc⟩:=(hq q).1 hqR;obtain⟨x,hx,_⟩:=hg.all he q ⟨J5 p,Fk0.2 ⟨p,hp,rfl⟩,by rw[u5 (hL.2.2 p hp).2.1];exact hc⟩
  exact List.ne_nil_of_mem hx
 refine⟨le.1,?_,hne,hlen,hcl,hsub⟩;rw[if_pos (by omega)]
 unfold K0;rw[if_neg (by omega),if_neg hne]

/- The document's ways and places. -/
def lsF (a b:List Int):Nat→Nat→Bool
 |0,_=>decide (a.length<b.length)
 |k+1,i=>if a.getD i 0≠b.getD i 0 then decide (a.getD i 0<b.getD i 0) else lsF a b k (i+1)
def BU1 {S X:Type}(I:S→Prop)(μ:S→Nat)(Q:X→Prop)(s:S):S ⊕ X→Prop
 | .inl s'=>I s'∧μ s'<μ s
 | .inr x=>Q x
theorem Wp.AJ6 {S X:Type}{f:S→Option (S ⊕ X)}{Q:X→Prop}(I:S→Prop)(μ:S→Nat)(h:∀s,I s→Wp (f s) (BU1 I μ Q s)){s:S}(hs:I s):Wp (LP.lp f s) Q:=
 Wp.loop I μ (fun s hI=>Wp.mono (h s hI) fun z hz=>by cases z <;> exact hz) hs
theorem Ef6 (a:List Int)(i:Nat):(bif decide ((i:Int)<(a.length:Int)) then chk none ((decide ((0:Int)≤(i:Int)))&&(decide ((i:Int)<(a.length:Int)))) (some (a.getD (i:Int).toNat (0:Int))) else some (0:Int))=some (a.getD i 0):=by
 by_cases h:i<a.length
 ·have e1:(decide ((i:Int)<(a.length:Int)))=true:=by simpa using h
  have e2:(decide ((0:Int)≤(i:Int)))=true:=by simp
  simp only[e1,e2,cond_true,Fk6,P5,Fj8]
 ·have e1:(decide ((i:Int)<(a.length:Int)))=false:=by simpa using h
  simp only[e1,cond_false];rw[Fk9,List.getElem?_eq_none (by omega)]
  rfl
theorem Ef7 (a b:List Int):An4 a b=some (lsF a b 12 0):=by
 unfold An4;have key:∀{f:Int→Option (Int ⊕ (Bool ⊕ Unit))} {K:(Bool ⊕ Unit)→Option Bool},(∀i:Nat,i<12→f (i:Int)=if a.getD i 0≠b.getD i 0 then some (.inr (.inl (decide (a.getD i 0<b.getD i 0)))) else some (.inl ((i+1:Nat):Int)))→f ((12:Nat):Int)=some (.inr (.inr ()))→(∀r,K (.inl r)=some r)→K (.inr ())=some (decide (a.length<b.length))→
   ∀k i:Nat,i+k=12→∃z,E1 f (k+1) (i:Int)=some z∧K z=some (lsF a b k i):=by
  intro f K h1 h2 h3 h4 k
  induction k with
  |zero=>
   intro i hi;obtain rfl:i=12:=by omega
   refine⟨.inr (),?_,h4⟩;rw[E1,h2]
  |succ k ih=>
   intro i hi;rw[E1,h1 i (by omega),lsF]
   by_cases hc:a.getD i 0≠b.getD i 0
   ·rw[if_pos hc,if_pos hc]
    exact⟨_,rfl,h3 _⟩
   ·rw[if_neg hc,if_neg hc]
    exact ih (i+1) (by omega)
 have fin:∀{f:Int→Option (Int ⊕ (Bool ⊕ Unit))} {K:(Bool ⊕ Unit)→Option Bool},(∀i:Nat,i<12→f (i:Int)=if a.getD i 0≠b.getD i 0 then some (.inr (.inl (decide (a.getD i 0<b.getD i 0)))) else some (.inl ((i+1:Nat):Int)))→f ((12:Nat):Int)=some (.inr (.inr ()))→(∀r,K (.inl r)=some r)→K (.inr ())=some (decide (a.length<b.length))→
   Option.bind (LP.lp f (0:Int)) K=some (lsF a b 12 0):=by
  intro f K h1 h2 h3 h4;obtain⟨z,hz,hk⟩:=key h1 h2 h3 h4 12 0 rfl;show Option.bind (z7 f ((0:Nat):Int)) K=_;rw[AX1 hz];exact hk
 refine fin ?_ rfl (fun r=>rfl) ?_
 ·intro i hi
  have e1:(decide ((i:Int)<(12:Int)))=true:=by rw[decide_eq_true_eq];omega
  have e5:=X7 i (by omega)
  simp only[e1,cond_true,Ef6,Fj2,e5];by_cases hc:a.getD i 0=b.getD i 0
  ·rw[if_neg (by simpa using hc)]
   have:(a.getD i 0 != b.getD i 0)=false:=by rw[hc];exact Ap3 _
   simp only[this,cond_false]
  ·rw[if_pos hc]
   have:(a.getD i 0 != b.getD i 0)=true:=by simpa using hc
   simp only[this,cond_true]
 ·have:(decide ((a.length:Int)<(b.length:Int)))=decide (a.length<b.length):=by
   by_cases h:a.length<b.length
   ·rw[decide_eq_true h,decide_eq_true (by omega)]
   ·rw[decide_eq_false h,decide_eq_false (by omega)]
  simp only[this]
theorem CN9 (a b:List Int):∀(k i:Nat),lsF a b k i=false→lsF b a k i=false→a.length=b.length∧∀j,i≤j→j<i+k→a.getD j 0=b.getD j 0
 |0,i,h1,h2=>by rw[lsF,decide_eq_false_iff_not] at h1 h2;exact⟨by omega,fun j h3 h4=>by omega⟩
 |k+1,i,h1,h2=>by
  rw[lsF] at h1 h2;by_cases hc:a.getD i 0=b.getD i 0
  ·rw[if_neg (by simpa using hc)] at h1
   rw[if_neg (by simpa using hc.symm)] at h2
   obtain⟨h3,h4⟩:=CN9 a b k (i+1) h1 h2;refine⟨h3,fun j h5 h6=> ?_⟩
   by_cases hj:j=i
   ·rw[hj];exact hc
   ·exact h4 j (by omega) (by omega)
  ·rw[if_pos hc,decide_eq_false_iff_not] at h1
   rw[if_pos (fun e=>hc e.symm),decide_eq_false_iff_not] at h2
   omega
theorem Ef8 {a b:List Int}(h1:lsF a b 12 0=false)(h2:lsF b a 12 0=false)(ha:a.length≤12):a=b:=by
 obtain⟨h3,h4⟩:=CN9 a b 12 0 h1 h2;apply List.ext_getElem h3;intro i hi1 hi2;have:=h4 i (by omega) (by omega)
 rwa [P6 hi1,P6 hi2] at this
def CO0 (l:List (List Int))(r:List Int)(s:List (List Int)×(Int×Bool)):Prop:=∃n:Nat,n≤l.length∧s.2.1=(n:Int)∧(∀x∈s.1,x∈l.take n∨x=r)∧(∀x∈l.take n,x∈s.1)∧(s.2.2=true→r∈s.1)∧s.1.length≤n+(if s.2.2=true then 1 else 0)
def CO1 (l:List (List Int))(r:List Int)(z:Bool×List (List Int)):Prop:=(∀x∈z.2,x∈l∨x=r)∧(∀x∈l,x∈z.2)∧(z.1=true→r∈z.2)∧z.2.length≤l.length+(if z.1=true then 1 else 0)
theorem Ef9 (l:List (List Int))(r:List Int)(hl:l.length≤1000)(hr:r.length≤12):Wp (Ay7 l r) fun l'=>(∀x,x∈l'↔x∈l∨x=r)∧l'.length≤l.length+1:=by
 unfold Ay7;refine Wp.bnd (Q:=CO1 l r) ?_ fun z hz=> ?_
 ·refine Wp.AJ6 (CO0 l r) (fun s=>((l.length:Int)-s.2.1).toNat) ?_ ⟨0,by omega,rfl,by simp,by simp,by simp,by simp⟩
  rintro⟨out,i,done⟩ ⟨n,hn,hi,h1,h2,h3,h4⟩
  simp only at hi h1 h2 h3 h4;subst hi;refine Wp.cnd (fun hc=> ?_) fun hc=> ?_
  ·have hlt:n<l.length:=by simpa using hc
   have e1:(decide ((n:Int)<(l.length:Int)))=true:=by simpa using hlt
   have e2:(decide ((0:Int)≤(n:Int)))=true:=by simp
   have e5:=X7 n (by omega)
   have hout:out.length≤n+1:=by refine Fl4 h4 ?_;split <;> omega
   have ht:=r8 (l:=l) (d:=[]) hlt;simp only[e1,e2,Fk6,Bool.true_or,P5,Fj8,e5];have fin:∀(dn d:Bool) (o:List (List Int)),(∀x∈o,x∈l.take n∨x=r)→(∀x∈l.take n,x∈o)→(d=true→r∈o∨r=l.getD n [])→o.length≤n+(if d=true then 1 else 0)→
     Wp (chk none (decide ((o.length+([l.getD n []]:List (List Int)).length)*24≤140737488355328)) (some (Sum.inl (o++[l.getD n []],((n+1:Nat):Int),d)):Option ((List (List Int)×(Int×Bool)) ⊕ (Bool×List (List Int))))) (BU1 (CO0 l r) (fun s=>((l.length:Int)-s.2.1).toNat) (CO1 l r) (out,((n:Int),dn))):=by
    intro dn d o g1 g2 g3 g4;have hol:o.length≤n+1:=by refine Fl4 g4 ?_;split <;> omega
    refine Wp.chk (by simp only[Fj1,Fj4,decide_eq_true_eq];omega) (Wp.some ⟨⟨n+1,by omega,rfl,?_,?_,?_,?_⟩,by simp only;omega⟩)
    ·intro x hx
     rw[← ht];rcases Fj6.1 hx with hx | hx
     ·exact (g1 x hx).imp (Fj3 _) id
     ·exact .inl (Fk3 _ hx)
    ·intro x hx
     rw[← ht] at hx;rcases Fj6.1 hx with hx | hx
     ·exact Fj3 _ (g2 x hx)
     ·exact Fk3 _ hx
    ·intro hd
     rcases g3 hd with h | h
     ·exact Fj3 _ h
     ·rw[h]
      simp
    ·simp only[Fj5,Fj1,Fj4]
     omega
   cases done with
   |true=>
    simp only[Fl3,cond_false,Fj2];exact fin _ true out h1 h2 (fun h=>.inl (h3 h)) h4
   |false=>
    simp only[Fl2,cond_true,Ef7,Fj2];have h4':out.length≤n:=by simpa using h4
    cases hls:lsF (l.getD n []) r 12 0 with
    |true=>
     simp only[Fl3,cond_false,Fj2];exact fin _ false out h1 h2 (fun h=>by cases h) h4
    |false=>
     simp only[Fl2,cond_true,Fj2];cases hl2:lsF r (l.getD n []) 12 0 with
     |true=>
      have e6:decide ((out.length+([r]:List (List Int)).length)*24≤140737488355328)=true:=by simp only[Fj1,Fj4,decide_eq_true_eq];omega
      simp only[cond_true,e6,P5,Fj2];refine fin _ true (out++[r]) (fun x hx=> ?_) (fun x hx=>Fj3 _ (h2 x hx)) (fun _=>.inl (by simp)) (by simp only[Fj5,Fj1,Fj4,if_true];omega)
      rcases Fj6.1 hx with hx | hx
      ·exact h1 x hx
      ·exact .inr (Fj9.1 hx)
     |false=>
      simp only[cond_false,Fj2];refine fin _ true out h1 h2 (fun _=>.inr ?_) (by simp only[if_true];omega)
      exact Ef8 hl2 hls hr
  ·have hn2:n=l.length:=by
    simp at hc;omega
   subst hn2;rw[Fk4] at h1 h2;exact Wp.some ⟨h1,h2,h3,h4⟩
 ·obtain⟨d,o⟩:=z
  obtain⟨h1,h2,h3,h4⟩:=hz;simp only at h1 h2 h3 h4;refine Wp.bnd (Q:=fun l'=>(∀x,x∈l'↔x∈l∨x=r)∧l'.length≤l.length+1) ?_ fun l' h=>Wp.some h
  cases d with
  |true=>
   refine Wp.some ⟨fun x=>⟨h1 x,fun h=> ?_⟩,by simpa using h4⟩
   rcases h with h | rfl
   ·exact h2 x h
   ·exact h3 rfl
  |false=>
   have h4':o.length≤l.length:=by simpa using h4
   refine Wp.chk (by simp only[Fj1,Fj4,decide_eq_true_eq];omega) (Wp.some ⟨fun x=>⟨fun h=> ?_,fun h=> ?_⟩,by simp;omega⟩)
   ·rcases Fj6.1 h with h | h
    ·exact h1 x h
    ·exact .inr (Fj9.1 h)
   ·rcases h with h | rfl
    ·exact Fj3 _ (h2 x h)
    ·simp
theorem Eg0 {t:TkD}{frm:Int}{p:List Int}(hp:OnT t p):Ay6 t frm p=some (H7 t frm p):=by
 unfold Ay6;have h12:=hp.2.1;refine Ap2 p.length (fun i=>(H7 t frm (p.take i),(i:Int))) (H7 t frm p) rfl ?_ ?_ rfl
 ·intro i hi
  have e1:(decide ((i:Int)<(p.length:Int)))=true:=by simpa using hi
  have e2:(decide ((0:Int)≤(i:Int)))=true:=by simp
  have hm:=hp.2.2 (p.getD i 0) (by simp[Fk9,hi])
  have e3:(decide ((0:Int)≤p.getD i 0))=true:=by rw[decide_eq_true_eq];exact hm.1
  have e4:(decide (p.getD i 0<(t.1.length:Int)))=true:=by rw[decide_eq_true_eq];exact hm.2
  have e5:=X7 i (by omega)
  simp only[e1,e2,cond_true,Fk6,P5,Fj8,e3,e4,e5];rw[← r8 (d:=(0:Int)) hi,Aq1];rfl
 ·have e1:(decide ((p.length:Int)<(p.length:Int)))=false:=by simp
  simp only[e1,cond_false,Fk4]
def CO2 (l:List Int)(x:Int)(s:List Int×(Int×Bool)):Prop:=∃n:Nat,n≤l.length∧s.2.1=(n:Int)∧(∀x∈l.take n,x∈s.1)∧(s.2.2=true→x∈s.1)∧s.1.length≤n+(if s.2.2=true then 1 else 0)
def CO3 (l:List Int)(x:Int)(z:Bool×List Int):Prop:=(∀x∈l,x∈z.2)∧(z.1=true→x∈z.2)∧z.2.length≤l.length+(if z.1=true then 1 else 0)
theorem Eg1 (l:List Int)(x:Int)(hl:l.length≤1000000):Wp (Ay9 l x) fun l'=>(∀y∈l,y∈l')∧x∈l'∧l'.length≤l.length+1:=by
 unfold Ay9;refine Wp.bnd (Q:=CO3 l x) ?_ fun z hz=> ?_
 ·refine Wp.AJ6 (CO2 l x) (fun s=>((l.length:Int)-s.2.1).toNat) ?_ ⟨0,by omega,rfl,by simp,by simp,by simp⟩
  rintro⟨out,i,done⟩ ⟨n,hn,hi,h2,h3,h4⟩
  simp only at hi h2 h3 h4;subst hi;refine Wp.cnd (fun hc=> ?_) fun hc=> ?_
  ·have hlt:n<l.length:=by simpa using hc
   have e1:(decide ((n:Int)<(l.length:Int)))=true:=by simpa using hlt
   have e2:(decide ((0:Int)≤(n:Int)))=true:=by simp
   have e5:Fj7 .i64 ((n:Int)+1)=((n+1:Nat):Int):=by rw[Fk1];omega
   have ht:=r8 (l:=l) (d:=(0:Int)) hlt;simp only[e1,e2,Fk6,Bool.true_or,P5,Fj8,e5];have fin:∀(dn d:Bool) (o:List Int),(∀x∈l.take n,x∈o)→(d=true→x∈o∨x=l.getD n 0)→o.length≤n+(if d=true then 1 else 0)→
     Wp (chk none (decide ((o.length+([l.getD n 0]:List Int).length)*8≤140737488355328)) (some (Sum.inl (o++[l.getD n 0],((n+1:Nat):Int),d)):Option ((List Int×(Int×Bool)) ⊕ (Bool×List Int)))) (BU1 (CO2 l x) (fun s=>((l.length:Int)-s.2.1).toNat) (CO3 l x) (out,((n:Int),dn))):=by
    intro dn d o g2 g3 g4;have hol:o.length≤n+1:=by refine Fl4 g4 ?_;split <;> omega
    refine Wp.chk (by simp only[Fj1,Fj4,decide_eq_true_eq];omega) (Wp.some ⟨⟨n+1,by omega,rfl,?_,?_,?_⟩,by simp only;omega⟩)
    ·intro x hx
     rw[← ht] at hx;rcases Fj6.1 hx with hx | hx
     ·exact Fj3 _ (g2 x hx)
     ·exact Fk3 _ hx
    ·intro hd
     rcases g3 hd with h | h
     ·exact Fj3 _ h
     ·rw[h]
      simp
    ·simp only[Fj5,Fj1,Fj4]
     omega
   cases done with
   |true=>
    simp only[Fl3,cond_false,Fj2];exact fin _ true out h2 (fun h=>.inl (h3 h)) h4
   |false=>
    simp only[Fl2,cond_true];have h4':out.length≤n:=by simpa using h4
    by_cases hx:x≤l.getD n 0
    ·rw[decide_eq_true hx]
     simp only[cond_true];by_cases hx2:x<l.getD n 0
     ·have e6:decide ((out.length+([x]:List Int).length)*8≤140737488355328)=true:=by
       simp only[Fj1,Fj4,decide_eq_true_eq];omega
      rw[decide_eq_true hx2];simp only[cond_true,e6,P5,Fj2];exact fin _ true (out++[x]) (fun y hy=>Fj3 _ (h2 y hy)) (fun _=>.inl (by simp)) (by simp only[Fj5,Fj1,Fj4,if_true];omega)
     ·rw[decide_eq_false hx2]
      simp only[cond_false,Fj2];exact fin _ true out h2 (fun _=>.inr (by omega)) (by simp only[if_true];omega)
    ·rw[decide_eq_false hx]
     simp only[cond_false,Fj2];exact fin _ false out h2 (fun h=>by cases h) h4
  ·have hn2:n=l.length:=by
    simp at hc;omega
   subst hn2;rw[Fk4] at h2;exact Wp.some ⟨h2,h3,h4⟩
 ·obtain⟨d,o⟩:=z
  obtain⟨h2,h3,h4⟩:=hz;simp only at h2 h3 h4;refine Wp.bnd (Q:=fun l'=>(∀y∈l,y∈l')∧x∈l'∧l'.length≤l.length+1) ?_ fun l' h=>Wp.some h
  cases d with
  |true=>exact Wp.some ⟨h2,h3 rfl,by simpa using h4⟩
  |false=>
   have h4':o.length≤l.length:=by simpa using h4
   exact Wp.chk (by simp only[Fj1,Fj4,decide_eq_true_eq];omega) (Wp.some ⟨fun y hy=>Fj3 _ (h2 y hy),by simp,by simp;omega⟩)

/- The document's growing, and its places. -/
section
variable (t:TkD)(frm lo hi:Int)(L:List (List Int))
structure T6 (out:List (List Int))(A:List (List Int)):Prop where
 few:out.length≤16
 on:∀p∈out,p.length≤12
 all:∀q,(q∈out∨∃p∈A,T5 t frm lo hi p q)↔∃p∈L,T5 t frm lo hi p q
 deep:(∃p∈L,Deep t frm hi p)→∃p∈A,Deep t frm hi p
end
section
variable {t:TkD}{frm lo hi:Int}{L:List (List Int)}
theorem T6.congr {out A A':List (List Int)}(h:T6 t frm lo hi L out A)(hA:∀p,p∈A↔p∈A'):T6 t frm lo hi L out A':=
 ⟨h.few,h.on,fun q=>by rw[← h.all q];simp only[hA],fun hd=>by simpa only[hA] using h.deep hd⟩
theorem T6.stop {out out' A:List (List Int)}{p:List Int}(h:T6 t frm lo hi L out (p::A))(hs:u6 t frm hi p)(hp:p.length≤12)(h1:∀x,x∈out'↔x∈out∨(x=p∧lo≤H7 t frm p))(h2:out'.length≤16):T6 t frm lo hi L out' A:=by
 refine⟨h2,fun x hx=> ?_,fun q=> ?_,fun hd=> ?_⟩
 ·rcases (h1 x).1 hx with h3 |⟨rfl,_⟩
  ·exact h.on x h3
  ·exact hp
 ·rw[← h.all q,h1 q]
  simp only[Fk5,exists_eq_or_imp,CN5 hs];constructor
  ·rintro ((h3 | h3) | h3)
   ·exact .inl h3
   ·exact .inr (.inl h3)
   ·exact .inr (.inr h3)
  ·rintro (h3 | (h3 | h3))
   ·exact .inl (.inl h3)
   ·exact .inl (.inr h3)
   ·exact .inr h3
 ·obtain⟨x,hx,h3⟩:=h.deep hd
  rcases Fk5.1 hx with rfl | hx
  ·cases h3 with
   |here h4 _=>exact absurd hs h4
   |step h4 _ _ _=>exact absurd hs h4
  ·exact⟨x,hx,h3⟩
theorem T6.go {out A B:List (List Int)}{p:List Int}(h:T6 t frm lo hi L out (p::A))(hs:¬u6 t frm hi p)(hp:p.length≠12)(hB:∀x,x∈B↔x∈A∨∃n∈D2 t (N4 p),x=p++[n]):T6 t frm lo hi L out B:=by
 refine⟨h.few,h.on,fun q=> ?_,fun hd=> ?_⟩
 ·rw[← h.all q]
  refine or_congr Iff.rfl ⟨?_,?_⟩
  ·rintro⟨x,hx,h3⟩
   rcases (hB x).1 hx with h4 |⟨n,hn,rfl⟩
   ·exact⟨x,List.mem_cons_of_mem _ h4,h3⟩
   ·exact⟨p,List.mem_cons_self,.step hs hp hn h3⟩
  ·rintro⟨x,hx,h3⟩
   rcases Fk5.1 hx with rfl | hx
   ·obtain⟨n,hn,h4⟩:=(CN4 hs hp).1 h3
    exact⟨x++[n],(hB _).2 (.inr ⟨n,hn,rfl⟩),h4⟩
   ·exact⟨x,(hB _).2 (.inl hx),h3⟩
 ·obtain⟨x,hx,h3⟩:=h.deep hd
  rcases Fk5.1 hx with rfl | hx
  ·cases h3 with
   |here _ h4=>exact absurd h4 hp
   |step _ _ h5 h6=>exact ⟨_,(hB _).2 (.inr ⟨_,h5,rfl⟩),h6⟩
  ·exact⟨x,(hB _).2 (.inl hx),h3⟩
end
abbrev CO4:=(Int×(Int×(List (List Int))))
def Eg2 (t:TkD)(frm lo hi:Int)(L:List (List Int))(s:Int×((List (List Int))×((List (List Int))×((List (List Int))×Int)))):Prop:=
 ∃n:Nat,n≤13∧s.2.2.2.2=(n:Int)∧T6 t frm lo hi L s.2.1 s.2.2.2.1∧(∀p∈s.2.2.2.1,OnT t p∧n+1≤p.length)∧s.2.2.2.1.length≤100*2 ^ n
def Eg3 (t:TkD)(frm lo hi:Int)(L:List (List Int)):(CO4 ⊕ (Int×((List (List Int))×(List (List Int)))))→Prop
 | .inl e=>e.2.1=13
 | .inr z=>T6 t frm lo hi L z.2.1 []
def InI (t:TkD)(frm lo hi:Int)(L todo:List (List Int))(n:Nat)(s:Int×((List (List Int))×((List (List Int))×(Int×(List (List Int)))))):Prop:=
 ∃i:Nat,i≤todo.length∧s.2.2.2.1=(i:Int)∧T6 t frm lo hi L s.2.1 (s.2.2.2.2++todo.drop i)∧(∀p∈s.2.2.2.2,OnT t p∧n+2≤p.length)∧s.2.2.2.2.length≤2*i
def InQ (t:TkD)(frm lo hi:Int)(L todo:List (List Int))(n:Nat):(CO4 ⊕ (Int×((List (List Int))×((List (List Int))×(List (List Int))))))→Prop
 | .inl e=>e.2.1=13
 | .inr z=>T6 t frm lo hi L z.2.1 z.2.2.2∧(∀p∈z.2.2.2,OnT t p∧n+2≤p.length)∧z.2.2.2.length≤2*todo.length
def Eg4 (t:TkD)(frm lo hi:Int)(L todo:List (List Int))(n i:Nat):(((List (List Int))×(Int×Int)) ⊕ ((List (List Int))×(Int×((List (List Int))×(List (List Int))))))→Prop
 | .inl e=>e.2.2=13
 | .inr z=>T6 t frm lo hi L z.2.2.1 (z.2.2.2++todo.drop (i+1))∧(∀p∈z.2.2.2,OnT t p∧n+2≤p.length)∧z.2.2.2.length≤2*(i+1)
theorem Eg5 {t:TkD}(ht:I7 t)(frm lo hi:Int)(L:List (List Int))(hL:OnL t L):Wp (Ay8 t (frm,L) lo hi) fun z=>z.2=0→lo≤hi∧¬lo<Fj7 .i64 (0-frm)∧z.1.1=frm∧z.1.2≠[]∧z.1.2.length≤16∧(∀p∈z.1.2,p.length≤12)∧(∀q,q∈z.1.2↔∃p∈L,T5 t frm lo hi p q)∧∀p∈L,¬Deep t frm hi p:=by
 unfold Ay8;refine Wp.cnd (fun _=>Wp.some fun h=>absurd h (show ¬(40:Int)=0 by decide)) fun hc=> ?_
 have hc1:lo≤hi∧¬lo<Fj7 .i64 (0-frm):=by
  by_cases h:hi<lo
  ·rw[decide_eq_true h] at hc
   cases hc
  ·rw[decide_eq_false h] at hc
   exact⟨by omega,by simpa using hc⟩
 refine Wp.bnd (Q:=Eg3 t frm lo hi L) ?_ fun z hz=> ?_
 ·refine Wp.AJ6 (Eg2 t frm lo hi L) (fun s=>(13-s.2.2.2.2).toNat) ?_ ⟨0,by omega,rfl,⟨by simp,by simp,fun q=>by simp,fun h=>h⟩,fun p hp=>⟨hL.2.2 p hp,by have:=Fk2.2 (hL.2.2 p hp).1;omega⟩,by simpa using hL.2.1⟩
  rintro⟨c1,out,c2,todo,nn⟩ ⟨n,hn,hnn,hG,hT,hlen⟩
  simp only at hnn hG hT hlen;subst hnn;refine Wp.cnd (fun hc=> ?_) fun hc=> ?_
  ·have hlt:n<13:=by
    have:(n:Int)<13:=by simpa using hc
    omega
   have hw:Fj7 .i64 ((n:Int)+1)=((n+1:Nat):Int):=by rw[Fk1];omega
   have hp2:2 ^ n≤4096:=by
    have:2 ^ n≤2 ^ 12:=Nat.pow_le_pow_right (by omega) (by omega)
    simpa using this
   have hbig:todo.length≤409600:=by omega
   refine Wp.bnd (Q:=InQ t frm lo hi L todo n) ?_ fun z hz=> ?_
   ·refine Wp.AJ6 (InI t frm lo hi L todo n) (fun s=>((todo.length:Int)-s.2.2.2.1).toNat) ?_ ⟨0,by omega,rfl,hG.congr fun p=>by simp,by simp,by simp⟩
    rintro⟨d1,out,d2,ii,more⟩ ⟨i,hi1,hii,hG,hM,hml⟩
    simp only at hii hG hM hml;subst hii;refine Wp.cnd (fun hc=> ?_) fun hc=> ?_
    ·have hilt:i<todo.length:=by simpa using hc
     have hwi:Fj7 .i64 ((i:Int)+1)=((i+1:Nat):Int):=by rw[Fk1];omega
     have e1:(decide ((i:Int)<(todo.length:Int)))=true:=by simpa using hilt
     have e2:(decide ((0:Int)≤(i:Int)))=true:=by simp
     refine Wp.bnd (Q:=Eg4 t frm lo hi L todo n i) ?_ fun z hz=> ?_
     ·refine Wp.chk (by rw[e1,e2];rfl) ?_
      simp only[Fj8];have hpm:todo.getD i []∈todo:=by simp[Fk9,hilt]
      obtain⟨hon,hpl⟩:=hT _ hpm;have hdrop:todo.drop i=todo.getD i []::todo.drop (i+1):=by rw[List.drop_eq_getElem_cons hilt,P6 hilt]
      rw[hdrop] at hG;obtain⟨p,hpe⟩:∃p,todo.getD i []=p:=⟨_,rfl⟩;rw[hpe] at hon hpl hG;simp only[hpe];have hG2:T6 t frm lo hi L out (p::(more++todo.drop (i+1))):=hG.congr fun x=>by simp only[Fj6,Fk5];constructor <;> (rintro (h | h | h) <;> simp[h])
      have hp0:=Fk2.2 hon.1;have hp12:=hon.2.1;have hwl:Fj7 .i64 ((p.length:Int)-1)=((p.length-1:Nat):Int):=by rw[Fk1];omega
      have hlast:p.getD (p.length-1) 0=N4 p:=rfl;have hlm:=hon.2.2 _ (BT8 hon.1);have hseg:=ht.seg _ (R2 (d:=(0,[],[])) hlm.1 hlm.2);have hnext:(t.1.getD (N4 p).toNat ((0:Int),([],[]))).2.2=D2 t (N4 p):=rfl;rw[hnext] at hseg;rw[hwl];refine Wp.chk (by simp only[Fk7,decide_eq_true_eq];omega) ?_
      simp only[Fj8,hlast];refine Wp.chk (by simp only[Fk7,decide_eq_true_eq];exact hlm) ?_
      rw[Eg0 hon];simp only[Fj2,hnext];refine Wp.cnd (fun hs=> ?_) fun hs=> ?_
      ·have hst:u6 t frm hi p:=by
        by_cases h:hi≤H7 t frm p
        ·exact .inl h
        ·rw[decide_eq_false h] at hs
         right
         have:(D2 t (N4 p)).length=0:=by simpa using hs
         exact List.eq_nil_of_length_eq_zero this
       refine Wp.bnd (Q:=fun out'=>(∀x,x∈out'↔x∈out∨(x=p∧lo≤H7 t frm p))∧out'.length≤17) ?_ fun out' ho=> ?_
       ·refine Wp.cnd (fun h=> ?_) fun h=> ?_
        ·have h':lo≤H7 t frm p:=by simpa using h
         refine Wp.bnd (Ef9 out p (by have:=hG.few;omega) hp12) fun o ho=>Wp.some ⟨fun x=> ?_,by have:=hG.few;omega⟩
         rw[ho.1 x];simp[h']
        ·have h':¬lo≤H7 t frm p:=by simpa using h
         exact Wp.some ⟨fun x=>by simp[h'],by have:=hG.few;omega⟩
       ·refine Wp.cnd (fun _=>Wp.some rfl) fun h=>Wp.some ?_
        have h16:out'.length≤16:=by simp at h;omega
        exact⟨hG2.stop hst hp12 ho.1 h16,hM,by show more.length≤2*(i+1);omega⟩
      ·have hst:¬u6 t frm hi p:=by
        intro h;rcases h with h | h
        ·rw[decide_eq_true h] at hs
         cases hs
        ·rw[h] at hs
         simp at hs
       refine Wp.cnd (fun _=>Wp.some rfl) fun h12=> ?_
       have hp12':p.length≠12:=by intro h;rw[h] at h12;cases h12
       refine Wp.bnd (Q:=fun m=>m=more++(D2 t (N4 p)).map (fun k=>p++[k])) ?_ fun m hm=> ?_
       ·refine Wp.AJ6 (fun s:List (List Int)×Int=>∃k:Nat,k≤(D2 t (N4 p)).length∧s=(more++((D2 t (N4 p)).take k).map (fun k=>p++[k]),(k:Int))) (fun s=>(((D2 t (N4 p)).length:Int)-s.2).toNat) ?_ ⟨0,by omega,by simp⟩
        rintro s ⟨k,hk,rfl⟩
        have hnl:=hseg.2.2.1;refine Wp.cnd (fun hc=> ?_) fun hc=> ?_
        ·have hklt:k<(D2 t (N4 p)).length:=by simpa using hc
         have hwk:Fj7 .i64 ((k:Int)+1)=((k+1:Nat):Int):=by rw[Fk1];omega
         refine Wp.chk (by simp only[Fj4,decide_eq_true_eq];omega) (Wp.chk (by simp only[Fk7,decide_eq_true_eq];omega) (Wp.chk (by simp only[Fj1,Fj4,decide_eq_true_eq];omega) (Wp.chk (by simp only[Fj5,Fl1,List.length_take,Fj1,Fj4,decide_eq_true_eq];omega) (Wp.some ⟨⟨k+1,by omega,?_⟩,by simp only[hwk];omega⟩))))
         simp only[Fj8,hwk,List.append_assoc];rw[← r8 (d:=(0:Int)) hklt,List.map_append];rfl
        ·have hkl:k=(D2 t (N4 p)).length:=by
          simp at hc;omega
         subst hkl;rw[Fk4];exact Wp.some rfl
       ·refine Wp.some ⟨hG2.go hst hp12' fun x=> ?_,fun x hx=> ?_,?_⟩
        ·rw[hm]
         simp only[Fj6,Fk0];constructor
         ·rintro ((h |⟨k,hk,rfl⟩) | h)
          ·exact .inl (.inl h)
          ·exact .inr ⟨k,hk,rfl⟩
          ·exact .inl (.inr h)
         ·rintro ((h | h) |⟨k,hk,rfl⟩)
          ·exact .inl (.inl h)
          ·exact .inr h
          ·exact .inl (.inr ⟨k,hk,rfl⟩)
        ·rw[hm] at hx
         rcases Fj6.1 hx with hx | hx
         ·exact hM x hx
         ·obtain⟨k,hk,rfl⟩:=Fk0.1 hx
          refine⟨BT9 ht hon hp12' hk,?_⟩;rw[Fj5];simp only[Fj1,Fj4];omega
        ·rw[hm,Fj5,Fl1]
         have:=hseg.2.2.1;omega
     ·rcases z with z | z
      ·exact Wp.some hz
      ·refine Wp.some ?_
       simp only[hwi];exact⟨⟨i+1,by omega,rfl,hz.1,hz.2.1,hz.2.2⟩,by simp only;omega⟩
    ·have hil:i=todo.length:=by
      simp at hc;omega
     subst hil;rw[List.drop_length,List.append_nil] at hG;exact Wp.some ⟨hG,hM,hml⟩
   ·rcases z with z | z
    ·exact Wp.some hz
    ·refine Wp.some ?_
     simp only[hw];refine⟨⟨n+1,by omega,rfl,hz.1,fun p hp=>⟨(hz.2.1 p hp).1,by have:=(hz.2.1 p hp).2;omega⟩,?_⟩,by simp only;omega⟩
     have:=hz.2.2;rw[Nat.pow_succ];simp only;omega
  ·have hn13:n=13:=by
    have:¬(n:Int)<13:=by simpa using hc
    omega
   subst hn13;have hnil:todo=[]:=by
    cases todo with
    |nil=>rfl
    |cons p r=>
     have h1:=hT p (by simp)
     have h2:=h1.1.2.1;omega
   subst hnil;exact Wp.some hG
 ·rcases z with z | z
  ·have hz:z.2.1=13:=hz
   refine Wp.some fun h=> ?_
   rw[show z.2.1=0 from h] at hz;cases hz
  ·have hz:T6 t frm lo hi L z.2.1 []:=hz
   refine Wp.cnd (fun _=>Wp.some fun h=>absurd h (show ¬(40:Int)=0 by decide)) fun hc=>Wp.some fun _=>⟨hc1.1,hc1.2,rfl,?_,hz.few,hz.on,fun q=>by rw[← hz.all q];simp,fun p hp hd=> ?_⟩
   ·intro h
    have h:z.2.1=[]:=h;rw[h] at hc;cases hc
   ·obtain⟨x,hx,_⟩:=hz.deep ⟨p,hp,hd⟩
    cases hx
end Go.Proofs.YthfjpkdadjemcaaGreat
