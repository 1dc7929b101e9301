/- What came in a cycle, sorted. -/
import Derived.Test.YthfjpkdadjemcaaGreatTDE
import Derived.Test.YthfjpkdadjemcaaGreatCrcM
import Derived.Test.YthfjpkdadjemcaaGreatImM
import Derived.Test.YthfjpkdadjemcaaGreatTrM
import Derived.Test.YthfjpkdadjemcaaGreatTopK
set_option linter.unusedSimpArgs false
set_option linter.unusedVariables false
namespace Go.Proofs.YthfjpkdadjemcaaGreat
open Go Go.RowKit
open _root_.Bool renaming and_eq_true → FX7, or_eq_true → FX9, and_self → FY3, not_eq_true' → FY5
open _root_.Option renaming bind_some → FX8
open _root_.Int renaming toNat_natCast → FY0
open Go.IntKind renaming wrap → FY1
open _root_.List renaming take_of_length_le → FY2, getElem?_eq_getElem → FY4
def CK7 (m:Mal)(k:Int):Bool:=if k=1 then m.1.2.1 else if k=2 then m.1.2.2.1 else if k=3 then m.1.2.2.2.1 else if k=4 then m.1.2.2.2.2.1 else m.1.2.2.2.2.2
def BU0 (m:Mal)(k v:Int):Mal:=
 if k=1 then ((m.1.1,true,m.1.2.2),(m.2.1.1,v,m.2.1.2.2),m.2.2)
 else if k=2 then ((m.1.1,m.1.2.1,true,m.1.2.2.2),(m.2.1.1,m.2.1.2.1,v,m.2.1.2.2.2),m.2.2)
 else if k=3 then ((m.1.1,m.1.2.1,m.1.2.2.1,true,m.1.2.2.2.2),(m.2.1.1,m.2.1.2.1,m.2.1.2.2.1,v,m.2.1.2.2.2.2),m.2.2)
 else if k=4 then ((m.1.1,m.1.2.1,m.1.2.2.1,m.1.2.2.2.1,true,m.1.2.2.2.2.2),(m.2.1.1,m.2.1.2.1,m.2.1.2.2.1,m.2.1.2.2.2.1,v,m.2.1.2.2.2.2.2),m.2.2)
 else ((m.1.1,m.1.2.1,m.1.2.2.1,m.1.2.2.2.1,m.1.2.2.2.2.1,true),(m.2.1.1,m.2.1.2.1,m.2.1.2.2.1,m.2.1.2.2.2.1,m.2.1.2.2.2.2.1,v),m.2.2)
def C8 (seq:Int)(m:Mal)(b:List Int):Mal:=
 if (O8 b).2≠0 then (m.1,m.2.1,FY1 .i64 (m.2.2.1+1),m.2.2.2)
 else if (O8 b).1.2.1≠seq then (m.1,m.2.1,m.2.2.1,FY1 .i64 (m.2.2.2.1+1),m.2.2.2.2)
 else if CK7 m (O8 b).1.1=true then (m.1,m.2.1,m.2.2.1,m.2.2.2.1,FY1 .i64 (m.2.2.2.2.1+1),m.2.2.2.2.2)
 else BU0 m (O8 b).1.1 (O8 b).1.2.2
theorem EW8 (b:List Int)(h:(O8 b).2=0):(O8 b).1.1=1∨(O8 b).1.1=2∨(O8 b).1.1=3∨(O8 b).1.1=4∨(O8 b).1.1=5:=by
 unfold O8 at h ⊢;split at h
 ·exact absurd h (by decide)
 ·rename_i h1
  rw[if_neg h1];split at h
  ·exact absurd h (by decide)
  ·rename_i h2
   rw[if_neg h2];split at h
   ·exact absurd h (by decide)
   ·rename_i h3
    rw[if_neg h3];split at h
    ·exact absurd h (by decide)
    ·rename_i h4
     rw[if_neg h4];have:=Ap1 (b.getD 0 0);show b.getD 0 0=1∨_;simp only;omega
set_option maxRecDepth 10000 in
theorem EW9 (seq:Int)(b:List Int)(hb:Bytes b)(hl:b.length≤140737488355328)(m:Mal):AU4 seq b m.1.1 m.1.2.1 m.1.2.2.1 m.1.2.2.2.1 m.1.2.2.2.2.1 m.1.2.2.2.2.2 m.2.1.1 m.2.1.2.1 m.2.1.2.2.1 m.2.1.2.2.2.1 m.2.1.2.2.2.2.1 m.2.1.2.2.2.2.2 m.2.2.1 m.2.2.2.1 m.2.2.2.2.1 m.2.2.2.2.2=some ((C8 seq m b).1.1,(C8 seq m b).1.2.1,(C8 seq m b).1.2.2.1,(C8 seq m b).1.2.2.2.1,(C8 seq m b).1.2.2.2.2.1,(C8 seq m b).1.2.2.2.2.2,(C8 seq m b).2.1.1,(C8 seq m b).2.1.2.1,(C8 seq m b).2.1.2.2.1,(C8 seq m b).2.1.2.2.2.1,(C8 seq m b).2.1.2.2.2.2.1,(C8 seq m b).2.1.2.2.2.2.2,(C8 seq m b).2.2.1,(C8 seq m b).2.2.2.1,(C8 seq m b).2.2.2.2.1,(C8 seq m b).2.2.2.2.2):=by
 unfold AU4;rw[ET7 b hb hl];simp only[FX8];generalize hT:C8 seq m b=T;unfold C8 at hT;by_cases h1:(O8 b).2=0
 ·rw[if_neg (by simpa using h1)] at hT
  have hk:=EW8 b h1;have e1:((O8 b).2 != (0:Int))=false:=by simp[h1]
  rw[e1];generalize (O8 b).1=f at hT hk;obtain⟨k,sq,v⟩:=f;simp only at hT hk;by_cases h2:sq=seq
  ·rw[if_neg (by simpa using h2)] at hT
   have e2:(sq != seq)=false:=by simp[h2]
   simp only[cond_false,e2];obtain⟨⟨a0,a1,a2,a3,a4,a5⟩,⟨v0,v1,v2,v3,v4,v5⟩,⟨q0,q1,q2,q3⟩⟩:=m;rcases hk with rfl | rfl | rfl | rfl | rfl
   ·cases a1 <;> (subst hT;rfl)
   ·cases a2 <;> (subst hT;rfl)
   ·cases a3 <;> (subst hT;rfl)
   ·cases a4 <;> (subst hT;rfl)
   ·cases a5 <;> (subst hT;rfl)
  ·rw[if_pos (by simpa using h2)] at hT
   subst hT;have e2:(sq != seq)=true:=by simp[h2]
   simp only[cond_false,e2,cond_true,FX8]
 ·rw[if_pos (by simpa using h1)] at hT
  subst hT;have e1:((O8 b).2 != (0:Int))=true:=by simp[h1]
  simp only[e1,cond_true,FX8]
theorem AX0 {S X Y:Type}{f:S→Option (S ⊕ X)}{init:S}{k:X→Option Y}{y:Y}(n:Nat)(st:Nat→S)(x:X)(hi:init=st 0)(h:∀i,i<n→f (st i)=some (.inl (st (i+1))))(he:f (st n)=some (.inr x))(hk:k x=some y):Option.bind (LP.lp f init) k=some y:=by rw[hi,R5 n st x h he];exact hk
def G2 (n:Int):Mal:=((false,false,false,false,false,false),(0,0,0,0,0,0),(0,0,0,n))
def F6 (list:List (List Int)):Int:=FY1 .i64 ((list.length:Int)-(if (32:Int)<(list.length:Int) then (32:Int) else (list.length:Int)))
def Ae9 (cy:Int)(list:List (List Int)):Mal:=(list.take 32).foldl (C8 (bits .i64 .and cy 255)) (G2 (F6 list))
theorem EX0 {α β:Type}(f:β→α→β){l:List α}{k:Nat}(d:α)(b:β)(h:k<l.length):(l.take (k+1)).foldl f b=f ((l.take k).foldl f b) (l.getD k d):=by rw[← BA4 (d:=d) h,List.foldl_append];rfl
set_option maxRecDepth 10000 in
theorem CK8 (cy:Int)(list:List (List Int))(hb:∀b∈list,Bytes b∧b.length≤140737488355328):AN5 cy list=some (Ae9 cy list):=by
 unfold AN5;have hn:((list.take (if (32:Int)<(list.length:Int) then (32:Int) else (list.length:Int)).toNat).drop (0:Int).toNat)=list.take 32:=by
  by_cases h:(32:Int)<(list.length:Int)
  ·rw[if_pos h];rfl
  ·rw[if_neg h,FY0,FY2 (Nat.le_refl _),FY2 (by omega)];rfl
 have hc:(true&&(decide ((0:Int)≤(if (32:Int)<(list.length:Int) then (32:Int) else (list.length:Int))))&&(decide ((if (32:Int)<(list.length:Int) then (32:Int) else (list.length:Int))≤(list.length:Int))))=true:=by simp only[Bool.true_and,FX7,decide_eq_true_eq];split <;> omega
 simp only[hn,hc,R1];generalize hL:list.take 32=L;have hbL:∀b∈L,Bytes b∧b.length≤140737488355328:=fun b h=>hb b (by rw[← hL] at h;exact List.mem_of_mem_take h)
 have hlen:L.length≤32:=by rw[← hL,List.length_take];omega
 refine AX0 L.length (fun i=>(((L.take i).foldl (C8 (bits .i64 .and cy 255)) (G2 (F6 list))).1.2.2.2.2.1,((L.take i).foldl (C8 (bits .i64 .and cy 255)) (G2 (F6 list))).1.2.1,((L.take i).foldl (C8 (bits .i64 .and cy 255)) (G2 (F6 list))).2.1.2.1,((L.take i).foldl (C8 (bits .i64 .and cy 255)) (G2 (F6 list))).2.2.2.2.2,((L.take i).foldl (C8 (bits .i64 .and cy 255)) (G2 (F6 list))).2.1.2.2.2.2.1,((L.take i).foldl (C8 (bits .i64 .and cy 255)) (G2 (F6 list))).2.2.2.1,((L.take i).foldl (C8 (bits .i64 .and cy 255)) (G2 (F6 list))).1.2.2.1,((L.take i).foldl (C8 (bits .i64 .and cy 255)) (G2 (F6 list))).1.2.2.2.2.2,((L.take i).foldl (C8 (bits .i64 .and cy 255)) (G2 (F6 list))).2.1.2.2.2.2.2,((L.take i).foldl (C8 (bits .i64 .and cy 255)) (G2 (F6 list))).2.1.2.2.1,((L.take i).foldl (C8 (bits .i64 .and cy 255)) (G2 (F6 list))).2.2.2.2.1,((L.take i).foldl (C8 (bits .i64 .and cy 255)) (G2 (F6 list))).1.1,((L.take i).foldl (C8 (bits .i64 .and cy 255)) (G2 (F6 list))).1.2.2.2.1,((L.take i).foldl (C8 (bits .i64 .and cy 255)) (G2 (F6 list))).2.1.2.2.2.1,((L.take i).foldl (C8 (bits .i64 .and cy 255)) (G2 (F6 list))).2.1.1,((L.take i).foldl (C8 (bits .i64 .and cy 255)) (G2 (F6 list))).2.2.1,(i:Int))) (((L.take L.length).foldl (C8 (bits .i64 .and cy 255)) (G2 (F6 list))).1.2.2.2.2.1,((L.take L.length).foldl (C8 (bits .i64 .and cy 255)) (G2 (F6 list))).1.2.1,((L.take L.length).foldl (C8 (bits .i64 .and cy 255)) (G2 (F6 list))).2.1.2.1,((L.take L.length).foldl (C8 (bits .i64 .and cy 255)) (G2 (F6 list))).2.2.2.2.2,((L.take L.length).foldl (C8 (bits .i64 .and cy 255)) (G2 (F6 list))).2.1.2.2.2.2.1,((L.take L.length).foldl (C8 (bits .i64 .and cy 255)) (G2 (F6 list))).2.2.2.1,((L.take L.length).foldl (C8 (bits .i64 .and cy 255)) (G2 (F6 list))).1.2.2.1,((L.take L.length).foldl (C8 (bits .i64 .and cy 255)) (G2 (F6 list))).1.2.2.2.2.2,((L.take L.length).foldl (C8 (bits .i64 .and cy 255)) (G2 (F6 list))).2.1.2.2.2.2.2,((L.take L.length).foldl (C8 (bits .i64 .and cy 255)) (G2 (F6 list))).2.1.2.2.1,((L.take L.length).foldl (C8 (bits .i64 .and cy 255)) (G2 (F6 list))).2.2.2.2.1,((L.take L.length).foldl (C8 (bits .i64 .and cy 255)) (G2 (F6 list))).1.1,((L.take L.length).foldl (C8 (bits .i64 .and cy 255)) (G2 (F6 list))).1.2.2.2.1,((L.take L.length).foldl (C8 (bits .i64 .and cy 255)) (G2 (F6 list))).2.1.2.2.2.1,((L.take L.length).foldl (C8 (bits .i64 .and cy 255)) (G2 (F6 list))).2.1.1,((L.take L.length).foldl (C8 (bits .i64 .and cy 255)) (G2 (F6 list))).2.2.1) rfl ?_ ?_ ?_
 ·intro i hi
  have e1:(decide ((i:Int)<(L.length:Int)))=true:=by simpa using hi
  have e2:(decide ((0:Int)≤(i:Int)))=true:=by simp
  have hm:L.getD i []∈L:=by simp[List.getD,hi]
  have e3:=EW9 (bits .i64 .and cy 255) (L.getD i []) (hbL _ hm).1 (hbL _ hm).2 ((L.take i).foldl (C8 (bits .i64 .and cy 255)) (G2 (F6 list)));have e4:=p7 i (by omega)
  have e5:=EX0 (C8 (bits .i64 .and cy 255)) [] (G2 (F6 list)) hi;simp only[e1,e2,cond_true,FY3,R1,FY0,e3,FX8,e4,e5]
 ·have e1:(decide ((L.length:Int)<(L.length:Int)))=false:=by simp
  simp only[e1,cond_false]
 ·unfold Ae9
  rw[hL,FY2 (Nat.le_refl _)]

/- A unit begins in a good state; its cycles have answers. -/
theorem BC0 {t:TkD}(h:(P3 t).1=0):R2 t:=by
 obtain⟨h0,h1,h2,_,_⟩:=BB8 h;refine⟨fun h3=>by rw[h3] at h0;exact absurd h0 (by simp),h1,h2,fun x hx=> ?_,fun g hg=> ?_⟩
 ·have hs:=CK4 h x hx
  unfold R3 AI5 at hs;simp only[FX7,decide_eq_true_eq,List.all_eq_true] at hs;obtain⟨⟨⟨⟨a1,a2⟩,⟨⟨⟨b1,b2⟩,b3⟩,b4⟩⟩,c1⟩,d1⟩:=hs;refine⟨fun h3=>by rw[h3] at b1;exact absurd b1 (by simp),b2,c1,fun n hn=> ?_⟩
  obtain⟨i,hi,rfl⟩:=List.mem_iff_getElem.1 hn;have:=d1 i (List.mem_range.2 hi);unfold AP0 at this;simp only[FX7,decide_eq_true_eq] at this;rw[Y3 hi] at this;exact this.1
 ·obtain⟨i,hs⟩:=EW2 h g hg
  unfold R4 at hs;simp only[FX7,decide_eq_true_eq] at hs;exact⟨hs.1.1.2,hs.1.2⟩
theorem EX1 {b:List Int}(h:(AI7 b).2=0):(P3 (AI7 b).1).1=0:=by
 unfold AI7 at h ⊢;split at h
 ·exact absurd h (by decide)
 ·rename_i h1
  rw[if_neg h1];split at h
  ·exact absurd h (by decide)
  ·rename_i h2
   rw[if_neg h2];split at h
   ·exact absurd h (by decide)
   ·rename_i h3
    rw[if_neg h3];split at h
    ·exact absurd h (by decide)
    ·rename_i h4
     rw[if_neg h4];split at h
     ·exact absurd h (by decide)
     ·rename_i h5
      rw[if_neg h5];apply Classical.byContradiction;exact h5
theorem EX2 {t:TkD}(h:(P3 t).1=0):t.1.length≤200→∀s∈t.1,s.2.1.length≤big∧s.2.2.length≤big:=by intro _ s hs;have:=(BC0 h).seg s hs;unfold big;omega
theorem EX3 (c:Cfg)(t:TkD)(h:(P3 t).1=0):Tot (AM0 c t):=by
 unfold AM0;have ht:=BC0 h;have hn:=ht.n2;refine Tot.bnd (EK4 c) fun e=>Tot.cnd Tot.some ?_
 rw[CH0 t (EX2 h)];simp only[FX8];refine Tot.cnd Tot.some (Tot.bnd ?_ fun z=> ?_)
 ·refine Tot.loop (fun i=>0≤i∧i≤(t.2.length:Int)) (fun i=>((t.2.length:Int)-i).toNat) ?_ ⟨by simp,by simp⟩
  rintro i ⟨h0,h1⟩
  refine Wp.cnd (fun hc=> ?_) fun _=>Wp.some trivial
  have hi:i<(t.2.length:Int):=by simpa using hc
  have hw:=L9 h0 hi (by omega)
  have hg:=ht.grp _ (T3 (d:=(0,0,0,0,0)) h0 hi);refine Wp.chk (by simp only[FX7,decide_eq_true_eq];exact⟨h0,hi⟩) (Wp.chk (by simp only[FX7,decide_eq_true_eq];exact hg) (Wp.bnd (CE6 _ _).wpT fun _ _=>Wp.cnd (fun _=>Wp.some trivial) fun _=>Wp.some ?_))
  simp only[hw];exact⟨⟨by omega,by omega⟩,by omega⟩
 ·rcases z with z | z <;> exact Tot.some
theorem EX4 (c:Cfg)(t:TkD)(hs:t.1.length≤200→∀s∈t.1,s.2.1.length≤big∧s.2.2.length≤big):Wp (AG1 c t) fun e=>e.1=0→(P3 t).1=0:=by
 unfold AG1;rw[EQ5 c,ER3 t hs];simp only[FX8];refine Wp.cnd (fun _=>Wp.some fun h=>absurd h (by decide)) fun _=>Wp.cnd (fun _=>Wp.some fun h=>absurd h (by decide)) fun hc=> ?_
 have h:(P3 t).1=0:=by simpa using hc
 have ht:=BC0 h;have hn:=ht.n2;refine Wp.bnd (Q:=fun _=>True) ?_ fun z _=> ?_
 ·refine Wp.loop (fun i=>0≤i∧i≤(t.2.length:Int)) (fun i=>((t.2.length:Int)-i).toNat) ?_ ⟨by simp,by simp⟩
  rintro i ⟨h0,h1⟩
  refine Wp.cnd (fun hc=> ?_) fun _=>Wp.some trivial
  have hi:i<(t.2.length:Int):=by simpa using hc
  have hw:=L9 h0 hi (by omega)
  have hg:=ht.grp _ (T3 (d:=(0,0,0,0,0)) h0 hi);refine Wp.chk (by simp only[FX7,decide_eq_true_eq];exact⟨h0,hi⟩) (Wp.chk ?_ (Wp.cnd (fun _=>Wp.some trivial) fun _=>Wp.some ?_))
  ·simp only[FX9,FX7,decide_eq_true_eq];exact .inl hg
  ·simp only[hw];exact⟨⟨by omega,by omega⟩,by omega⟩
 ·rcases z with z | z
  ·exact Wp.some fun _=>h
  ·exact Wp.some fun _=>h
theorem EX5 (t:TkD)(ht:R2 t):Tot (AM2 t):=by
 unfold AM2;have hn:=ht.n1;have h0:0<t.1.length:=by
  cases h:t.1 with
  |nil=>exact absurd h ht.ne
  |cons a l=>simp
 have hm:=ht.seg _ (T3 (l:=t.1) (i:=0) (d:=(0,[],[])) (by omega) (by omega))
 have h1:0<(t.1.getD (0:Int).toNat (0,[],[])).2.1.length:=by
  cases h:(t.1.getD (0:Int).toNat (0,[],[])).2.1 with
  |nil=>exact absurd h hm.1
  |cons a l=>simp
 refine Tot.chk (by simp;omega) (Tot.chk (by simp only[Bool.true_and,decide_eq_true_eq];omega) (Tot.bnd (BR1 _) fun _=>Tot.bnd ?_ fun _=>Tot.some))
 refine Tot.loop (fun z=>0≤z.2.1∧z.2.1≤(t.1.length:Int)) (fun z=>((t.1.length:Int)-z.2.1).toNat) ?_ ⟨by simp,by simp⟩
 rintro⟨a,i,b⟩ ⟨h0,h1⟩
 refine Wp.cnd (fun hc=> ?_) fun _=>Wp.some trivial
 have hi:i<(t.1.length:Int):=by simpa using hc
 have h0':0≤i:=h0;have hw:=L9 h0' hi (by omega)
 have hm:=ht.seg _ (T3 (d:=(0,[],[])) h0' hi);refine Wp.chk (by simp only[hw,FX9,FX7,decide_eq_true_eq,FY5,decide_eq_false_iff_not];omega) (Wp.bnd (CF0 (t.1.getD i.toNat (0,[],[])).2.1 _ (by omega)).wpT fun _ _=>Wp.bnd (BR2 _ _).wpT fun _ _=>Wp.some ?_)
 simp only[hw];exact⟨⟨by omega,by omega⟩,by omega⟩
theorem EX6 (t:TkD)(ht:R2 t):Wp (AM3 t) fun en=>en.length=t.1.length:=by
 unfold AM3;have hn:=ht.n1;refine Wp.chk ?_ (Wp.bnd (Q:=fun en=>en.length=t.1.length) ?_ fun en hen=>Wp.bnd (Q:=fun en=>en.length=t.1.length) ?_ fun _ h=>Wp.some h)
 ·simp only[FX7,decide_eq_true_eq];omega
 ·refine Wp.loop (fun z=>0≤z.2∧z.2≤(t.1.length:Int)∧z.1.length=t.1.length) (fun z=>((t.1.length:Int)-z.2).toNat) ?_ ⟨by simp,by simp,by simp⟩
  rintro⟨o,i⟩ ⟨h0,h1,h2⟩
  refine Wp.cnd (fun hc=> ?_) fun _=>Wp.some h2
  have hi:i<(t.1.length:Int):=by simpa using hc
  have h0':0≤i:=h0;have h2':o.length=t.1.length:=h2;have hw:=L9 h0' hi (by omega)
  refine Wp.chk (by simp only[hw,FX9,FX7,decide_eq_true_eq,FY5,decide_eq_false_iff_not];omega) (Wp.bnd (Q:=fun o2=>o2.length=t.1.length) ?_ fun o2 h=>Wp.some ?_)
  ·exact Wp.cnd (fun _=>Wp.chk (by simp only[FX7,decide_eq_true_eq];omega) (Wp.some (by simp[h2']))) fun _=>Wp.some h2'
  ·simp only[hw];exact⟨⟨by omega,by omega,h⟩,by omega⟩
 ·refine Wp.loop (fun z=>0≤z.1∧z.1≤(t.1.length:Int)∧z.2.length=t.1.length) (fun z=>((t.1.length:Int)-z.1).toNat) ?_ ⟨by simp,by simp,hen⟩
  rintro⟨i,o⟩ ⟨h0,h1,h2⟩
  refine Wp.cnd (fun hc=> ?_) fun _=>Wp.some h2
  have hi:i<(t.1.length:Int):=by simpa using hc
  have h0':0≤i:=h0;have h2':o.length=t.1.length:=h2;have hw:=L9 h0' hi (by omega)
  refine Wp.bnd (Q:=fun o2=>o2.length=t.1.length) ?_ fun o2 h=>Wp.some ?_
  ·refine Wp.loop (fun z=>0≤z.1∧z.1≤(t.1.length:Int)∧z.2.length=t.1.length) (fun z=>((t.1.length:Int)-z.1).toNat) ?_ ⟨by simp,by simp,h2'⟩
   rintro⟨j,o3⟩ ⟨j0,j1,j2⟩
   refine Wp.cnd (fun hc=> ?_) fun _=>Wp.some j2
   have hj:j<(t.1.length:Int):=by simpa using hc
   have j0':0≤j:=j0;have j2':o3.length=t.1.length:=j2;have hw3:=L9 j0' hj (by omega)
   have hm:=ht.seg _ (T3 (d:=(0,[],[])) j0' hj);refine Wp.chk (by simp only[FX7,decide_eq_true_eq];exact⟨j0',hj⟩) ?_
   simp only;generalize t.1.getD j.toNat (0,[],[])=x at hm;refine Wp.bnd (Q:=fun o2=>o2.length=t.1.length) ?_ fun o2 h=>Wp.some ?_
   ·refine Wp.loop (fun z=>0≤z.1∧z.1≤(x.2.2.length:Int)∧z.2.length=t.1.length) (fun z=>((x.2.2.length:Int)-z.1).toNat) ?_ ⟨by simp,by simp,j2'⟩
    rintro⟨k,o4⟩ ⟨k0,k1,k2⟩
    refine Wp.cnd (fun hc=> ?_) fun _=>Wp.some k2
    have hk:k<(x.2.2.length:Int):=by simpa using hc
    have k0':0≤k:=k0;have k2':o4.length=t.1.length:=k2;have hw4:=L9 k0' hk (by omega)
    have hx:=hm.2.2.2 _ (T3 (d:=(0:Int)) k0' hk);refine Wp.bnd (Q:=fun o2=>o2.length=t.1.length) ?_ fun o2 h=>Wp.some ?_
    ·refine Wp.chk (by simp only[FX7,decide_eq_true_eq];exact⟨k0',hk⟩) (Wp.chk (by simp only[FX7,decide_eq_true_eq,k2'];exact hx) (Wp.chk (by simp only[FX7,decide_eq_true_eq];exact hx) (Wp.chk (by simp only[FX7,decide_eq_true_eq,k2'];exact hx) (Wp.chk (by simp only[FX9,FX7,decide_eq_true_eq,k2'];exact .inl ⟨j0',hj⟩) ?_))))
     have hset:∀(b:Bool) (v:Int),Wp (Option.bind (bif b then chk none ((decide ((0:Int)≤j))&&(decide (j<(o4.length:Int)))) (some (o4.set j.toNat v)) else some o4) fun r=>some r) fun o2=>o2.length=t.1.length:=by
      intro b v;refine Wp.bnd (Q:=fun o2=>o2.length=t.1.length) ?_ fun _ h=>Wp.some h
      exact Wp.cnd (fun _=>Wp.chk (by simp only[FX7,decide_eq_true_eq,k2'];exact⟨j0',hj⟩) (Wp.some (by simp[k2']))) fun _=>Wp.some k2'
     refine Wp.cnd (fun _=>Wp.chk (by simp only[FX9,FX7,decide_eq_true_eq,k2'];exact .inl ⟨j0',hj⟩) (Wp.cnd (fun _=>hset _ _) fun _=>hset _ _)) fun _=> ?_
     first
      |exact hset _ _
      |exact Wp.chk (by simp only[FX9,FX7,decide_eq_true_eq,k2'];exact .inl ⟨j0',hj⟩) (hset _ _)
      |exact Wp.chk (by simp only[FX9,FX7,decide_eq_true_eq,k2'];exact .inl ⟨j0',hj⟩) (Wp.cnd (fun _=>hset _ _) fun _=>hset _ _)
    ·simp only[hw4];exact⟨⟨by omega,by omega,h⟩,by omega⟩
   ·simp only[hw3];exact⟨⟨by omega,by omega,h⟩,by omega⟩
  ·simp only[hw];exact⟨⟨by omega,by omega,h⟩,by omega⟩
theorem CK9:BA0.broken=false→AD7 BA0:=fun h=>absurd h (by decide)
theorem EX7 (c:Cfg)(img:List Int)(hb:ByL img):Wp (AW4 c img) fun s=>s.C6=0∧(s.broken=false→AD7 s)∧s.k0=(false,0,0)∧s.k1=(false,0,0):=by
 unfold AW4;rw[EV6 img hb];simp only[FX8];by_cases h0:(AI7 img).2=0
 ·have hc:=EX1 h0
  have ht:=BC0 hc;have e0:((AI7 img).2==(0:Int))=true:=by simp[h0]
  simp only[e0,cond_true];refine Wp.bnd (Tot.wpT (Tot.bnd (EX3 c _ hc) fun _=>Tot.some)) fun e _=>Wp.cnd (fun _=>Wp.some ⟨rfl,CK9,rfl,rfl⟩) fun _=> ?_
  refine Wp.bnd (EX5 _ ht).wpT fun g _=>Wp.bnd (EX6 _ ht) fun en hen=>Wp.bnd (BR3 _).wpT fun _ _=>Wp.bnd (BR3 _).wpT fun _ _=>Wp.bnd (CB2 _).wpT fun _ _=>Wp.some ⟨rfl,fun _=>⟨ht,hen,Ao7 _ _ rfl⟩,rfl,rfl⟩
 ·have e0:((AI7 img).2==(0:Int))=false:=by simpa using h0
  have e1:((AI7 img).2 != (0:Int))=true:=by simpa using h0
  simp only[e0,cond_false,FX8,e1,cond_true];exact Wp.some ⟨rfl,CK9,rfl,rfl⟩
def SOK (s:C2):Prop:=s.broken=false→AD7 s
def FOK (l:List (List Int)):Prop:=∀b∈l,Bytes b∧b.length≤140737488355328
theorem CL0 (list:List (List Int))(cmd:Bool)(s:C2)(hs:SOK s)(hl:FOK list):Wp (U6 list cmd s) fun y=>AI4 y.1∧SOK y.2∧y.2.broken=s.broken∧y.2.C6=FY1 .i64 (s.C6+1):=by
 unfold U6;cases hb:s.broken with
 |true=>
  have h3:AI4 (Ao6 s.C6):=⟨by simp[Ao6],by simp[Ao6]⟩
  refine Wp.some ⟨h3,?_,rfl,rfl⟩;intro h;cases h
 |false=>
  rw[CK8 s.C6 list hl];simp only[cond_false,FX8];have hn:=hs hb;have h5:=EP4 (Ae9 s.C6 list) cmd s.C6 {s with C6:=FY1 .i64 (s.C6+1),broken:=false} ⟨hn.t,hn.ends,hn.p⟩;exact Wp.mono h5 fun y hy=>⟨hy.1,fun _=>hy.2.1,hy.2.2.1,hy.2.2.2⟩
theorem CL1:∀(l:List Cyc) (s:C2),SOK s→(∀x∈l,FOK x.1)→Wp (goN s l) fun rs=>rs.length=l.length∧∀r∈rs,AI4 r
 | [],s,_,_=>⟨[],rfl,rfl,by simp⟩
 |x::xs,s,hs,hl=>by
  rw[goN];refine Wp.bnd (CL0 x.1 x.2 s hs (hl x (by simp))) fun y hy=>Wp.bnd (CL1 xs y.2 hy.2.1 fun z hz=>hl z (by simp[hz])) fun rs hr=>Wp.some ⟨by simp[hr.1],fun r h=> ?_⟩
  rcases List.mem_cons.1 h with rfl | h
  ·exact hy.1
  ·exact hr.2 r h

/- What is told of a cycle doesn't depend on what comes behind it. -/
def CL2 (r:D0)(q:Int×(Int×(Int×Int))):D0:=(r.1,r.2.1,r.2.2.1,r.2.2.2.1,r.2.2.2.2.1,r.2.2.2.2.2.1,r.2.2.2.2.2.2.1,r.2.2.2.2.2.2.2.1,r.2.2.2.2.2.2.2.2.1,r.2.2.2.2.2.2.2.2.2.1,r.2.2.2.2.2.2.2.2.2.2.1,r.2.2.2.2.2.2.2.2.2.2.2.1,r.2.2.2.2.2.2.2.2.2.2.2.2.1,r.2.2.2.2.2.2.2.2.2.2.2.2.2.1,r.2.2.2.2.2.2.2.2.2.2.2.2.2.2.1,r.2.2.2.2.2.2.2.2.2.2.2.2.2.2.2.1,r.2.2.2.2.2.2.2.2.2.2.2.2.2.2.2.2.1,r.2.2.2.2.2.2.2.2.2.2.2.2.2.2.2.2.2.1,r.2.2.2.2.2.2.2.2.2.2.2.2.2.2.2.2.2.2.1,r.2.2.2.2.2.2.2.2.2.2.2.2.2.2.2.2.2.2.2.1,r.2.2.2.2.2.2.2.2.2.2.2.2.2.2.2.2.2.2.2.2.1,q)
theorem BU1 (a:Int):(a != a)=false:=by simp
theorem EX8 (x:Int×Int):eqT (.agg (.pair (.int .i64) (.int .i64))) x x=true:=by show (decide (x.1=x.1)&&decide (x.2=x.2))=true;simp
theorem EX9 (x:(Int×Int)×(Int×Int)):eqT (.agg (.pair (.agg (.pair (.int .i64) (.int .i64))) (.agg (.pair (.int .i64) (.int .i64))))) x x=true:=by show ((decide (x.1.1=x.1.1)&&decide (x.1.2=x.1.2))&&(decide (x.2.1=x.2.1)&&decide (x.2.2=x.2.2)))=true;simp
set_option maxRecDepth 10000 in
theorem EY0 (a:D0)(q:Int×(Int×(Int×Int)))(h:AI4 a):Ao1 a (CL2 a q)=some true:=by
 unfold Ao1 CL2;simp only[BU1,EX8,cond_false,cond_true,Bool.not_true,beq_self_eq_true];obtain⟨h1,h2⟩:=h;refine AX0 a.2.2.2.2.2.2.2.2.1.length (fun i=>(i:Int)) (.inr ()) rfl ?_ ?_ ?_
 ·intro i hi
  have e1:(decide ((i:Int)<(a.2.2.2.2.2.2.2.2.1.length:Int)))=true:=by simpa using hi
  have e2:(decide ((0:Int)≤(i:Int)))=true:=by simp
  have hm:=h2 _ (T3 (l:=a.2.2.2.2.2.2.2.2.1) (i:=(i:Int)) (d:=[]) (by omega) (by omega))
  rw[FY0] at hm;simp only[e1,e2,cond_true,FY3,R1,FY0,BU1,cond_false];refine AX0 (a.2.2.2.2.2.2.2.2.1.getD i []).length (fun i=>(i:Int)) (.inr ()) rfl ?_ ?_ ?_
  ·intro k hk
   have e3:(decide ((k:Int)<((a.2.2.2.2.2.2.2.2.1.getD i []).length:Int)))=true:=by simpa using hk
   have e4:(decide ((0:Int)≤(k:Int)))=true:=by simp
   have e5:=p7 k (by omega)
   simp only[e3,e4,cond_true,FY3,R1,BU1,cond_false,e5]
  ·have e3:(decide (((a.2.2.2.2.2.2.2.2.1.getD i []).length:Int)<((a.2.2.2.2.2.2.2.2.1.getD i []).length:Int)))=false:=by simp
   simp only[e3,cond_false]
  ·have e5:=p7 i (by omega)
   simp only[e5]
 ·have e1:(decide ((a.2.2.2.2.2.2.2.2.1.length:Int)<(a.2.2.2.2.2.2.2.2.1.length:Int)))=false:=by simp
  simp only[e1,cond_false]
 ·have e6:=EX9 a.2.2.2.2.2.2.2.2.2.2.2.2.2.2.2.2.2.2.2.2.1
  simp only[cond_true]
  first
   |rfl
   |exact congrArg some e6
   | (rw[show eqT _ _ _=true from e6])
theorem EY1 {a b:List D0}(hl:a.length=b.length)(hn:a.length≤1000)(h:∀(i:Nat) (x y:D0),a[i]? = some x→b[i]? = some y→Ao1 x y=some true):Ao2 a b=some true:=by
 unfold Ao2;have e0:((a.length:Int)!=(b.length:Int))=false:=by simp[hl]
 simp only[e0,cond_false];refine AX0 a.length (fun i=>(i:Int)) (.inr ()) rfl ?_ ?_ rfl
 ·intro i hi
  have e1:(decide ((i:Int)<(a.length:Int)))=true:=by simpa using hi
  have e2:(decide ((0:Int)≤(i:Int)))=true:=by simp
  have e3:(decide ((i:Int)<(b.length:Int)))=true:=by simp;omega
  have hb:i<b.length:=by omega
  simp only[e1,e2,e3,cond_true,FY3,R1,FY0];have h1:=h i a[i] b[i] (FY4 hi) (FY4 hb);have e5:=p7 i (by omega)
  rw[Y3 hi,Y3 hb,h1];simp only[FX8,Bool.not_true,cond_false,e5]
 ·have e1:(decide ((a.length:Int)<(a.length:Int)))=false:=by simp
  simp only[e1,cond_false]
theorem EY2 {a:List D0}(hn:a.length≤1000)(h:∀r∈a,AI4 r):Ao2 a a=some true:=by
 refine EY1 rfl hn fun i x y hx hy=> ?_
 rw[hx] at hy;obtain rfl:=Option.some.inj hy;exact EY0 x x.2.2.2.2.2.2.2.2.2.2.2.2.2.2.2.2.2.2.2.2.2 (h x (List.mem_of_getElem? hx))
theorem EY3 (t:TkD)(l:List Cyc):Wp (Aj5 t l) fun b=>b=true→l.length≤120:=by
 unfold Aj5;refine Wp.cnd (fun _=>Wp.some fun h=>by cases h) fun hc=> ?_
 have hl:t.1.length≤50∧l.length≤120:=by simp at hc;omega
 refine Wp.bnd (Q:=fun _=>True) ?_ fun z _=> ?_
 ·refine Wp.loop (fun i=>0≤i∧i≤(t.1.length:Int)) (fun i=>((t.1.length:Int)-i).toNat) ?_ ⟨by simp,by simp⟩
  rintro i ⟨h0,h1⟩
  refine Wp.cnd (fun hc=> ?_) fun _=>Wp.some trivial
  have hi:i<(t.1.length:Int):=by simpa using hc
  have hw:=L9 h0 hi (by omega)
  refine Wp.chk (by simp only[FX7,decide_eq_true_eq];exact⟨h0,hi⟩) (Wp.chk (by simp only[FX9,FX7,decide_eq_true_eq];exact .inl ⟨h0,hi⟩) (Wp.cnd (fun _=>Wp.some trivial) fun _=>Wp.some ?_))
  simp only[hw];exact⟨⟨by omega,by omega⟩,by omega⟩
 ·rcases z with z | z
  ·exact Wp.some fun _=>hl.2
  ·refine Wp.bnd (Q:=fun _=>True) ?_ fun z _=> ?_
   ·refine Wp.loop (fun i=>0≤i∧i≤(l.length:Int)) (fun i=>((l.length:Int)-i).toNat) ?_ ⟨by simp,by simp⟩
    rintro i ⟨h0,h1⟩
    refine Wp.cnd (fun hc=> ?_) fun _=>Wp.some trivial
    have hi:i<(l.length:Int):=by simpa using hc
    have hw:=L9 h0 hi (by omega)
    refine Wp.chk (by simp only[FX7,decide_eq_true_eq];exact⟨h0,hi⟩) (Wp.cnd (fun _=>Wp.some trivial) fun hc2=>Wp.chk (by simp only[FX7,decide_eq_true_eq];exact⟨h0,hi⟩) (Wp.bnd (Q:=fun _=>True) ?_ fun z _=> ?_))
    ·have h40:(l.getD i.toNat ([],false)).1.length≤40:=by
      simp only[decide_eq_false_iff_not] at hc2;omega
     generalize (l.getD i.toNat ([],false)).1=y at h40;refine Wp.loop (fun i=>0≤i∧i≤(y.length:Int)) (fun i=>((y.length:Int)-i).toNat) ?_ ⟨by simp,by simp⟩
     rintro k ⟨k0,k1⟩
     refine Wp.cnd (fun hc=> ?_) fun _=>Wp.some trivial
     have hk:k<(y.length:Int):=by simpa using hc
     have hw:=L9 k0 hk (by omega)
     refine Wp.chk (by simp only[FX7,decide_eq_true_eq];exact⟨k0,hk⟩) (Wp.cnd (fun _=>Wp.some trivial) fun _=>Wp.some ?_)
     simp only[hw];exact⟨⟨by omega,by omega⟩,by omega⟩
    ·rcases z with z | z
     ·exact Wp.some trivial
     ·refine Wp.some ?_
      simp only[hw];exact⟨⟨by omega,by omega⟩,by omega⟩
   ·rcases z with z | z
    ·exact Wp.some fun _=>hl.2
    ·exact Wp.some fun _=>hl.2
end Go.Proofs.YthfjpkdadjemcaaGreat
