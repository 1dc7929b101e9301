/- What came in a cycle, sorted. -/
import Derived.Test.YthfjpkdadjemcaaGreatTDE
import Derived.Test.YthfjpkdadjemcaaGreatCrcM
import Derived.Test.YthfjpkdadjemcaaGreatImM
import Derived.Test.YthfjpkdadjemcaaGreatTrM
import Derived.Test.YthfjpkdadjemcaaGreatTopK
set_option linter.unusedSimpArgs false
set_option linter.unusedVariables false
namespace Go.Proofs.YthfjpkdadjemcaaGreat
open Go Go.RowKit
open _root_.Bool renaming and_eq_true → Fh1, or_eq_true → Fh3, not_eq_true' → Fh6
open _root_.Option renaming bind_some → Fh2
open Go.IntKind renaming wrap → Fh4
open _root_.List renaming take_of_length_le → Fh5
def CM5 (m:Mal)(k:Int):Bool:=if k=1 then m.1.2.1 else if k=2 then m.1.2.2.1 else if k=3 then m.1.2.2.2.1 else if k=4 then m.1.2.2.2.2.1 else m.1.2.2.2.2.2
def BT4 (m:Mal)(k v:Int):Mal:=
 if k=1 then ((m.1.1,true,m.1.2.2),(m.2.1.1,v,m.2.1.2.2),m.2.2)
 else if k=2 then ((m.1.1,m.1.2.1,true,m.1.2.2.2),(m.2.1.1,m.2.1.2.1,v,m.2.1.2.2.2),m.2.2)
 else if k=3 then ((m.1.1,m.1.2.1,m.1.2.2.1,true,m.1.2.2.2.2),(m.2.1.1,m.2.1.2.1,m.2.1.2.2.1,v,m.2.1.2.2.2.2),m.2.2)
 else if k=4 then ((m.1.1,m.1.2.1,m.1.2.2.1,m.1.2.2.2.1,true,m.1.2.2.2.2.2),(m.2.1.1,m.2.1.2.1,m.2.1.2.2.1,m.2.1.2.2.2.1,v,m.2.1.2.2.2.2.2),m.2.2)
 else ((m.1.1,m.1.2.1,m.1.2.2.1,m.1.2.2.2.1,m.1.2.2.2.2.1,true),(m.2.1.1,m.2.1.2.1,m.2.1.2.2.1,m.2.1.2.2.2.1,m.2.1.2.2.2.2.1,v),m.2.2)
def D0 (seq:Int)(m:Mal)(b:List Int):Mal:=
 if (O8 b).2≠0 then (m.1,m.2.1,Fh4 .i64 (m.2.2.1+1),m.2.2.2)
 else if (O8 b).1.2.1≠seq then (m.1,m.2.1,m.2.2.1,Fh4 .i64 (m.2.2.2.1+1),m.2.2.2.2)
 else if CM5 m (O8 b).1.1=true then (m.1,m.2.1,m.2.2.1,m.2.2.2.1,Fh4 .i64 (m.2.2.2.2.1+1),m.2.2.2.2.2)
 else BT4 m (O8 b).1.1 (O8 b).1.2.2
theorem Ec4 (b:List Int)(h:(O8 b).2=0):(O8 b).1.1=1∨(O8 b).1.1=2∨(O8 b).1.1=3∨(O8 b).1.1=4∨(O8 b).1.1=5:=by
 unfold O8 at h ⊢;split at h
 ·exact absurd h (by decide)
 ·rename_i h1
  rw[if_neg h1];split at h
  ·exact absurd h (by decide)
  ·rename_i h2
   rw[if_neg h2];split at h
   ·exact absurd h (by decide)
   ·rename_i h3
    rw[if_neg h3];split at h
    ·exact absurd h (by decide)
    ·rename_i h4
     rw[if_neg h4];have:=Ao9 (b.getD 0 0);show b.getD 0 0=1∨_;simp only;omega
set_option maxRecDepth 10000 in
theorem Ec5 (seq:Int)(b:List Int)(hb:Bytes b)(hl:b.length≤140737488355328)(m:Mal):AU4 seq b m.1.1 m.1.2.1 m.1.2.2.1 m.1.2.2.2.1 m.1.2.2.2.2.1 m.1.2.2.2.2.2 m.2.1.1 m.2.1.2.1 m.2.1.2.2.1 m.2.1.2.2.2.1 m.2.1.2.2.2.2.1 m.2.1.2.2.2.2.2 m.2.2.1 m.2.2.2.1 m.2.2.2.2.1 m.2.2.2.2.2=some ((D0 seq m b).1.1,(D0 seq m b).1.2.1,(D0 seq m b).1.2.2.1,(D0 seq m b).1.2.2.2.1,(D0 seq m b).1.2.2.2.2.1,(D0 seq m b).1.2.2.2.2.2,(D0 seq m b).2.1.1,(D0 seq m b).2.1.2.1,(D0 seq m b).2.1.2.2.1,(D0 seq m b).2.1.2.2.2.1,(D0 seq m b).2.1.2.2.2.2.1,(D0 seq m b).2.1.2.2.2.2.2,(D0 seq m b).2.2.1,(D0 seq m b).2.2.2.1,(D0 seq m b).2.2.2.2.1,(D0 seq m b).2.2.2.2.2):=by
 unfold AU4;rw[EY8 b hb hl];simp only[Fh2];generalize hT:D0 seq m b=T;unfold D0 at hT;by_cases h1:(O8 b).2=0
 ·rw[if_neg (by simpa using h1)] at hT
  have hk:=Ec4 b h1;have e1:((O8 b).2 != (0:Int))=false:=by simp[h1]
  rw[e1];generalize (O8 b).1=f at hT hk;obtain⟨k,sq,v⟩:=f;simp only at hT hk;by_cases h2:sq=seq
  ·rw[if_neg (by simpa using h2)] at hT
   have e2:(sq != seq)=false:=by simp[h2]
   simp only[cond_false,e2];obtain⟨⟨a0,a1,a2,a3,a4,a5⟩,⟨v0,v1,v2,v3,v4,v5⟩,⟨q0,q1,q2,q3⟩⟩:=m;rcases hk with rfl | rfl | rfl | rfl | rfl
   ·cases a1 <;> (subst hT;rfl)
   ·cases a2 <;> (subst hT;rfl)
   ·cases a3 <;> (subst hT;rfl)
   ·cases a4 <;> (subst hT;rfl)
   ·cases a5 <;> (subst hT;rfl)
  ·rw[if_pos (by simpa using h2)] at hT
   subst hT;have e2:(sq != seq)=true:=by simp[h2]
   simp only[cond_false,e2,cond_true,Fh2]
 ·rw[if_pos (by simpa using h1)] at hT
  subst hT;have e1:((O8 b).2 != (0:Int))=true:=by simp[h1]
  simp only[e1,cond_true,Fh2]
theorem Ap2 {S X Y:Type}{f:S→Option (S ⊕ X)}{init:S}{k:X→Option Y}{y:Y}(n:Nat)(st:Nat→S)(x:X)(hi:init=st 0)(h:∀i,i<n→f (st i)=some (.inl (st (i+1))))(he:f (st n)=some (.inr x))(hk:k x=some y):Option.bind (LP.lp f init) k=some y:=by rw[hi,Q7 n st x h he];exact hk
def F7 (n:Int):Mal:=((false,false,false,false,false,false),(0,0,0,0,0,0),(0,0,0,n))
def F3 (list:List (List Int)):Int:=Fh4 .i64 ((list.length:Int)-(if (32:Int)<(list.length:Int) then (32:Int) else (list.length:Int)))
def Ah0 (cy:Int)(list:List (List Int)):Mal:=(list.take 32).foldl (D0 (bits .i64 .and cy 255)) (F7 (F3 list))
theorem Ec6 {α β:Type}(f:β→α→β){l:List α}{k:Nat}(d:α)(b:β)(h:k<l.length):(l.take (k+1)).foldl f b=f ((l.take k).foldl f b) (l.getD k d):=by rw[← r8 (d:=d) h,List.foldl_append];rfl
set_option maxRecDepth 10000 in
theorem CM6 (cy:Int)(list:List (List Int))(hb:∀b∈list,Bytes b∧b.length≤140737488355328):AN3 cy list=some (Ah0 cy list):=by
 unfold AN3;have hn:((list.take (if (32:Int)<(list.length:Int) then (32:Int) else (list.length:Int)).toNat).drop (0:Int).toNat)=list.take 32:=by
  by_cases h:(32:Int)<(list.length:Int)
  ·rw[if_pos h];rfl
  ·rw[if_neg h,Int.toNat_natCast,Fh5 (Nat.le_refl _),Fh5 (by omega)];rfl
 have hc:(true&&(decide ((0:Int)≤(if (32:Int)<(list.length:Int) then (32:Int) else (list.length:Int))))&&(decide ((if (32:Int)<(list.length:Int) then (32:Int) else (list.length:Int))≤(list.length:Int))))=true:=by simp only[Bool.true_and,Fh1,decide_eq_true_eq];split <;> omega
 simp only[hn,hc,P5];generalize hL:list.take 32=L;have hbL:∀b∈L,Bytes b∧b.length≤140737488355328:=fun b h=>hb b (by rw[← hL] at h;exact List.mem_of_mem_take h)
 have hlen:L.length≤32:=by rw[← hL,List.length_take];omega
 refine Ap2 L.length (fun i=>(((L.take i).foldl (D0 (bits .i64 .and cy 255)) (F7 (F3 list))).1.2.2.2.2.1,((L.take i).foldl (D0 (bits .i64 .and cy 255)) (F7 (F3 list))).1.2.1,((L.take i).foldl (D0 (bits .i64 .and cy 255)) (F7 (F3 list))).2.1.2.1,((L.take i).foldl (D0 (bits .i64 .and cy 255)) (F7 (F3 list))).2.2.2.2.2,((L.take i).foldl (D0 (bits .i64 .and cy 255)) (F7 (F3 list))).2.1.2.2.2.2.1,((L.take i).foldl (D0 (bits .i64 .and cy 255)) (F7 (F3 list))).2.2.2.1,((L.take i).foldl (D0 (bits .i64 .and cy 255)) (F7 (F3 list))).1.2.2.1,((L.take i).foldl (D0 (bits .i64 .and cy 255)) (F7 (F3 list))).1.2.2.2.2.2,((L.take i).foldl (D0 (bits .i64 .and cy 255)) (F7 (F3 list))).2.1.2.2.2.2.2,((L.take i).foldl (D0 (bits .i64 .and cy 255)) (F7 (F3 list))).2.1.2.2.1,((L.take i).foldl (D0 (bits .i64 .and cy 255)) (F7 (F3 list))).2.2.2.2.1,((L.take i).foldl (D0 (bits .i64 .and cy 255)) (F7 (F3 list))).1.1,((L.take i).foldl (D0 (bits .i64 .and cy 255)) (F7 (F3 list))).1.2.2.2.1,((L.take i).foldl (D0 (bits .i64 .and cy 255)) (F7 (F3 list))).2.1.2.2.2.1,((L.take i).foldl (D0 (bits .i64 .and cy 255)) (F7 (F3 list))).2.1.1,((L.take i).foldl (D0 (bits .i64 .and cy 255)) (F7 (F3 list))).2.2.1,(i:Int))) (((L.take L.length).foldl (D0 (bits .i64 .and cy 255)) (F7 (F3 list))).1.2.2.2.2.1,((L.take L.length).foldl (D0 (bits .i64 .and cy 255)) (F7 (F3 list))).1.2.1,((L.take L.length).foldl (D0 (bits .i64 .and cy 255)) (F7 (F3 list))).2.1.2.1,((L.take L.length).foldl (D0 (bits .i64 .and cy 255)) (F7 (F3 list))).2.2.2.2.2,((L.take L.length).foldl (D0 (bits .i64 .and cy 255)) (F7 (F3 list))).2.1.2.2.2.2.1,((L.take L.length).foldl (D0 (bits .i64 .and cy 255)) (F7 (F3 list))).2.2.2.1,((L.take L.length).foldl (D0 (bits .i64 .and cy 255)) (F7 (F3 list))).1.2.2.1,((L.take L.length).foldl (D0 (bits .i64 .and cy 255)) (F7 (F3 list))).1.2.2.2.2.2,((L.take L.length).foldl (D0 (bits .i64 .and cy 255)) (F7 (F3 list))).2.1.2.2.2.2.2,((L.take L.length).foldl (D0 (bits .i64 .and cy 255)) (F7 (F3 list))).2.1.2.2.1,((L.take L.length).foldl (D0 (bits .i64 .and cy 255)) (F7 (F3 list))).2.2.2.2.1,((L.take L.length).foldl (D0 (bits .i64 .and cy 255)) (F7 (F3 list))).1.1,((L.take L.length).foldl (D0 (bits .i64 .and cy 255)) (F7 (F3 list))).1.2.2.2.1,((L.take L.length).foldl (D0 (bits .i64 .and cy 255)) (F7 (F3 list))).2.1.2.2.2.1,((L.take L.length).foldl (D0 (bits .i64 .and cy 255)) (F7 (F3 list))).2.1.1,((L.take L.length).foldl (D0 (bits .i64 .and cy 255)) (F7 (F3 list))).2.2.1) rfl ?_ ?_ ?_
 ·intro i hi
  have e1:(decide ((i:Int)<(L.length:Int)))=true:=by simpa using hi
  have e2:(decide ((0:Int)≤(i:Int)))=true:=by simp
  have hm:L.getD i []∈L:=by simp[List.getD,hi]
  have e3:=Ec5 (bits .i64 .and cy 255) (L.getD i []) (hbL _ hm).1 (hbL _ hm).2 ((L.take i).foldl (D0 (bits .i64 .and cy 255)) (F7 (F3 list)));have e4:=X7 i (by omega)
  have e5:=Ec6 (D0 (bits .i64 .and cy 255)) [] (F7 (F3 list)) hi;simp only[e1,e2,cond_true,Bool.and_self,P5,Int.toNat_natCast,e3,Fh2,e4,e5]
 ·have e1:(decide ((L.length:Int)<(L.length:Int)))=false:=by simp
  simp only[e1,cond_false]
 ·unfold Ah0
  rw[hL,Fh5 (Nat.le_refl _)]

/- A unit begins in a good state; its cycles have answers. -/
theorem BB6 {t:TkD}(h:(G7 t).1=0):I7 t:=by
 obtain⟨h0,h1,h2,_,_⟩:=Ag9 h;refine⟨fun h3=>by rw[h3] at h0;exact absurd h0 (by simp),h1,h2,fun x hx=> ?_,fun g hg=> ?_⟩
 ·have hs:=BT1 h x hx
  unfold L6 AF3 at hs;simp only[Fh1,decide_eq_true_eq,List.all_eq_true] at hs;obtain⟨⟨⟨⟨a1,a2⟩,⟨⟨⟨b1,b2⟩,b3⟩,b4⟩⟩,c1⟩,d1⟩:=hs;refine⟨fun h3=>by rw[h3] at b1;exact absurd b1 (by simp),b2,c1,fun n hn=> ?_⟩
  obtain⟨i,hi,rfl⟩:=List.mem_iff_getElem.1 hn;have:=d1 i (List.mem_range.2 hi);unfold AJ2 at this;simp only[Fh1,decide_eq_true_eq] at this;rw[P6 hi] at this;exact this.1
 ·obtain⟨i,hs⟩:=CL8 h g hg
  unfold K5 at hs;simp only[Fh1,decide_eq_true_eq] at hs;exact⟨hs.1.1.2,hs.1.2⟩
theorem Ec7 {b:List Int}(h:(AC0 b).2=0):(G7 (AC0 b).1).1=0:=by
 unfold AC0 at h ⊢;split at h
 ·exact absurd h (by decide)
 ·rename_i h1
  rw[if_neg h1];split at h
  ·exact absurd h (by decide)
  ·rename_i h2
   rw[if_neg h2];split at h
   ·exact absurd h (by decide)
   ·rename_i h3
    rw[if_neg h3];split at h
    ·exact absurd h (by decide)
    ·rename_i h4
     rw[if_neg h4];split at h
     ·exact absurd h (by decide)
     ·rename_i h5
      rw[if_neg h5];apply Classical.byContradiction;exact h5
theorem Ec8 {t:TkD}(h:(G7 t).1=0):t.1.length≤200→∀s∈t.1,s.2.1.length≤big∧s.2.2.length≤big:=by intro _ s hs;have:=(BB6 h).seg s hs;unfold big;omega
theorem Ec9 (c:Cfg)(t:TkD)(h:(G7 t).1=0):Tot (Z7 c t):=by
 unfold Z7;have ht:=BB6 h;have hn:=ht.n2;refine Tot.bnd (EO8 c) fun e=>Tot.cnd Tot.some ?_
 rw[BR8 t (Ec8 h)];simp only[Fh2];refine Tot.cnd Tot.some (Tot.bnd ?_ fun z=> ?_)
 ·refine Tot.loop (fun i=>0≤i∧i≤(t.2.length:Int)) (fun i=>((t.2.length:Int)-i).toNat) ?_ ⟨by simp,by simp⟩
  rintro i ⟨h0,h1⟩
  refine Wp.cnd (fun hc=> ?_) fun _=>Wp.some trivial
  have hi:i<(t.2.length:Int):=by simpa using hc
  have hw:=M1 h0 hi (by omega)
  have hg:=ht.grp _ (R2 (d:=(0,0,0,0,0)) h0 hi);refine Wp.chk (by simp only[Fh1,decide_eq_true_eq];exact⟨h0,hi⟩) (Wp.chk (by simp only[Fh1,decide_eq_true_eq];exact hg) (Wp.bnd (CF1 _ _).wpT fun _ _=>Wp.cnd (fun _=>Wp.some trivial) fun _=>Wp.some ?_))
  simp only[hw];exact⟨⟨by omega,by omega⟩,by omega⟩
 ·rcases z with z | z <;> exact Tot.some
theorem Ed0 (t:TkD)(ht:I7 t):Tot (AM0 t):=by
 unfold AM0;have hn:=ht.n1;have h0:0<t.1.length:=by
  cases h:t.1 with
  |nil=>exact absurd h ht.ne
  |cons a l=>simp
 have hm:=ht.seg _ (R2 (l:=t.1) (i:=0) (d:=(0,[],[])) (by omega) (by omega))
 have h1:0<(t.1.getD (0:Int).toNat (0,[],[])).2.1.length:=by
  cases h:(t.1.getD (0:Int).toNat (0,[],[])).2.1 with
  |nil=>exact absurd h hm.1
  |cons a l=>simp
 refine Tot.chk (by simp;omega) (Tot.chk (by simp only[Bool.true_and,decide_eq_true_eq];omega) (Tot.bnd (BQ2 _) fun _=>Tot.bnd ?_ fun _=>Tot.some))
 refine Tot.loop (fun z=>0≤z.2.1∧z.2.1≤(t.1.length:Int)) (fun z=>((t.1.length:Int)-z.2.1).toNat) ?_ ⟨by simp,by simp⟩
 rintro⟨a,i,b⟩ ⟨h0,h1⟩
 refine Wp.cnd (fun hc=> ?_) fun _=>Wp.some trivial
 have hi:i<(t.1.length:Int):=by simpa using hc
 have h0':0≤i:=h0;have hw:=M1 h0' hi (by omega)
 have hm:=ht.seg _ (R2 (d:=(0,[],[])) h0' hi);refine Wp.chk (by simp only[hw,Fh3,Fh1,decide_eq_true_eq,Fh6,decide_eq_false_iff_not];omega) (Wp.bnd (CF5 (t.1.getD i.toNat (0,[],[])).2.1 _ (by omega)).wpT fun _ _=>Wp.bnd (BQ3 _ _).wpT fun _ _=>Wp.some ?_)
 simp only[hw];exact⟨⟨by omega,by omega⟩,by omega⟩
theorem Ed1 (t:TkD)(ht:I7 t):Wp (AM1 t) fun en=>en.length=t.1.length:=by
 unfold AM1;have hn:=ht.n1;refine Wp.chk ?_ (Wp.bnd (Q:=fun en=>en.length=t.1.length) ?_ fun en hen=>Wp.bnd (Q:=fun en=>en.length=t.1.length) ?_ fun _ h=>Wp.some h)
 ·simp only[Fh1,decide_eq_true_eq];omega
 ·refine Wp.loop (fun z=>0≤z.2∧z.2≤(t.1.length:Int)∧z.1.length=t.1.length) (fun z=>((t.1.length:Int)-z.2).toNat) ?_ ⟨by simp,by simp,by simp⟩
  rintro⟨o,i⟩ ⟨h0,h1,h2⟩
  refine Wp.cnd (fun hc=> ?_) fun _=>Wp.some h2
  have hi:i<(t.1.length:Int):=by simpa using hc
  have h0':0≤i:=h0;have h2':o.length=t.1.length:=h2;have hw:=M1 h0' hi (by omega)
  refine Wp.chk (by simp only[hw,Fh3,Fh1,decide_eq_true_eq,Fh6,decide_eq_false_iff_not];omega) (Wp.bnd (Q:=fun o2=>o2.length=t.1.length) ?_ fun o2 h=>Wp.some ?_)
  ·exact Wp.cnd (fun _=>Wp.chk (by simp only[Fh1,decide_eq_true_eq];omega) (Wp.some (by simp[h2']))) fun _=>Wp.some h2'
  ·simp only[hw];exact⟨⟨by omega,by omega,h⟩,by omega⟩
 ·refine Wp.loop (fun z=>0≤z.1∧z.1≤(t.1.length:Int)∧z.2.length=t.1.length) (fun z=>((t.1.length:Int)-z.1).toNat) ?_ ⟨by simp,by simp,hen⟩
  rintro⟨i,o⟩ ⟨h0,h1,h2⟩
  refine Wp.cnd (fun hc=> ?_) fun _=>Wp.some h2
  have hi:i<(t.1.length:Int):=by simpa using hc
  have h0':0≤i:=h0;have h2':o.length=t.1.length:=h2;have hw:=M1 h0' hi (by omega)
  refine Wp.bnd (Q:=fun o2=>o2.length=t.1.length) ?_ fun o2 h=>Wp.some ?_
  ·refine Wp.loop (fun z=>0≤z.1∧z.1≤(t.1.length:Int)∧z.2.length=t.1.length) (fun z=>((t.1.length:Int)-z.1).toNat) ?_ ⟨by simp,by simp,h2'⟩
   rintro⟨j,o3⟩ ⟨j0,j1,j2⟩
   refine Wp.cnd (fun hc=> ?_) fun _=>Wp.some j2
   have hj:j<(t.1.length:Int):=by simpa using hc
   have j0':0≤j:=j0;have j2':o3.length=t.1.length:=j2;have hw3:=M1 j0' hj (by omega)
   have hm:=ht.seg _ (R2 (d:=(0,[],[])) j0' hj);refine Wp.chk (by simp only[Fh1,decide_eq_true_eq];exact⟨j0',hj⟩) ?_
   simp only;generalize t.1.getD j.toNat (0,[],[])=x at hm;refine Wp.bnd (Q:=fun o2=>o2.length=t.1.length) ?_ fun o2 h=>Wp.some ?_
   ·refine Wp.loop (fun z=>0≤z.1∧z.1≤(x.2.2.length:Int)∧z.2.length=t.1.length) (fun z=>((x.2.2.length:Int)-z.1).toNat) ?_ ⟨by simp,by simp,j2'⟩
    rintro⟨k,o4⟩ ⟨k0,k1,k2⟩
    refine Wp.cnd (fun hc=> ?_) fun _=>Wp.some k2
    have hk:k<(x.2.2.length:Int):=by simpa using hc
    have k0':0≤k:=k0;have k2':o4.length=t.1.length:=k2;have hw4:=M1 k0' hk (by omega)
    have hx:=hm.2.2.2 _ (R2 (d:=(0:Int)) k0' hk);refine Wp.bnd (Q:=fun o2=>o2.length=t.1.length) ?_ fun o2 h=>Wp.some ?_
    ·refine Wp.chk (by simp only[Fh1,decide_eq_true_eq];exact⟨k0',hk⟩) (Wp.chk (by simp only[Fh1,decide_eq_true_eq,k2'];exact hx) (Wp.chk (by simp only[Fh1,decide_eq_true_eq];exact hx) (Wp.chk (by simp only[Fh1,decide_eq_true_eq,k2'];exact hx) (Wp.chk (by simp only[Fh3,Fh1,decide_eq_true_eq,k2'];exact .inl ⟨j0',hj⟩) ?_))))
     have hset:∀(b:Bool) (v:Int),Wp (Option.bind (bif b then chk none ((decide ((0:Int)≤j))&&(decide (j<(o4.length:Int)))) (some (o4.set j.toNat v)) else some o4) fun r=>some r) fun o2=>o2.length=t.1.length:=by
      intro b v;refine Wp.bnd (Q:=fun o2=>o2.length=t.1.length) ?_ fun _ h=>Wp.some h
      exact Wp.cnd (fun _=>Wp.chk (by simp only[Fh1,decide_eq_true_eq,k2'];exact⟨j0',hj⟩) (Wp.some (by simp[k2']))) fun _=>Wp.some k2'
     refine Wp.cnd (fun _=>Wp.chk (by simp only[Fh3,Fh1,decide_eq_true_eq,k2'];exact .inl ⟨j0',hj⟩) (Wp.cnd (fun _=>hset _ _) fun _=>hset _ _)) fun _=> ?_
     first
      |exact hset _ _
      |exact Wp.chk (by simp only[Fh3,Fh1,decide_eq_true_eq,k2'];exact .inl ⟨j0',hj⟩) (hset _ _)
      |exact Wp.chk (by simp only[Fh3,Fh1,decide_eq_true_eq,k2'];exact .inl ⟨j0',hj⟩) (Wp.cnd (fun _=>hset _ _) fun _=>hset _ _)
    ·simp only[hw4];exact⟨⟨by omega,by omega,h⟩,by omega⟩
   ·simp only[hw3];exact⟨⟨by omega,by omega,h⟩,by omega⟩
  ·simp only[hw];exact⟨⟨by omega,by omega,h⟩,by omega⟩
theorem CM7:Az3.broken=false→AF1 Az3:=fun h=>absurd h (by decide)
theorem Ed2 (c:Cfg)(img:List Int)(hb:ByL img):Wp (AX4 c img) fun s=>s.C9=0∧(s.broken=false→AF1 s)∧s.k0=(false,0,0)∧s.k1=(false,0,0):=by
 unfold AX4;rw[CL3 img hb];simp only[Fh2];by_cases h0:(AC0 img).2=0
 ·have hc:=Ec7 h0
  have ht:=BB6 hc;have e0:((AC0 img).2==(0:Int))=true:=by simp[h0]
  simp only[e0,cond_true];refine Wp.bnd (Tot.wpT (Tot.bnd (Ec9 c _ hc) fun _=>Tot.some)) fun e _=>Wp.cnd (fun _=>Wp.some ⟨rfl,CM7,rfl,rfl⟩) fun _=> ?_
  refine Wp.bnd (Ed0 _ ht).wpT fun g _=>Wp.bnd (Ed1 _ ht) fun en hen=>Wp.bnd (BQ4 _).wpT fun _ _=>Wp.bnd (BQ4 _).wpT fun _ _=>Wp.bnd (CB6 _).wpT fun _ _=>Wp.some ⟨rfl,fun _=>⟨ht,hen,Ao1 _ _ rfl⟩,rfl,rfl⟩
 ·have e0:((AC0 img).2==(0:Int))=false:=by simpa using h0
  have e1:((AC0 img).2 != (0:Int))=true:=by simpa using h0
  simp only[e0,cond_false,Fh2,e1,cond_true];exact Wp.some ⟨rfl,CM7,rfl,rfl⟩
def SOK (s:C8):Prop:=s.broken=false→AF1 s
def FOK (l:List (List Int)):Prop:=∀b∈l,Bytes b∧b.length≤140737488355328
theorem CM8 (list:List (List Int))(cmd:Bool)(s:C8)(hs:SOK s)(hl:FOK list):Wp (AB8 list cmd s) fun y=>Ao2 y.1∧SOK y.2∧y.2.broken=s.broken∧y.2.C9=Fh4 .i64 (s.C9+1):=by
 unfold AB8;cases hb:s.broken with
 |true=>
  have h3:Ao2 (An9 s.C9):=⟨by simp[An9],by simp[An9]⟩
  refine Wp.some ⟨h3,?_,rfl,rfl⟩;intro h;cases h
 |false=>
  rw[CM6 s.C9 list hl];simp only[cond_false,Fh2];have hn:=hs hb;have h5:=ET6 (Ah0 s.C9 list) cmd s.C9 {s with C9:=Fh4 .i64 (s.C9+1),broken:=false} ⟨hn.t,hn.ends,hn.p⟩;exact Wp.mono h5 fun y hy=>⟨hy.1,fun _=>hy.2.1,hy.2.2.1,hy.2.2.2⟩
theorem CM9:∀(l:List Cyc) (s:C8),SOK s→(∀x∈l,FOK x.1)→Wp (goN s l) fun rs=>rs.length=l.length∧∀r∈rs,Ao2 r
 | [],s,_,_=>⟨[],rfl,rfl,by simp⟩
 |x::xs,s,hs,hl=>by
  rw[goN];refine Wp.bnd (CM8 x.1 x.2 s hs (hl x (by simp))) fun y hy=>Wp.bnd (CM9 xs y.2 hy.2.1 fun z hz=>hl z (by simp[hz])) fun rs hr=>Wp.some ⟨by simp[hr.1],fun r h=> ?_⟩
  rcases List.mem_cons.1 h with rfl | h
  ·exact hy.1
  ·exact hr.2 r h

/- What is told of a cycle doesn't depend on what comes behind it. -/
theorem Ap3 (a:Int):(a != a)=false:=by simp
theorem Ed3 (t:TkD)(l:List Cyc):Wp (Aw0 t l) fun b=>b=true→l.length≤120:=by
 unfold Aw0;refine Wp.cnd (fun _=>Wp.some fun h=>by cases h) fun hc=> ?_
 have hl:t.1.length≤50∧l.length≤120:=by simp at hc;omega
 refine Wp.bnd (Q:=fun _=>True) ?_ fun z _=> ?_
 ·refine Wp.loop (fun i=>0≤i∧i≤(t.1.length:Int)) (fun i=>((t.1.length:Int)-i).toNat) ?_ ⟨by simp,by simp⟩
  rintro i ⟨h0,h1⟩
  refine Wp.cnd (fun hc=> ?_) fun _=>Wp.some trivial
  have hi:i<(t.1.length:Int):=by simpa using hc
  have hw:=M1 h0 hi (by omega)
  refine Wp.chk (by simp only[Fh1,decide_eq_true_eq];exact⟨h0,hi⟩) (Wp.chk (by simp only[Fh3,Fh1,decide_eq_true_eq];exact .inl ⟨h0,hi⟩) (Wp.cnd (fun _=>Wp.some trivial) fun _=>Wp.some ?_))
  simp only[hw];exact⟨⟨by omega,by omega⟩,by omega⟩
 ·rcases z with z | z
  ·exact Wp.some fun _=>hl.2
  ·refine Wp.bnd (Q:=fun _=>True) ?_ fun z _=> ?_
   ·refine Wp.loop (fun i=>0≤i∧i≤(l.length:Int)) (fun i=>((l.length:Int)-i).toNat) ?_ ⟨by simp,by simp⟩
    rintro i ⟨h0,h1⟩
    refine Wp.cnd (fun hc=> ?_) fun _=>Wp.some trivial
    have hi:i<(l.length:Int):=by simpa using hc
    have hw:=M1 h0 hi (by omega)
    refine Wp.chk (by simp only[Fh1,decide_eq_true_eq];exact⟨h0,hi⟩) (Wp.cnd (fun _=>Wp.some trivial) fun hc2=>Wp.chk (by simp only[Fh1,decide_eq_true_eq];exact⟨h0,hi⟩) (Wp.bnd (Q:=fun _=>True) ?_ fun z _=> ?_))
    ·have h40:(l.getD i.toNat ([],false)).1.length≤40:=by
      simp only[decide_eq_false_iff_not] at hc2;omega
     generalize (l.getD i.toNat ([],false)).1=y at h40;refine Wp.loop (fun i=>0≤i∧i≤(y.length:Int)) (fun i=>((y.length:Int)-i).toNat) ?_ ⟨by simp,by simp⟩
     rintro k ⟨k0,k1⟩
     refine Wp.cnd (fun hc=> ?_) fun _=>Wp.some trivial
     have hk:k<(y.length:Int):=by simpa using hc
     have hw:=M1 k0 hk (by omega)
     refine Wp.chk (by simp only[Fh1,decide_eq_true_eq];exact⟨k0,hk⟩) (Wp.cnd (fun _=>Wp.some trivial) fun _=>Wp.some ?_)
     simp only[hw];exact⟨⟨by omega,by omega⟩,by omega⟩
    ·rcases z with z | z
     ·exact Wp.some trivial
     ·refine Wp.some ?_
      simp only[hw];exact⟨⟨by omega,by omega⟩,by omega⟩
   ·rcases z with z | z
    ·exact Wp.some fun _=>hl.2
    ·exact Wp.some fun _=>hl.2
end Go.Proofs.YthfjpkdadjemcaaGreat
