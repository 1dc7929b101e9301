/- What is sent of a cycle, and what comes of it. -/
import Derived.Test.YthfjpkdadjemcaaGreatFGH
set_option linter.unusedSimpArgs false
set_option linter.unusedVariables false
namespace Go.Proofs.YthfjpkdadjemcaaGreat
open Go Go.RowKit
open _root_.Option renaming bind_some → Fh7
open Go.IntKind renaming wrap → Fh8
open _root_.List renaming length_cons → Fh9, length_nil → Fi0, foldl_append → Fi1, nil_append → Fi2, mem_cons → Fi3, getD_cons_zero → Fi4, getD_cons_succ → Fi5, getD → Fi6, length_append → Fi8, range → Fi9
open _root_.BitVec renaming toNat_ofNat → Fi7
abbrev Sen:=(Int×Int)×(Int×(Int×(Int×((Bool×(Bool×(Bool×(Bool×Bool))))×Bool))))
def uF (v:Int):Int:=if v<0 then v+4294967296 else v
def K9 (k q v:Int):List Int:=if F6 k=4 then [k,q,4,uF v/16777216,uF v/65536 % 256,uF v/256 % 256,uF v % 256] else [k,q,2,uF v/256 % 256,uF v % 256]
def loF (k:Int):Int:=if F6 k=4 then -2147483648 else 0
def hiF (k:Int):Int:=if F6 k=4 then 2147483647 else 65535
def BB7 (k q v:Int):List Int×Int:=if F6 k=0 then ([],30) else if q<0∨255<q∨v<loF k∨hiF k<v then ([],10) else (E0 (K9 k q v),0)
theorem u4 {n:Int}(h:0≤n∧n≤255):Fh8 .u8 n=n:=by simp only[Fh8,IntKind.bits,IntKind.signed,Bool.false_and,Bool.false_eq_true,if_false,show (2:Int) ^ 8=256 from rfl];omega
theorem BB8 {k q v:Int}(hs:F6 k≠0)(hq:0≤q∧q≤255)(hv:loF k≤v∧v≤hiF k):ByL (K9 k q v):=by
 have h:=Ao9 k;unfold K9 loF hiF uF at*;intro c hc;have hu:0≤(if v<0 then v+4294967296 else v):=by split <;> (split at hv <;> omega)
 have hu2:(if v<0 then v+4294967296 else v)≤4294967295:=by split <;> (split at hv <;> omega)
 generalize (if v<0 then v+4294967296 else v)=u at*
 split at hc
 ·simp only[Fi3,List.not_mem_nil,or_false] at hc
  rcases hc with rfl | rfl | rfl | rfl | rfl | rfl | rfl <;> omega
 ·simp only[Fi3,List.not_mem_nil,or_false] at hc
  rcases hc with rfl | rfl | rfl | rfl | rfl <;> omega
theorem BT5 (k q v:Int):(K9 k q v).length≤7:=by unfold K9;split <;> simp
theorem Ap4 {a:Int}(c:Int)(h:0≤a):a.tdiv c=a/c:=Int.tdiv_eq_ediv_of_nonneg h
theorem Ah1 {a:Int}(c:Int)(h:0≤a):a.tmod c=a % c:=Int.tmod_eq_emod_of_nonneg h
theorem CN0 (b:List Int)(hb:ByL b)(hl:b.length≤1000):Option.bind (AH6 b) (fun s=>chk none (decide ((b.length+([Fh8 .u8 (Fh8 .i64 (s.tdiv 256)),Fh8 .u8 (s.tmod 256)]:List Int).length)*1≤140737488355328)) (some (b++([Fh8 .u8 (Fh8 .i64 (s.tdiv 256)),Fh8 .u8 (s.tmod 256)]:List Int),(0:Int))))=some (E0 b,0):=by
 rw[CJ5 b (AX7 hb) (by omega),Fh7]
 have h:=BA9 b;have e:decide ((b.length+([Fh8 .u8 (Fh8 .i64 ((E6 b).tdiv 256)),Fh8 .u8 ((E6 b).tmod 256)]:List Int).length)*1≤140737488355328)=true:=by simp only[Fh9,Fi0,decide_eq_true_eq];omega
 rw[e,P5,Ap4 _ h.1,Ah1 _ h.1,A5 (by omega),u4 (by omega),u4 (by omega)]
 rfl
theorem Ed4 (k q v:Int)(h0:F6 k≠0)(hg:q<0∨255<q∨v<loF k∨hiF k<v):R0 (k,(q,v))=some ([],10):=by
 unfold R0;rw[BA4];have hor:∀lo hi:Int,q<0∨255<q∨v<lo∨hi<v→(bif (bif (bif decide (q<0) then true else decide (255<q)) then true else decide (v<lo)) then true else decide (hi<v))=true:=by
  intro lo hi h;rcases h with h | h | h | h
  ·rw[decide_eq_true h];rfl
  ·rw[decide_eq_true h];cases decide (q<0) <;> rfl
  ·rw[decide_eq_true h];cases decide (q<0) <;> cases decide (255<q) <;> rfl
  ·rw[decide_eq_true h];cases decide (q<0) <;> cases decide (255<q) <;> cases decide (v<lo) <;> rfl
 by_cases h4:F6 k=4
 ·have e1:loF k = -2147483648:=if_pos h4
  have e2:hiF k=2147483647:=if_pos h4;rw[e1,e2] at hg;have e:=hor _ _ hg;simp only[Fh7,h4,show ((4:Int)==0)=false from rfl,show ((4:Int)==4)=true from rfl,cond_false,cond_true,e]
 ·have e1:loF k=0:=if_neg h4
  have e2:hiF k=65535:=if_neg h4;rw[e1,e2] at hg;have e:=hor _ _ hg;simp only[Fh7,beq_false_of_ne h0,beq_false_of_ne h4,cond_false,e,cond_true]
theorem Ed5 (k q v:Int)(h4:F6 k=4)(hk:0≤k∧k≤255)(hq:0≤q∧q≤255)(hv : -2147483648≤v∧v≤2147483647):R0 (k,(q,v))=some (E0 (K9 k q v),0):=by
 unfold R0;have hby:=BB8 (k:=k) (q:=q) (v:=v) (by omega) hq (by unfold loF hiF;rw[if_pos h4,if_pos h4];exact hv)
 have hln:=BT5 k q v;have hsl:=CN0 _ hby (by omega)
 have hbod:K9 k q v=[k,q,4,uF v/16777216,uF v/65536 % 256,uF v/256 % 256,uF v % 256]:=if_pos h4;rw[BA4,h4];simp only[Fh7,show ((4:Int)==0)=false from rfl,show ((4:Int)==4)=true from rfl,cond_false,cond_true];rw[decide_eq_false (show ¬q<0 by omega),decide_eq_false (show ¬255<q by omega),decide_eq_false (show ¬v < -2147483648 by omega),decide_eq_false (show ¬2147483647<v by omega)]
 simp only[cond_false];rw[u4 hq,u4 hk,show Fh8 .u8 (4:Int)=4 from rfl];have hr:(bif decide (v<0) then some (Fh8 .i64 (v+4294967296)) else some v)=some (uF v):=by
  unfold uF;by_cases hn:v<0
  ·rw[decide_eq_true hn,if_pos hn,A5 (by omega)]
   rfl
  ·rw[decide_eq_false hn,if_neg hn]
   rfl
 have hu:0≤uF v∧uF v≤4294967295:=by unfold uF;split <;> omega
 rw[hr,Fh7];generalize uF v=r at*;rw[Ap4 _ hu.1,Ap4 _ hu.1,Ap4 _ hu.1,Ah1 _ hu.1,A5 (n:=r/16777216) (by omega),A5 (n:=r/65536) (by omega),A5 (n:=r/256) (by omega),Ah1 _ (show 0≤r/65536 by omega),Ah1 _ (show 0≤r/256 by omega),u4 (n:=r/16777216) (by omega),u4 (n:=r/65536 % 256) (by omega),u4 (n:=r/256 % 256) (by omega),u4 (n:=r % 256) (by omega)]
 rw[hbod] at hsl ⊢;exact hsl
theorem Ed6 (k q v:Int)(h2:F6 k=2)(hk:0≤k∧k≤255)(hq:0≤q∧q≤255)(hv:0≤v∧v≤65535):R0 (k,(q,v))=some (E0 (K9 k q v),0):=by
 unfold R0;have h4:¬F6 k=4:=by omega
 have hby:=BB8 (k:=k) (q:=q) (v:=v) (by omega) hq (by unfold loF hiF;rw[if_neg h4,if_neg h4];exact hv)
 have hln:=BT5 k q v;have hsl:=CN0 _ hby (by omega)
 have hu:uF v=v:=if_neg (by omega)
 have hbod:K9 k q v=[k,q,2,v/256 % 256,v % 256]:=by unfold K9;rw[if_neg h4,hu]
 rw[BA4,h2];simp only[Fh7,show ((2:Int)==0)=false from rfl,show ((2:Int)==4)=false from rfl,cond_false,cond_true];rw[decide_eq_false (show ¬q<0 by omega),decide_eq_false (show ¬255<q by omega),decide_eq_false (show ¬v<0 by omega),decide_eq_false (show ¬65535<v by omega)]
 simp only[cond_false,Fh7];rw[u4 hq,u4 hk,show Fh8 .u8 (2:Int)=2 from rfl];rw[Ap4 _ hv.1,Ah1 _ hv.1,A5 (n:=v/256) (by omega),Ah1 _ (show 0≤v/256 by omega),u4 (n:=v/256 % 256) (by omega),u4 (n:=v % 256) (by omega)]
 rw[hbod] at hsl ⊢;exact hsl
theorem Ap5 (k q v:Int)(hv64 : -9223372036854775808≤v∧v≤9223372036854775807):R0 (k,(q,v))=some (BB7 k q v):=by
 unfold BB7;have hsc:=Ao9 k;by_cases h0:F6 k=0
 ·rw[if_pos h0]
  unfold R0;rw[BA4,h0];rfl
 rw[if_neg h0];by_cases hg:q<0∨255<q∨v<loF k∨hiF k<v
 ·rw[if_pos hg]
  exact Ed4 k q v h0 hg
 ·rw[if_neg hg]
  by_cases h4:F6 k=4
  ·have e1:loF k = -2147483648:=if_pos h4
   have e2:hiF k=2147483647:=if_pos h4;exact Ed5 k q v h4 (by omega) (by omega) (by omega)
  ·have e1:loF k=0:=if_neg h4
   have e2:hiF k=65535:=if_neg h4;exact Ed6 k q v (by omega) (by omega) (by omega) (by omega)
theorem Ed7 {b:List Int}(hb:ByL b):E6 (E0 b)=0:=by
 have hs:=AX7 (Ap1 hb);have hn:(E0 b).length=b.length+2:=by simp[E0]
 have h:=BA9 b;rw[CJ1 hs hn];have e1:(E0 b).take b.length=b:=by simp[E0]
 have e2:(E0 b).getD b.length 0=E6 b/256:=by simp[E0,Fi6]
 have e3:(E0 b).getD (b.length+1) 0=E6 b % 256:=by simp[E0,Fi6]
 rw[e1,e2,e3];omega
theorem Ed8 (k q v a b:Int)(h4:F6 k=4)(hv : -2147483648≤v∧v≤2147483647):Ag5 k (N1 [k,q,4,uF v/16777216,uF v/65536 % 256,uF v/256 % 256,uF v % 256,a,b] 3 4)=v:=by
 have e:N1 [k,q,4,uF v/16777216,uF v/65536 % 256,uF v/256 % 256,uF v % 256,a,b] 3 4=uF v:=by
  have hu:0≤uF v∧uF v≤4294967295:=by unfold uF;split <;> omega
  show 256*(256*(256*(256*0+uF v/16777216)+uF v/65536 % 256)+uF v/256 % 256)+uF v % 256=uF v;omega
 rw[e];unfold Ag5 uF;split <;> split <;> omega
theorem Ed9 (k q v a b:Int)(h2:F6 k=2)(hv:0≤v∧v≤65535):Ag5 k (N1 [k,q,2,uF v/256 % 256,uF v % 256,a,b] 3 2)=v:=by
 have e:N1 [k,q,2,uF v/256 % 256,uF v % 256,a,b] 3 2=v:=by
  have hu:uF v=v:=if_neg (by omega)
  show 256*(256*0+uF v/256 % 256)+uF v % 256=v;omega
 rw[e];unfold Ag5;rw[if_neg (by omega)]
theorem Ee0 {k q v:Int}(hs:F6 k≠0)(hq:0≤q∧q≤255)(hv:loF k≤v∧v≤hiF k):O8 (E0 (K9 k q v))=((k,q,v),0):=by
 have hc:=Ed7 (BB8 hs hq hv);have h:=Ao9 k;unfold O8;rw[hc];unfold E0;generalize E6 (K9 k q v)/256=a;generalize E6 (K9 k q v) % 256=b;by_cases h4:F6 k=4
 ·have e1:loF k = -2147483648:=if_pos h4
  have e2:hiF k=2147483647:=if_pos h4;have hbod:K9 k q v=[k,q,4,uF v/16777216,uF v/65536 % 256,uF v/256 % 256,uF v % 256]:=if_pos h4;have hsv:=Ed8 k q v a b h4 (by omega)
  rw[hbod];simp only[List.cons_append,Fi2,Fh9,Fi0,Fi4,Fi5,h4];rw[if_neg (by omega),if_neg (by omega),if_neg (by omega),if_neg (by omega)]
  exact congrArg (fun x=>((k,q,x),(0:Int))) hsv
 ·have h2:F6 k=2:=by omega
  have e1:loF k=0:=if_neg h4;have e2:hiF k=65535:=if_neg h4;have hbod:K9 k q v=[k,q,2,uF v/256 % 256,uF v % 256]:=if_neg h4;have hsv:=Ed9 k q v a b h2 (by omega)
  rw[hbod];simp only[List.cons_append,Fi2,Fh9,Fi0,Fi4,Fi5,h2];rw[if_neg (by omega),if_neg (by omega),if_neg (by omega),if_neg (by omega)]
  exact congrArg (fun x=>((k,q,x),(0:Int))) hsv
def R7 (h:Bool)(k q v:Int):List (List Int):=bif h then [E0 (K9 k q v)] else []
def AC1 (q:Int)(x:Sen):List (List Int):=(((R7 x.2.2.2.2.1.1 1 q x.1.1++R7 x.2.2.2.2.1.2.1 2 q x.1.2)++R7 x.2.2.2.2.1.2.2.1 3 q x.2.1)++R7 x.2.2.2.2.1.2.2.2.1 4 q x.2.2.1)++R7 x.2.2.2.2.1.2.2.2.2 5 q x.2.2.2.1
def AY2:Sen:=(((0:Int),(0:Int)),((0:Int),((0:Int),((0:Int),((false,(false,(false,(false,false)))),false)))))
def Ap6 (l:List Sen)(k:Nat):Cyc:=(AC1 ((k % 256:Nat):Int) (l.getD k AY2),(l.getD k AY2).2.2.2.2.2)
def AF4 (l:List Sen):List Cyc:=(Fi9 l.length).map (Ap6 l)
structure AY3 (x:Sen):Prop where
 a:0≤x.1.1∧x.1.1≤65535
 b:0≤x.1.2∧x.1.2≤65535
 v : -2147483648≤x.2.1∧x.2.1≤2147483647
 c : -2147483648≤x.2.2.1∧x.2.2.1≤2147483647
 g:0≤x.2.2.2.1∧x.2.2.2.1≤65535
theorem Ap7 {k q v:Int}(hs:F6 k≠0)(hq:0≤q∧q≤255)(hv:loF k≤v∧v≤hiF k):BB7 k q v=(E0 (K9 k q v),0):=by unfold BB7;rw[if_neg hs,if_neg (by omega)]
theorem Ap8 {β:Type}(h:Bool)(k q v:Int)(r:List (List Int))(hr:r.length≤1000)(K:List (List Int)→Option β):Option.bind (bif (bif h then (((E0 (K9 k q v),(0:Int)):List Int×Int).2==(0:Int)) else false) then chk none (decide ((r.length+([((E0 (K9 k q v),(0:Int)):List Int×Int).1]:List (List Int)).length)*24≤140737488355328)) (some (r++([((E0 (K9 k q v),(0:Int)):List Int×Int).1]:List (List Int)))) else some r) K=K (r++R7 h k q v):=by
 cases h with
 |false=>simp [R7]
 |true=>
  have e:decide ((r.length+([E0 (K9 k q v)]:List (List Int)).length)*24≤140737488355328)=true:=by simp only[Fh9,Fi0,decide_eq_true_eq];omega
  simp only[cond_true,beq_self_eq_true,e,P5,Fh7,R7]
theorem AJ5 (h:Bool)(k q v:Int):(R7 h k q v).length≤1:=by cases h <;> simp[R7]
theorem Ee1 (l:List Sen)(hl:l.length≤1000)(h:∀x∈l,AY3 x):AL1 l=some (AF4 l):=by
 unfold AL1;refine Ap2 l.length (fun i=>((i:Int),(Fi9 i).map (Ap6 l))) (AF4 l) rfl ?_ ?_ rfl
 ·intro i hi
  have e1:(decide ((i:Int)<(l.length:Int)))=true:=by simpa using hi
  have e2:(decide ((0:Int)≤(i:Int)))=true:=by simp
  have hm:l.getD i AY2∈l:=by simp[Fi6,hi]
  have hx:=h _ hm;have e3:(l.getD i (((0:Int),(0:Int)),((0:Int),((0:Int),((0:Int),((false,(false,(false,(false,false)))),false))))))=l.getD i AY2:=rfl;have e4:((i:Int).tmod (256:Int))=((i % 256:Nat):Int):=Ao8 i 256;have e5:=X7 i (by omega)
  have hA:Ap6 l i=(AC1 ((i % 256:Nat):Int) (l.getD i AY2),(l.getD i AY2).2.2.2.2.2):=rfl;have hq:0≤((i % 256:Nat):Int)∧((i % 256:Nat):Int)≤255:=by omega
  simp only[e1,e2,cond_true,Bool.and_self,P5,Int.toNat_natCast,e3,e4,e5];generalize l.getD i AY2=x at*;generalize ((i % 256:Nat):Int)=q at*;obtain⟨xa,xb,xv,xc,xg⟩:=hx;have p1:=Ap7 (k:=1) (q:=q) (v:=x.1.1) (by decide) hq ⟨xa.1,xa.2⟩
  have p2:=Ap7 (k:=2) (q:=q) (v:=x.1.2) (by decide) hq ⟨xb.1,xb.2⟩
  have p3:=Ap7 (k:=3) (q:=q) (v:=x.2.1) (by decide) hq ⟨xv.1,xv.2⟩
  have p4:=Ap7 (k:=4) (q:=q) (v:=x.2.2.1) (by decide) hq ⟨xc.1,xc.2⟩
  have p5:=Ap7 (k:=5) (q:=q) (v:=x.2.2.2.1) (by decide) hq ⟨xg.1,xg.2⟩
  have l1:=AJ5 x.2.2.2.2.1.1 1 q x.1.1;have l2:=AJ5 x.2.2.2.2.1.2.1 2 q x.1.2;have l3:=AJ5 x.2.2.2.2.1.2.2.1 3 q x.2.1;have l4:=AJ5 x.2.2.2.2.1.2.2.2.1 4 q x.2.2.1;rw[A5 (n:=x.1.1) (by omega),A5 (n:=x.1.2) (by omega),A5 (n:=x.2.1) (by omega),A5 (n:=x.2.2.1) (by omega),A5 (n:=x.2.2.2.1) (by omega)]
  rw[Ap5 1 q _ (by omega),p1,Fh7]
  have s1:=Ap8 (β:=(Int×List Cyc) ⊕ List Cyc) x.2.2.2.2.1.1 1 q x.1.1 [] (by simp)
  refine (s1 _).trans ?_;rw[Ap5 2 q _ (by omega),p2,Fh7]
  refine (Ap8 x.2.2.2.2.1.2.1 2 q x.1.2 _ (by simp;omega) _).trans ?_
  rw[Ap5 3 q _ (by omega),p3,Fh7]
  refine (Ap8 x.2.2.2.2.1.2.2.1 3 q x.2.1 _ (by simp;omega) _).trans ?_
  rw[Ap5 4 q _ (by omega),p4,Fh7]
  refine (Ap8 x.2.2.2.2.1.2.2.2.1 4 q x.2.2.1 _ (by simp;omega) _).trans ?_
  rw[Ap5 5 q _ (by omega),p5,Fh7]
  refine (Ap8 x.2.2.2.2.1.2.2.2.2 5 q x.2.2.2.1 _ (by simp;omega) _).trans ?_
  have e6:decide ((((Fi9 i).map (Ap6 l)).length+([((((([]++R7 x.2.2.2.2.1.1 1 q x.1.1)++R7 x.2.2.2.2.1.2.1 2 q x.1.2)++R7 x.2.2.2.2.1.2.2.1 3 q x.2.1)++R7 x.2.2.2.2.1.2.2.2.1 4 q x.2.2.1)++R7 x.2.2.2.2.1.2.2.2.2 5 q x.2.2.2.1,x.2.2.2.2.2)]:List Cyc).length)*32≤140737488355328)=true:=by simp only[List.length_map,List.length_range,Fh9,Fi0,decide_eq_true_eq];omega
  rw[e6,P5,Fi2,List.range_succ,List.map_append,List.map_cons,List.map_nil,hA];rfl
 ·have e1:(decide ((l.length:Int)<(l.length:Int)))=false:=by simp
  simp only[e1,cond_false];rfl
def BB9 (x:Sen):Mal:=((false,x.2.2.2.2.1.1,x.2.2.2.2.1.2.1,x.2.2.2.2.1.2.2.1,x.2.2.2.2.1.2.2.2.1,x.2.2.2.2.1.2.2.2.2),(0,(bif x.2.2.2.2.1.1 then x.1.1 else 0),(bif x.2.2.2.2.1.2.1 then x.1.2 else 0),(bif x.2.2.2.2.1.2.2.1 then x.2.1 else 0),(bif x.2.2.2.2.1.2.2.2.1 then x.2.2.1 else 0),(bif x.2.2.2.2.1.2.2.2.2 then x.2.2.2.1 else 0)),(0,0,0,0))
theorem Ee2 (k:Nat)(h:k≤1000000):bits .i64 .and (k:Int) 255=((k % 256:Nat):Int):=by show IntKind.i64.wrap (((BitVec.ofInt 64 (k:Int)) &&& (BitVec.ofInt 64 255)).toNat:Int)=_;have e1:BitVec.ofInt 64 (k:Int)=BitVec.ofNat 64 k:=rfl;have e2:BitVec.ofInt 64 255=BitVec.ofNat 64 255:=rfl;rw[e1,e2,BitVec.toNat_and,Fi7,Fi7,Nat.mod_eq_of_lt (by omega),Nat.mod_eq_of_lt (by omega),show (255:Nat)=2 ^ 8-1 from rfl,Nat.and_two_pow_sub_one_eq_mod,A5 (by omega)]
theorem Ap9 {q:Int}(h:Bool){k v:Int}{m:Mal}(hs:F6 k≠0)(hq:0≤q∧q≤255)(hv:loF k≤v∧v≤hiF k)(hm:CM5 m k=false):(R7 h k q v).foldl (D0 q) m=bif h then BT4 m k v else m:=by
 cases h with
 |false=>rfl
 |true=>
  show D0 q m (E0 (K9 k q v))=BT4 m k v;unfold D0;rw[Ee0 hs hq hv];simp[hm]
theorem Ee3 (k:Nat)(x:Sen)(hk:k≤1000000)(hx:AY3 x):Ah0 (k:Int) (AC1 ((k % 256:Nat):Int) x)=BB9 x:=by
 unfold Ah0;have hq:0≤((k % 256:Nat):Int)∧((k % 256:Nat):Int)≤255:=by omega
 rw[Ee2 k hk];generalize ((k % 256:Nat):Int)=q at*;have l1:=AJ5 x.2.2.2.2.1.1 1 q x.1.1;have l2:=AJ5 x.2.2.2.2.1.2.1 2 q x.1.2;have l3:=AJ5 x.2.2.2.2.1.2.2.1 3 q x.2.1;have l4:=AJ5 x.2.2.2.2.1.2.2.2.1 4 q x.2.2.1;have l5:=AJ5 x.2.2.2.2.1.2.2.2.2 5 q x.2.2.2.1;have hlen:(AC1 q x).length≤5:=by unfold AC1;simp only[Fi8];omega
 have hb:F3 (AC1 q x)=0:=by
  unfold F3;rw[if_neg (by omega),Int.sub_self]
  rfl
 rw[hb,List.take_of_length_le (by omega)]
 unfold AC1 BB9;obtain⟨xa,xb,xv,xc,xg⟩:=hx;obtain⟨⟨a,b⟩,v,c,g,⟨h1,h2,h3,h4,h5⟩,cm⟩:=x;simp only at*;rw[Fi1,Fi1,Fi1,Fi1];rw[Ap9 h1 (by decide) hq ⟨xa.1,xa.2⟩ rfl]
 rw[Ap9 h2 (by decide) hq ⟨xb.1,xb.2⟩ (by cases h1 <;> rfl)]
 rw[Ap9 h3 (by decide) hq ⟨xv.1,xv.2⟩ (by cases h1 <;> cases h2 <;> rfl)]
 rw[Ap9 h4 (by decide) hq ⟨xc.1,xc.2⟩ (by cases h1 <;> cases h2 <;> cases h3 <;> rfl)]
 rw[Ap9 h5 (by decide) hq ⟨xg.1,xg.2⟩ (by cases h1 <;> cases h2 <;> cases h3 <;> cases h4 <;> rfl)]
 cases h1 <;> cases h2 <;> cases h3 <;> cases h4 <;> cases h5 <;> rfl
theorem Ee4 {k q v:Int}(hs:F6 k≠0)(hq:0≤q∧q≤255)(hv:loF k≤v∧v≤hiF k):Bytes (E0 (K9 k q v))∧(E0 (K9 k q v)).length≤140737488355328:=by have h:=BT5 k q v;refine⟨AX7 (Ap1 (BB8 hs hq hv)),?_⟩;unfold E0;rw[Fi8];simp only[Fh9,Fi0];omega
theorem Aq0 {h:Bool}{k q v:Int}(hs:F6 k≠0)(hq:0≤q∧q≤255)(hv:loF k≤v∧v≤hiF k):FOK (R7 h k q v):=by
 intro b hb;cases h with
 |false=>cases hb
 |true=>
  rcases Fi3.1 hb with rfl | h
  ·exact Ee4 hs hq hv
  ·cases h
theorem BC0 {a b:List (List Int)}(h:FOK a)(h':FOK b):FOK (a++b):=fun c hc=>(List.mem_append.1 hc).elim (h c) (h' c)
theorem CN1 {q:Int}{x:Sen}(hq:0≤q∧q≤255)(hx:AY3 x):FOK (AC1 q x):=
 BC0 (BC0 (BC0 (BC0 (Aq0 (by decide) hq ⟨hx.a.1,hx.a.2⟩) (Aq0 (by decide) hq ⟨hx.b.1,hx.b.2⟩)) (Aq0 (by decide) hq ⟨hx.v.1,hx.v.2⟩)) (Aq0 (by decide) hq ⟨hx.c.1,hx.c.2⟩)) (Aq0 (by decide) hq ⟨hx.g.1,hx.g.2⟩)
theorem BT6 (l:List Sen):(AF4 l).length=l.length:=by simp[AF4]
theorem Ee5 {l:List Sen}(h:∀x∈l,AY3 x):∀x∈AF4 l,FOK x.1:=by intro x hx;unfold AF4 at hx;obtain⟨k,hk,rfl⟩:=List.mem_map.1 hx;have hk2:=List.mem_range.1 hk;exact CN1 (by omega) (h _ (by simp[Fi6,hk2]))
theorem Ee6 (l:List Sen){k:Nat}(h:k<l.length):(AF4 l)[k]? = some (AC1 ((k % 256:Nat):Int) l[k],l[k].2.2.2.2.2):=by unfold AF4;rw[List.getElem?_map,List.getElem?_range h];simp only[Option.map_some,Ap6];rw[P6 h]

/- What two units tell to which like cycles come. -/
section
variable {α β γ:Type}
end
noncomputable def CN2 (z1 x1 x2:Bool)(q:Int×(Int×(Int×Int)))(cmd:Bool)(cy:Int)(f:Fsd)(s4:C8):Option (G4×C8):=
 (AW5 s4.watch s4.c f.2.1 f.2.2.2.1 z1 x2).bind fun w=>
  (bif w.2.2 then some ((false,(0,((0,0),(0,(0,[]))))):Plc) else some s4.place).bind fun pl=>
   (AW6 s4.still s4.c f.1 f.2.1).bind fun st=>(AW7 s4.E5 s4.c st.2 cmd f.1).bind fun ro=>
    (AP3 {s4 with watch:=w,place:=pl,still:=st,E5:=ro} f cy x2 (!x1) q).bind fun r=>some (r,{s4 with watch:=w,place:=pl,still:=st,E5:=ro})
noncomputable def CN3 (v5:Int×Bool)(q:Int×(Int×(Int×Int)))(cmd:Bool)(cy:Int)(s:C8)(f:Fsd)(ka kb:Cnt):Option (G4×C8):=
 (AP0 s.t f.1 s.K4 s.place).bind fun z=>(AP1 s.c s.t z.2.2 s.place f.1 v5).bind fun x=>
  (bif x.2.2.2 then AP2 x f.1 {s with k0:=ka,k1:=kb,clean:=bif s.clean then f.2.2.1 else false,speed:=f.1,K4:=z.2.1,place:=z.2.2} else some {s with k0:=ka,k1:=kb,clean:=bif s.clean then f.2.2.1 else false,speed:=f.1,K4:=z.2.1,place:=z.2.2}).bind (CN2 z.1 x.2.2.1 x.2.2.2 q cmd cy f)
theorem Ee7 (m:Mal)(cmd:Bool)(cy:Int)(s:C8):AX3 m cmd cy s=(AE9 s (mv1 m) (mv2 m) (mv3 m) (mv4 m)).bind fun y=>CN3 (mv5 m) m.2.2 cmd cy s y.1 y.2.1 y.2.2:=rfl
def Al {α:Type}(a:Option α)(Q:α→Prop):Prop:=∀y,a=some y→Q y
section
variable {α β:Type}
theorem Al.some {y:α}{Q:α→Prop}(h:Q y):Al (some y) Q:=fun _ e=>Option.some.inj e▸h
theorem Al.bnd {a:Option α}{f:α→Option β}{Q:β→Prop}(h:∀x,a=Option.some x→Al (f x) Q):Al (Option.bind a f) Q:=by
 cases a with
 |none=>intro y e;cases e
 |some x=>exact h x rfl
theorem Al.cnd {c:Bool}{a b:Option α}{Q:α→Prop}(h:c=true→Al a Q)(h2:c=false→Al b Q):Al (cond c a b) Q:=by
 cases c
 ·exact h2 rfl
 ·exact h rfl
theorem Al.chk {c:Bool}{a:Option α}{Q:α→Prop}(h:Al a Q):Al (chk none c a) Q:=by
 cases c
 ·intro y e;cases e
 ·exact h
end
theorem Ee8 (k:Nat)(h:k≤1000):Fh8 .i64 ((k:Int)+1)=((k+1:Nat):Int):=X7 k h
theorem Ee9 (list:List (List Int))(cmd:Bool)(s:C8)(hl:FOK list):AB8 list cmd s=bif s.broken then some (An9 s.C9,{s with C9:=Fh8 .i64 (s.C9+1)}) else AX3 (Ah0 s.C9 list) cmd s.C9 {s with C9:=Fh8 .i64 (s.C9+1)}:=by
 unfold AB8;cases s.broken with
 |true=>rfl
 |false=>
  rw[CM6 s.C9 list hl];rfl
end Go.Proofs.YthfjpkdadjemcaaGreat
