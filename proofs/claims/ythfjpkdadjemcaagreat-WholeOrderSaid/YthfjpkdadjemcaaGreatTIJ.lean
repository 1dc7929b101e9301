/- What is sent of a cycle, and what comes of it. -/
import Derived.Test.YthfjpkdadjemcaaGreatTopH
set_option linter.unusedSimpArgs false
set_option linter.unusedVariables false
namespace Go.Proofs.YthfjpkdadjemcaaGreat
open Go Go.RowKit
abbrev Sen:=(Int×Int)×(Int×(Int×(Int×((Bool×(Bool×(Bool×(Bool×Bool))))×Bool))))
def uF (v:Int):Int:=if v<0 then v+4294967296 else v
def K7 (k q v:Int):List Int:=if G0 k=4 then [k,q,4,uF v/16777216,uF v/65536 % 256,uF v/256 % 256,uF v % 256] else [k,q,2,uF v/256 % 256,uF v % 256]
def loF (k:Int):Int:=if G0 k=4 then -2147483648 else 0
def hiF (k:Int):Int:=if G0 k=4 then 2147483647 else 65535
def T3 (k q v:Int):List Int×Int:=if G0 k=0 then ([],30) else if q<0∨255<q∨v<loF k∨hiF k<v then ([],10) else (I4 (K7 k q v),0)
theorem u5 {n:Int}(h:0≤n∧n≤255):IntKind.wrap .u8 n=n:=by simp only[IntKind.wrap,IntKind.bits,IntKind.signed,Bool.false_and,Bool.false_eq_true,if_false,show (2:Int) ^ 8=256 from rfl];omega
theorem BD6 {k q v:Int}(hs:G0 k≠0)(hq:0≤q∧q≤255)(hv:loF k≤v∧v≤hiF k):ByL (K7 k q v):=by
 have h:=An2 k;unfold K7 loF hiF uF at*;intro c hc;have hu:0≤(if v<0 then v+4294967296 else v):=by split <;> (split at hv <;> omega)
 have hu2:(if v<0 then v+4294967296 else v)≤4294967295:=by split <;> (split at hv <;> omega)
 generalize (if v<0 then v+4294967296 else v)=u at*
 split at hc
 ·simp only[List.mem_cons,List.not_mem_nil,or_false] at hc
  rcases hc with rfl | rfl | rfl | rfl | rfl | rfl | rfl <;> omega
 ·simp only[List.mem_cons,List.not_mem_nil,or_false] at hc
  rcases hc with rfl | rfl | rfl | rfl | rfl <;> omega
theorem BV3 (k q v:Int):(K7 k q v).length≤7:=by unfold K7;split <;> simp
theorem An6 {a:Int}(c:Int)(h:0≤a):a.tdiv c=a/c:=Int.tdiv_eq_ediv_of_nonneg h
theorem AW5 {a:Int}(c:Int)(h:0≤a):a.tmod c=a % c:=Int.tmod_eq_emod_of_nonneg h
theorem CI6 (b:List Int)(hb:ByL b)(hl:b.length≤1000):Option.bind (AF8 b) (fun s=>chk none (decide ((b.length+([IntKind.wrap .u8 (IntKind.wrap .i64 (s.tdiv 256)),IntKind.wrap .u8 (s.tmod 256)]:List Int).length)*1≤140737488355328)) (some (b++([IntKind.wrap .u8 (IntKind.wrap .i64 (s.tdiv 256)),IntKind.wrap .u8 (s.tmod 256)]:List Int),(0:Int))))=some (I4 b,0):=by
 rw[CE9 b (AW2 hb) (by omega),Option.bind_some]
 have h:=BC8 b;have e:decide ((b.length+([IntKind.wrap .u8 (IntKind.wrap .i64 ((F9 b).tdiv 256)),IntKind.wrap .u8 ((F9 b).tmod 256)]:List Int).length)*1≤140737488355328)=true:=by simp only[List.length_cons,List.length_nil,decide_eq_true_eq];omega
 rw[e,P6,An6 _ h.1,AW5 _ h.1,B0 (by omega),u5 (by omega),u5 (by omega)]
 rfl
theorem Ee7 (k q v:Int)(h0:G0 k≠0)(hg:q<0∨255<q∨v<loF k∨hiF k<v):P5 (k,(q,v))=some ([],10):=by
 unfold P5;rw[BC3];have hor:∀lo hi:Int,q<0∨255<q∨v<lo∨hi<v→(bif (bif (bif decide (q<0) then true else decide (255<q)) then true else decide (v<lo)) then true else decide (hi<v))=true:=by
  intro lo hi h;rcases h with h | h | h | h
  ·rw[decide_eq_true h];rfl
  ·rw[decide_eq_true h];cases decide (q<0) <;> rfl
  ·rw[decide_eq_true h];cases decide (q<0) <;> cases decide (255<q) <;> rfl
  ·rw[decide_eq_true h];cases decide (q<0) <;> cases decide (255<q) <;> cases decide (v<lo) <;> rfl
 by_cases h4:G0 k=4
 ·have e1:loF k = -2147483648:=if_pos h4
  have e2:hiF k=2147483647:=if_pos h4;rw[e1,e2] at hg;have e:=hor _ _ hg;simp only[Option.bind_some,h4,show ((4:Int)==0)=false from rfl,show ((4:Int)==4)=true from rfl,cond_false,cond_true,e]
 ·have e1:loF k=0:=if_neg h4
  have e2:hiF k=65535:=if_neg h4;rw[e1,e2] at hg;have e:=hor _ _ hg;simp only[Option.bind_some,beq_false_of_ne h0,beq_false_of_ne h4,cond_false,e,cond_true]
theorem Ee8 (k q v:Int)(h4:G0 k=4)(hk:0≤k∧k≤255)(hq:0≤q∧q≤255)(hv : -2147483648≤v∧v≤2147483647):P5 (k,(q,v))=some (I4 (K7 k q v),0):=by
 unfold P5;have hby:=BD6 (k:=k) (q:=q) (v:=v) (by omega) hq (by unfold loF hiF;rw[if_pos h4,if_pos h4];exact hv)
 have hln:=BV3 k q v;have hsl:=CI6 _ hby (by omega)
 have hbod:K7 k q v=[k,q,4,uF v/16777216,uF v/65536 % 256,uF v/256 % 256,uF v % 256]:=if_pos h4;rw[BC3,h4];simp only[Option.bind_some,show ((4:Int)==0)=false from rfl,show ((4:Int)==4)=true from rfl,cond_false,cond_true];rw[decide_eq_false (show ¬q<0 by omega),decide_eq_false (show ¬255<q by omega),decide_eq_false (show ¬v < -2147483648 by omega),decide_eq_false (show ¬2147483647<v by omega)]
 simp only[cond_false];rw[u5 hq,u5 hk,show IntKind.wrap .u8 (4:Int)=4 from rfl];have hr:(bif decide (v<0) then some (IntKind.wrap .i64 (v+4294967296)) else some v)=some (uF v):=by
  unfold uF;by_cases hn:v<0
  ·rw[decide_eq_true hn,if_pos hn,B0 (by omega)]
   rfl
  ·rw[decide_eq_false hn,if_neg hn]
   rfl
 have hu:0≤uF v∧uF v≤4294967295:=by unfold uF;split <;> omega
 rw[hr,Option.bind_some];generalize uF v=r at*;rw[An6 _ hu.1,An6 _ hu.1,An6 _ hu.1,AW5 _ hu.1,B0 (n:=r/16777216) (by omega),B0 (n:=r/65536) (by omega),B0 (n:=r/256) (by omega),AW5 _ (show 0≤r/65536 by omega),AW5 _ (show 0≤r/256 by omega),u5 (n:=r/16777216) (by omega),u5 (n:=r/65536 % 256) (by omega),u5 (n:=r/256 % 256) (by omega),u5 (n:=r % 256) (by omega)]
 rw[hbod] at hsl ⊢;exact hsl
theorem Ee9 (k q v:Int)(h2:G0 k=2)(hk:0≤k∧k≤255)(hq:0≤q∧q≤255)(hv:0≤v∧v≤65535):P5 (k,(q,v))=some (I4 (K7 k q v),0):=by
 unfold P5;have h4:¬G0 k=4:=by omega
 have hby:=BD6 (k:=k) (q:=q) (v:=v) (by omega) hq (by unfold loF hiF;rw[if_neg h4,if_neg h4];exact hv)
 have hln:=BV3 k q v;have hsl:=CI6 _ hby (by omega)
 have hu:uF v=v:=if_neg (by omega)
 have hbod:K7 k q v=[k,q,2,v/256 % 256,v % 256]:=by unfold K7;rw[if_neg h4,hu]
 rw[BC3,h2];simp only[Option.bind_some,show ((2:Int)==0)=false from rfl,show ((2:Int)==4)=false from rfl,cond_false,cond_true];rw[decide_eq_false (show ¬q<0 by omega),decide_eq_false (show ¬255<q by omega),decide_eq_false (show ¬v<0 by omega),decide_eq_false (show ¬65535<v by omega)]
 simp only[cond_false,Option.bind_some];rw[u5 hq,u5 hk,show IntKind.wrap .u8 (2:Int)=2 from rfl];rw[An6 _ hv.1,AW5 _ hv.1,B0 (n:=v/256) (by omega),AW5 _ (show 0≤v/256 by omega),u5 (n:=v/256 % 256) (by omega),u5 (n:=v % 256) (by omega)]
 rw[hbod] at hsl ⊢;exact hsl
theorem Af1 (k q v:Int)(hv64 : -9223372036854775808≤v∧v≤9223372036854775807):P5 (k,(q,v))=some (T3 k q v):=by
 unfold T3;have hsc:=An2 k;by_cases h0:G0 k=0
 ·rw[if_pos h0]
  unfold P5;rw[BC3,h0];rfl
 rw[if_neg h0];by_cases hg:q<0∨255<q∨v<loF k∨hiF k<v
 ·rw[if_pos hg]
  exact Ee7 k q v h0 hg
 ·rw[if_neg hg]
  by_cases h4:G0 k=4
  ·have e1:loF k = -2147483648:=if_pos h4
   have e2:hiF k=2147483647:=if_pos h4;exact Ee8 k q v h4 (by omega) (by omega) (by omega)
  ·have e1:loF k=0:=if_neg h4
   have e2:hiF k=65535:=if_neg h4;exact Ee9 k q v (by omega) (by omega) (by omega) (by omega)
theorem Ef0 {b:List Int}(hb:ByL b):F9 (I4 b)=0:=by
 have hs:=AW2 (BU4 hb);have hn:(I4 b).length=b.length+2:=by simp[I4]
 have h:=BC8 b;rw[ER9 hs hn];have e1:(I4 b).take b.length=b:=by simp[I4]
 have e2:(I4 b).getD b.length 0=F9 b/256:=by simp[I4,List.getD]
 have e3:(I4 b).getD (b.length+1) 0=F9 b % 256:=by simp[I4,List.getD]
 rw[e1,e2,e3];omega
theorem Ef1 (k q v a b:Int)(h4:G0 k=4)(hv : -2147483648≤v∧v≤2147483647):Ae7 k (M8 [k,q,4,uF v/16777216,uF v/65536 % 256,uF v/256 % 256,uF v % 256,a,b] 3 4)=v:=by
 have e:M8 [k,q,4,uF v/16777216,uF v/65536 % 256,uF v/256 % 256,uF v % 256,a,b] 3 4=uF v:=by
  have hu:0≤uF v∧uF v≤4294967295:=by unfold uF;split <;> omega
  show 256*(256*(256*(256*0+uF v/16777216)+uF v/65536 % 256)+uF v/256 % 256)+uF v % 256=uF v;omega
 rw[e];unfold Ae7 uF;split <;> split <;> omega
theorem Ef2 (k q v a b:Int)(h2:G0 k=2)(hv:0≤v∧v≤65535):Ae7 k (M8 [k,q,2,uF v/256 % 256,uF v % 256,a,b] 3 2)=v:=by
 have e:M8 [k,q,2,uF v/256 % 256,uF v % 256,a,b] 3 2=v:=by
  have hu:uF v=v:=if_neg (by omega)
  show 256*(256*0+uF v/256 % 256)+uF v % 256=v;omega
 rw[e];unfold Ae7;rw[if_neg (by omega)]
theorem CI7 {k q v:Int}(hs:G0 k≠0)(hq:0≤q∧q≤255)(hv:loF k≤v∧v≤hiF k):F5 (I4 (K7 k q v))=((k,q,v),0):=by
 have hc:=Ef0 (BD6 hs hq hv);have h:=An2 k;unfold F5;rw[hc];unfold I4;generalize F9 (K7 k q v)/256=a;generalize F9 (K7 k q v) % 256=b;by_cases h4:G0 k=4
 ·have e1:loF k = -2147483648:=if_pos h4
  have e2:hiF k=2147483647:=if_pos h4;have hbod:K7 k q v=[k,q,4,uF v/16777216,uF v/65536 % 256,uF v/256 % 256,uF v % 256]:=if_pos h4;have hsv:=Ef1 k q v a b h4 (by omega)
  rw[hbod];simp only[List.cons_append,List.nil_append,List.length_cons,List.length_nil,List.getD_cons_zero,List.getD_cons_succ,h4];rw[if_neg (by omega),if_neg (by omega),if_neg (by omega),if_neg (by omega)]
  exact congrArg (fun x=>((k,q,x),(0:Int))) hsv
 ·have h2:G0 k=2:=by omega
  have e1:loF k=0:=if_neg h4;have e2:hiF k=65535:=if_neg h4;have hbod:K7 k q v=[k,q,2,uF v/256 % 256,uF v % 256]:=if_neg h4;have hsv:=Ef2 k q v a b h2 (by omega)
  rw[hbod];simp only[List.cons_append,List.nil_append,List.length_cons,List.length_nil,List.getD_cons_zero,List.getD_cons_succ,h2];rw[if_neg (by omega),if_neg (by omega),if_neg (by omega),if_neg (by omega)]
  exact congrArg (fun x=>((k,q,x),(0:Int))) hsv
def R2 (h:Bool)(k q v:Int):List (List Int):=bif h then [I4 (K7 k q v)] else []
def Y9 (q:Int)(x:Sen):List (List Int):=(((R2 x.2.2.2.2.1.1 1 q x.1.1++R2 x.2.2.2.2.1.2.1 2 q x.1.2)++R2 x.2.2.2.2.1.2.2.1 3 q x.2.1)++R2 x.2.2.2.2.1.2.2.2.1 4 q x.2.2.1)++R2 x.2.2.2.2.1.2.2.2.2 5 q x.2.2.2.1
def u6:Sen:=(((0:Int),(0:Int)),((0:Int),((0:Int),((0:Int),((false,(false,(false,(false,false)))),false)))))
def An7 (l:List Sen)(k:Nat):Cyc:=(Y9 ((k % 256:Nat):Int) (l.getD k u6),(l.getD k u6).2.2.2.2.2)
def Z0 (l:List Sen):List Cyc:=(List.range l.length).map (An7 l)
structure u7 (x:Sen):Prop where
 a:0≤x.1.1∧x.1.1≤65535
 b:0≤x.1.2∧x.1.2≤65535
 v : -2147483648≤x.2.1∧x.2.1≤2147483647
 c : -2147483648≤x.2.2.1∧x.2.2.1≤2147483647
 g:0≤x.2.2.2.1∧x.2.2.2.1≤65535
theorem AW6 {k q v:Int}(hs:G0 k≠0)(hq:0≤q∧q≤255)(hv:loF k≤v∧v≤hiF k):T3 k q v=(I4 (K7 k q v),0):=by unfold T3;rw[if_neg hs,if_neg (by omega)]
theorem An8 {β:Type}(h:Bool)(k q v:Int)(r:List (List Int))(hr:r.length≤1000)(K:List (List Int)→Option β):Option.bind (bif (bif h then (((I4 (K7 k q v),(0:Int)):List Int×Int).2==(0:Int)) else false) then chk none (decide ((r.length+([((I4 (K7 k q v),(0:Int)):List Int×Int).1]:List (List Int)).length)*24≤140737488355328)) (some (r++([((I4 (K7 k q v),(0:Int)):List Int×Int).1]:List (List Int)))) else some r) K=K (r++R2 h k q v):=by
 cases h with
 |false=>simp [R2]
 |true=>
  have e:decide ((r.length+([I4 (K7 k q v)]:List (List Int)).length)*24≤140737488355328)=true:=by simp only[List.length_cons,List.length_nil,decide_eq_true_eq];omega
  simp only[cond_true,beq_self_eq_true,e,P6,Option.bind_some,R2]
theorem AI3 (h:Bool)(k q v:Int):(R2 h k q v).length≤1:=by cases h <;> simp[R2]
theorem CI8 (l:List Sen)(hl:l.length≤1000)(h:∀x∈l,u7 x):AF9 l=some (Z0 l):=by
 unfold AF9;refine AI2 l.length (fun i=>((i:Int),(List.range i).map (An7 l))) (Z0 l) rfl ?_ ?_ rfl
 ·intro i hi
  have e1:(decide ((i:Int)<(l.length:Int)))=true:=by simpa using hi
  have e2:(decide ((0:Int)≤(i:Int)))=true:=by simp
  have hm:l.getD i u6∈l:=by simp[List.getD,hi]
  have hx:=h _ hm;have e3:(l.getD i (((0:Int),(0:Int)),((0:Int),((0:Int),((0:Int),((false,(false,(false,(false,false)))),false))))))=l.getD i u6:=rfl;have e4:((i:Int).tmod (256:Int))=((i % 256:Nat):Int):=An1 i 256;have e5:=q9 i (by omega)
  have hA:An7 l i=(Y9 ((i % 256:Nat):Int) (l.getD i u6),(l.getD i u6).2.2.2.2.2):=rfl;have hq:0≤((i % 256:Nat):Int)∧((i % 256:Nat):Int)≤255:=by omega
  simp only[e1,e2,cond_true,Bool.and_self,P6,Int.toNat_natCast,e3,e4,e5];generalize l.getD i u6=x at*;generalize ((i % 256:Nat):Int)=q at*;obtain⟨xa,xb,xv,xc,xg⟩:=hx;have p1:=AW6 (k:=1) (q:=q) (v:=x.1.1) (by decide) hq ⟨xa.1,xa.2⟩
  have p2:=AW6 (k:=2) (q:=q) (v:=x.1.2) (by decide) hq ⟨xb.1,xb.2⟩
  have p3:=AW6 (k:=3) (q:=q) (v:=x.2.1) (by decide) hq ⟨xv.1,xv.2⟩
  have p4:=AW6 (k:=4) (q:=q) (v:=x.2.2.1) (by decide) hq ⟨xc.1,xc.2⟩
  have p5:=AW6 (k:=5) (q:=q) (v:=x.2.2.2.1) (by decide) hq ⟨xg.1,xg.2⟩
  have l1:=AI3 x.2.2.2.2.1.1 1 q x.1.1;have l2:=AI3 x.2.2.2.2.1.2.1 2 q x.1.2;have l3:=AI3 x.2.2.2.2.1.2.2.1 3 q x.2.1;have l4:=AI3 x.2.2.2.2.1.2.2.2.1 4 q x.2.2.1;rw[B0 (n:=x.1.1) (by omega),B0 (n:=x.1.2) (by omega),B0 (n:=x.2.1) (by omega),B0 (n:=x.2.2.1) (by omega),B0 (n:=x.2.2.2.1) (by omega)]
  rw[Af1 1 q _ (by omega),p1,Option.bind_some]
  have s1:=An8 (β:=(Int×List Cyc) ⊕ List Cyc) x.2.2.2.2.1.1 1 q x.1.1 [] (by simp)
  refine (s1 _).trans ?_;rw[Af1 2 q _ (by omega),p2,Option.bind_some]
  refine (An8 x.2.2.2.2.1.2.1 2 q x.1.2 _ (by simp;omega) _).trans ?_
  rw[Af1 3 q _ (by omega),p3,Option.bind_some]
  refine (An8 x.2.2.2.2.1.2.2.1 3 q x.2.1 _ (by simp;omega) _).trans ?_
  rw[Af1 4 q _ (by omega),p4,Option.bind_some]
  refine (An8 x.2.2.2.2.1.2.2.2.1 4 q x.2.2.1 _ (by simp;omega) _).trans ?_
  rw[Af1 5 q _ (by omega),p5,Option.bind_some]
  refine (An8 x.2.2.2.2.1.2.2.2.2 5 q x.2.2.2.1 _ (by simp;omega) _).trans ?_
  have e6:decide ((((List.range i).map (An7 l)).length+([((((([]++R2 x.2.2.2.2.1.1 1 q x.1.1)++R2 x.2.2.2.2.1.2.1 2 q x.1.2)++R2 x.2.2.2.2.1.2.2.1 3 q x.2.1)++R2 x.2.2.2.2.1.2.2.2.1 4 q x.2.2.1)++R2 x.2.2.2.2.1.2.2.2.2 5 q x.2.2.2.1,x.2.2.2.2.2)]:List Cyc).length)*32≤140737488355328)=true:=by simp only[List.length_map,List.length_range,List.length_cons,List.length_nil,decide_eq_true_eq];omega
  rw[e6,P6,List.nil_append,List.range_succ,List.map_append,List.map_cons,List.map_nil,hA];rfl
 ·have e1:(decide ((l.length:Int)<(l.length:Int)))=false:=by simp
  simp only[e1,cond_false];rfl
def Af2 (x:Sen):Mal:=((false,x.2.2.2.2.1.1,x.2.2.2.2.1.2.1,x.2.2.2.2.1.2.2.1,x.2.2.2.2.1.2.2.2.1,x.2.2.2.2.1.2.2.2.2),(0,(bif x.2.2.2.2.1.1 then x.1.1 else 0),(bif x.2.2.2.2.1.2.1 then x.1.2 else 0),(bif x.2.2.2.2.1.2.2.1 then x.2.1 else 0),(bif x.2.2.2.2.1.2.2.2.1 then x.2.2.1 else 0),(bif x.2.2.2.2.1.2.2.2.2 then x.2.2.2.1 else 0)),(0,0,0,0))
theorem CI9 (k:Nat)(h:k≤1000000):bits .i64 .and (k:Int) 255=((k % 256:Nat):Int):=by show IntKind.i64.wrap (((BitVec.ofInt 64 (k:Int)) &&& (BitVec.ofInt 64 255)).toNat:Int)=_;have e1:BitVec.ofInt 64 (k:Int)=BitVec.ofNat 64 k:=rfl;have e2:BitVec.ofInt 64 255=BitVec.ofNat 64 255:=rfl;rw[e1,e2,BitVec.toNat_and,BitVec.toNat_ofNat,BitVec.toNat_ofNat,Nat.mod_eq_of_lt (by omega),Nat.mod_eq_of_lt (by omega),show (255:Nat)=2 ^ 8-1 from rfl,Nat.and_two_pow_sub_one_eq_mod,B0 (by omega)]
theorem An9 {q:Int}(h:Bool){k v:Int}{m:Mal}(hs:G0 k≠0)(hq:0≤q∧q≤255)(hv:loF k≤v∧v≤hiF k)(hm:P9 m k=false):(R2 h k q v).foldl (A6 q) m=bif h then AB3 m k v else m:=by
 cases h with
 |false=>rfl
 |true=>
  show A6 q m (I4 (K7 k q v))=AB3 m k v;unfold A6;rw[CI7 hs hq hv];simp[hm]
theorem CJ0 (k:Nat)(x:Sen)(hk:k≤1000000)(hx:u7 x):P1 (k:Int) (Y9 ((k % 256:Nat):Int) x)=Af2 x:=by
 unfold P1;have hq:0≤((k % 256:Nat):Int)∧((k % 256:Nat):Int)≤255:=by omega
 rw[CI9 k hk];generalize ((k % 256:Nat):Int)=q at*;have l1:=AI3 x.2.2.2.2.1.1 1 q x.1.1;have l2:=AI3 x.2.2.2.2.1.2.1 2 q x.1.2;have l3:=AI3 x.2.2.2.2.1.2.2.1 3 q x.2.1;have l4:=AI3 x.2.2.2.2.1.2.2.2.1 4 q x.2.2.1;have l5:=AI3 x.2.2.2.2.1.2.2.2.2 5 q x.2.2.2.1;have hlen:(Y9 q x).length≤5:=by unfold Y9;simp only[List.length_append];omega
 have hb:D5 (Y9 q x)=0:=by
  unfold D5;rw[if_neg (by omega),Int.sub_self]
  rfl
 rw[hb,List.take_of_length_le (by omega)]
 unfold Y9 Af2;obtain⟨xa,xb,xv,xc,xg⟩:=hx;obtain⟨⟨a,b⟩,v,c,g,⟨h1,h2,h3,h4,h5⟩,cm⟩:=x;simp only at*;rw[List.foldl_append,List.foldl_append,List.foldl_append,List.foldl_append];rw[An9 h1 (by decide) hq ⟨xa.1,xa.2⟩ rfl]
 rw[An9 h2 (by decide) hq ⟨xb.1,xb.2⟩ (by cases h1 <;> rfl)]
 rw[An9 h3 (by decide) hq ⟨xv.1,xv.2⟩ (by cases h1 <;> cases h2 <;> rfl)]
 rw[An9 h4 (by decide) hq ⟨xc.1,xc.2⟩ (by cases h1 <;> cases h2 <;> cases h3 <;> rfl)]
 rw[An9 h5 (by decide) hq ⟨xg.1,xg.2⟩ (by cases h1 <;> cases h2 <;> cases h3 <;> cases h4 <;> rfl)]
 cases h1 <;> cases h2 <;> cases h3 <;> cases h4 <;> cases h5 <;> rfl
theorem CJ1 {k q v:Int}(hs:G0 k≠0)(hq:0≤q∧q≤255)(hv:loF k≤v∧v≤hiF k):Bytes (I4 (K7 k q v))∧(I4 (K7 k q v)).length≤140737488355328:=by have h:=BV3 k q v;refine⟨AW2 (BU4 (BD6 hs hq hv)),?_⟩;unfold I4;rw[List.length_append];simp only[List.length_cons,List.length_nil];omega
theorem Ao0 {h:Bool}{k q v:Int}(hs:G0 k≠0)(hq:0≤q∧q≤255)(hv:loF k≤v∧v≤hiF k):FOK (R2 h k q v):=by
 intro b hb;cases h with
 |false=>cases hb
 |true=>
  rcases List.mem_cons.1 hb with rfl | h
  ·exact CJ1 hs hq hv
  ·cases h
theorem BD7 {a b:List (List Int)}(h:FOK a)(h':FOK b):FOK (a++b):=fun c hc=>(List.mem_append.1 hc).elim (h c) (h' c)
theorem BD8 {q:Int}{x:Sen}(hq:0≤q∧q≤255)(hx:u7 x):FOK (Y9 q x):=
 BD7 (BD7 (BD7 (BD7 (Ao0 (by decide) hq ⟨hx.a.1,hx.a.2⟩) (Ao0 (by decide) hq ⟨hx.b.1,hx.b.2⟩)) (Ao0 (by decide) hq ⟨hx.v.1,hx.v.2⟩)) (Ao0 (by decide) hq ⟨hx.c.1,hx.c.2⟩)) (Ao0 (by decide) hq ⟨hx.g.1,hx.g.2⟩)
theorem Af3 (l:List Sen):(Z0 l).length=l.length:=by simp[Z0]
theorem Ef3 {l:List Sen}(h:∀x∈l,u7 x):∀x∈Z0 l,FOK x.1:=by intro x hx;unfold Z0 at hx;obtain⟨k,hk,rfl⟩:=List.mem_map.1 hx;have hk2:=List.mem_range.1 hk;exact BD8 (by omega) (h _ (by simp[List.getD,hk2]))
theorem CJ2 (l:List Sen){k:Nat}(h:k<l.length):(Z0 l)[k]? = some (Y9 ((k % 256:Nat):Int) l[k],l[k].2.2.2.2.2):=by unfold Z0;rw[List.getElem?_map,List.getElem?_range h];simp only[Option.map_some,An7];rw[P7 h]
end Go.Proofs.YthfjpkdadjemcaaGreat

/- What two units tell to which like cycles come. -/
set_option linter.unusedSimpArgs false
set_option linter.unusedVariables false
namespace Go.Proofs.YthfjpkdadjemcaaGreat
open Go Go.RowKit
section
variable {α β γ:Type}
theorem M1 {A:Option α}{k:α→Option β}{k':α→Option γ}{g:β→γ}(h:∀x,k' x=(k x).map g):A.bind k'=(A.bind k).map g:=by
 cases A with
 |none=>rfl
 |some x=>exact h x
theorem Ef4 {δ:Type}{A:Option α}{A':Option δ}{u:α→δ}{k:α→Option β}{k':δ→Option γ}{g:β→γ}(hA:A'=A.map u)(h:∀x,k' (u x)=(k x).map g):A'.bind k'=(A.bind k).map g:=by
 subst hA;cases A with
 |none=>rfl
 |some x=>exact h x
theorem Ef5 {A A':Option α}{k:α→Option β}{k':α→Option γ}{g:β→γ}(hA:A'=A)(h:∀x,k' x=(k x).map g):A'.bind k'=(A.bind k).map g:=by subst hA;exact M1 h
theorem BD9 {c:Bool}{a b:Option β}{a' b':Option γ}{g:β→γ}(h1:a'=a.map g)(h2:b'=b.map g):cond c a' b'=(cond c a b).map g:=by
 cases c
 ·exact h2
 ·exact h1
theorem CJ3 {c:Bool}{a:Option β}{a':Option γ}{g:β→γ}(h:a'=a.map g):chk none c a'=(chk none c a).map g:=by
 cases c
 ·rfl
 ·exact h
end
noncomputable def AI4 (z1 x1 x2:Bool)(q:Int×(Int×(Int×Int)))(cmd:Bool)(cy:Int)(f:Fsd)(s4:A7):Option (E3×A7):=
 (Ac8 s4.watch s4.c f.2.1 f.2.2.2.1 z1 x2).bind fun w=>
  (bif w.2.2 then some ((false,(0,((0,0),(0,(0,[]))))):Plc) else some s4.place).bind fun pl=>
   (Ac9 s4.still s4.c f.1 f.2.1).bind fun st=>(Ad0 s4.E7 s4.c st.2 cmd f.1).bind fun ro=>
    (Y5 {s4 with watch:=w,place:=pl,still:=st,E7:=ro} f cy x2 (!x1) q).bind fun r=>some (r,{s4 with watch:=w,place:=pl,still:=st,E7:=ro})
noncomputable def AB4 (v5:Int×Bool)(q:Int×(Int×(Int×Int)))(cmd:Bool)(cy:Int)(s:A7)(f:Fsd)(ka kb:Cnt):Option (E3×A7):=
 (Ae0 s.t f.1 s.G4 s.place).bind fun z=>(Ae1 s.c s.t z.2.2 s.place f.1 v5).bind fun x=>
  (bif x.2.2.2 then U6 x f.1 {s with k0:=ka,k1:=kb,clean:=bif s.clean then f.2.2.1 else false,speed:=f.1,G4:=z.2.1,place:=z.2.2} else some {s with k0:=ka,k1:=kb,clean:=bif s.clean then f.2.2.1 else false,speed:=f.1,G4:=z.2.1,place:=z.2.2}).bind (AI4 z.1 x.2.2.1 x.2.2.2 q cmd cy f)
theorem BE0 (m:Mal)(cmd:Bool)(cy:Int)(s:A7):U7 m cmd cy s=(q8 s (mv1 m) (mv2 m) (mv3 m) (mv4 m)).bind fun y=>AB4 (mv5 m) m.2.2 cmd cy s y.1 y.2.1 y.2.2:=rfl
theorem Ef6 (s:A7)(f:Fsd)(cy:Int)(a b:Bool)(q q':Int×(Int×(Int×Int))):Y5 s f cy a b q'=(Y5 s f cy a b q).map fun r=>AE1 r q':=by unfold Y5;refine M1 fun nm=>M1 fun md=>BD9 rfl (CJ3 (M1 fun rts=>M1 fun fr=>BD9 (M1 fun pm=>rfl) rfl))
theorem Ef7 (z1 x1 x2:Bool)(q q':Int×(Int×(Int×Int)))(cmd:Bool)(cy:Int)(f:Fsd)(s4:A7):AI4 z1 x1 x2 q' cmd cy f s4=(AI4 z1 x1 x2 q cmd cy f s4).map fun y=>(AE1 y.1 q',y.2):=by unfold AI4;refine M1 fun w=>M1 fun pl=>M1 fun st=>M1 fun ro=>Ef4 (Ef6 _ _ _ _ _ q q') fun r=>rfl
theorem Ef8 (v5:Int×Bool)(q q':Int×(Int×(Int×Int)))(cmd:Bool)(cy:Int)(s:A7)(f:Fsd)(ka kb:Cnt):AB4 v5 q' cmd cy s f ka kb=(AB4 v5 q cmd cy s f ka kb).map fun y=>(AE1 y.1 q',y.2):=by unfold AB4;exact M1 fun z=>M1 fun x=>M1 fun s4=>Ef7 _ _ _ q q' cmd cy f s4
theorem Ef9 (m:Mal)(q':Int×(Int×(Int×Int)))(cmd:Bool)(cy:Int)(s:A7):U7 (m.1,m.2.1,q') cmd cy s=(U7 m cmd cy s).map fun y=>(AE1 y.1 q',y.2):=by rw[BE0,BE0];exact M1 fun y=>Ef8 _ _ _ _ _ _ _ _ _
theorem Eg0 (x:Fnd)(sp:Spn)(s:A7)(a b:Cnt)(ha:a.2.2=s.k0.2.2)(hb:b.2.2=s.k1.2.2):U6 x sp {s with k0:=a,k1:=b}=(U6 x sp s).map fun z=>{z with k0:=a,k1:=b}:=by unfold U6 Ae2;simp only[ha,hb];refine M1 fun p=>BD9 (CJ3 (M1 fun y=>rfl)) rfl
theorem Eg1 (s:A7)(f:Fsd)(cy:Int)(a b:Bool)(q:Int×(Int×(Int×Int)))(ka kb:Cnt):Y5 {s with k0:=ka,k1:=kb} f cy a b q=Y5 s f cy a b q:=rfl
theorem Eg2 (z1 x1 x2:Bool)(q:Int×(Int×(Int×Int)))(cmd:Bool)(cy:Int)(f:Fsd)(s4:A7)(a b:Cnt):AI4 z1 x1 x2 q cmd cy f {s4 with k0:=a,k1:=b}=(AI4 z1 x1 x2 q cmd cy f s4).map fun y=>(y.1,{y.2 with k0:=a,k1:=b}):=by
 unfold AI4;simp only;refine M1 fun w=>M1 fun pl=>M1 fun st=>M1 fun ro=> ?_
 exact Ef5 (Eg1 {s4 with watch:=w,place:=pl,still:=st,E7:=ro} f cy x2 (!x1) q a b) fun r=>rfl
theorem Eg3 (v5:Int×Bool)(q:Int×(Int×(Int×Int)))(cmd:Bool)(cy:Int)(s:A7)(f:Fsd)(ka kb a b ja jb:Cnt)(ha:a.2.2=ka.2.2)(hb:b.2.2=kb.2.2):AB4 v5 q cmd cy {s with k0:=ja,k1:=jb} f a b=(AB4 v5 q cmd cy s f ka kb).map fun y=>(y.1,{y.2 with k0:=a,k1:=b}):=by
 unfold AB4;simp only;refine M1 fun z=>M1 fun x=> ?_
 have h1:(bif x.2.2.2 then U6 x f.1 {s with k0:=a,k1:=b,clean:=bif s.clean then f.2.2.1 else false,speed:=f.1,G4:=z.2.1,place:=z.2.2} else some {s with k0:=a,k1:=b,clean:=bif s.clean then f.2.2.1 else false,speed:=f.1,G4:=z.2.1,place:=z.2.2})=(bif x.2.2.2 then U6 x f.1 {s with k0:=ka,k1:=kb,clean:=bif s.clean then f.2.2.1 else false,speed:=f.1,G4:=z.2.1,place:=z.2.2} else some {s with k0:=ka,k1:=kb,clean:=bif s.clean then f.2.2.1 else false,speed:=f.1,G4:=z.2.1,place:=z.2.2}).map fun z=>{z with k0:=a,k1:=b}:=
  BD9 (Eg0 x f.1 {s with k0:=ka,k1:=kb,clean:=bif s.clean then f.2.2.1 else false,speed:=f.1,G4:=z.2.1,place:=z.2.2} a b ha hb) rfl
 rw[h1];generalize (bif x.2.2.2 then U6 x f.1 {s with k0:=ka,k1:=kb,clean:=bif s.clean then f.2.2.1 else false,speed:=f.1,G4:=z.2.1,place:=z.2.2} else some {s with k0:=ka,k1:=kb,clean:=bif s.clean then f.2.2.1 else false,speed:=f.1,G4:=z.2.1,place:=z.2.2})=A;cases A with
 |none=>rfl
 |some s4=>exact Eg2 z.1 x.2.2.1 x.2.2.2 q cmd cy f s4 a b
def Al {α:Type}(a:Option α)(Q:α→Prop):Prop:=∀y,a=some y→Q y
section
variable {α β:Type}
theorem Al.some {y:α}{Q:α→Prop}(h:Q y):Al (some y) Q:=fun _ e=>Option.some.inj e▸h
theorem Al.bnd {a:Option α}{f:α→Option β}{Q:β→Prop}(h:∀x,a=Option.some x→Al (f x) Q):Al (Option.bind a f) Q:=by
 cases a with
 |none=>intro y e;cases e
 |some x=>exact h x rfl
theorem Al.cnd {c:Bool}{a b:Option α}{Q:α→Prop}(h:c=true→Al a Q)(h2:c=false→Al b Q):Al (cond c a b) Q:=by
 cases c
 ·exact h2 rfl
 ·exact h rfl
theorem Al.chk {c:Bool}{a:Option α}{Q:α→Prop}(h:Al a Q):Al (chk none c a) Q:=by
 cases c
 ·intro y e;cases e
 ·exact h
end
theorem Eg4 (x:Fnd)(sp:Spn)(s:A7):Al (U6 x sp s) fun z=>z.k0=s.k0∧z.k1=s.k1:=by unfold U6;exact Al.bnd fun p _=>Al.cnd (fun _=>Al.chk (Al.bnd fun y _=>Al.some ⟨rfl,rfl⟩)) fun _=>Al.some ⟨rfl,rfl⟩
theorem Eg5 (v5:Int×Bool)(q:Int×(Int×(Int×Int)))(cmd:Bool)(cy:Int)(s:A7)(f:Fsd)(ka kb:Cnt):Al (AB4 v5 q cmd cy s f ka kb) fun y=>y.2.k0=ka∧y.2.k1=kb:=by
 unfold AB4;refine Al.bnd fun z _=>Al.bnd fun x _=>Al.bnd fun s4 h4=> ?_
 have hk:s4.k0=ka∧s4.k1=kb:=by
  have h5:Al (bif x.2.2.2 then U6 x f.1 {s with k0:=ka,k1:=kb,clean:=bif s.clean then f.2.2.1 else false,speed:=f.1,G4:=z.2.1,place:=z.2.2} else some {s with k0:=ka,k1:=kb,clean:=bif s.clean then f.2.2.1 else false,speed:=f.1,G4:=z.2.1,place:=z.2.2}) fun s4=>s4.k0=ka∧s4.k1=kb:=Al.cnd (fun _=>Eg4 _ _ _) fun _=>Al.some ⟨rfl,rfl⟩
  exact h5 s4 h4
 unfold AI4;exact Al.bnd fun w _=>Al.bnd fun pl _=>Al.bnd fun st _=>Al.bnd fun ro _=>Al.bnd fun r _=>Al.some hk
theorem BV4 {R:Nat→A7→A7→Prop}{C:Nat→Cyc→Cyc→Prop}{A:E3→E3→Prop}(P:E3→Prop)
  (hstep:∀(k:Nat) (s s':A7) (x x':Cyc) (y:E3×A7),R k s s'→C k x x'→P y.1→U8 x.1 x.2 s=some y→∃y',U8 x'.1 x'.2 s'=some y'∧A y.1 y'.1∧R (k+1) y.2 y'.2):
  ∀(l l':List Cyc) (k:Nat) (s s':A7) (rs:List E3),R k s s'→l.length=l'.length→(∀(i:Nat) (x x':Cyc),l[i]? = some x→l'[i]? = some x'→C (k+i) x x')→(∀r∈rs,P r)→goN s l=some rs→
   ∃rs',goN s' l'=some rs'∧rs.length=rs'.length∧∀(i:Nat) (a b:E3),rs[i]? = some a→rs'[i]? = some b→A a b
 | [],[],k,s,s',rs,_,_,_,_,h=>by rw[goN] at h;obtain rfl:=Option.some.inj h;exact⟨[],rfl,rfl,by simp⟩
 | [],x'::xs',k,s,s',rs,_,hl,_,_,h=>by simp at hl
 |x::xs,[],k,s,s',rs,_,hl,_,_,h=>by simp at hl
 |x::xs,x'::xs',k,s,s',rs,hR,hl,hC,hP,h=>by
  rw[goN] at h;cases hy:U8 x.1 x.2 s with
  |none=>rw [hy] at h;cases h
  |some y=>
   rw[hy] at h;simp only[Option.bind_some] at h;cases hq:goN y.2 xs with
   |none=>rw [hq] at h;cases h
   |some qs=>
    rw[hq] at h;obtain rfl:=Option.some.inj h;obtain⟨y',h1,h2,h3⟩:=hstep k s s' x x' y hR (hC 0 x x' rfl rfl) (hP _ (by simp)) hy
    obtain⟨rs',h4,h5,h6⟩:=BV4 P hstep xs xs' (k+1) y.2 y'.2 qs h3 (by simpa using hl) (fun i a b ha hb=>by
     have:=hC (i+1) a b (by simpa using ha) (by simpa using hb)
     rwa [show k+(i+1)=k+1+i by omega] at this) (fun r hr=>hP r (by simp[hr])) hq
    refine⟨y'.1::rs',?_,by simp[h5],fun i a b ha hb=> ?_⟩
    ·rw[goN,h1]
     simp only[Option.bind_some,h4]
    ·cases i with
     |zero=>
      simp at ha hb;subst ha hb;exact h2
     |succ i=>exact h6 i a b (by simpa using ha) (by simpa using hb)
theorem CJ4 (k:Nat)(h:k≤1000):IntKind.wrap .i64 ((k:Int)+1)=((k+1:Nat):Int):=q9 k h
theorem BE1 (list:List (List Int))(cmd:Bool)(s:A7)(hl:FOK list):U8 list cmd s=bif s.broken then some (Am6 s.C5,{s with C5:=IntKind.wrap .i64 (s.C5+1)}) else U7 (P1 s.C5 list) cmd s.C5 {s with C5:=IntKind.wrap .i64 (s.C5+1)}:=by
 unfold U8;cases s.broken with
 |true=>rfl
 |false=>
  rw[CH5 s.C5 list hl];rfl
def J8 (m m':Mal):Prop:=m'.1=m.1∧m'.2.1=m.2.1
theorem Eg6 {m m':Mal}(h:J8 m m')(cmd:Bool)(cy:Int)(s:A7):U7 m' cmd cy s=(U7 m cmd cy s).map fun y=>(AE1 y.1 m'.2.2,y.2):=by
 obtain⟨h1,h2⟩:=h;have:m'=(m.1,m.2.1,m'.2.2):=by rw[← h1,← h2]
 conv=>lhs;rw[this]
 exact Ef9 m m'.2.2 cmd cy s
theorem BE2 {m m':Mal}(h:J8 m m')(q:Int)(b:List Int):J8 (A6 q m b) (A6 q m' b):=by
 obtain⟨⟨a0,a1,a2,a3,a4,a5⟩,⟨v0,v1,v2,v3,v4,v5⟩,c⟩:=m;obtain⟨m1,m2,c'⟩:=m';obtain⟨h1,h2⟩:=h;simp only at h1 h2;subst h1 h2;unfold A6;split
 ·exact⟨rfl,rfl⟩
 split
 ·exact⟨rfl,rfl⟩
 have e:P9 ((a0,a1,a2,a3,a4,a5),(v0,v1,v2,v3,v4,v5),c') (F5 b).1.1=P9 ((a0,a1,a2,a3,a4,a5),(v0,v1,v2,v3,v4,v5),c) (F5 b).1.1:=rfl;rw[e];split
 ·exact⟨rfl,rfl⟩
 unfold AB3;split
 ·exact⟨rfl,rfl⟩
 split
 ·exact⟨rfl,rfl⟩
 split
 ·exact⟨rfl,rfl⟩
 split <;> exact⟨rfl,rfl⟩
theorem BE3 (q:Int):∀(l:List (List Int)) {m m':Mal},J8 m m'→J8 (l.foldl (A6 q) m) (l.foldl (A6 q) m')
 | [],_,_,h=>h
 |b::l,_,_,h=>BE3 q l (BE2 h q b)
theorem CJ5 {a b:List E3}(hl:a.length=b.length)(hn:a.length≤1000)(hok:∀r∈a,AH7 r)(h:∀(i:Nat) (x y:E3),a[i]? = some x→b[i]? = some y→∃q,y=AE1 x q):Y3 a b=some true:=by
 refine CI4 hl hn fun i x y hx hy=> ?_
 obtain⟨q,rfl⟩:=h i x y hx hy;exact CI3 x q (hok x (List.mem_of_getElem? hx))
theorem CJ6 (P:E3→Prop)(l l':List Cyc)(hl:l.length≤999)(hll:l.length=l'.length)(hF:∀x∈l,FOK x.1)(hF':∀x∈l',FOK x.1)(s:A7)(hs:SOK s)(hc:s.C5=0)(rs:List E3)(hP:∀r∈rs,P r)(hr:goN s l=some rs)
  (h:∀(i:Nat) (x x':Cyc),l[i]? = some x→l'[i]? = some x'→i≤999→x'.2=x.2∧∀(s:A7) (y:E3×A7),P y.1→s.broken=false→U7 (P1 (i:Int) x.1) x.2 (i:Int) s=some y→J8 (P1 (i:Int) x.1) (P1 (i:Int) x'.1)):
  ∃rs',goN s l'=some rs'∧rs.length=rs'.length∧∀(i:Nat) (a b:E3),rs[i]? = some a→rs'[i]? = some b→∃q,b=AE1 a q:=by
 refine BV4 (R:=fun k s s'=>s.C5=(k:Int)∧SOK s∧s'=s) (C:=fun k x x'=>k≤999∧FOK x.1∧FOK x'.1∧x'.2=x.2∧∀(s:A7) (y:E3×A7),P y.1→s.broken=false→U7 (P1 (k:Int) x.1) x.2 (k:Int) s=some y→J8 (P1 (k:Int) x.1) (P1 (k:Int) x'.1)) (A:=fun a b=>∃q,b=AE1 a q) P
  (fun k s s' x x' y hR hC hPy hy=> ?_) l l' 0 s s rs ⟨hc,hs,rfl⟩ hll (fun i x x' hx hx'=> ?_) hP hr
 ·obtain⟨hc,hs,rfl⟩:=hR
  obtain⟨hk,f1,f2,e2,hsame⟩:=hC;obtain⟨y2,e3,_,h5,_,h7⟩:=BU6 x.1 x.2 s' hs f1;have e4:some y2=some y:=e3.symm.trans hy;obtain rfl:=Option.some.inj e4;have hR2:y2.2.C5=((k+1:Nat):Int)∧SOK y2.2:=⟨by rw[h7,hc,CJ4 k (by omega)],h5⟩
  rw[BE1 _ _ _ f1] at hy;rw[BE1 _ _ _ f2,e2];cases hbr:s'.broken with
  |true=>
   rw[hbr] at hy;obtain rfl:=Option.some.inj hy;exact⟨_,rfl,⟨_,rfl⟩,hR2.1,hR2.2,rfl⟩
  |false=>
   rw[hbr] at hy;simp only[cond_false,hc] at hy ⊢;have hM:=hsame _ y2 hPy rfl hy;rw[Eg6 hM,hy];exact⟨_,rfl,⟨_,rfl⟩,hR2.1,hR2.2,rfl⟩
 ·rw[Nat.zero_add]
  have hi:=(List.getElem?_eq_some_iff.1 hx).1;obtain⟨e,h2⟩:=h i x x' hx hx' (by omega)
  exact⟨by omega,hF x (List.mem_of_getElem? hx),hF' x' (List.mem_of_getElem? hx'),e,h2⟩
end Go.Proofs.YthfjpkdadjemcaaGreat
