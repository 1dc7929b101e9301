/- What is sent of a cycle, and what comes of it. -/
import Derived.Test.YthfjpkdadjemcaaGreatFGH
set_option linter.unusedSimpArgs false
set_option linter.unusedVariables false
namespace Go.Proofs.YthfjpkdadjemcaaGreat
open Go Go.RowKit
open _root_.Option renaming bind_some → FY6
open Go.IntKind renaming wrap → FY7
open _root_.List renaming length_cons → FY8, length_nil → FY9, foldl_append → FZ0, nil_append → FZ1, mem_cons → FZ2, getD_cons_zero → FZ3, getD_cons_succ → FZ4, getD → FZ5, length_append → FZ7, range → FZ8
open _root_.BitVec renaming toNat_ofNat → FZ6
abbrev Sen:=(Int×Int)×(Int×(Int×(Int×((Bool×(Bool×(Bool×(Bool×Bool))))×Bool))))
def uF (v:Int):Int:=if v<0 then v+4294967296 else v
def K8 (k q v:Int):List Int:=if G1 k=4 then [k,q,4,uF v/16777216,uF v/65536 % 256,uF v/256 % 256,uF v % 256] else [k,q,2,uF v/256 % 256,uF v % 256]
def loF (k:Int):Int:=if G1 k=4 then -2147483648 else 0
def hiF (k:Int):Int:=if G1 k=4 then 2147483647 else 65535
def BC1 (k q v:Int):List Int×Int:=if G1 k=0 then ([],30) else if q<0∨255<q∨v<loF k∨hiF k<v then ([],10) else (I5 (K8 k q v),0)
theorem r8 {n:Int}(h:0≤n∧n≤255):FY7 .u8 n=n:=by simp only[FY7,IntKind.bits,IntKind.signed,Bool.false_and,Bool.false_eq_true,if_false,show (2:Int) ^ 8=256 from rfl];omega
theorem BC2 {k q v:Int}(hs:G1 k≠0)(hq:0≤q∧q≤255)(hv:loF k≤v∧v≤hiF k):ByL (K8 k q v):=by
 have h:=Ap1 k;unfold K8 loF hiF uF at*;intro c hc;have hu:0≤(if v<0 then v+4294967296 else v):=by split <;> (split at hv <;> omega)
 have hu2:(if v<0 then v+4294967296 else v)≤4294967295:=by split <;> (split at hv <;> omega)
 generalize (if v<0 then v+4294967296 else v)=u at*
 split at hc
 ·simp only[FZ2,List.not_mem_nil,or_false] at hc
  rcases hc with rfl | rfl | rfl | rfl | rfl | rfl | rfl <;> omega
 ·simp only[FZ2,List.not_mem_nil,or_false] at hc
  rcases hc with rfl | rfl | rfl | rfl | rfl <;> omega
theorem BU2 (k q v:Int):(K8 k q v).length≤7:=by unfold K8;split <;> simp
theorem Ap4 {a:Int}(c:Int)(h:0≤a):a.tdiv c=a/c:=Int.tdiv_eq_ediv_of_nonneg h
theorem Af0 {a:Int}(c:Int)(h:0≤a):a.tmod c=a % c:=Int.tmod_eq_emod_of_nonneg h
theorem CL3 (b:List Int)(hb:ByL b)(hl:b.length≤1000):Option.bind (AF9 b) (fun s=>chk none (decide ((b.length+([FY7 .u8 (FY7 .i64 (s.tdiv 256)),FY7 .u8 (s.tmod 256)]:List Int).length)*1≤140737488355328)) (some (b++([FY7 .u8 (FY7 .i64 (s.tdiv 256)),FY7 .u8 (s.tmod 256)]:List Int),(0:Int))))=some (I5 b,0):=by
 rw[CI2 b (Ae6 hb) (by omega),FY6]
 have h:=BB4 b;have e:decide ((b.length+([FY7 .u8 (FY7 .i64 ((F7 b).tdiv 256)),FY7 .u8 ((F7 b).tmod 256)]:List Int).length)*1≤140737488355328)=true:=by simp only[FY8,FY9,decide_eq_true_eq];omega
 rw[e,R1,Ap4 _ h.1,Af0 _ h.1,B3 (by omega),r8 (by omega),r8 (by omega)]
 rfl
theorem EY4 (k q v:Int)(h0:G1 k≠0)(hg:q<0∨255<q∨v<loF k∨hiF k<v):Q8 (k,(q,v))=some ([],10):=by
 unfold Q8;rw[BA9];have hor:∀lo hi:Int,q<0∨255<q∨v<lo∨hi<v→(bif (bif (bif decide (q<0) then true else decide (255<q)) then true else decide (v<lo)) then true else decide (hi<v))=true:=by
  intro lo hi h;rcases h with h | h | h | h
  ·rw[decide_eq_true h];rfl
  ·rw[decide_eq_true h];cases decide (q<0) <;> rfl
  ·rw[decide_eq_true h];cases decide (q<0) <;> cases decide (255<q) <;> rfl
  ·rw[decide_eq_true h];cases decide (q<0) <;> cases decide (255<q) <;> cases decide (v<lo) <;> rfl
 by_cases h4:G1 k=4
 ·have e1:loF k = -2147483648:=if_pos h4
  have e2:hiF k=2147483647:=if_pos h4;rw[e1,e2] at hg;have e:=hor _ _ hg;simp only[FY6,h4,show ((4:Int)==0)=false from rfl,show ((4:Int)==4)=true from rfl,cond_false,cond_true,e]
 ·have e1:loF k=0:=if_neg h4
  have e2:hiF k=65535:=if_neg h4;rw[e1,e2] at hg;have e:=hor _ _ hg;simp only[FY6,beq_false_of_ne h0,beq_false_of_ne h4,cond_false,e,cond_true]
theorem EY5 (k q v:Int)(h4:G1 k=4)(hk:0≤k∧k≤255)(hq:0≤q∧q≤255)(hv : -2147483648≤v∧v≤2147483647):Q8 (k,(q,v))=some (I5 (K8 k q v),0):=by
 unfold Q8;have hby:=BC2 (k:=k) (q:=q) (v:=v) (by omega) hq (by unfold loF hiF;rw[if_pos h4,if_pos h4];exact hv)
 have hln:=BU2 k q v;have hsl:=CL3 _ hby (by omega)
 have hbod:K8 k q v=[k,q,4,uF v/16777216,uF v/65536 % 256,uF v/256 % 256,uF v % 256]:=if_pos h4;rw[BA9,h4];simp only[FY6,show ((4:Int)==0)=false from rfl,show ((4:Int)==4)=true from rfl,cond_false,cond_true];rw[decide_eq_false (show ¬q<0 by omega),decide_eq_false (show ¬255<q by omega),decide_eq_false (show ¬v < -2147483648 by omega),decide_eq_false (show ¬2147483647<v by omega)]
 simp only[cond_false];rw[r8 hq,r8 hk,show FY7 .u8 (4:Int)=4 from rfl];have hr:(bif decide (v<0) then some (FY7 .i64 (v+4294967296)) else some v)=some (uF v):=by
  unfold uF;by_cases hn:v<0
  ·rw[decide_eq_true hn,if_pos hn,B3 (by omega)]
   rfl
  ·rw[decide_eq_false hn,if_neg hn]
   rfl
 have hu:0≤uF v∧uF v≤4294967295:=by unfold uF;split <;> omega
 rw[hr,FY6];generalize uF v=r at*;rw[Ap4 _ hu.1,Ap4 _ hu.1,Ap4 _ hu.1,Af0 _ hu.1,B3 (n:=r/16777216) (by omega),B3 (n:=r/65536) (by omega),B3 (n:=r/256) (by omega),Af0 _ (show 0≤r/65536 by omega),Af0 _ (show 0≤r/256 by omega),r8 (n:=r/16777216) (by omega),r8 (n:=r/65536 % 256) (by omega),r8 (n:=r/256 % 256) (by omega),r8 (n:=r % 256) (by omega)]
 rw[hbod] at hsl ⊢;exact hsl
theorem EY6 (k q v:Int)(h2:G1 k=2)(hk:0≤k∧k≤255)(hq:0≤q∧q≤255)(hv:0≤v∧v≤65535):Q8 (k,(q,v))=some (I5 (K8 k q v),0):=by
 unfold Q8;have h4:¬G1 k=4:=by omega
 have hby:=BC2 (k:=k) (q:=q) (v:=v) (by omega) hq (by unfold loF hiF;rw[if_neg h4,if_neg h4];exact hv)
 have hln:=BU2 k q v;have hsl:=CL3 _ hby (by omega)
 have hu:uF v=v:=if_neg (by omega)
 have hbod:K8 k q v=[k,q,2,v/256 % 256,v % 256]:=by unfold K8;rw[if_neg h4,hu]
 rw[BA9,h2];simp only[FY6,show ((2:Int)==0)=false from rfl,show ((2:Int)==4)=false from rfl,cond_false,cond_true];rw[decide_eq_false (show ¬q<0 by omega),decide_eq_false (show ¬255<q by omega),decide_eq_false (show ¬v<0 by omega),decide_eq_false (show ¬65535<v by omega)]
 simp only[cond_false,FY6];rw[r8 hq,r8 hk,show FY7 .u8 (2:Int)=2 from rfl];rw[Ap4 _ hv.1,Af0 _ hv.1,B3 (n:=v/256) (by omega),Af0 _ (show 0≤v/256 by omega),r8 (n:=v/256 % 256) (by omega),r8 (n:=v % 256) (by omega)]
 rw[hbod] at hsl ⊢;exact hsl
theorem Ap5 (k q v:Int)(hv64 : -9223372036854775808≤v∧v≤9223372036854775807):Q8 (k,(q,v))=some (BC1 k q v):=by
 unfold BC1;have hsc:=Ap1 k;by_cases h0:G1 k=0
 ·rw[if_pos h0]
  unfold Q8;rw[BA9,h0];rfl
 rw[if_neg h0];by_cases hg:q<0∨255<q∨v<loF k∨hiF k<v
 ·rw[if_pos hg]
  exact EY4 k q v h0 hg
 ·rw[if_neg hg]
  by_cases h4:G1 k=4
  ·have e1:loF k = -2147483648:=if_pos h4
   have e2:hiF k=2147483647:=if_pos h4;exact EY5 k q v h4 (by omega) (by omega) (by omega)
  ·have e1:loF k=0:=if_neg h4
   have e2:hiF k=65535:=if_neg h4;exact EY6 k q v (by omega) (by omega) (by omega) (by omega)
theorem EY7 {b:List Int}(hb:ByL b):F7 (I5 b)=0:=by
 have hs:=Ae6 (BT7 hb);have hn:(I5 b).length=b.length+2:=by simp[I5]
 have h:=BB4 b;rw[ES1 hs hn];have e1:(I5 b).take b.length=b:=by simp[I5]
 have e2:(I5 b).getD b.length 0=F7 b/256:=by simp[I5,FZ5]
 have e3:(I5 b).getD (b.length+1) 0=F7 b % 256:=by simp[I5,FZ5]
 rw[e1,e2,e3];omega
theorem EY8 (k q v a b:Int)(h4:G1 k=4)(hv : -2147483648≤v∧v≤2147483647):Ae5 k (N4 [k,q,4,uF v/16777216,uF v/65536 % 256,uF v/256 % 256,uF v % 256,a,b] 3 4)=v:=by
 have e:N4 [k,q,4,uF v/16777216,uF v/65536 % 256,uF v/256 % 256,uF v % 256,a,b] 3 4=uF v:=by
  have hu:0≤uF v∧uF v≤4294967295:=by unfold uF;split <;> omega
  show 256*(256*(256*(256*0+uF v/16777216)+uF v/65536 % 256)+uF v/256 % 256)+uF v % 256=uF v;omega
 rw[e];unfold Ae5 uF;split <;> split <;> omega
theorem EY9 (k q v a b:Int)(h2:G1 k=2)(hv:0≤v∧v≤65535):Ae5 k (N4 [k,q,2,uF v/256 % 256,uF v % 256,a,b] 3 2)=v:=by
 have e:N4 [k,q,2,uF v/256 % 256,uF v % 256,a,b] 3 2=v:=by
  have hu:uF v=v:=if_neg (by omega)
  show 256*(256*0+uF v/256 % 256)+uF v % 256=v;omega
 rw[e];unfold Ae5;rw[if_neg (by omega)]
theorem EZ0 {k q v:Int}(hs:G1 k≠0)(hq:0≤q∧q≤255)(hv:loF k≤v∧v≤hiF k):O8 (I5 (K8 k q v))=((k,q,v),0):=by
 have hc:=EY7 (BC2 hs hq hv);have h:=Ap1 k;unfold O8;rw[hc];unfold I5;generalize F7 (K8 k q v)/256=a;generalize F7 (K8 k q v) % 256=b;by_cases h4:G1 k=4
 ·have e1:loF k = -2147483648:=if_pos h4
  have e2:hiF k=2147483647:=if_pos h4;have hbod:K8 k q v=[k,q,4,uF v/16777216,uF v/65536 % 256,uF v/256 % 256,uF v % 256]:=if_pos h4;have hsv:=EY8 k q v a b h4 (by omega)
  rw[hbod];simp only[List.cons_append,FZ1,FY8,FY9,FZ3,FZ4,h4];rw[if_neg (by omega),if_neg (by omega),if_neg (by omega),if_neg (by omega)]
  exact congrArg (fun x=>((k,q,x),(0:Int))) hsv
 ·have h2:G1 k=2:=by omega
  have e1:loF k=0:=if_neg h4;have e2:hiF k=65535:=if_neg h4;have hbod:K8 k q v=[k,q,2,uF v/256 % 256,uF v % 256]:=if_neg h4;have hsv:=EY9 k q v a b h2 (by omega)
  rw[hbod];simp only[List.cons_append,FZ1,FY8,FY9,FZ3,FZ4,h2];rw[if_neg (by omega),if_neg (by omega),if_neg (by omega),if_neg (by omega)]
  exact congrArg (fun x=>((k,q,x),(0:Int))) hsv
def R8 (h:Bool)(k q v:Int):List (List Int):=bif h then [I5 (K8 k q v)] else []
def Y6 (q:Int)(x:Sen):List (List Int):=(((R8 x.2.2.2.2.1.1 1 q x.1.1++R8 x.2.2.2.2.1.2.1 2 q x.1.2)++R8 x.2.2.2.2.1.2.2.1 3 q x.2.1)++R8 x.2.2.2.2.1.2.2.2.1 4 q x.2.2.1)++R8 x.2.2.2.2.1.2.2.2.2 5 q x.2.2.2.1
def AI9:Sen:=(((0:Int),(0:Int)),((0:Int),((0:Int),((0:Int),((false,(false,(false,(false,false)))),false)))))
def Ap6 (l:List Sen)(k:Nat):Cyc:=(Y6 ((k % 256:Nat):Int) (l.getD k AI9),(l.getD k AI9).2.2.2.2.2)
def U8 (l:List Sen):List Cyc:=(FZ8 l.length).map (Ap6 l)
structure r9 (x:Sen):Prop where
 a:0≤x.1.1∧x.1.1≤65535
 b:0≤x.1.2∧x.1.2≤65535
 v : -2147483648≤x.2.1∧x.2.1≤2147483647
 c : -2147483648≤x.2.2.1∧x.2.2.1≤2147483647
 g:0≤x.2.2.2.1∧x.2.2.2.1≤65535
theorem Ap7 {k q v:Int}(hs:G1 k≠0)(hq:0≤q∧q≤255)(hv:loF k≤v∧v≤hiF k):BC1 k q v=(I5 (K8 k q v),0):=by unfold BC1;rw[if_neg hs,if_neg (by omega)]
theorem Ap8 {β:Type}(h:Bool)(k q v:Int)(r:List (List Int))(hr:r.length≤1000)(K:List (List Int)→Option β):Option.bind (bif (bif h then (((I5 (K8 k q v),(0:Int)):List Int×Int).2==(0:Int)) else false) then chk none (decide ((r.length+([((I5 (K8 k q v),(0:Int)):List Int×Int).1]:List (List Int)).length)*24≤140737488355328)) (some (r++([((I5 (K8 k q v),(0:Int)):List Int×Int).1]:List (List Int)))) else some r) K=K (r++R8 h k q v):=by
 cases h with
 |false=>simp [R8]
 |true=>
  have e:decide ((r.length+([I5 (K8 k q v)]:List (List Int)).length)*24≤140737488355328)=true:=by simp only[FY8,FY9,decide_eq_true_eq];omega
  simp only[cond_true,beq_self_eq_true,e,R1,FY6,R8]
theorem AJ0 (h:Bool)(k q v:Int):(R8 h k q v).length≤1:=by cases h <;> simp[R8]
theorem CL4 (l:List Sen)(hl:l.length≤1000)(h:∀x∈l,r9 x):AG0 l=some (U8 l):=by
 unfold AG0;refine AX0 l.length (fun i=>((i:Int),(FZ8 i).map (Ap6 l))) (U8 l) rfl ?_ ?_ rfl
 ·intro i hi
  have e1:(decide ((i:Int)<(l.length:Int)))=true:=by simpa using hi
  have e2:(decide ((0:Int)≤(i:Int)))=true:=by simp
  have hm:l.getD i AI9∈l:=by simp[FZ5,hi]
  have hx:=h _ hm;have e3:(l.getD i (((0:Int),(0:Int)),((0:Int),((0:Int),((0:Int),((false,(false,(false,(false,false)))),false))))))=l.getD i AI9:=rfl;have e4:((i:Int).tmod (256:Int))=((i % 256:Nat):Int):=Ap0 i 256;have e5:=p7 i (by omega)
  have hA:Ap6 l i=(Y6 ((i % 256:Nat):Int) (l.getD i AI9),(l.getD i AI9).2.2.2.2.2):=rfl;have hq:0≤((i % 256:Nat):Int)∧((i % 256:Nat):Int)≤255:=by omega
  simp only[e1,e2,cond_true,Bool.and_self,R1,Int.toNat_natCast,e3,e4,e5];generalize l.getD i AI9=x at*;generalize ((i % 256:Nat):Int)=q at*;obtain⟨xa,xb,xv,xc,xg⟩:=hx;have p1:=Ap7 (k:=1) (q:=q) (v:=x.1.1) (by decide) hq ⟨xa.1,xa.2⟩
  have p2:=Ap7 (k:=2) (q:=q) (v:=x.1.2) (by decide) hq ⟨xb.1,xb.2⟩
  have p3:=Ap7 (k:=3) (q:=q) (v:=x.2.1) (by decide) hq ⟨xv.1,xv.2⟩
  have p4:=Ap7 (k:=4) (q:=q) (v:=x.2.2.1) (by decide) hq ⟨xc.1,xc.2⟩
  have p5:=Ap7 (k:=5) (q:=q) (v:=x.2.2.2.1) (by decide) hq ⟨xg.1,xg.2⟩
  have l1:=AJ0 x.2.2.2.2.1.1 1 q x.1.1;have l2:=AJ0 x.2.2.2.2.1.2.1 2 q x.1.2;have l3:=AJ0 x.2.2.2.2.1.2.2.1 3 q x.2.1;have l4:=AJ0 x.2.2.2.2.1.2.2.2.1 4 q x.2.2.1;rw[B3 (n:=x.1.1) (by omega),B3 (n:=x.1.2) (by omega),B3 (n:=x.2.1) (by omega),B3 (n:=x.2.2.1) (by omega),B3 (n:=x.2.2.2.1) (by omega)]
  rw[Ap5 1 q _ (by omega),p1,FY6]
  have s1:=Ap8 (β:=(Int×List Cyc) ⊕ List Cyc) x.2.2.2.2.1.1 1 q x.1.1 [] (by simp)
  refine (s1 _).trans ?_;rw[Ap5 2 q _ (by omega),p2,FY6]
  refine (Ap8 x.2.2.2.2.1.2.1 2 q x.1.2 _ (by simp;omega) _).trans ?_
  rw[Ap5 3 q _ (by omega),p3,FY6]
  refine (Ap8 x.2.2.2.2.1.2.2.1 3 q x.2.1 _ (by simp;omega) _).trans ?_
  rw[Ap5 4 q _ (by omega),p4,FY6]
  refine (Ap8 x.2.2.2.2.1.2.2.2.1 4 q x.2.2.1 _ (by simp;omega) _).trans ?_
  rw[Ap5 5 q _ (by omega),p5,FY6]
  refine (Ap8 x.2.2.2.2.1.2.2.2.2 5 q x.2.2.2.1 _ (by simp;omega) _).trans ?_
  have e6:decide ((((FZ8 i).map (Ap6 l)).length+([((((([]++R8 x.2.2.2.2.1.1 1 q x.1.1)++R8 x.2.2.2.2.1.2.1 2 q x.1.2)++R8 x.2.2.2.2.1.2.2.1 3 q x.2.1)++R8 x.2.2.2.2.1.2.2.2.1 4 q x.2.2.1)++R8 x.2.2.2.2.1.2.2.2.2 5 q x.2.2.2.1,x.2.2.2.2.2)]:List Cyc).length)*32≤140737488355328)=true:=by simp only[List.length_map,List.length_range,FY8,FY9,decide_eq_true_eq];omega
  rw[e6,R1,FZ1,List.range_succ,List.map_append,List.map_cons,List.map_nil,hA];rfl
 ·have e1:(decide ((l.length:Int)<(l.length:Int)))=false:=by simp
  simp only[e1,cond_false];rfl
def BC3 (x:Sen):Mal:=((false,x.2.2.2.2.1.1,x.2.2.2.2.1.2.1,x.2.2.2.2.1.2.2.1,x.2.2.2.2.1.2.2.2.1,x.2.2.2.2.1.2.2.2.2),(0,(bif x.2.2.2.2.1.1 then x.1.1 else 0),(bif x.2.2.2.2.1.2.1 then x.1.2 else 0),(bif x.2.2.2.2.1.2.2.1 then x.2.1 else 0),(bif x.2.2.2.2.1.2.2.2.1 then x.2.2.1 else 0),(bif x.2.2.2.2.1.2.2.2.2 then x.2.2.2.1 else 0)),(0,0,0,0))
theorem EZ1 (k:Nat)(h:k≤1000000):bits .i64 .and (k:Int) 255=((k % 256:Nat):Int):=by show IntKind.i64.wrap (((BitVec.ofInt 64 (k:Int)) &&& (BitVec.ofInt 64 255)).toNat:Int)=_;have e1:BitVec.ofInt 64 (k:Int)=BitVec.ofNat 64 k:=rfl;have e2:BitVec.ofInt 64 255=BitVec.ofNat 64 255:=rfl;rw[e1,e2,BitVec.toNat_and,FZ6,FZ6,Nat.mod_eq_of_lt (by omega),Nat.mod_eq_of_lt (by omega),show (255:Nat)=2 ^ 8-1 from rfl,Nat.and_two_pow_sub_one_eq_mod,B3 (by omega)]
theorem Ap9 {q:Int}(h:Bool){k v:Int}{m:Mal}(hs:G1 k≠0)(hq:0≤q∧q≤255)(hv:loF k≤v∧v≤hiF k)(hm:CK7 m k=false):(R8 h k q v).foldl (C8 q) m=bif h then BU0 m k v else m:=by
 cases h with
 |false=>rfl
 |true=>
  show C8 q m (I5 (K8 k q v))=BU0 m k v;unfold C8;rw[EZ0 hs hq hv];simp[hm]
theorem CL5 (k:Nat)(x:Sen)(hk:k≤1000000)(hx:r9 x):Ae9 (k:Int) (Y6 ((k % 256:Nat):Int) x)=BC3 x:=by
 unfold Ae9;have hq:0≤((k % 256:Nat):Int)∧((k % 256:Nat):Int)≤255:=by omega
 rw[EZ1 k hk];generalize ((k % 256:Nat):Int)=q at*;have l1:=AJ0 x.2.2.2.2.1.1 1 q x.1.1;have l2:=AJ0 x.2.2.2.2.1.2.1 2 q x.1.2;have l3:=AJ0 x.2.2.2.2.1.2.2.1 3 q x.2.1;have l4:=AJ0 x.2.2.2.2.1.2.2.2.1 4 q x.2.2.1;have l5:=AJ0 x.2.2.2.2.1.2.2.2.2 5 q x.2.2.2.1;have hlen:(Y6 q x).length≤5:=by unfold Y6;simp only[FZ7];omega
 have hb:F6 (Y6 q x)=0:=by
  unfold F6;rw[if_neg (by omega),Int.sub_self]
  rfl
 rw[hb,List.take_of_length_le (by omega)]
 unfold Y6 BC3;obtain⟨xa,xb,xv,xc,xg⟩:=hx;obtain⟨⟨a,b⟩,v,c,g,⟨h1,h2,h3,h4,h5⟩,cm⟩:=x;simp only at*;rw[FZ0,FZ0,FZ0,FZ0];rw[Ap9 h1 (by decide) hq ⟨xa.1,xa.2⟩ rfl]
 rw[Ap9 h2 (by decide) hq ⟨xb.1,xb.2⟩ (by cases h1 <;> rfl)]
 rw[Ap9 h3 (by decide) hq ⟨xv.1,xv.2⟩ (by cases h1 <;> cases h2 <;> rfl)]
 rw[Ap9 h4 (by decide) hq ⟨xc.1,xc.2⟩ (by cases h1 <;> cases h2 <;> cases h3 <;> rfl)]
 rw[Ap9 h5 (by decide) hq ⟨xg.1,xg.2⟩ (by cases h1 <;> cases h2 <;> cases h3 <;> cases h4 <;> rfl)]
 cases h1 <;> cases h2 <;> cases h3 <;> cases h4 <;> cases h5 <;> rfl
theorem EZ2 {k q v:Int}(hs:G1 k≠0)(hq:0≤q∧q≤255)(hv:loF k≤v∧v≤hiF k):Bytes (I5 (K8 k q v))∧(I5 (K8 k q v)).length≤140737488355328:=by have h:=BU2 k q v;refine⟨Ae6 (BT7 (BC2 hs hq hv)),?_⟩;unfold I5;rw[FZ7];simp only[FY8,FY9];omega
theorem Aq0 {h:Bool}{k q v:Int}(hs:G1 k≠0)(hq:0≤q∧q≤255)(hv:loF k≤v∧v≤hiF k):FOK (R8 h k q v):=by
 intro b hb;cases h with
 |false=>cases hb
 |true=>
  rcases FZ2.1 hb with rfl | h
  ·exact EZ2 hs hq hv
  ·cases h
theorem BC4 {a b:List (List Int)}(h:FOK a)(h':FOK b):FOK (a++b):=fun c hc=>(List.mem_append.1 hc).elim (h c) (h' c)
theorem BC5 {q:Int}{x:Sen}(hq:0≤q∧q≤255)(hx:r9 x):FOK (Y6 q x):=
 BC4 (BC4 (BC4 (BC4 (Aq0 (by decide) hq ⟨hx.a.1,hx.a.2⟩) (Aq0 (by decide) hq ⟨hx.b.1,hx.b.2⟩)) (Aq0 (by decide) hq ⟨hx.v.1,hx.v.2⟩)) (Aq0 (by decide) hq ⟨hx.c.1,hx.c.2⟩)) (Aq0 (by decide) hq ⟨hx.g.1,hx.g.2⟩)
theorem Af1 (l:List Sen):(U8 l).length=l.length:=by simp[U8]
theorem EZ3 {l:List Sen}(h:∀x∈l,r9 x):∀x∈U8 l,FOK x.1:=by intro x hx;unfold U8 at hx;obtain⟨k,hk,rfl⟩:=List.mem_map.1 hx;have hk2:=List.mem_range.1 hk;exact BC5 (by omega) (h _ (by simp[FZ5,hk2]))
theorem CL6 (l:List Sen){k:Nat}(h:k<l.length):(U8 l)[k]? = some (Y6 ((k % 256:Nat):Int) l[k],l[k].2.2.2.2.2):=by unfold U8;rw[List.getElem?_map,List.getElem?_range h];simp only[Option.map_some,Ap6];rw[Y3 h]

/- What two units tell to which like cycles come. -/
section
variable {α β γ:Type}
theorem M7 {A:Option α}{k:α→Option β}{k':α→Option γ}{g:β→γ}(h:∀x,k' x=(k x).map g):A.bind k'=(A.bind k).map g:=by
 cases A with
 |none=>rfl
 |some x=>exact h x
theorem Af2 {δ:Type}{A:Option α}{A':Option δ}{u:α→δ}{k:α→Option β}{k':δ→Option γ}{g:β→γ}(hA:A'=A.map u)(h:∀x,k' (u x)=(k x).map g):A'.bind k'=(A.bind k).map g:=by
 subst hA;cases A with
 |none=>rfl
 |some x=>exact h x
theorem AP3 {c:Bool}{a b:Option β}{a' b':Option γ}{g:β→γ}(h1:a'=a.map g)(h2:b'=b.map g):cond c a' b'=(cond c a b).map g:=by
 cases c
 ·exact h2
 ·exact h1
theorem CL7 {c:Bool}{a:Option β}{a':Option γ}{g:β→γ}(h:a'=a.map g):chk none c a'=(chk none c a).map g:=by
 cases c
 ·rfl
 ·exact h
end
noncomputable def BC6 (z1 x1 x2:Bool)(q:Int×(Int×(Int×Int)))(cmd:Bool)(cy:Int)(f:Fsd)(s4:C2):Option (D0×C2):=
 (AV8 s4.watch s4.c f.2.1 f.2.2.2.1 z1 x2).bind fun w=>
  (bif w.2.2 then some ((false,(0,((0,0),(0,(0,[]))))):Plc) else some s4.place).bind fun pl=>
   (AV9 s4.still s4.c f.1 f.2.1).bind fun st=>(AW0 s4.E7 s4.c st.2 cmd f.1).bind fun ro=>
    (AI2 {s4 with watch:=w,place:=pl,still:=st,E7:=ro} f cy x2 (!x1) q).bind fun r=>some (r,{s4 with watch:=w,place:=pl,still:=st,E7:=ro})
noncomputable def BC7 (v5:Int×Bool)(q:Int×(Int×(Int×Int)))(cmd:Bool)(cy:Int)(s:C2)(f:Fsd)(ka kb:Cnt):Option (D0×C2):=
 (Ad9 s.t f.1 s.J5 s.place).bind fun z=>(Ae0 s.c s.t z.2.2 s.place f.1 v5).bind fun x=>
  (bif x.2.2.2 then AI1 x f.1 {s with k0:=ka,k1:=kb,clean:=bif s.clean then f.2.2.1 else false,speed:=f.1,J5:=z.2.1,place:=z.2.2} else some {s with k0:=ka,k1:=kb,clean:=bif s.clean then f.2.2.1 else false,speed:=f.1,J5:=z.2.1,place:=z.2.2}).bind (BC6 z.1 x.2.2.1 x.2.2.2 q cmd cy f)
theorem CL8 (m:Mal)(cmd:Bool)(cy:Int)(s:C2):AO9 m cmd cy s=(AB0 s (mv1 m) (mv2 m) (mv3 m) (mv4 m)).bind fun y=>BC7 (mv5 m) m.2.2 cmd cy s y.1 y.2.1 y.2.2:=rfl
def Al {α:Type}(a:Option α)(Q:α→Prop):Prop:=∀y,a=some y→Q y
section
variable {α β:Type}
theorem Al.some {y:α}{Q:α→Prop}(h:Q y):Al (some y) Q:=fun _ e=>Option.some.inj e▸h
theorem Al.bnd {a:Option α}{f:α→Option β}{Q:β→Prop}(h:∀x,a=Option.some x→Al (f x) Q):Al (Option.bind a f) Q:=by
 cases a with
 |none=>intro y e;cases e
 |some x=>exact h x rfl
theorem Al.cnd {c:Bool}{a b:Option α}{Q:α→Prop}(h:c=true→Al a Q)(h2:c=false→Al b Q):Al (cond c a b) Q:=by
 cases c
 ·exact h2 rfl
 ·exact h rfl
theorem Al.chk {c:Bool}{a:Option α}{Q:α→Prop}(h:Al a Q):Al (chk none c a) Q:=by
 cases c
 ·intro y e;cases e
 ·exact h
end
theorem CL9 {R:Nat→C2→C2→Prop}{C:Nat→Cyc→Cyc→Prop}{A:D0→D0→Prop}(P:D0→Prop)
  (hstep:∀(k:Nat) (s s':C2) (x x':Cyc) (y:D0×C2),R k s s'→C k x x'→P y.1→U6 x.1 x.2 s=some y→∃y',U6 x'.1 x'.2 s'=some y'∧A y.1 y'.1∧R (k+1) y.2 y'.2):
  ∀(l l':List Cyc) (k:Nat) (s s':C2) (rs:List D0),R k s s'→l.length=l'.length→(∀(i:Nat) (x x':Cyc),l[i]? = some x→l'[i]? = some x'→C (k+i) x x')→(∀r∈rs,P r)→goN s l=some rs→
   ∃rs',goN s' l'=some rs'∧rs.length=rs'.length∧∀(i:Nat) (a b:D0),rs[i]? = some a→rs'[i]? = some b→A a b
 | [],[],k,s,s',rs,_,_,_,_,h=>by rw[goN] at h;obtain rfl:=Option.some.inj h;exact⟨[],rfl,rfl,by simp⟩
 | [],x'::xs',k,s,s',rs,_,hl,_,_,h=>by simp at hl
 |x::xs,[],k,s,s',rs,_,hl,_,_,h=>by simp at hl
 |x::xs,x'::xs',k,s,s',rs,hR,hl,hC,hP,h=>by
  rw[goN] at h;cases hy:U6 x.1 x.2 s with
  |none=>rw [hy] at h;cases h
  |some y=>
   rw[hy] at h;simp only[FY6] at h;cases hq:goN y.2 xs with
   |none=>rw [hq] at h;cases h
   |some qs=>
    rw[hq] at h;obtain rfl:=Option.some.inj h;obtain⟨y',h1,h2,h3⟩:=hstep k s s' x x' y hR (hC 0 x x' rfl rfl) (hP _ (by simp)) hy
    obtain⟨rs',h4,h5,h6⟩:=CL9 P hstep xs xs' (k+1) y.2 y'.2 qs h3 (by simpa using hl) (fun i a b ha hb=>by
     have:=hC (i+1) a b (by simpa using ha) (by simpa using hb)
     rwa [show k+(i+1)=k+1+i by omega] at this) (fun r hr=>hP r (by simp[hr])) hq
    refine⟨y'.1::rs',?_,by simp[h5],fun i a b ha hb=> ?_⟩
    ·rw[goN,h1]
     simp only[FY6,h4]
    ·cases i with
     |zero=>
      simp at ha hb;subst ha hb;exact h2
     |succ i=>exact h6 i a b (by simpa using ha) (by simpa using hb)
theorem EZ4 (k:Nat)(h:k≤1000):FY7 .i64 ((k:Int)+1)=((k+1:Nat):Int):=p7 k h
theorem CM0 (list:List (List Int))(cmd:Bool)(s:C2)(hl:FOK list):U6 list cmd s=bif s.broken then some (Ao6 s.C6,{s with C6:=FY7 .i64 (s.C6+1)}) else AO9 (Ae9 s.C6 list) cmd s.C6 {s with C6:=FY7 .i64 (s.C6+1)}:=by
 unfold U6;cases s.broken with
 |true=>rfl
 |false=>
  rw[CK8 s.C6 list hl];rfl
end Go.Proofs.YthfjpkdadjemcaaGreat
