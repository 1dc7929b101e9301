/- What the readings of the document's configurations say. -/
import Derived.Test.YthfjpkdadjemcaaGreatFnsF3
import Derived.Test.YthfjpkdadjemcaaGreatLoopF
import Derived.Test.YthfjpkdadjemcaaGreatEngLink
set_option linter.unusedSimpArgs false
set_option linter.unusedVariables false
namespace Go.Proofs.YthfjpkdadjemcaaGreat
open Go.RowKit
theorem AN7 {n:Int}(h:Fits (.int .i64) n):I64 n:=by have h:fits .i64 n=true:=h;simp[fits] at h;exact⟨by omega,by omega⟩
theorem B0 {n:Int}(h : -9223372036854775808≤n∧n≤9223372036854775807):IntKind.i64.wrap n=n:=by rw[IntKind.wrap_i64];omega
theorem D3 {ρ:Type}{c:Bool}{k:Option ρ}(h:c=true):chk none c k=k:=by subst h;rfl
abbrev Cf:=Int×(Int×(Int×(Int×(Int×(Int×(Int×(Int×(Int×(Int×(Int×(Int×(Int×Int))))))))))))
def upP (a b:Int):Int:=(a+b-1)/b
def CD4 (c:Cf):Int:=
 match c with
 | (p,lo,hi,rb,rp,ae,ms,ma,an,st,ss,ro,ti,br)=>
  if p<1∨1024<p then 1 else
  if lo<131072∨8388608<lo∨hi<lo∨8388608<hi then 2 else
  if lo<(hi-lo)*16 then 3 else
  if rb<0∨1048576<rb∨rp<0∨65536<rp then 4 else
  if ae<0∨1048576<ae then 5 else
  if ms<1∨16777216<ms∨ma<1∨1048576<ma then 6 else
  if 32000*lo<ms*p then 7 else
  if an<0∨1048576<an then 8 else
  if st<1∨1000<st∨ti<1∨1000<ti then 9 else
  if ss<upP hi p∨ss<3*rb∨16777216<ss then 10 else
  if ro<0∨1073741824<ro then 11 else
  if br<1∨1048576<br then 12 else 0
theorem EQ1 {x y X Y:Int}(h1:0≤x)(h2:x≤X)(h3:0≤y)(h4:y≤Y):0≤x*y∧x*y≤X*Y:=by
 have a1:x*y≤X*y:=Int.mul_le_mul_of_nonneg_right h2 h3;have a2:X*y≤X*Y:=Int.mul_le_mul_of_nonneg_left h4 (by omega)
 have a3:=Int.mul_nonneg h1 h3;omega
theorem EQ2 (a b:Int)(ha:0≤a∧a≤4611686018427387903)(hb:1≤b∧b≤4611686018427387903):Av0 a b=some (upP a b):=by
 unfold Av0 upP;have hne:(!(b==(0:Int)))=true:=by simp;omega
 have h0:0≤a+b-1:=by omega
 have hd:(a+b-1)/b≤a+b-1:=Int.ediv_le_self _ h0;have hd0:0≤(a+b-1)/b:=Int.ediv_nonneg h0 (by omega)
 simp only[B0 (n:=a+b) (by omega),B0 (n:=a+b-1) (by omega),D3 hne,Int.tdiv_eq_ediv_of_nonneg h0,B0 (n:=(a+b-1)/b) (by omega)]
theorem EQ3 (c:Cf):Av1 c=some (CD4 c):=by
 obtain⟨p,lo,hi,rb,rp,ae,ms,ma,an,st,ss,ro,ti,br⟩:=c;unfold Av1 CD4;simp only[Bool.cond_true_left];simp only[← Bool.decide_or];simp only[Bool.cond_decide,or_assoc];by_cases h1:p<1∨1024<p
 ·simp only[if_pos h1]
 simp only[if_neg h1];by_cases h2:lo<131072∨8388608<lo∨hi<lo∨8388608<hi
 ·simp only[if_pos h2]
 simp only[if_neg h2];rw[B0 (n:=hi-lo) (by omega),B0 (n:=(hi-lo)*16) (by omega)]
 by_cases h3:lo<(hi-lo)*16
 ·simp only[if_pos h3]
 simp only[if_neg h3];by_cases h4:rb<0∨1048576<rb∨rp<0∨65536<rp
 ·simp only[if_pos h4]
 simp only[if_neg h4];by_cases h5:ae<0∨1048576<ae
 ·simp only[if_pos h5]
 simp only[if_neg h5];by_cases h6:ms<1∨16777216<ms∨ma<1∨1048576<ma
 ·simp only[if_pos h6]
 simp only[if_neg h6];have hm:=EQ1 (x:=ms) (y:=p) (X:=16777216) (Y:=1024) (by omega) (by omega) (by omega) (by omega)
 rw[B0 (n:=ms*p) (by omega),B0 (n:=32000*lo) (by omega)]
 by_cases h7:32000*lo<ms*p
 ·simp only[if_pos h7]
 simp only[if_neg h7];by_cases h8:an<0∨1048576<an
 ·simp only[if_pos h8]
 simp only[if_neg h8];by_cases h9:st<1∨1000<st∨ti<1∨1000<ti
 ·simp only[if_pos h9]
 simp only[if_neg h9];rw[EQ2 hi p (by omega) (by omega)]
 simp only[Option.bind_some,B0 (n:=3*rb) (by omega)]
 by_cases h10:ss<upP hi p∨ss<3*rb∨16777216<ss
 ·simp only[if_pos h10]
 simp only[if_neg h10];by_cases h11:ro<0∨1073741824<ro
 ·simp only[if_pos h11]
 simp only[if_neg h11];by_cases h12:br<1∨1048576<br
 ·simp only[if_pos h12]
 simp only[if_neg h12]
structure Em3 (p lo hi rb rp ae ms ma an st ss ro ti br:Int):Prop where
 hp:1≤p∧p≤1024
 hlo:131072≤lo∧lo≤8388608
 hhi:lo≤hi∧hi≤8388608
 Em4:(hi-lo)*16≤lo
 hrb:0≤rb∧rb≤1048576
 hrp:0≤rp∧rp≤65536
 hae:0≤ae∧ae≤1048576
 hms:1≤ms∧ms≤16777216
 hma:1≤ma∧ma≤1048576
 Em5:ms*p≤32000*lo
 han:0≤an∧an≤1048576
 hst:1≤st∧st≤1000
 hti:1≤ti∧ti≤1000
 hss:upP hi p≤ss∧3*rb≤ss∧ss≤16777216
 hro:0≤ro∧ro≤1073741824
 hbr:1≤br∧br≤1048576
end Go.Proofs.YthfjpkdadjemcaaGreat

/- What the readings of grades and tracks say. -/
set_option linter.unusedSimpArgs false
set_option linter.unusedVariables false
namespace Go.Proofs.YthfjpkdadjemcaaGreat
open Go.RowKit
section
variable {X:Type}{f:Int→Option (Int ⊕ X)}
theorem CD5 {step:Nat→Option X}(j k:Nat):(List.range' j (k+1)).findSome? step=match step j with | some x=>some x | none=>(List.range' (j+1) k).findSome? step:=by rw[List.range'_succ,List.findSome?_cons];cases step j <;> rfl
def Am9 {X:Type}(j:Int)(o:Option X):Int ⊕ X:=match o with
 |some x=>.inr x
 |none=>.inl j
theorem AW0 (n:Nat)(step:Nat→Option X)(xe:X)(h:∀i:Nat,i<n→f i=some (Am9 ((i:Int)+1) (step i)))(he:f n=some (.inr xe)):
  LP.lp f 0=some (((List.range n).findSome? step).getD xe):=by
 have key:∀(k j:Nat),j+k=n→G3 f (k+1) (j:Int)=some (((List.range' j k).findSome? step).getD xe):=by
  intro k
  induction k with
  |zero=>
   intro j hj;have:j=n:=by omega
   subst this;simp[G3,he]
  |succ k ih=>
   intro j hj;rw[G3,h j (by omega),CD5]
   unfold Am9;cases step j with
   |some x=>rfl
   |none=>
    have:=ih (j+1) (by omega)
    rw[← this];rfl
 have:=Ad2 (key n 0 (by omega))
 rw[List.range_eq_range'];exact this
theorem BT1 {n:Nat}{step:Nat→Option X}:(List.range n).findSome? step=none↔∀i,i<n→step i=none:=by rw[List.findSome?_eq_none_iff];exact⟨fun h i hi=>h i (List.mem_range.2 hi),fun h i hi=>h i (List.mem_range.1 hi)⟩
end
theorem P7 {α:Type}{l:List α}{i:Nat}{d:α}(h:i<l.length):l.getD i d=l[i]:=by simp[List.getD,h]
def AB1 (l:List (Int×Int))(len:Int)(i:Nat):Bool:=
 decide (-1048576≤(l.getD i (0,0)).2)&&decide ((l.getD i (0,0)).2≤1048576)&&decide ((l.getD i (0,0)).1<len)&&(decide (i=0)||decide ((l.getD (i-1) (0,0)).1<(l.getD i (0,0)).1))
def AH8 (l:List (Int×Int))(len:Int):Bool:=decide (1≤l.length)&&decide (l.length≤64)&&decide ((l.getD 0 (0,0)).1=0)&&(List.range l.length).all (AB1 l len)
theorem BB8 {α:Type}{n:Nat}{b:Nat→Bool}{x y:α}:((List.range n).findSome? fun i=>bif b i then none else some x).getD y=bif (List.range n).all b then y else x:=by
 cases h:(List.range n).all b with
 |true=>
  have:((List.range n).findSome? fun i=>bif b i then none else some x)=none:=BT1.2 fun i hi=>by rw[List.all_eq_true.1 h i (List.mem_range.2 hi)];rfl
  rw[this];rfl
 |false=>
  cases hf:((List.range n).findSome? fun i=>bif b i then none else some x) with
  |none=>
   have:(List.range n).all b=true:=by
    rw[List.all_eq_true];intro i hi;have:=BT1.1 hf i (List.mem_range.1 hi);cases hb:b i with
    |true=>rfl
    |false=>rw [hb] at this;cases this
   rw[this] at h;cases h
  |some z=>
   obtain⟨i,_,hi⟩:=List.exists_of_findSome?_eq_some hf;cases hb:b i with
   |true=>rw [hb] at hi;cases hi
   |false=>rw [hb] at hi;cases hi;rfl
theorem EQ4 {α:Type}(x:Int×Int)(len:Int)(q:Bool)(A B:α):(bif (bif (bif (bif decide (x.2 < -1048576) then true else decide (1048576<x.2)) then true else decide (len≤x.1)) then true else q) then A else B)=
  bif (decide (-1048576≤x.2)&&decide (x.2≤1048576)&&decide (x.1<len)&& !q) then B else A:=by
 have e1:decide (-1048576≤x.2) = !decide (x.2 < -1048576):=by rw[Bool.eq_iff_iff];simp
 have e2:decide (x.2≤1048576) = !decide (1048576<x.2):=by rw[Bool.eq_iff_iff];simp
 have e3:decide (x.1<len) = !decide (len≤x.1):=by rw[Bool.eq_iff_iff];simp
 rw[e1,e2,e3];cases decide (x.2 < -1048576) <;> cases decide (1048576<x.2) <;> cases decide (len≤x.1) <;> cases q <;> rfl
theorem EQ5 (l:List (Int×Int))(len:Int)(hl:l.length≤9223372036854775806):AR6 l len=some (bif AH8 l len then 0 else 11):=by
 unfold AR6 AH8;by_cases h0:l.length=0
 ·simp[h0,chk]
 by_cases h1:64<l.length
 ·have e1:((l.length:Int)==0)=false:=by simpa using h0
  have e2:decide ((64:Int)<l.length)=true:=by simp;omega
  have e3:decide ((0:Int)<l.length)=true:=by simp;omega
  have e4:decide (l.length≤64)=false:=by simp;omega
  simp[e1,e2,e3,e4,chk]
 have e1:((l.length:Int)==0)=false:=by simpa using h0
 have e2:decide ((64:Int)<l.length)=false:=by simp;omega
 have e3:decide ((0:Int)<l.length)=true:=by simp;omega
 have e4:decide (l.length≤64)=true:=by simp;omega
 have e5:decide (1≤l.length)=true:=by simp;omega
 rw[e1,e2,e3,e4,e5];simp only[cond_false,Bool.true_and,Bool.and_self,Bool.true_or,D3];by_cases h2:(l.getD 0 (0,0)).1=0
 ·have e6:((l.getD (0:Int).toNat ((0:Int),(0:Int))).1 != 0)=false:=by simpa using h2
  have e7:decide ((l.getD 0 ((0:Int),(0:Int))).1=0)=true:=by simpa using h2
  rw[e6,e7];simp only[cond_false,Bool.true_and];rw[AW0 l.length (fun i=>bif AB1 l len i then none else some (.inl 11)) (.inr ())]
  ·rw[BB8]
   cases (List.range l.length).all (AB1 l len) <;> rfl
  ·intro i hi
   rw[decide_eq_true (show (i:Int)<l.length by omega),decide_eq_true (show (0:Int)≤i by omega)]
   simp only[cond_true,Bool.and_self,D3];rw[Int.toNat_natCast];have ew:IntKind.i64.wrap ((i:Int)-1)=i-1:=B0 (by omega)
   have ew2:IntKind.i64.wrap ((i:Int)+1)=i+1:=B0 (by omega)
   rw[ew,ew2];rw[EQ4];have fin:∀b c:Bool,b=c→(bif b then some (Sum.inl ((i:Int)+1)) else some (Sum.inr (Sum.inl (11:Int))))=some (Am9 ((i:Int)+1) (bif c then none else some (Sum.inl (11:Int)):Option (Int ⊕ Unit))):=by rintro b c rfl;cases b <;> rfl
   by_cases hi0:i=0
   ·have e0:decide ((0:Int)<(i:Int))=false:=by simp[hi0]
    have e1:AB1 l len i=(decide (-1048576≤(l.getD i (0,0)).2)&&decide ((l.getD i (0,0)).2≤1048576)&&decide ((l.getD i (0,0)).1<len)&& !(bif false then decide ((l.getD i (0,0)).1≤(l.getD ((i:Int)-1).toNat (0,0)).1) else false)):=by unfold AB1;rw[decide_eq_true hi0];rfl
    rw[e0,D3 (by simp)]
    exact fin _ _ e1.symm
   ·have e0:decide ((0:Int)<(i:Int))=true:=by simp;omega
    have et:((i:Int)-1).toNat=i-1:=by omega
    have e2:decide ((l.getD (i-1) (0,0)).1<(l.getD i (0,0)).1) = !decide ((l.getD i (0,0)).1≤(l.getD (i-1) (0,0)).1):=by rw[Bool.eq_iff_iff];simp
    have e1:AB1 l len i=(decide (-1048576≤(l.getD i (0,0)).2)&&decide ((l.getD i (0,0)).2≤1048576)&&decide ((l.getD i (0,0)).1<len)&& !(bif true then decide ((l.getD i (0,0)).1≤(l.getD ((i:Int)-1).toNat (0,0)).1) else false)):=by unfold AB1;rw[decide_eq_false hi0,et,e2];rfl
    rw[e0,decide_eq_true (show (0:Int)≤(i:Int)-1 by omega),decide_eq_true (show (i:Int)-1<l.length by omega),D3 (by simp)]
    exact fin _ _ e1.symm
  ·simp
 ·have e6:((l.getD (0:Int).toNat ((0:Int),(0:Int))).1 != 0)=true:=by simpa using h2
  have e7:decide ((l.getD 0 ((0:Int),(0:Int))).1=0)=false:=by simpa using h2
  rw[e6,e7];rfl
end Go.Proofs.YthfjpkdadjemcaaGreat

/- What the readings of tracks say. -/
set_option linter.unusedSimpArgs false
set_option linter.unusedVariables false
namespace Go.Proofs.YthfjpkdadjemcaaGreat
open Go.RowKit
abbrev Sg:=Int×(List (Int×Int)×List Int)
abbrev Gp:=Int×(Int×(Int×(Int×Int)))
abbrev Tk:=List Sg×List Gp
def sg0:Sg:=(0,[],[])
def gp0:Gp:=(0,0,0,0,0)
def AN8 (n:Nat)(l:List Int)(i:Nat):Bool:=decide (0≤l.getD i 0)&&decide (l.getD i 0<n)&&(decide (i=0)||decide (l.getD (i-1) 0<l.getD i 0))
def Q7 (n:Nat)(s:Sg):Bool:=decide (1≤s.1)&&decide (s.1≤1099511627776)&&AH8 s.2.1 s.1&&decide (s.2.2.length≤2)&&(List.range s.2.2.length).all (AN8 n s.2.2)
def Q8 (t:Tk)(i:Nat)(g:Gp):Bool:=
 decide (1≤g.1)&&decide (g.1≤65535)&&(decide (i=0)||decide ((t.2.getD (i-1) gp0).1<g.1))&&decide (0≤g.2.1)&&decide (g.2.1<t.1.length)&&
 (decide (0≤g.2.2.1)&&decide (g.2.2.1≤(t.1.getD g.2.1.toNat sg0).1)&&decide (0≤g.2.2.2.1)&&decide (g.2.2.2.1≤1048576)&&decide (0≤g.2.2.2.2)&&decide (g.2.2.2.2≤16777216))
def big:Nat:=9223372036854775806
theorem K2 {a b:Int}:decide (a≤b) = !decide (b<a):=by rw[Bool.eq_iff_iff];simp
theorem AB2 {a b:Int}:decide (a<b) = !decide (b≤a):=by rw[Bool.eq_iff_iff];simp
theorem EQ6 (t:Tk)(s:Sg)(h1:t.1.length≤big)(h2:s.2.1.length≤big)(h3:s.2.2.length≤big):AR7 t s=some (Q7 t.1.length s):=by
 unfold big at*;unfold AR7 Q7;rw[EQ5 _ _ h2,@K2 1 s.1,@K2 s.1 1099511627776];simp only[];cases decide (s.1<1) <;> cases decide (1099511627776<s.1) <;> cases hg:AH8 s.2.1 s.1 <;> first | rfl | skip
 by_cases h4:2<(s.2.2.length:Int)
 ·have e:decide (s.2.2.length≤2)=false:=by simp;omega
  rw[decide_eq_true h4,e];rfl
 ·have e:decide (s.2.2.length≤2)=true:=by simp;omega
  rw[decide_eq_false h4,e];simp only[cond_false,cond_true,Bool.not_false,Option.bind_some,Bool.true_and,bne_self_eq_false,Bool.not_true,Bool.and_self];rw[AW0 s.2.2.length (fun i=>bif AN8 t.1.length s.2.2 i then none else some (.inl false)) (.inr ())]
  ·rw[BB8]
   cases (List.range s.2.2.length).all (AN8 t.1.length s.2.2) <;> rfl
  ·intro i hi
   have ew:IntKind.i64.wrap ((i:Int)-1)=i-1:=B0 (by omega)
   have ew2:IntKind.i64.wrap ((i:Int)+1)=i+1:=B0 (by omega)
   rw[decide_eq_true (show (i:Int)<s.2.2.length by omega),decide_eq_true (show (0:Int)≤i by omega),ew,ew2,Int.toNat_natCast]
   simp only[cond_true,Bool.and_self,D3];have fin:∀b c:Bool,b = !c→(bif b then some (Sum.inr (Sum.inl false)) else some (Sum.inl ((i:Int)+1)))=some (Am9 ((i:Int)+1) (bif c then none else some (Sum.inl false):Option (Bool ⊕ Unit))):=by rintro b c rfl;cases c <;> rfl
   by_cases hi0:i=0
   ·rw[D3 (by simp[hi0])]
    refine fin _ _ ?_;unfold AN8;rw[decide_eq_true hi0,show decide ((0:Int)<(i:Int))=false by simp[hi0],@K2 0 (s.2.2.getD i 0),@AB2 (s.2.2.getD i 0) t.1.length]
    cases decide (s.2.2.getD i 0<0) <;> cases decide ((t.1.length:Int)≤s.2.2.getD i 0) <;> rfl
   ·rw[D3 (by simp;omega)]
    refine fin _ _ ?_;have et:((i:Int)-1).toNat=i-1:=by omega
    unfold AN8;rw[decide_eq_false hi0,show decide ((0:Int)<(i:Int))=true by simp;omega,@K2 0 (s.2.2.getD i 0),@AB2 (s.2.2.getD i 0) t.1.length,@AB2 (s.2.2.getD (i-1) 0) (s.2.2.getD i 0),et]
    cases decide (s.2.2.getD i 0<0) <;> cases decide ((t.1.length:Int)≤s.2.2.getD i 0) <;> cases decide (s.2.2.getD i 0≤s.2.2.getD (i-1) 0) <;> rfl
  ·simp
theorem EQ7 (t:Tk)(i:Nat)(g:Gp)(h1:t.1.length≤big)(hi:i<t.2.length)(h2:t.2.length≤big):Av2 t i g=some (Q8 t i g):=by
 unfold big at*;unfold Av2;have ew:IntKind.i64.wrap ((i:Int)-1)=i-1:=B0 (by omega)
 rw[ew];by_cases hi0:i=0
 ·rw[D3 (by simp[hi0])]
  unfold Q8;rw[decide_eq_true hi0,show decide ((0:Int)<(i:Int))=false by simp[hi0],@K2 1 g.1,@K2 g.1 65535,@K2 0 g.2.1,@AB2 g.2.1 t.1.length]
  cases a1:decide (g.1<1) <;> cases a2:decide (65535<g.1) <;> cases a3:decide (g.2.1<0) <;> cases a4:decide ((t.1.length:Int)≤g.2.1) <;> first | rfl | skip
  simp only[cond_false,cond_true,Bool.not_false,Bool.not_true,Bool.true_or,Bool.true_and,Bool.and_true,Bool.cond_false_right,D3];rfl
 ·have et:((i:Int)-1).toNat=i-1:=by omega
  rw[D3 (by simp;omega),et]
  simp only[];unfold Q8 gp0;rw[decide_eq_false hi0,show decide ((0:Int)<(i:Int))=true by simp;omega,@K2 1 g.1,@K2 g.1 65535,@K2 0 g.2.1,@AB2 g.2.1 t.1.length,@AB2 (t.2.getD (i-1) (0,0,0,0,0)).1 g.1]
  cases a1:decide (g.1<1) <;> cases a2:decide (65535<g.1) <;> cases a5:decide (g.1≤(t.2.getD (i-1) (0,0,0,0,0)).1) <;> cases a3:decide (g.2.1<0) <;> cases a4:decide ((t.1.length:Int)≤g.2.1) <;> first | rfl | skip
  simp only[cond_false,cond_true,Bool.not_false,Bool.not_true,Bool.true_or,Bool.true_and,Bool.and_true,Bool.cond_false_right,Bool.false_or,D3];rfl
def r8 (b:Nat→Bool)(n:Nat):Option Nat:=(List.range n).findSome? fun i=>bif b i then none else some i
def O7 (t:Tk):Int×Int:=
 if t.1.length=0∨200<t.1.length∨400<t.2.length then (13,0) else
  match r8 (fun i=>Q7 t.1.length (t.1.getD i sg0)) t.1.length with
  |some i=>(11,i)
  |none=>match r8 (fun i=>Q8 t i (t.2.getD i gp0)) t.2.length with
   |some i=>(16,i)
   |none=>(0,0)
theorem BB9 {α β:Type}(n:Nat)(b:Nat→Bool)(g:Nat→β):((List.range n).findSome? fun i=>bif b i then none else some (g i))=(r8 b n).map g:=by
 unfold r8
 induction List.range n with
 |nil=>rfl
 |cons i l ih=>
  rw[List.findSome?_cons,List.findSome?_cons];cases b i
  ·rfl
  ·exact ih
theorem CD6 {b:Nat→Bool}{n:Nat}:r8 b n=none↔∀i,i<n→b i=true:=by
 unfold r8;rw[BT1];constructor
 ·intro h i hi
  have:=h i hi;cases hb:b i with
  |true=>rfl
  |false=>rw [hb] at this;cases this
 ·intro h i hi
  rw[h i hi];rfl
theorem CD7 (t:Tk)(h:t.1.length≤200→∀s∈t.1,s.2.1.length≤big∧s.2.2.length≤big):AK6 t=some (O7 t):=by
 unfold AK6 O7;by_cases h1:t.1.length=0
 ·rw[if_pos (.inl h1)];simp[h1]
 by_cases h2:200<t.1.length
 ·rw[if_pos (.inr (.inl h2))]
  have e1:((t.1.length:Int)==0)=false:=by simpa using h1
  have e2:decide ((200:Int)<t.1.length)=true:=by simp;omega
  rw[e1,e2];rfl
 by_cases h3:400<t.2.length
 ·rw[if_pos (.inr (.inr h3))]
  have e1:((t.1.length:Int)==0)=false:=by simpa using h1
  have e2:decide ((200:Int)<t.1.length)=false:=by simp;omega
  have e3:decide ((400:Int)<t.2.length)=true:=by simp;omega
  rw[e1,e2,e3];rfl
 rw[if_neg (by omega)]
 have e1:((t.1.length:Int)==0)=false:=by simpa using h1
 have e2:decide ((200:Int)<t.1.length)=false:=by simp;omega
 have e3:decide ((400:Int)<t.2.length)=false:=by simp;omega
 rw[e1,e2,e3];simp only[cond_false];rw[AW0 t.1.length (fun i=>bif Q7 t.1.length (t.1.getD i sg0) then none else some (.inl ((i:Int),(11:Int)))) (.inr ()),BB9 (α:=Unit)]
 ·cases hf:r8 (fun i=>Q7 t.1.length (t.1.getD i sg0)) t.1.length with
  |some i=>rfl
  |none=>
   simp only[Option.map_none,Option.getD_none,Option.bind_some];rw[AW0 t.2.length (fun i=>bif Q8 t i (t.2.getD i gp0) then none else some (.inl ((16:Int),(i:Int)))) (.inr ()),BB9 (α:=Unit)]
   ·cases r8 (fun i=>Q8 t i (t.2.getD i gp0)) t.2.length <;> rfl
   ·intro i hi
    have ew2:IntKind.i64.wrap ((i:Int)+1)=i+1:=B0 (by omega)
    rw[decide_eq_true (show (i:Int)<t.2.length by omega),decide_eq_true (show (0:Int)≤i by omega),ew2,Int.toNat_natCast]
    simp only[cond_true,Bool.and_self,D3];rw[EQ7 t i _ (by unfold big;omega) hi (by unfold big;omega)]
    show Option.bind (some (Q8 t i (t.2.getD i gp0))) _=_;cases Q8 t i (t.2.getD i gp0) <;> rfl
   ·simp
 ·intro i hi
  have ew2:IntKind.i64.wrap ((i:Int)+1)=i+1:=B0 (by omega)
  rw[decide_eq_true (show (i:Int)<t.1.length by omega),decide_eq_true (show (0:Int)≤i by omega),ew2,Int.toNat_natCast]
  simp only[cond_true,Bool.and_self,D3];have hm:t.1.getD i ((0:Int),([],[]))∈t.1:=by rw[P7 hi];exact List.getElem_mem hi
  obtain⟨k1,k2⟩:=h (by omega) _ hm
  rw[EQ6 t _ (by unfold big;omega) k1 k2]
  show Option.bind (some (Q7 t.1.length (t.1.getD i sg0))) _=_;cases Q7 t.1.length (t.1.getD i sg0) <;> rfl
 ·simp
def Rows (t:Tk):Prop:=t.1.length≤140737488351232∧t.2.length≤140737488351232∧∀s∈t.1,s.2.1.length≤140737488351232∧s.2.2.length≤140737488351232
end Go.Proofs.YthfjpkdadjemcaaGreat

/- Tracks as the document has them: what their readings say. -/
set_option linter.unusedSimpArgs false
set_option linter.unusedVariables false
namespace Go.Proofs.YthfjpkdadjemcaaGreat
open Go.RowKit
theorem Q9 {S X:Type}{f:S→Option (S ⊕ X)}(n:Nat)(st:Nat→S)(x:X)(h:∀i,i<n→f (st i)=some (.inl (st (i+1))))(he:f (st n)=some (.inr x)):LP.lp f (st 0)=some x:=by
 have key:∀k j:Nat,j+k=n→G3 f (k+1) (st j)=some x:=by
  intro k
  induction k with
  |zero=>
   intro j hj;obtain rfl:j=n:=by omega
   rw[G3,he]
  |succ k ih=>intro j hj;rw[G3,h j (by omega)];exact ih (j+1) (by omega)
 exact Ad2 (key n 0 (by omega))
theorem Ae6 {α:Type}{l:List α}{i:Nat}{d:α}(h:i<l.length):l.take i++[l.getD i d]=l.take (i+1):=by rw[P7 h,List.take_add_one,List.getElem?_eq_getElem h];rfl
theorem EQ8 (l:List (Int×Int))(len:Int)(hl:l.length≤9223372036854775806):AQ3 l len=some (AH8 l len):=by
 unfold AQ3 AH8;by_cases h0:l.length=0
 ·simp[h0,chk]
 by_cases h1:64<l.length
 ·have e1:decide ((l.length:Int)<1)=false:=by simp;omega
  have e2:decide ((64:Int)<l.length)=true:=by simp;omega
  have e4:decide (l.length≤64)=false:=by simp;omega
  simp[e1,e2,e4,chk]
 have e1:decide ((l.length:Int)<1)=false:=by simp;omega
 have e2:decide ((64:Int)<l.length)=false:=by simp;omega
 have e3:decide ((0:Int)<l.length)=true:=by simp;omega
 have e4:decide (l.length≤64)=true:=by simp;omega
 have e5:decide (1≤l.length)=true:=by simp;omega
 rw[e1,e2,e3,e4,e5];simp only[cond_false,Bool.true_and,Bool.and_self,Bool.true_or,D3];by_cases h2:(l.getD 0 (0,0)).1=0
 ·have e6:((l.getD (0:Int).toNat ((0:Int),(0:Int))).1 != 0)=false:=by simpa using h2
  have e7:decide ((l.getD 0 ((0:Int),(0:Int))).1=0)=true:=by simpa using h2
  rw[e6,e7];simp only[cond_false,Bool.true_and];rw[AW0 l.length (fun i=>bif AB1 l len i then none else some (.inl false)) (.inr ())]
  ·rw[BB8]
   cases (List.range l.length).all (AB1 l len) <;> rfl
  ·intro i hi
   rw[decide_eq_true (show (i:Int)<l.length by omega),decide_eq_true (show (0:Int)≤i by omega)]
   simp only[cond_true,Bool.and_self,Bool.true_or,D3];rw[Int.toNat_natCast];have ew:IntKind.i64.wrap ((i:Int)-1)=i-1:=B0 (by omega)
   have ew2:IntKind.i64.wrap ((i:Int)+1)=i+1:=B0 (by omega)
   rw[ew,ew2];have fin:∀a b c d e:Bool,e=(!a&& !b&& !c&& !d)→(bif (bif (bif a then true else b) then true else c) then some (Sum.inr (Sum.inl false)) else (bif d then some (Sum.inr (Sum.inl false)) else some (Sum.inl ((i:Int)+1))))=some (Am9 ((i:Int)+1) (bif e then none else some (Sum.inl false):Option (Bool ⊕ Unit))):=by rintro a b c d e rfl;cases a <;> cases b <;> cases c <;> cases d <;> rfl
   by_cases hi0:i=0
   ·rw[D3 (by simp[hi0])]
    refine fin _ _ _ _ _ ?_;unfold AB1;rw[decide_eq_true hi0,show decide ((0:Int)<(i:Int))=false by simp[hi0],@K2 (-1048576) (l.getD i (0,0)).2,@K2 (l.getD i (0,0)).2 1048576,@AB2 (l.getD i (0,0)).1 len]
    rfl
   ·have et:((i:Int)-1).toNat=i-1:=by omega
    rw[D3 (by simp;omega),et]
    refine fin _ _ _ _ _ ?_;unfold AB1;rw[decide_eq_false hi0,show decide ((0:Int)<(i:Int))=true by simp;omega,@K2 (-1048576) (l.getD i (0,0)).2,@K2 (l.getD i (0,0)).2 1048576,@AB2 (l.getD i (0,0)).1 len,@AB2 (l.getD (i-1) (0,0)).1 (l.getD i (0,0)).1]
    rfl
  ·simp
 ·have e6:((l.getD (0:Int).toNat ((0:Int),(0:Int))).1 != 0)=true:=by simpa using h2
  have e7:decide ((l.getD 0 ((0:Int),(0:Int))).1=0)=false:=by simpa using h2
  rw[e6,e7];rfl
theorem EQ9 {S X:Type}{f:S→Option (S ⊕ X)}(n:Nat)(st:Nat→S)(step:Nat→Option X)(xe:X){s0:S}(h0:st 0=s0)
  (h:∀i:Nat,i<n→(∀j,j<i→step j=none)→f (st i)=some (match step i with | some x=>.inr x | none=>.inl (st (i+1)))) (he:f (st n)=some (.inr xe)):
  LP.lp f s0=some (((List.range n).findSome? step).getD xe):=by
 subst h0;have key:∀(k j:Nat),j+k=n→(∀i,i<j→step i=none)→G3 f (k+1) (st j)=some (((List.range' j k).findSome? step).getD xe):=by
  intro k
  induction k with
  |zero=>
   intro j hj _;have:j=n:=by omega
   subst this;simp[G3,he]
  |succ k ih=>
   intro j hj hn;rw[G3,h j (by omega) hn,CD5]
   cases hs:step j with
   |some x=>rfl
   |none=>
    have:=ih (j+1) (by omega) (fun i hi=>by rcases Nat.lt_succ_iff_lt_or_eq.1 hi with hi | rfl;exact hn i hi;exact hs)
    rw[← this]
 have:=Ad2 (key n 0 (by omega) (fun i hi=>by omega))
 rw[List.range_eq_range'];exact this
theorem ER0 (s:Sg)(n:Nat)(h2:s.2.1.length≤big):AQ4 s (n:Int)=some (Q7 n s):=by
 unfold big at*;unfold AQ4 Q7;rw[EQ8 _ _ h2,@K2 1 s.1,@K2 s.1 1099511627776];simp only[];cases decide (s.1<1) <;> cases decide (1099511627776<s.1) <;> cases hg:AH8 s.2.1 s.1 <;> first | rfl | skip
 by_cases h4:2<(s.2.2.length:Int)
 ·have e:decide (s.2.2.length≤2)=false:=by simp;omega
  rw[decide_eq_true h4,e];rfl
 ·have e:decide (s.2.2.length≤2)=true:=by simp;omega
  rw[decide_eq_false h4,e];simp only[cond_false,cond_true,Bool.not_false,Option.bind_some,Bool.true_and,bne_self_eq_false,Bool.not_true,Bool.and_self];rw[AW0 s.2.2.length (fun i=>bif (decide (0≤s.2.2.getD i 0)&&decide (s.2.2.getD i 0<n)) then none else some (.inl false)) (.inr ())]
  ·rw[BB8]
   generalize hl:s.2.2=l at*
   match l,h4 with
   | [],_=>rfl
   | [a],_=>
    simp[AN8,List.range_succ];cases hb:(decide (0≤a)&&decide (a<(n:Int))) <;> rfl
   | [a,b],_=>
    simp[AN8,List.range_succ,chk];cases hb:(decide (0≤a)&&decide (a<(n:Int))) <;> cases hc:(decide (0≤b)&&decide (b<(n:Int))) <;> cases hd:decide (a<b) <;> rfl
   |a::b::c::l,h4=>simp at h4;omega
  ·intro i hi
   have ew2:IntKind.i64.wrap ((i:Int)+1)=i+1:=B0 (by omega)
   rw[decide_eq_true (show (i:Int)<s.2.2.length by omega),decide_eq_true (show (0:Int)≤i by omega),ew2,Int.toNat_natCast]
   simp only[cond_true,Bool.and_self,Bool.true_or,D3];rw[@K2 0 (s.2.2.getD i 0),@AB2 (s.2.2.getD i 0) n];cases decide (s.2.2.getD i 0<0) <;> cases decide ((n:Int)≤s.2.2.getD i 0) <;> rfl
  ·simp
def AN9 (t:Tk)(i:Nat):Int:=if i=0 then 0 else (t.2.getD (i-1) gp0).1
theorem ER1 (t:Tk)(h:t.1.length≤200→∀s∈t.1,s.2.1.length≤big∧s.2.2.length≤big):AQ5 t=some (O7 t):=by
 unfold AQ5 O7;by_cases h1:t.1.length=0
 ·rw[if_pos (.inl h1)];simp[h1]
 by_cases h2:200<t.1.length
 ·rw[if_pos (.inr (.inl h2)),decide_eq_true (show (200:Int)<t.1.length by omega)];simp
 by_cases h3:400<t.2.length
 ·rw[if_pos (.inr (.inr h3)),decide_eq_true (show (400:Int)<t.2.length by omega)];simp
 rw[if_neg (by omega),decide_eq_false (show ¬(t.1.length:Int)<1 by omega),decide_eq_false (show ¬(200:Int)<t.1.length by omega),decide_eq_false (show ¬(400:Int)<t.2.length by omega)]
 simp only[cond_false];rw[AW0 t.1.length (fun i=>bif Q7 t.1.length (t.1.getD i sg0) then none else some (.inl ((i:Int),11))) (.inr ())]
 ·rw[BB9 (α:=Unit)]
  cases h4:r8 (fun i=>Q7 t.1.length (t.1.getD i sg0)) t.1.length with
  |some i=>rfl
  |none=>
   simp only[Option.map_none,Option.getD_none,Option.bind_some];rw[EQ9 (X:=(Int×Int) ⊕ Unit) t.2.length (fun i=>(AN9 t i,(i:Int))) (fun i=>bif Q8 t i (t.2.getD i gp0) then none else some (Sum.inl (16,(i:Int)))) (Sum.inr ():(Int×Int) ⊕ Unit) (show (AN9 t 0,((0:Nat):Int))=((0:Int),(0:Int)) from rfl)]
   ·rw[BB9 (α:=Unit)]
    cases h5:r8 (fun i=>Q8 t i (t.2.getD i gp0)) t.2.length <;> rfl
   ·intro i hi hprev
    simp only[];rw[decide_eq_true (show (i:Int)<t.2.length by omega),decide_eq_true (show (0:Int)≤i by omega),Int.toNat_natCast,B0 (n:=(i:Int)+1) (by omega)]
    have hdef:t.2.getD i ((0:Int),((0:Int),((0:Int),((0:Int),(0:Int)))))=t.2.getD i gp0:=rfl;rw[hdef];simp only[cond_true,Bool.and_self,D3];have hl:AN9 t (i+1)=(t.2.getD i gp0).1:=by unfold AN9;rw[if_neg (by omega)];rfl
    obtain⟨g,hg⟩:∃g,t.2.getD i gp0=g:=⟨_,rfl⟩;rw[hl,hg];have hlast:0≤AN9 t i:=by
     unfold AN9;by_cases h0:i=0
     ·rw[if_pos h0];omega
     ·rw[if_neg h0]
      have:=hprev (i-1) (by omega)
      cases hb:Q8 t (i-1) (t.2.getD (i-1) gp0) with
      |false=>rw [hb] at this;cases this
      |true=>
       unfold Q8 at hb;simp only[Bool.and_eq_true,decide_eq_true_eq] at hb;omega
    have h11:decide (g.1≤AN9 t i) = !(decide (1≤g.1)&&(decide (i=0)||decide ((t.2.getD (i-1) gp0).1<g.1))):=by
     rw[Bool.eq_iff_iff];unfold AN9 at hlast ⊢;by_cases h0:i=0
     ·simp[h0];omega
     ·simp[h0] at hlast ⊢;omega
    rw[h11];unfold Q8;rw[@K2 g.1 65535,@K2 0 g.2.1,@AB2 g.2.1 t.1.length,@K2 0 g.2.2.1,@K2 g.2.2.1 _,@K2 0 g.2.2.2.1,@K2 g.2.2.2.1 1048576,@K2 0 g.2.2.2.2,@K2 g.2.2.2.2 16777216];have hseg:∀s,t.1.getD s ((0:Int),([],[]))=t.1.getD s sg0:=fun _=>rfl
    rw[hseg];cases decide (1≤g.1) <;> first | rfl | skip
    ·cases hq:(decide (i=0)||decide ((t.2.getD (i-1) gp0).1<g.1)) with
     |false=>cases decide (65535<g.1) <;> rfl
     |true=>
      cases decide (65535<g.1) <;> first | rfl | skip
      cases a3:decide (g.2.1<0) <;> first | rfl | skip
      cases a4:decide ((t.1.length:Int)≤g.2.1) <;> first | rfl | skip
      simp only[Bool.and_self,Bool.true_or,D3,cond_false,cond_true,Bool.not_true,Bool.not_false,Bool.true_and];cases decide (g.2.2.1<0) <;> cases decide ((t.1.getD g.2.1.toNat sg0).1<g.2.2.1) <;> cases decide (g.2.2.2.1<0) <;> cases decide (1048576<g.2.2.2.1) <;> cases decide (g.2.2.2.2<0) <;> cases decide (16777216<g.2.2.2.2) <;> rfl
   ·simp
 ·intro i hi
  rw[decide_eq_true (show (i:Int)<t.1.length by omega),decide_eq_true (show (0:Int)≤i by omega),Int.toNat_natCast,B0 (n:=(i:Int)+1) (by omega)]
  have hdef:t.1.getD i ((0:Int),([],[]))=t.1.getD i sg0:=rfl;rw[hdef];simp only[cond_true,Bool.and_self,D3];have hm:t.1.getD i sg0∈t.1:=by rw[P7 hi];exact List.getElem_mem hi
  rw[ER0 _ _ (h (by omega) _ hm).1,Option.bind_some]
  cases Q7 t.1.length (t.1.getD i sg0) <;> rfl
 ·simp
end Go.Proofs.YthfjpkdadjemcaaGreat
