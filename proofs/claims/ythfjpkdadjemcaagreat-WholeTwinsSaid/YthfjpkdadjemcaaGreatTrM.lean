/- What the readings of the document's configurations say. -/
import Derived.Test.YthfjpkdadjemcaaGreatFnsF3
import Derived.Test.YthfjpkdadjemcaaGreatLoopF
import Derived.Test.YthfjpkdadjemcaaGreatEngLink
set_option linter.unusedSimpArgs false
set_option linter.unusedVariables false
namespace Go.Proofs.YthfjpkdadjemcaaGreat
open Go.RowKit
open _root_.List renaming range → FQ0, findSome?_cons → FQ9, mem_range → FR0, range' → FR1, range_eq_range' → FR3
open _root_.Bool renaming and_self → FQ1, true_and → FQ3, eq_iff_iff → FQ4, true_or → FQ6, not_false → FQ7, not_true → FQ8, cond_false_right → FR2
open _root_.Int renaming toNat_natCast → FQ2
open _root_.Option renaming bind_some → FQ5, getD_none → FR4, map_none → FR5
theorem AW5 {n:Int}(h:Fits (.int .i64) n):I64 n:=by have h:fits .i64 n=true:=h;simp[fits] at h;exact⟨by omega,by omega⟩
theorem B3 {n:Int}(h : -9223372036854775808≤n∧n≤9223372036854775807):IntKind.i64.wrap n=n:=by rw[IntKind.wrap_i64];omega
theorem D3 {ρ:Type}{c:Bool}{k:Option ρ}(h:c=true):chk none c k=k:=by subst h;rfl
abbrev Cf:=Int×(Int×(Int×(Int×(Int×(Int×(Int×(Int×(Int×(Int×(Int×(Int×(Int×Int))))))))))))
def upP (a b:Int):Int:=(a+b-1)/b
def CG7 (c:Cf):Int:=
 match c with
 | (p,lo,hi,rb,rp,ae,ms,ma,an,st,ss,ro,ti,br)=>
  if p<1∨1024<p then 1 else
  if lo<131072∨8388608<lo∨hi<lo∨8388608<hi then 2 else
  if lo<(hi-lo)*16 then 3 else
  if rb<0∨1048576<rb∨rp<0∨65536<rp then 4 else
  if ae<0∨1048576<ae then 5 else
  if ms<1∨16777216<ms∨ma<1∨1048576<ma then 6 else
  if 32000*lo<ms*p then 7 else
  if an<0∨1048576<an then 8 else
  if st<1∨1000<st∨ti<1∨1000<ti then 9 else
  if ss<upP hi p∨ss<3*rb∨16777216<ss then 10 else
  if ro<0∨1073741824<ro then 11 else
  if br<1∨1048576<br then 12 else 0
theorem EQ3 {x y X Y:Int}(h1:0≤x)(h2:x≤X)(h3:0≤y)(h4:y≤Y):0≤x*y∧x*y≤X*Y:=by
 have a1:x*y≤X*y:=Int.mul_le_mul_of_nonneg_right h2 h3;have a2:X*y≤X*Y:=Int.mul_le_mul_of_nonneg_left h4 (by omega)
 have a3:=Int.mul_nonneg h1 h3;omega
theorem EQ4 (a b:Int)(ha:0≤a∧a≤4611686018427387903)(hb:1≤b∧b≤4611686018427387903):Aw9 a b=some (upP a b):=by
 unfold Aw9 upP;have hne:(!(b==(0:Int)))=true:=by simp;omega
 have h0:0≤a+b-1:=by omega
 have hd:(a+b-1)/b≤a+b-1:=Int.ediv_le_self _ h0;have hd0:0≤(a+b-1)/b:=Int.ediv_nonneg h0 (by omega)
 simp only[B3 (n:=a+b) (by omega),B3 (n:=a+b-1) (by omega),D3 hne,Int.tdiv_eq_ediv_of_nonneg h0,B3 (n:=(a+b-1)/b) (by omega)]
theorem EQ5 (c:Cf):Ax0 c=some (CG7 c):=by
 obtain⟨p,lo,hi,rb,rp,ae,ms,ma,an,st,ss,ro,ti,br⟩:=c;unfold Ax0 CG7;simp only[Bool.cond_true_left];simp only[← Bool.decide_or];simp only[Bool.cond_decide,or_assoc];by_cases h1:p<1∨1024<p
 ·simp only[if_pos h1]
 simp only[if_neg h1];by_cases h2:lo<131072∨8388608<lo∨hi<lo∨8388608<hi
 ·simp only[if_pos h2]
 simp only[if_neg h2];rw[B3 (n:=hi-lo) (by omega),B3 (n:=(hi-lo)*16) (by omega)]
 by_cases h3:lo<(hi-lo)*16
 ·simp only[if_pos h3]
 simp only[if_neg h3];by_cases h4:rb<0∨1048576<rb∨rp<0∨65536<rp
 ·simp only[if_pos h4]
 simp only[if_neg h4];by_cases h5:ae<0∨1048576<ae
 ·simp only[if_pos h5]
 simp only[if_neg h5];by_cases h6:ms<1∨16777216<ms∨ma<1∨1048576<ma
 ·simp only[if_pos h6]
 simp only[if_neg h6];have hm:=EQ3 (x:=ms) (y:=p) (X:=16777216) (Y:=1024) (by omega) (by omega) (by omega) (by omega)
 rw[B3 (n:=ms*p) (by omega),B3 (n:=32000*lo) (by omega)]
 by_cases h7:32000*lo<ms*p
 ·simp only[if_pos h7]
 simp only[if_neg h7];by_cases h8:an<0∨1048576<an
 ·simp only[if_pos h8]
 simp only[if_neg h8];by_cases h9:st<1∨1000<st∨ti<1∨1000<ti
 ·simp only[if_pos h9]
 simp only[if_neg h9];rw[EQ4 hi p (by omega) (by omega)]
 simp only[FQ5,B3 (n:=3*rb) (by omega)]
 by_cases h10:ss<upP hi p∨ss<3*rb∨16777216<ss
 ·simp only[if_pos h10]
 simp only[if_neg h10];by_cases h11:ro<0∨1073741824<ro
 ·simp only[if_pos h11]
 simp only[if_neg h11];by_cases h12:br<1∨1048576<br
 ·simp only[if_pos h12]
 simp only[if_neg h12]
structure Ef5 (p lo hi rb rp ae ms ma an st ss ro ti br:Int):Prop where
 hp:1≤p∧p≤1024
 hlo:131072≤lo∧lo≤8388608
 hhi:lo≤hi∧hi≤8388608
 Ef6:(hi-lo)*16≤lo
 hrb:0≤rb∧rb≤1048576
 hrp:0≤rp∧rp≤65536
 hae:0≤ae∧ae≤1048576
 hms:1≤ms∧ms≤16777216
 hma:1≤ma∧ma≤1048576
 Ef7:ms*p≤32000*lo
 han:0≤an∧an≤1048576
 hst:1≤st∧st≤1000
 hti:1≤ti∧ti≤1000
 hss:upP hi p≤ss∧3*rb≤ss∧ss≤16777216
 hro:0≤ro∧ro≤1073741824
 hbr:1≤br∧br≤1048576

/- What the readings of grades and tracks say. -/
section
variable {X:Type}{f:Int→Option (Int ⊕ X)}
theorem CG8 {step:Nat→Option X}(j k:Nat):(FR1 j (k+1)).findSome? step=match step j with | some x=>some x | none=>(FR1 (j+1) k).findSome? step:=by rw[List.range'_succ,FQ9];cases step j <;> rfl
def Ao8 {X:Type}(j:Int)(o:Option X):Int ⊕ X:=match o with
 |some x=>.inr x
 |none=>.inl j
theorem AW6 (n:Nat)(step:Nat→Option X)(xe:X)(h:∀i:Nat,i<n→f i=some (Ao8 ((i:Int)+1) (step i)))(he:f n=some (.inr xe)):
  LP.lp f 0=some (((FQ0 n).findSome? step).getD xe):=by
 have key:∀(k j:Nat),j+k=n→D2 f (k+1) (j:Int)=some (((FR1 j k).findSome? step).getD xe):=by
  intro k
  induction k with
  |zero=>
   intro j hj;have:j=n:=by omega
   subst this;simp[D2,he]
  |succ k ih=>
   intro j hj;rw[D2,h j (by omega),CG8]
   unfold Ao8;cases step j with
   |some x=>rfl
   |none=>
    have:=ih (j+1) (by omega)
    rw[← this];rfl
 have:=p0 (key n 0 (by omega))
 rw[FR3];exact this
theorem BS4 {n:Nat}{step:Nat→Option X}:(FQ0 n).findSome? step=none↔∀i,i<n→step i=none:=by rw[List.findSome?_eq_none_iff];exact⟨fun h i hi=>h i (FR0.2 hi),fun h i hi=>h i (FR0.1 hi)⟩
end
theorem Y3 {α:Type}{l:List α}{i:Nat}{d:α}(h:i<l.length):l.getD i d=l[i]:=by simp[List.getD,h]
def AB1 (l:List (Int×Int))(len:Int)(i:Nat):Bool:=
 decide (-1048576≤(l.getD i (0,0)).2)&&decide ((l.getD i (0,0)).2≤1048576)&&decide ((l.getD i (0,0)).1<len)&&(decide (i=0)||decide ((l.getD (i-1) (0,0)).1<(l.getD i (0,0)).1))
def AI5 (l:List (Int×Int))(len:Int):Bool:=decide (1≤l.length)&&decide (l.length≤64)&&decide ((l.getD 0 (0,0)).1=0)&&(FQ0 l.length).all (AB1 l len)
theorem BA2 {α:Type}{n:Nat}{b:Nat→Bool}{x y:α}:((FQ0 n).findSome? fun i=>bif b i then none else some x).getD y=bif (FQ0 n).all b then y else x:=by
 cases h:(FQ0 n).all b with
 |true=>
  have:((FQ0 n).findSome? fun i=>bif b i then none else some x)=none:=BS4.2 fun i hi=>by rw[List.all_eq_true.1 h i (FR0.2 hi)];rfl
  rw[this];rfl
 |false=>
  cases hf:((FQ0 n).findSome? fun i=>bif b i then none else some x) with
  |none=>
   have:(FQ0 n).all b=true:=by
    rw[List.all_eq_true];intro i hi;have:=BS4.1 hf i (FR0.1 hi);cases hb:b i with
    |true=>rfl
    |false=>rw [hb] at this;cases this
   rw[this] at h;cases h
  |some z=>
   obtain⟨i,_,hi⟩:=List.exists_of_findSome?_eq_some hf;cases hb:b i with
   |true=>rw [hb] at hi;cases hi
   |false=>rw [hb] at hi;cases hi;rfl
theorem EQ6 {α:Type}(x:Int×Int)(len:Int)(q:Bool)(A B:α):(bif (bif (bif (bif decide (x.2 < -1048576) then true else decide (1048576<x.2)) then true else decide (len≤x.1)) then true else q) then A else B)=
  bif (decide (-1048576≤x.2)&&decide (x.2≤1048576)&&decide (x.1<len)&& !q) then B else A:=by
 have e1:decide (-1048576≤x.2) = !decide (x.2 < -1048576):=by rw[FQ4];simp
 have e2:decide (x.2≤1048576) = !decide (1048576<x.2):=by rw[FQ4];simp
 have e3:decide (x.1<len) = !decide (len≤x.1):=by rw[FQ4];simp
 rw[e1,e2,e3];cases decide (x.2 < -1048576) <;> cases decide (1048576<x.2) <;> cases decide (len≤x.1) <;> cases q <;> rfl
theorem EQ7 (l:List (Int×Int))(len:Int)(hl:l.length≤9223372036854775806):AT0 l len=some (bif AI5 l len then 0 else 11):=by
 unfold AT0 AI5;by_cases h0:l.length=0
 ·simp[h0,chk]
 by_cases h1:64<l.length
 ·have e1:((l.length:Int)==0)=false:=by simpa using h0
  have e2:decide ((64:Int)<l.length)=true:=by simp;omega
  have e3:decide ((0:Int)<l.length)=true:=by simp;omega
  have e4:decide (l.length≤64)=false:=by simp;omega
  simp[e1,e2,e3,e4,chk]
 have e1:((l.length:Int)==0)=false:=by simpa using h0
 have e2:decide ((64:Int)<l.length)=false:=by simp;omega
 have e3:decide ((0:Int)<l.length)=true:=by simp;omega
 have e4:decide (l.length≤64)=true:=by simp;omega
 have e5:decide (1≤l.length)=true:=by simp;omega
 rw[e1,e2,e3,e4,e5];simp only[cond_false,FQ3,FQ1,FQ6,D3];by_cases h2:(l.getD 0 (0,0)).1=0
 ·have e6:((l.getD (0:Int).toNat ((0:Int),(0:Int))).1 != 0)=false:=by simpa using h2
  have e7:decide ((l.getD 0 ((0:Int),(0:Int))).1=0)=true:=by simpa using h2
  rw[e6,e7];simp only[cond_false,FQ3];rw[AW6 l.length (fun i=>bif AB1 l len i then none else some (.inl 11)) (.inr ())]
  ·rw[BA2]
   cases (FQ0 l.length).all (AB1 l len) <;> rfl
  ·intro i hi
   rw[decide_eq_true (show (i:Int)<l.length by omega),decide_eq_true (show (0:Int)≤i by omega)]
   simp only[cond_true,FQ1,D3];rw[FQ2];have ew:IntKind.i64.wrap ((i:Int)-1)=i-1:=B3 (by omega)
   have ew2:IntKind.i64.wrap ((i:Int)+1)=i+1:=B3 (by omega)
   rw[ew,ew2];rw[EQ6];have fin:∀b c:Bool,b=c→(bif b then some (Sum.inl ((i:Int)+1)) else some (Sum.inr (Sum.inl (11:Int))))=some (Ao8 ((i:Int)+1) (bif c then none else some (Sum.inl (11:Int)):Option (Int ⊕ Unit))):=by rintro b c rfl;cases b <;> rfl
   by_cases hi0:i=0
   ·have e0:decide ((0:Int)<(i:Int))=false:=by simp[hi0]
    have e1:AB1 l len i=(decide (-1048576≤(l.getD i (0,0)).2)&&decide ((l.getD i (0,0)).2≤1048576)&&decide ((l.getD i (0,0)).1<len)&& !(bif false then decide ((l.getD i (0,0)).1≤(l.getD ((i:Int)-1).toNat (0,0)).1) else false)):=by unfold AB1;rw[decide_eq_true hi0];rfl
    rw[e0,D3 (by simp)]
    exact fin _ _ e1.symm
   ·have e0:decide ((0:Int)<(i:Int))=true:=by simp;omega
    have et:((i:Int)-1).toNat=i-1:=by omega
    have e2:decide ((l.getD (i-1) (0,0)).1<(l.getD i (0,0)).1) = !decide ((l.getD i (0,0)).1≤(l.getD (i-1) (0,0)).1):=by rw[FQ4];simp
    have e1:AB1 l len i=(decide (-1048576≤(l.getD i (0,0)).2)&&decide ((l.getD i (0,0)).2≤1048576)&&decide ((l.getD i (0,0)).1<len)&& !(bif true then decide ((l.getD i (0,0)).1≤(l.getD ((i:Int)-1).toNat (0,0)).1) else false)):=by unfold AB1;rw[decide_eq_false hi0,et,e2];rfl
    rw[e0,decide_eq_true (show (0:Int)≤(i:Int)-1 by omega),decide_eq_true (show (i:Int)-1<l.length by omega),D3 (by simp)]
    exact fin _ _ e1.symm
  ·simp
 ·have e6:((l.getD (0:Int).toNat ((0:Int),(0:Int))).1 != 0)=true:=by simpa using h2
  have e7:decide ((l.getD 0 ((0:Int),(0:Int))).1=0)=false:=by simpa using h2
  rw[e6,e7];rfl

/- What the readings of tracks say. -/
abbrev Sg:=Int×(List (Int×Int)×List Int)
abbrev Gp:=Int×(Int×(Int×(Int×Int)))
abbrev Tk:=List Sg×List Gp
def sg0:Sg:=(0,[],[])
def gp0:Gp:=(0,0,0,0,0)
def AP0 (n:Nat)(l:List Int)(i:Nat):Bool:=decide (0≤l.getD i 0)&&decide (l.getD i 0<n)&&(decide (i=0)||decide (l.getD (i-1) 0<l.getD i 0))
def R3 (n:Nat)(s:Sg):Bool:=decide (1≤s.1)&&decide (s.1≤1099511627776)&&AI5 s.2.1 s.1&&decide (s.2.2.length≤2)&&(FQ0 s.2.2.length).all (AP0 n s.2.2)
def R4 (t:Tk)(i:Nat)(g:Gp):Bool:=
 decide (1≤g.1)&&decide (g.1≤65535)&&(decide (i=0)||decide ((t.2.getD (i-1) gp0).1<g.1))&&decide (0≤g.2.1)&&decide (g.2.1<t.1.length)&&
 (decide (0≤g.2.2.1)&&decide (g.2.2.1≤(t.1.getD g.2.1.toNat sg0).1)&&decide (0≤g.2.2.2.1)&&decide (g.2.2.2.1≤1048576)&&decide (0≤g.2.2.2.2)&&decide (g.2.2.2.2≤16777216))
def big:Nat:=9223372036854775806
theorem K0 {a b:Int}:decide (a≤b) = !decide (b<a):=by rw[FQ4];simp
theorem AB2 {a b:Int}:decide (a<b) = !decide (b≤a):=by rw[FQ4];simp
theorem EQ8 (t:Tk)(s:Sg)(h1:t.1.length≤big)(h2:s.2.1.length≤big)(h3:s.2.2.length≤big):AT1 t s=some (R3 t.1.length s):=by
 unfold big at*;unfold AT1 R3;rw[EQ7 _ _ h2,@K0 1 s.1,@K0 s.1 1099511627776];simp only[];cases decide (s.1<1) <;> cases decide (1099511627776<s.1) <;> cases hg:AI5 s.2.1 s.1 <;> first | rfl | skip
 by_cases h4:2<(s.2.2.length:Int)
 ·have e:decide (s.2.2.length≤2)=false:=by simp;omega
  rw[decide_eq_true h4,e];rfl
 ·have e:decide (s.2.2.length≤2)=true:=by simp;omega
  rw[decide_eq_false h4,e];simp only[cond_false,cond_true,FQ7,FQ5,FQ3,bne_self_eq_false,FQ8,FQ1];rw[AW6 s.2.2.length (fun i=>bif AP0 t.1.length s.2.2 i then none else some (.inl false)) (.inr ())]
  ·rw[BA2]
   cases (FQ0 s.2.2.length).all (AP0 t.1.length s.2.2) <;> rfl
  ·intro i hi
   have ew:IntKind.i64.wrap ((i:Int)-1)=i-1:=B3 (by omega)
   have ew2:IntKind.i64.wrap ((i:Int)+1)=i+1:=B3 (by omega)
   rw[decide_eq_true (show (i:Int)<s.2.2.length by omega),decide_eq_true (show (0:Int)≤i by omega),ew,ew2,FQ2]
   simp only[cond_true,FQ1,D3];have fin:∀b c:Bool,b = !c→(bif b then some (Sum.inr (Sum.inl false)) else some (Sum.inl ((i:Int)+1)))=some (Ao8 ((i:Int)+1) (bif c then none else some (Sum.inl false):Option (Bool ⊕ Unit))):=by rintro b c rfl;cases c <;> rfl
   by_cases hi0:i=0
   ·rw[D3 (by simp[hi0])]
    refine fin _ _ ?_;unfold AP0;rw[decide_eq_true hi0,show decide ((0:Int)<(i:Int))=false by simp[hi0],@K0 0 (s.2.2.getD i 0),@AB2 (s.2.2.getD i 0) t.1.length]
    cases decide (s.2.2.getD i 0<0) <;> cases decide ((t.1.length:Int)≤s.2.2.getD i 0) <;> rfl
   ·rw[D3 (by simp;omega)]
    refine fin _ _ ?_;have et:((i:Int)-1).toNat=i-1:=by omega
    unfold AP0;rw[decide_eq_false hi0,show decide ((0:Int)<(i:Int))=true by simp;omega,@K0 0 (s.2.2.getD i 0),@AB2 (s.2.2.getD i 0) t.1.length,@AB2 (s.2.2.getD (i-1) 0) (s.2.2.getD i 0),et]
    cases decide (s.2.2.getD i 0<0) <;> cases decide ((t.1.length:Int)≤s.2.2.getD i 0) <;> cases decide (s.2.2.getD i 0≤s.2.2.getD (i-1) 0) <;> rfl
  ·simp
theorem EQ9 (t:Tk)(i:Nat)(g:Gp)(h1:t.1.length≤big)(hi:i<t.2.length)(h2:t.2.length≤big):Ax1 t i g=some (R4 t i g):=by
 unfold big at*;unfold Ax1;have ew:IntKind.i64.wrap ((i:Int)-1)=i-1:=B3 (by omega)
 rw[ew];by_cases hi0:i=0
 ·rw[D3 (by simp[hi0])]
  unfold R4;rw[decide_eq_true hi0,show decide ((0:Int)<(i:Int))=false by simp[hi0],@K0 1 g.1,@K0 g.1 65535,@K0 0 g.2.1,@AB2 g.2.1 t.1.length]
  cases a1:decide (g.1<1) <;> cases a2:decide (65535<g.1) <;> cases a3:decide (g.2.1<0) <;> cases a4:decide ((t.1.length:Int)≤g.2.1) <;> first | rfl | skip
  simp only[cond_false,cond_true,FQ7,FQ8,FQ6,FQ3,Bool.and_true,FR2,D3];rfl
 ·have et:((i:Int)-1).toNat=i-1:=by omega
  rw[D3 (by simp;omega),et]
  simp only[];unfold R4 gp0;rw[decide_eq_false hi0,show decide ((0:Int)<(i:Int))=true by simp;omega,@K0 1 g.1,@K0 g.1 65535,@K0 0 g.2.1,@AB2 g.2.1 t.1.length,@AB2 (t.2.getD (i-1) (0,0,0,0,0)).1 g.1]
  cases a1:decide (g.1<1) <;> cases a2:decide (65535<g.1) <;> cases a5:decide (g.1≤(t.2.getD (i-1) (0,0,0,0,0)).1) <;> cases a3:decide (g.2.1<0) <;> cases a4:decide ((t.1.length:Int)≤g.2.1) <;> first | rfl | skip
  simp only[cond_false,cond_true,FQ7,FQ8,FQ6,FQ3,Bool.and_true,FR2,Bool.false_or,D3];rfl
def q8 (b:Nat→Bool)(n:Nat):Option Nat:=(FQ0 n).findSome? fun i=>bif b i then none else some i
def P3 (t:Tk):Int×Int:=
 if t.1.length=0∨200<t.1.length∨400<t.2.length then (13,0) else
  match q8 (fun i=>R3 t.1.length (t.1.getD i sg0)) t.1.length with
  |some i=>(11,i)
  |none=>match q8 (fun i=>R4 t i (t.2.getD i gp0)) t.2.length with
   |some i=>(16,i)
   |none=>(0,0)
theorem BA3 {α β:Type}(n:Nat)(b:Nat→Bool)(g:Nat→β):((FQ0 n).findSome? fun i=>bif b i then none else some (g i))=(q8 b n).map g:=by
 unfold q8
 induction FQ0 n with
 |nil=>rfl
 |cons i l ih=>
  rw[FQ9,FQ9];cases b i
  ·rfl
  ·exact ih
theorem CG9 {b:Nat→Bool}{n:Nat}:q8 b n=none↔∀i,i<n→b i=true:=by
 unfold q8;rw[BS4];constructor
 ·intro h i hi
  have:=h i hi;cases hb:b i with
  |true=>rfl
  |false=>rw [hb] at this;cases this
 ·intro h i hi
  rw[h i hi];rfl
theorem CH0 (t:Tk)(h:t.1.length≤200→∀s∈t.1,s.2.1.length≤big∧s.2.2.length≤big):AL4 t=some (P3 t):=by
 unfold AL4 P3;by_cases h1:t.1.length=0
 ·rw[if_pos (.inl h1)];simp[h1]
 by_cases h2:200<t.1.length
 ·rw[if_pos (.inr (.inl h2))]
  have e1:((t.1.length:Int)==0)=false:=by simpa using h1
  have e2:decide ((200:Int)<t.1.length)=true:=by simp;omega
  rw[e1,e2];rfl
 by_cases h3:400<t.2.length
 ·rw[if_pos (.inr (.inr h3))]
  have e1:((t.1.length:Int)==0)=false:=by simpa using h1
  have e2:decide ((200:Int)<t.1.length)=false:=by simp;omega
  have e3:decide ((400:Int)<t.2.length)=true:=by simp;omega
  rw[e1,e2,e3];rfl
 rw[if_neg (by omega)]
 have e1:((t.1.length:Int)==0)=false:=by simpa using h1
 have e2:decide ((200:Int)<t.1.length)=false:=by simp;omega
 have e3:decide ((400:Int)<t.2.length)=false:=by simp;omega
 rw[e1,e2,e3];simp only[cond_false];rw[AW6 t.1.length (fun i=>bif R3 t.1.length (t.1.getD i sg0) then none else some (.inl ((i:Int),(11:Int)))) (.inr ()),BA3 (α:=Unit)]
 ·cases hf:q8 (fun i=>R3 t.1.length (t.1.getD i sg0)) t.1.length with
  |some i=>rfl
  |none=>
   simp only[FR5,FR4,FQ5];rw[AW6 t.2.length (fun i=>bif R4 t i (t.2.getD i gp0) then none else some (.inl ((16:Int),(i:Int)))) (.inr ()),BA3 (α:=Unit)]
   ·cases q8 (fun i=>R4 t i (t.2.getD i gp0)) t.2.length <;> rfl
   ·intro i hi
    have ew2:IntKind.i64.wrap ((i:Int)+1)=i+1:=B3 (by omega)
    rw[decide_eq_true (show (i:Int)<t.2.length by omega),decide_eq_true (show (0:Int)≤i by omega),ew2,FQ2]
    simp only[cond_true,FQ1,D3];rw[EQ9 t i _ (by unfold big;omega) hi (by unfold big;omega)]
    show Option.bind (some (R4 t i (t.2.getD i gp0))) _=_;cases R4 t i (t.2.getD i gp0) <;> rfl
   ·simp
 ·intro i hi
  have ew2:IntKind.i64.wrap ((i:Int)+1)=i+1:=B3 (by omega)
  rw[decide_eq_true (show (i:Int)<t.1.length by omega),decide_eq_true (show (0:Int)≤i by omega),ew2,FQ2]
  simp only[cond_true,FQ1,D3];have hm:t.1.getD i ((0:Int),([],[]))∈t.1:=by rw[Y3 hi];exact List.getElem_mem hi
  obtain⟨k1,k2⟩:=h (by omega) _ hm
  rw[EQ8 t _ (by unfold big;omega) k1 k2]
  show Option.bind (some (R3 t.1.length (t.1.getD i sg0))) _=_;cases R3 t.1.length (t.1.getD i sg0) <;> rfl
 ·simp
def Rows (t:Tk):Prop:=t.1.length≤140737488351232∧t.2.length≤140737488351232∧∀s∈t.1,s.2.1.length≤140737488351232∧s.2.2.length≤140737488351232

/- Tracks as the document has them: what their readings say. -/
theorem R5 {S X:Type}{f:S→Option (S ⊕ X)}(n:Nat)(st:Nat→S)(x:X)(h:∀i,i<n→f (st i)=some (.inl (st (i+1))))(he:f (st n)=some (.inr x)):LP.lp f (st 0)=some x:=by
 have key:∀k j:Nat,j+k=n→D2 f (k+1) (st j)=some x:=by
  intro k
  induction k with
  |zero=>
   intro j hj;obtain rfl:j=n:=by omega
   rw[D2,he]
  |succ k ih=>intro j hj;rw[D2,h j (by omega)];exact ih (j+1) (by omega)
 exact p0 (key n 0 (by omega))
theorem BA4 {α:Type}{l:List α}{i:Nat}{d:α}(h:i<l.length):l.take i++[l.getD i d]=l.take (i+1):=by rw[Y3 h,List.take_add_one,List.getElem?_eq_getElem h];rfl
theorem ER0 (l:List (Int×Int))(len:Int)(hl:l.length≤9223372036854775806):AR7 l len=some (AI5 l len):=by
 unfold AR7 AI5;by_cases h0:l.length=0
 ·simp[h0,chk]
 by_cases h1:64<l.length
 ·have e1:decide ((l.length:Int)<1)=false:=by simp;omega
  have e2:decide ((64:Int)<l.length)=true:=by simp;omega
  have e4:decide (l.length≤64)=false:=by simp;omega
  simp[e1,e2,e4,chk]
 have e1:decide ((l.length:Int)<1)=false:=by simp;omega
 have e2:decide ((64:Int)<l.length)=false:=by simp;omega
 have e3:decide ((0:Int)<l.length)=true:=by simp;omega
 have e4:decide (l.length≤64)=true:=by simp;omega
 have e5:decide (1≤l.length)=true:=by simp;omega
 rw[e1,e2,e3,e4,e5];simp only[cond_false,FQ3,FQ1,FQ6,D3];by_cases h2:(l.getD 0 (0,0)).1=0
 ·have e6:((l.getD (0:Int).toNat ((0:Int),(0:Int))).1 != 0)=false:=by simpa using h2
  have e7:decide ((l.getD 0 ((0:Int),(0:Int))).1=0)=true:=by simpa using h2
  rw[e6,e7];simp only[cond_false,FQ3];rw[AW6 l.length (fun i=>bif AB1 l len i then none else some (.inl false)) (.inr ())]
  ·rw[BA2]
   cases (FQ0 l.length).all (AB1 l len) <;> rfl
  ·intro i hi
   rw[decide_eq_true (show (i:Int)<l.length by omega),decide_eq_true (show (0:Int)≤i by omega)]
   simp only[cond_true,FQ1,FQ6,D3];rw[FQ2];have ew:IntKind.i64.wrap ((i:Int)-1)=i-1:=B3 (by omega)
   have ew2:IntKind.i64.wrap ((i:Int)+1)=i+1:=B3 (by omega)
   rw[ew,ew2];have fin:∀a b c d e:Bool,e=(!a&& !b&& !c&& !d)→(bif (bif (bif a then true else b) then true else c) then some (Sum.inr (Sum.inl false)) else (bif d then some (Sum.inr (Sum.inl false)) else some (Sum.inl ((i:Int)+1))))=some (Ao8 ((i:Int)+1) (bif e then none else some (Sum.inl false):Option (Bool ⊕ Unit))):=by rintro a b c d e rfl;cases a <;> cases b <;> cases c <;> cases d <;> rfl
   by_cases hi0:i=0
   ·rw[D3 (by simp[hi0])]
    refine fin _ _ _ _ _ ?_;unfold AB1;rw[decide_eq_true hi0,show decide ((0:Int)<(i:Int))=false by simp[hi0],@K0 (-1048576) (l.getD i (0,0)).2,@K0 (l.getD i (0,0)).2 1048576,@AB2 (l.getD i (0,0)).1 len]
    rfl
   ·have et:((i:Int)-1).toNat=i-1:=by omega
    rw[D3 (by simp;omega),et]
    refine fin _ _ _ _ _ ?_;unfold AB1;rw[decide_eq_false hi0,show decide ((0:Int)<(i:Int))=true by simp;omega,@K0 (-1048576) (l.getD i (0,0)).2,@K0 (l.getD i (0,0)).2 1048576,@AB2 (l.getD i (0,0)).1 len,@AB2 (l.getD (i-1) (0,0)).1 (l.getD i (0,0)).1]
    rfl
  ·simp
 ·have e6:((l.getD (0:Int).toNat ((0:Int),(0:Int))).1 != 0)=true:=by simpa using h2
  have e7:decide ((l.getD 0 ((0:Int),(0:Int))).1=0)=false:=by simpa using h2
  rw[e6,e7];rfl
theorem ER1 {S X:Type}{f:S→Option (S ⊕ X)}(n:Nat)(st:Nat→S)(step:Nat→Option X)(xe:X){s0:S}(h0:st 0=s0)
  (h:∀i:Nat,i<n→(∀j,j<i→step j=none)→f (st i)=some (match step i with | some x=>.inr x | none=>.inl (st (i+1)))) (he:f (st n)=some (.inr xe)):
  LP.lp f s0=some (((FQ0 n).findSome? step).getD xe):=by
 subst h0;have key:∀(k j:Nat),j+k=n→(∀i,i<j→step i=none)→D2 f (k+1) (st j)=some (((FR1 j k).findSome? step).getD xe):=by
  intro k
  induction k with
  |zero=>
   intro j hj _;have:j=n:=by omega
   subst this;simp[D2,he]
  |succ k ih=>
   intro j hj hn;rw[D2,h j (by omega) hn,CG8]
   cases hs:step j with
   |some x=>rfl
   |none=>
    have:=ih (j+1) (by omega) (fun i hi=>by rcases Nat.lt_succ_iff_lt_or_eq.1 hi with hi | rfl;exact hn i hi;exact hs)
    rw[← this]
 have:=p0 (key n 0 (by omega) (fun i hi=>by omega))
 rw[FR3];exact this
theorem ER2 (s:Sg)(n:Nat)(h2:s.2.1.length≤big):AR8 s (n:Int)=some (R3 n s):=by
 unfold big at*;unfold AR8 R3;rw[ER0 _ _ h2,@K0 1 s.1,@K0 s.1 1099511627776];simp only[];cases decide (s.1<1) <;> cases decide (1099511627776<s.1) <;> cases hg:AI5 s.2.1 s.1 <;> first | rfl | skip
 by_cases h4:2<(s.2.2.length:Int)
 ·have e:decide (s.2.2.length≤2)=false:=by simp;omega
  rw[decide_eq_true h4,e];rfl
 ·have e:decide (s.2.2.length≤2)=true:=by simp;omega
  rw[decide_eq_false h4,e];simp only[cond_false,cond_true,FQ7,FQ5,FQ3,bne_self_eq_false,FQ8,FQ1];rw[AW6 s.2.2.length (fun i=>bif (decide (0≤s.2.2.getD i 0)&&decide (s.2.2.getD i 0<n)) then none else some (.inl false)) (.inr ())]
  ·rw[BA2]
   generalize hl:s.2.2=l at*
   match l,h4 with
   | [],_=>rfl
   | [a],_=>
    simp[AP0,List.range_succ];cases hb:(decide (0≤a)&&decide (a<(n:Int))) <;> rfl
   | [a,b],_=>
    simp[AP0,List.range_succ,chk];cases hb:(decide (0≤a)&&decide (a<(n:Int))) <;> cases hc:(decide (0≤b)&&decide (b<(n:Int))) <;> cases hd:decide (a<b) <;> rfl
   |a::b::c::l,h4=>simp at h4;omega
  ·intro i hi
   have ew2:IntKind.i64.wrap ((i:Int)+1)=i+1:=B3 (by omega)
   rw[decide_eq_true (show (i:Int)<s.2.2.length by omega),decide_eq_true (show (0:Int)≤i by omega),ew2,FQ2]
   simp only[cond_true,FQ1,FQ6,D3];rw[@K0 0 (s.2.2.getD i 0),@AB2 (s.2.2.getD i 0) n];cases decide (s.2.2.getD i 0<0) <;> cases decide ((n:Int)≤s.2.2.getD i 0) <;> rfl
  ·simp
def AP1 (t:Tk)(i:Nat):Int:=if i=0 then 0 else (t.2.getD (i-1) gp0).1
theorem ER3 (t:Tk)(h:t.1.length≤200→∀s∈t.1,s.2.1.length≤big∧s.2.2.length≤big):AR9 t=some (P3 t):=by
 unfold AR9 P3;by_cases h1:t.1.length=0
 ·rw[if_pos (.inl h1)];simp[h1]
 by_cases h2:200<t.1.length
 ·rw[if_pos (.inr (.inl h2)),decide_eq_true (show (200:Int)<t.1.length by omega)];simp
 by_cases h3:400<t.2.length
 ·rw[if_pos (.inr (.inr h3)),decide_eq_true (show (400:Int)<t.2.length by omega)];simp
 rw[if_neg (by omega),decide_eq_false (show ¬(t.1.length:Int)<1 by omega),decide_eq_false (show ¬(200:Int)<t.1.length by omega),decide_eq_false (show ¬(400:Int)<t.2.length by omega)]
 simp only[cond_false];rw[AW6 t.1.length (fun i=>bif R3 t.1.length (t.1.getD i sg0) then none else some (.inl ((i:Int),11))) (.inr ())]
 ·rw[BA3 (α:=Unit)]
  cases h4:q8 (fun i=>R3 t.1.length (t.1.getD i sg0)) t.1.length with
  |some i=>rfl
  |none=>
   simp only[FR5,FR4,FQ5];rw[ER1 (X:=(Int×Int) ⊕ Unit) t.2.length (fun i=>(AP1 t i,(i:Int))) (fun i=>bif R4 t i (t.2.getD i gp0) then none else some (Sum.inl (16,(i:Int)))) (Sum.inr ():(Int×Int) ⊕ Unit) (show (AP1 t 0,((0:Nat):Int))=((0:Int),(0:Int)) from rfl)]
   ·rw[BA3 (α:=Unit)]
    cases h5:q8 (fun i=>R4 t i (t.2.getD i gp0)) t.2.length <;> rfl
   ·intro i hi hprev
    simp only[];rw[decide_eq_true (show (i:Int)<t.2.length by omega),decide_eq_true (show (0:Int)≤i by omega),FQ2,B3 (n:=(i:Int)+1) (by omega)]
    have hdef:t.2.getD i ((0:Int),((0:Int),((0:Int),((0:Int),(0:Int)))))=t.2.getD i gp0:=rfl;rw[hdef];simp only[cond_true,FQ1,D3];have hl:AP1 t (i+1)=(t.2.getD i gp0).1:=by unfold AP1;rw[if_neg (by omega)];rfl
    obtain⟨g,hg⟩:∃g,t.2.getD i gp0=g:=⟨_,rfl⟩;rw[hl,hg];have hlast:0≤AP1 t i:=by
     unfold AP1;by_cases h0:i=0
     ·rw[if_pos h0];omega
     ·rw[if_neg h0]
      have:=hprev (i-1) (by omega)
      cases hb:R4 t (i-1) (t.2.getD (i-1) gp0) with
      |false=>rw [hb] at this;cases this
      |true=>
       unfold R4 at hb;simp only[Bool.and_eq_true,decide_eq_true_eq] at hb;omega
    have h11:decide (g.1≤AP1 t i) = !(decide (1≤g.1)&&(decide (i=0)||decide ((t.2.getD (i-1) gp0).1<g.1))):=by
     rw[FQ4];unfold AP1 at hlast ⊢;by_cases h0:i=0
     ·simp[h0];omega
     ·simp[h0] at hlast ⊢;omega
    rw[h11];unfold R4;rw[@K0 g.1 65535,@K0 0 g.2.1,@AB2 g.2.1 t.1.length,@K0 0 g.2.2.1,@K0 g.2.2.1 _,@K0 0 g.2.2.2.1,@K0 g.2.2.2.1 1048576,@K0 0 g.2.2.2.2,@K0 g.2.2.2.2 16777216];have hseg:∀s,t.1.getD s ((0:Int),([],[]))=t.1.getD s sg0:=fun _=>rfl
    rw[hseg];cases decide (1≤g.1) <;> first | rfl | skip
    ·cases hq:(decide (i=0)||decide ((t.2.getD (i-1) gp0).1<g.1)) with
     |false=>cases decide (65535<g.1) <;> rfl
     |true=>
      cases decide (65535<g.1) <;> first | rfl | skip
      cases a3:decide (g.2.1<0) <;> first | rfl | skip
      cases a4:decide ((t.1.length:Int)≤g.2.1) <;> first | rfl | skip
      simp only[FQ1,FQ6,D3,cond_false,cond_true,FQ8,FQ7,FQ3];cases decide (g.2.2.1<0) <;> cases decide ((t.1.getD g.2.1.toNat sg0).1<g.2.2.1) <;> cases decide (g.2.2.2.1<0) <;> cases decide (1048576<g.2.2.2.1) <;> cases decide (g.2.2.2.2<0) <;> cases decide (16777216<g.2.2.2.2) <;> rfl
   ·simp
 ·intro i hi
  rw[decide_eq_true (show (i:Int)<t.1.length by omega),decide_eq_true (show (0:Int)≤i by omega),FQ2,B3 (n:=(i:Int)+1) (by omega)]
  have hdef:t.1.getD i ((0:Int),([],[]))=t.1.getD i sg0:=rfl;rw[hdef];simp only[cond_true,FQ1,D3];have hm:t.1.getD i sg0∈t.1:=by rw[Y3 hi];exact List.getElem_mem hi
  rw[ER2 _ _ (h (by omega) _ hm).1,FQ5]
  cases R3 t.1.length (t.1.getD i sg0) <;> rfl
 ·simp
end Go.Proofs.YthfjpkdadjemcaaGreat
