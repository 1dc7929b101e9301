/- Images: the bytes of numbers. -/
import Derived.Test.YthfjpkdadjemcaaGreatPlain
import Derived.Test.YthfjpkdadjemcaaGreatFnsF3
import Derived.Test.YthfjpkdadjemcaaGreatLoopF
import Derived.Test.YthfjpkdadjemcaaGreatTrM
import Derived.Test.YthfjpkdadjemcaaGreatCrcM
set_option linter.unusedSimpArgs false
set_option linter.unusedVariables false
namespace Go.Proofs.YthfjpkdadjemcaaGreat
open _root_.Option renaming bind_some → Fd0
open _root_.List renaming length_append → Fd1, append_assoc → Fd3, replicate → Fd4, take_length → Fd8, length_singleton → Fe1, getElem_mem → Fe2, length_take → Fe3, mem_iff_getElem → Fe4, getD_eq_getElem?_getD → Fe5, drop_eq_getElem_cons → Fe8, take_left' → Ff2, getElem?_append_right → Ff5, length_drop → Ff8, drop_left' → Ff9, mem_range → Fg0, length_replicate → Fg1, mem_of_mem_take → Fg2, mem_singleton → Fg5, flatMap_cons → Fg9
open _root_.Int renaming toNat_natCast → Fd2, pow_pos → Fd7, tmod_eq_emod_of_nonneg → Fe6, tdiv_eq_ediv_of_nonneg → Fe7, ediv_ediv_of_nonneg → Ff1, emod_eq_of_lt → Ff6, pow_succ → Ff7, emod_def → Fg6, ne_of_gt → Fg7, emod_lt_of_pos → Fg8
open _root_.Nat renaming le_trans → Fd5, le_refl → Fe0, add_sub_cancel → Ff4
open _root_.Bool renaming and_self → Fd6, and_eq_true → Fd9, not_true → Fg3
open Go.IntKind renaming wrap → Fe9, signed → Ff0, bits → Ff3, wrap_u64 → Fh0
open _root_.Array renaming length_toList → Fg4
def C3 (v:Int)(n:Nat):List Int:=(List.range n).map fun j=>v/256 ^ (n-1-j) % 256
theorem D9 (v:Int)(n:Nat):(C3 v n).length=n:=by simp[C3]

/- Images: numbers read out of bytes. -/
open Go.RowKit
abbrev Rs:=List Int×Bool
def ByL (l:List Int):Prop:=∀c∈l,0≤c∧c≤255
theorem AX7 {l:List Int}(h:ByL l):Bytes l:=by
 intro i;by_cases hi:i<l.length
 ·rw[P6 hi]
  exact h _ (Fe2 hi)
 ·rw[Fe5,List.getElem?_eq_none (by omega)]
  exact⟨by decide,by decide⟩
theorem Ap0 {l:List Int}(h:ByL l)(n:Nat):ByL (l.take n):=fun c hc=>h c (Fg2 hc)
theorem EY9 {l:List Int}(h:ByL l)(n:Nat):ByL (l.drop n):=fun c hc=>h c (List.mem_of_mem_drop hc)
theorem U4 {l m:List Int}(h:ByL l)(h':ByL m):ByL (l++m):=fun c hc=>by
 rcases List.mem_append.1 hc with hc | hc
 ·exact h c hc
 ·exact h' c hc
def O9 (l:List Int):Int:=l.foldl (fun v c=>256*v+c) 0
theorem BS6 (l:List Int)(c:Int):O9 (l++[c])=256*O9 l+c:=by simp[O9]
theorem BS7 (v:Int)(n:Nat):C3 v (n+1)=C3 (v/256) n++[v % 256]:=by
 unfold C3;rw[List.range_succ,List.map_append];congr 1
 ·refine List.map_congr_left fun j hj=> ?_
  have hj:=Fg0.1 hj;have e:n+1-1-j=(n-1-j)+1:=by omega
  rw[e,Ff7,Int.mul_comm,← Ff1 (by decide)]
 ·simp
theorem W0:∀(n:Nat) (v:Int),ByL (C3 v n)
 |0,v=>by intro c hc;cases hc
 |n+1,v=>by
  rw[BS7];refine U4 (W0 n _) fun c hc=> ?_
  rw[Fg5.1 hc];omega
theorem EZ0 (v m:Int)(hm:0<m):v % (m*256)=256*(v/256 % m)+v % 256:=by
 have e:v/(m*256)=v/256/m:=by rw[Int.mul_comm,Ff1 (by decide)]
 have h1:=Fg6 v (m*256);have h2:=Fg6 (v/256) m;have h3:=Fg6 v 256;rw[e] at h1;rw[h1,h2,h3,Int.mul_sub,Int.mul_assoc,Int.mul_left_comm m 256];omega
theorem BA5:∀(n:Nat) (v:Int),O9 (C3 v n)=v % 256 ^ n
 |0,v=>by simp[C3,O9]
 |n+1,v=>by rw[BS7,BS6,BA5 n,Ff7,EZ0 _ _ (Fd7 (by decide))]
theorem CJ6:∀(n:Nat) (l:List Int),ByL l→l.length=n→C3 (O9 l) n=l
 |0,l,_,h=>by rw[List.length_eq_zero_iff.1 h];rfl
 |n+1,l,hb,h=>by
  have hne:l≠[]:=by intro h0;rw[h0] at h;cases h
  obtain⟨m,c,rfl⟩:∃m c,l=m++[c]:=⟨l.dropLast,l.getLast hne,(List.dropLast_concat_getLast hne).symm⟩;have hc:=hb c (by simp)
  rw[BS6,BS7,show (256*O9 m+c)/256=O9 m by omega,show (256*O9 m+c) % 256=c by omega]
  rw[CJ6 n m (fun d hd=>hb d (by simp[hd])) (by simp at h;omega)]
theorem CJ7 {l:List Int}(hb:ByL l):0≤O9 l∧O9 l<256 ^ l.length:=by have h:=BA5 l.length (O9 l);rw[CJ6 _ l hb rfl] at h;rw[h];exact⟨Int.emod_nonneg _ (Fg7 (Fd7 (by decide))),Fg8 _ (Fd7 (by decide))⟩
def sgn (n:Nat)(u:Int):Int:=if 128*256 ^ (n-1)≤u then u-256 ^ n else u
theorem EZ1 {n:Nat}(hn:0<n){v:Int}(h1 : -(128*256 ^ (n-1))≤v)(h2:v<128*256 ^ (n-1)):sgn n (v % 256 ^ n)=v:=by
 obtain⟨k,rfl⟩:∃k,n=k+1:=⟨n-1,by omega⟩
 rw[Ff4] at h1 h2;unfold sgn;rw[Ff4,Ff7];have hp:(0:Int)<256 ^ k:=Fd7 (by decide)
 generalize (256:Int) ^ k=p at*;by_cases h:0≤v
 ·rw[Ff6 h (by omega),if_neg (by omega)]
 ·have e:v % (p*256)=v+p*256:=by
   rw[← Int.add_emod_right];exact Ff6 (by omega) (by omega)
  rw[e,if_pos (by omega)]
  omega
def C5 (n:Nat)(s:Bool)(x:Rs):Int×Rs:=
 if x.2=true∨x.1.length<n then (0,x.1,true) else (bif s then sgn n (O9 (x.1.take n)) else O9 (x.1.take n),x.1.drop n,false)
theorem R4 (n:Nat)(s:Bool)(x:Rs):(C5 n s x).2.1 <:+ x.1:=by
 unfold C5;split
 ·exact List.suffix_refl _
 ·exact List.drop_suffix _ _
theorem P9 {l m:List Int}(h:ByL m)(hs:l <:+ m):ByL l:=fun c hc=>h c (hs.subset hc)
theorem Ag6 (n:Nat)(v:Int)(l:List Int)(h:0≤v∧v<256 ^ n):C5 n false (C3 v n++l,false)=(v,l,false):=by
 unfold C5;rw[if_neg (by simp[D9])]
 simp only[cond_false];rw[Ff2 (D9 v n),Ff9 (D9 v n),BA5,Ff6 h.1 h.2]
theorem CJ8 (n:Nat)(hn:0<n)(v:Int)(l:List Int)(h1 : -(128*256 ^ (n-1))≤v)(h2:v<128*256 ^ (n-1)):C5 n true (C3 v n++l,false)=(v,l,false):=by
 unfold C5;rw[if_neg (by simp[D9])]
 simp only[cond_true];rw[Ff2 (D9 v n),Ff9 (D9 v n),BA5,EZ1 hn h1 h2]

/- Images: what the readers of both sides say. -/
theorem EZ2 (n:Int):IntKind.i32.wrap n=(n+2147483648) % 4294967296-2147483648:=by
 have e:IntKind.i32.wrap n=if n % 4294967296≥2147483648 then n % 4294967296-4294967296 else n % 4294967296:=by
  unfold Fe9;simp only[Fd9,decide_eq_true_eq];have h0:IntKind.i32.signed=true:=rfl;have h1:(2:Int) ^ IntKind.i32.bits=4294967296:=by decide
  have h2:(2:Int) ^ (IntKind.i32.bits-1)=2147483648:=by decide
  simp only[h0,h1,h2,true_and]
 rw[e];split <;> omega
theorem CJ9 {i k:Nat}(h:i≤k):(256:Int) ^ i≤256 ^ k:=by
 have h2:=Nat.pow_le_pow_right (n:=256) (by decide) h
 have h3:((256 ^ i:Nat):Int)≤((256 ^ k:Nat):Int):=Int.ofNat_le.2 h2;rw[Int.natCast_pow,Int.natCast_pow] at h3;exact h3
theorem orV (a b:Int)(ha:0≤a)(h2:256*a≤18446744073709551615)(hb:0≤b∧b≤255):bits .u64 .or (IntKind.u64.wrap (a*2 ^ 8)) (IntKind.u64.wrap b)=256*a+b:=by
 have e1:IntKind.u64.wrap (a*2 ^ 8)=256*a:=by rw[Fh0];omega
 have e2:IntKind.u64.wrap b=b:=by rw[Fh0];omega
 rw[e1,e2];exact Ag0 (256*a) b 8 (by omega) h2 (by omega) hb.1 (by omega) (by omega)
theorem EZ3 {l:List Int}{i:Nat}(hi:i<l.length):O9 (l.take (i+1))=256*O9 (l.take i)+l.getD i 0:=by rw[← r8 (d:=0) hi,BS6]
theorem CK0 (n:Nat)(h1:1≤n)(h8:n≤8)(x:Rs)(hb:ByL x.1)(hl:x.1.length≤140737488355328):M5 (n:Int) x.1 x.2=some (IntKind.i64.wrap (C5 n false x).1,(C5 n false x).2.1,(C5 n false x).2.2):=by
 obtain⟨x,sh⟩:=x;unfold M5 C5;simp only[] at hb hl ⊢;by_cases hc:sh=true∨x.length<n
 ·rw[if_pos hc]
  have e:(bif sh then true else decide ((x.length:Int)<(n:Int)))=true:=by
   rcases hc with hc | hc
   ·rw[hc];rfl
   ·rw[decide_eq_true (by omega)];cases sh <;> rfl
  rw[e];rfl
 ·rw[if_neg hc]
  have hs:sh=false:=by cases sh with | false=>rfl | true=>exact absurd (.inl rfl) hc
  have hn:n≤x.length:=Nat.le_of_not_lt fun h=>hc (.inr h)
  subst hs;simp only[cond_false];rw[decide_eq_false (show ¬(x.length:Int)<(n:Int) by omega),decide_eq_true (show (0:Int)≤(n:Int) by omega),decide_eq_true (show (n:Int)≤(x.length:Int) by omega),decide_eq_true (show (x.length:Int)≤(x.length:Int) by omega)]
  simp only[cond_false,Fd6,C7,Fd2,Int.toNat_zero,List.drop_zero,Fd8];have hlen:(x.take n).length=n:=by rw[Fe3];omega
  generalize hm:x.take n=m at*;have hbm:ByL m:=by rw[← hm];exact Ap0 hb n
  have e0:(((0:Int),(0:Int)):Int×Int)=(((0:Nat):Int),O9 (m.take 0)):=rfl;rw[e0,Q7 (n:=n) (st:=fun i=>((i:Int),O9 (m.take i))) (x:=O9 m)]
  ·rfl
  ·intro i hi
   simp only[];have hr:=CJ7 (Ap0 hbm i);rw[Fe3,Nat.min_eq_left (by omega)] at hr
   have hp:=CJ9 (show i≤7 by omega)
   have hp7:(256:Int) ^ 7=72057594037927936:=by decide
   rw[hp7] at hp;have hc':=AX7 hbm i;rw[decide_eq_true (show (i:Int)<(m.length:Int) by omega),decide_eq_true (show (0:Int)≤(i:Int) by omega),A5 (n:=(i:Int)+1) (by omega),Fd2,EZ3 (by omega)]
   generalize O9 (m.take i)=v at*;rw[orV v _ hr.1 (by omega) hc']
   simp only[cond_true,Fd6,C7];rfl
  ·simp only[]
   rw[decide_eq_false (by omega),List.take_of_length_le (by omega)]
   rfl
theorem BA6 (n:Nat)(x:Rs)(hb:ByL x.1):0≤(C5 n false x).1∧(C5 n false x).1<256 ^ n:=by
 unfold C5;split
 ·exact⟨Int.le_refl 0,Fd7 (by decide)⟩
 ·rename_i h
  have h:=CJ7 (Ap0 hb n);simp only[cond_false];have e:(x.1.take n).length=n:=by rw[Fe3];omega
  rw[e] at h;exact h
theorem BA7 (n:Nat)(h1:1≤n)(h8:n<8)(x:Rs)(hb:ByL x.1)(hl:x.1.length≤140737488355328):M5 (n:Int) x.1 x.2=some (C5 n false x):=by
 rw[CK0 n h1 (by omega) x hb hl]
 have h:=BA6 n x hb;have hp:=CJ9 (show n≤7 by omega)
 have hp7:(256:Int) ^ 7=72057594037927936:=by decide
 rw[A5 (by omega)]
theorem CK1 (x:Rs)(hb:ByL x.1)(hl:x.1.length≤140737488355328):M5 1 x.1 x.2=some (C5 1 false x):=BA7 1 (by decide) (by decide) x hb hl
theorem EZ4 (x:Rs)(hb:ByL x.1)(hl:x.1.length≤140737488355328):M5 2 x.1 x.2=some (C5 2 false x):=BA7 2 (by decide) (by decide) x hb hl
theorem BS8 (x:Rs)(hb:ByL x.1)(hl:x.1.length≤140737488355328):M5 4 x.1 x.2=some (C5 4 false x):=BA7 4 (by decide) (by decide) x hb hl
theorem CK2 (n:Nat)(x:Rs):(C5 n true x).2=(C5 n false x).2:=by unfold C5;split <;> rfl
theorem CK3 (n:Nat)(hn:0<n)(x:Rs):(C5 n true x).1=sgn n (C5 n false x).1:=by
 unfold C5;split
 ·unfold sgn
  have hp:(0:Int)<256 ^ (n-1):=Fd7 (by decide)
  rw[if_neg (by simp only[];omega)]
 ·rfl
theorem BS9 (x:Rs)(hb:ByL x.1)(hl:x.1.length≤140737488355328):M5 8 x.1 x.2=some (C5 8 true x):=by
 have h:=CK0 8 (by decide) (by decide) x hb hl
 have h2:=BA6 8 x hb;have hw:IntKind.i64.wrap (C5 8 false x).1=(C5 8 true x).1:=by
  rw[CK3 8 (by decide)]
  unfold sgn;rw[IntKind.wrap_i64];have e1:(256:Int) ^ 8=18446744073709551616:=by decide
  have e2:128*(256:Int) ^ (8-1)=9223372036854775808:=by decide
  rw[e1] at h2 ⊢;rw[e2];split <;> omega
 rw[hw,← CK2] at h;exact h
def H6 (x:Rs):(Int×Int)×Rs:=(((C5 8 true x).1,(C5 4 true (C5 8 true x).2).1),(C5 4 true (C5 8 true x).2).2)
theorem EZ5 (x:Rs)(hb:ByL x.1)(hl:x.1.length≤140737488355328):AS4 x.1 x.2=some (H6 x):=by
 unfold AS4 H6;rw[BS9 x hb hl,Fd0];have hs:=R4 8 true x;have hb2:=P9 hb hs;have hl2:=hs.length_le;rw[BS8 (C5 8 true x).2 hb2 (by omega),Fd0]
 generalize (C5 8 true x).2=y at*;simp only[];have h2:=BA6 4 y hb2;have hw:IntKind.i64.wrap (IntKind.i32.wrap (C5 4 false y).1)=(C5 4 true y).1:=by
  rw[CK3 4 (by decide)]
  unfold sgn;have e1:(256:Int) ^ 4=4294967296:=by decide
  have e2:128*(256:Int) ^ (4-1)=2147483648:=by decide
  rw[e1] at h2 ⊢;rw[e2];have e3:∀u:Int,IntKind.i32.wrap u=(u+2147483648) % 4294967296-2147483648:=fun u=>EZ2 u
  rw[e3,A5 (by omega)]
  split <;> omega
 rw[hw,CK2 4]
def B0 {α:Type}(f:Rs→α×Rs):Nat→Rs→List α×Rs
 |0,x=>([],x)
 |n+1,x=>((B0 f n x).1++[(f (B0 f n x).2).1],(f (B0 f n x).2).2)
theorem AX8 {α:Type}(f:Rs→α×Rs)(x:Rs):∀n,(B0 f n x).1.length=n
 |0=>rfl
 |n+1=>by rw[B0,Fd1,AX8 f x n];rfl
theorem u3 {α:Type}(f:Rs→α×Rs)(hf:∀x,(f x).2.1 <:+ x.1)(x:Rs):∀n,(B0 f n x).2.1 <:+ x.1
 |0=>List.suffix_refl _
 |n+1=>(hf _).trans (u3 f hf x n)
theorem BA8 (x:Rs):(H6 x).2.1 <:+ x.1:=(R4 4 true _).trans (R4 8 true x)
theorem EZ6 (n:Nat)(hn:n≤1000)(x:Rs)(hb:ByL x.1)(hl:x.1.length≤140737488355328):AS5 (n:Int) x.1 x.2=some (B0 H6 n x):=by
 unfold AS5;rw[show ((0:Int),x.2,([]:List (Int×Int)),x.1)=(((0:Nat):Int),(B0 H6 0 x).2.2,(B0 H6 0 x).1,(B0 H6 0 x).2.1) from rfl];rw[Q7 (n:=n) (st:=fun k=>((k:Int),(B0 H6 k x).2.2,(B0 H6 k x).1,(B0 H6 k x).2.1)) (x:=((B0 H6 n x).2.2,(B0 H6 n x).2.1,(B0 H6 n x).1))]
 ·rfl
 ·intro k hk
  simp only[];have hs:=u3 H6 BA8 x k;rw[decide_eq_true (show (k:Int)<(n:Int) by omega),EZ5 (B0 H6 k x).2 (P9 hb hs) (Fd5 hs.length_le hl),A5 (n:=(k:Int)+1) (by omega)]
  have hle:((B0 H6 k x).1.length+([(H6 (B0 H6 k x).2).1]:List (Int×Int)).length)*16≤140737488355328:=by rw[AX8,Fe1];omega
  simp only[cond_true,Fd0];rw[decide_eq_true hle];rfl
 ·simp only[]
  rw[decide_eq_false (by omega)]
  rfl
def L7 (x:Rs):Int×Rs:=C5 1 false x
theorem CK4 (x:Rs):(L7 x).2.1 <:+ x.1:=R4 1 false x
theorem EZ7 (x:Rs)(hb:ByL x.1)(hl:x.1.length≤140737488355328):AS6 x.1 x.2=some (L7 x):=by unfold AS6 L7;rw[CK1 x hb hl];rfl
theorem EZ8 (n:Nat)(hn:n≤1000)(x:Rs)(hb:ByL x.1)(hl:x.1.length≤140737488355328):AS7 (n:Int) x.1 x.2=some (B0 L7 n x):=by
 unfold AS7;rw[show ((0:Int),x.2,([]:List Int),x.1)=(((0:Nat):Int),(B0 L7 0 x).2.2,(B0 L7 0 x).1,(B0 L7 0 x).2.1) from rfl];rw[Q7 (n:=n) (st:=fun k=>((k:Int),(B0 L7 k x).2.2,(B0 L7 k x).1,(B0 L7 k x).2.1)) (x:=((B0 L7 n x).2.2,(B0 L7 n x).2.1,(B0 L7 n x).1))]
 ·rfl
 ·intro k hk
  simp only[];have hs:=u3 L7 CK4 x k;rw[decide_eq_true (show (k:Int)<(n:Int) by omega),EZ7 (B0 L7 k x).2 (P9 hb hs) (Fd5 hs.length_le hl),A5 (n:=(k:Int)+1) (by omega)]
  have hle:((B0 L7 k x).1.length+([(L7 (B0 L7 k x).2).1]:List Int).length)*8≤140737488355328:=by rw[AX8,Fe1];omega
  simp only[cond_true,Fd0];rw[decide_eq_true hle];rfl
 ·simp only[]
  rw[decide_eq_false (by omega)]
  rfl
def L8 (n:Nat)(most:Int)(x:Rs):Int×Rs:=if most<(C5 n false x).1 then (0,(C5 n false x).2.1,true) else C5 n false x
theorem AX9 (n:Nat)(most:Int)(x:Rs):(L8 n most x).2.1 <:+ x.1:=by unfold L8;split <;> exact R4 n false x
theorem Ag7 (n:Nat)(most:Int)(hm:0≤most)(x:Rs)(hb:ByL x.1):0≤(L8 n most x).1∧(L8 n most x).1≤most:=by
 unfold L8;have:=BA6 n x hb;split
 ·exact⟨Int.le_refl _,hm⟩
 ·omega
theorem CK5 (n:Nat)(h1:1≤n)(h8:n<8)(most:Int)(x:Rs)(hb:ByL x.1)(hl:x.1.length≤140737488355328):Z3 (n:Int) most x.1 x.2=some (L8 n most x):=by
 unfold Z3 L8;rw[BA7 n h1 h8 x hb hl,Fd0];by_cases h:most<(C5 n false x).1
 ·rw[if_pos h]
  simp only[];rw[decide_eq_true h];rfl
 ·rw[if_neg h]
  simp only[];rw[decide_eq_false h];rfl
theorem CK6 (most:Int)(x:Rs)(hb:ByL x.1)(hl:x.1.length≤140737488355328):Z3 1 most x.1 x.2=some (L8 1 most x):=CK5 1 (by decide) (by decide) most x hb hl
theorem CK7 (most:Int)(x:Rs)(hb:ByL x.1)(hl:x.1.length≤140737488355328):Z3 2 most x.1 x.2=some (L8 2 most x):=CK5 2 (by decide) (by decide) most x hb hl
def I3 (x:Rs):Sg×Rs:=
 let a:=C5 8 true x
 let c:=L8 1 64 a.2
 let p:=B0 H6 c.1.toNat c.2
 let d:=L8 1 2 p.2
 let w:=B0 L7 d.1.toNat d.2
 ((a.1,p.1,w.1),w.2)
theorem BT0 (x:Rs):(I3 x).2.1 <:+ x.1:=
 (u3 L7 CK4 _ _).trans ((AX9 1 2 _).trans ((u3 H6 BA8 _ _).trans ((AX9 1 64 _).trans (R4 8 true x))))
theorem EZ9 (x:Rs)(hb:ByL x.1)(hl:x.1.length≤140737488355328):AS8 x.1 x.2=some (I3 x):=by
 unfold AS8 I3;simp only[];rw[BS9 x hb hl,Fd0];have hs:=R4 8 true x;generalize C5 8 true x=a at*;have hb:=P9 hb hs;have hl:=Fd5 hs.length_le hl;rw[CK6 64 a.2 hb hl,Fd0];have hs:=AX9 1 64 a.2;have hr:=Ag7 1 64 (by decide) a.2 hb
 generalize L8 1 64 a.2=c at*;have hb:=P9 hb hs;have hl:=Fd5 hs.length_le hl
 try simp only[]
 obtain⟨k,hk⟩:∃k:Nat,c.1=k:=⟨c.1.toNat,by omega⟩
 rw[hk,EZ6 k (by omega) c.2 hb hl,Fd0,Fd2]
 have hs:=u3 H6 BA8 c.2 k;generalize B0 H6 k c.2=p at*;have hb:=P9 hb hs;have hl:=Fd5 hs.length_le hl;rw[CK6 2 p.2 hb hl,Fd0];have hs:=AX9 1 2 p.2;have hr:=Ag7 1 2 (by decide) p.2 hb
 generalize L8 1 2 p.2=d at*;have hb:=P9 hb hs;have hl:=Fd5 hs.length_le hl;obtain⟨m,hm⟩:∃m:Nat,d.1=m:=⟨d.1.toNat,by omega⟩
 rw[hm,EZ8 m (by omega) d.2 hb hl,Fd0,Fd2]
def K8 (x:Rs):Gp×Rs:=
 let a:=C5 2 false x
 let b:=C5 1 false a.2
 let c:=C5 8 true b.2
 let d:=C5 4 false c.2
 let e:=C5 4 false d.2
 ((a.1,b.1,c.1,d.1,e.1),e.2)
theorem CK8 (x:Rs):(K8 x).2.1 <:+ x.1:=
 (R4 4 false _).trans ((R4 4 false _).trans ((R4 8 true _).trans ((R4 1 false _).trans (R4 2 false x))))
theorem Ea0 (x:Rs)(hb:ByL x.1)(hl:x.1.length≤140737488355328):AT0 x.1 x.2=some (K8 x):=by
 unfold AT0 K8;simp only[];rw[EZ4 x hb hl,Fd0];have hs:=R4 2 false x;generalize C5 2 false x=a at*;have hb:=P9 hb hs;have hl:=Fd5 hs.length_le hl;rw[CK1 a.2 hb hl,Fd0];have hs:=R4 1 false a.2;generalize C5 1 false a.2=b at*;have hb:=P9 hb hs;have hl:=Fd5 hs.length_le hl
 try simp only[]
 rw[BS9 b.2 hb hl,Fd0];have hs:=R4 8 true b.2;generalize C5 8 true b.2=c at*;have hb:=P9 hb hs;have hl:=Fd5 hs.length_le hl;rw[BS8 c.2 hb hl,Fd0];have hs:=R4 4 false c.2;generalize C5 4 false c.2=d at*;have hb:=P9 hb hs;have hl:=Fd5 hs.length_le hl;rw[BS8 d.2 hb hl,Fd0]
theorem Ea1 (n:Nat)(hn:n≤1000)(x:Rs)(hb:ByL x.1)(hl:x.1.length≤140737488355328):AS9 (n:Int) x.1 x.2=some (B0 I3 n x):=by
 unfold AS9;rw[show ((0:Int),x.2,([]:List Sg),x.1)=(((0:Nat):Int),(B0 I3 0 x).2.2,(B0 I3 0 x).1,(B0 I3 0 x).2.1) from rfl];rw[Q7 (n:=n) (st:=fun k=>((k:Int),(B0 I3 k x).2.2,(B0 I3 k x).1,(B0 I3 k x).2.1)) (x:=((B0 I3 n x).2.2,(B0 I3 n x).2.1,(B0 I3 n x).1))]
 ·rfl
 ·intro k hk
  simp only[];have hs:=u3 I3 BT0 x k;rw[decide_eq_true (show (k:Int)<(n:Int) by omega),EZ9 (B0 I3 k x).2 (P9 hb hs) (Fd5 hs.length_le hl),A5 (n:=(k:Int)+1) (by omega)]
  have hle:((B0 I3 k x).1.length+([(I3 (B0 I3 k x).2).1]:List Sg).length)*56≤140737488355328:=by rw[AX8,Fe1];omega
  simp only[cond_true,Fd0];rw[decide_eq_true hle];rfl
 ·simp only[]
  rw[decide_eq_false (by omega)]
  rfl
theorem Ea2 (n:Nat)(hn:n≤1000)(x:Rs)(hb:ByL x.1)(hl:x.1.length≤140737488355328):AT1 (n:Int) x.1 x.2=some (B0 K8 n x):=by
 unfold AT1;rw[show ((0:Int),x.2,([]:List Gp),x.1)=(((0:Nat):Int),(B0 K8 0 x).2.2,(B0 K8 0 x).1,(B0 K8 0 x).2.1) from rfl];rw[Q7 (n:=n) (st:=fun k=>((k:Int),(B0 K8 k x).2.2,(B0 K8 k x).1,(B0 K8 k x).2.1)) (x:=((B0 K8 n x).2.2,(B0 K8 n x).2.1,(B0 K8 n x).1))]
 ·rfl
 ·intro k hk
  simp only[];have hs:=u3 K8 CK8 x k;rw[decide_eq_true (show (k:Int)<(n:Int) by omega),Ea0 (B0 K8 k x).2 (P9 hb hs) (Fd5 hs.length_le hl),A5 (n:=(k:Int)+1) (by omega)]
  have hle:((B0 K8 k x).1.length+([(K8 (B0 K8 k x).2).1]:List Gp).length)*40≤140737488355328:=by rw[AX8,Fe1];omega
  simp only[cond_true,Fd0];rw[decide_eq_true hle];rfl
 ·simp only[]
  rw[decide_eq_false (by omega)]
  rfl
def AY0 (x:Rs):Tk×Rs:=
 let c:=L8 2 200 x
 let s:=B0 I3 c.1.toNat c.2
 let d:=L8 2 400 s.2
 let g:=B0 K8 d.1.toNat d.2
 ((s.1,g.1),g.2)
def Y0:List Int:=[79,68,79,49]
def AC0 (b:List Int):Tk×Int:=
 if 1048576<b.length then (([],[]),15)
 else if b.length<6∨b.take 4≠Y0 then (([],[]),11)
 else if E6 b≠0 then (([],[]),31)
 else if (AY0 ((b.take (b.length-2)).drop 4,false)).2.2=true∨(AY0 ((b.take (b.length-2)).drop 4,false)).2.1≠[] then (([],[]),14)
 else if (G7 (AY0 ((b.take (b.length-2)).drop 4,false)).1).1≠0 then (([],[]),51)
 else ((AY0 ((b.take (b.length-2)).drop 4,false)).1,0)

/- Images: what is opened, on both sides. -/
theorem Ea3 (b:ByteArray):∀(k i:Nat) (r:List UInt8),b.size-i=k→ByteArray.toList.loop b i r=r.reverse++b.data.toList.drop i:=by
 intro k
 induction k with
 |zero=>
  intro i r h;rw[ByteArray.toList.loop,if_neg (by omega),List.drop_eq_nil_of_le (by rw[Fg4];exact Nat.le_of_sub_eq_zero h),List.append_nil]
 |succ k ih=>
  intro i r h;have hi:i<b.size:=by omega
  rw[ByteArray.toList.loop,if_pos hi,ih (i+1) _ (by omega),List.reverse_cons,Fd3]
  congr 1;have hi':i<b.data.toList.length:=by rw[Fg4];exact hi
  rw[Fe8 hi'];simp only[List.singleton_append,List.cons.injEq,and_true];have hd:i<b.data.size:=hi;show b.data[i]! = _;rw[getElem!_pos b.data i hd,Array.getElem_toList]
theorem CK9 (l:List Int):(bytesOf l).toList=l.map fun n=>UInt8.ofNat n.toNat:=by show ByteArray.toList.loop (bytesOf l) 0 []=_;rw[Ea3 _ _ _ _ rfl];simp[bytesOf]
theorem Ea4 {a b:Int}(ha:0≤a∧a≤255)(hb:0≤b∧b≤255)(h:UInt8.ofNat a.toNat=UInt8.ofNat b.toNat):a=b:=by have:=congrArg UInt8.toNat h;simp only[UInt8.toNat_ofNat'] at this;omega
theorem CL0:∀{l m:List Int},ByL l→ByL m→(l.map fun n=>UInt8.ofNat n.toNat)=(m.map fun n=>UInt8.ofNat n.toNat)→l=m
 | [],[],_,_,_=>rfl
 | [],_::_,_,_,h=>by simp at h
 |_::_,[],_,_,h=>by simp at h
 |a::l,b::m,ha,hb,h=>by simp only[List.map_cons,List.cons.injEq] at h;rw[Ea4 (ha a (by simp)) (hb b (by simp)) h.1,CL0 (fun c hc=>ha c (by simp[hc])) (fun c hc=>hb c (by simp[hc])) h.2]
theorem Ea5 {l m:List Int}(hl:ByL l)(hm:ByL m):((bytesOf l).toList==(bytesOf m).toList)=decide (l=m):=by
 rw[CK9,CK9];by_cases h:l=m
 ·rw[h,decide_eq_true rfl,beq_self_eq_true]
 ·rw[decide_eq_false h]
  exact beq_false_of_ne fun h'=>h (CL0 hl hm h')
theorem CL1 {α:Type}(P:α→Prop)(f:Rs→α×Rs)(hf:∀x,(f x).2.1 <:+ x.1)(hP:∀x,ByL x.1→P (f x).1)(x:Rs)(hb:ByL x.1):∀n,∀a∈(B0 f n x).1,P a
 |0,a,ha=>by cases ha
 |n+1,a,ha=>by
  rcases List.mem_append.1 ha with ha | ha
  ·exact CL1 P f hf hP x hb n a ha
  ·rw[Fg5.1 ha]
   exact hP _ (P9 hb (u3 f hf x n))
theorem Ea6 (x:Rs)(hb:ByL x.1):(I3 x).1.2.1.length≤64∧(I3 x).1.2.2.length≤2:=by
 have s1:=R4 8 true x;have h1:=Ag7 1 64 (by decide) (C5 8 true x).2 (P9 hb s1)
 have s2:=AX9 1 64 (C5 8 true x).2;have s3:=u3 H6 BA8 (L8 1 64 (C5 8 true x).2).2 (L8 1 64 (C5 8 true x).2).1.toNat;have h2:=Ag7 1 2 (by decide) (B0 H6 (L8 1 64 (C5 8 true x).2).1.toNat (L8 1 64 (C5 8 true x).2).2).2 (P9 hb (s3.trans (s2.trans s1)))
 constructor
 ·show (B0 H6 _ _).1.length≤64
  rw[AX8];omega
 ·show (B0 L7 _ _).1.length≤2
  rw[AX8];omega
theorem CL2:ByL Y0:=by unfold Y0;intro c hc;simp at hc;omega
theorem Ea7:(⟨#[79,68,79,49]⟩:ByteArray)=bytesOf Y0:=rfl
theorem CL3 (b:List Int)(hb:ByL b):AL6 b=some (AC0 b):=by
 unfold AL6 AC0;by_cases h1:1048576<b.length
 ·rw[if_pos h1,decide_eq_true (show (1048576:Int)<(b.length:Int) by omega)]
  rfl
 rw[if_neg h1,decide_eq_false (show ¬(1048576:Int)<(b.length:Int) by omega)]
 simp only[cond_false];by_cases h2:b.length<6
 ·rw[if_pos (.inl h2),decide_eq_true (show (b.length:Int)<6 by omega)]
  simp only[Fg3,Bool.not_false,Bool.or_true,C7,cond_true]
 rw[decide_eq_false (show ¬(b.length:Int)<6 by omega),decide_eq_true (show (4:Int)≤(b.length:Int) by omega)]
 simp only[Bool.not_false,Fg3,Bool.or_false,Fd6,C7,cond_false];rw[show (4:Int).toNat=4 from rfl,show (0:Int).toNat=0 from rfl,List.drop_zero,Ea7,Ea5 (Ap0 hb 4) CL2];by_cases h3:b.take 4=Y0
 ·rw[if_neg (by
          rintro (h | h); · exact h2 h
          ·exact h h3),decide_eq_true h3]
  simp only[Fg3,cond_false];rw[CJ4 b (AX7 hb) (by omega),Fd0]
  by_cases h4:E6 b=0
  ·have e:(E6 b != 0)=false:=by simp[h4]
   rw[if_neg (not_not_intro h4),e];simp only[cond_false];rw[A5 (n:=(b.length:Int)-2) (by omega),decide_eq_true (show (4:Int)≤(b.length:Int)-2 by omega),decide_eq_true (show (b.length:Int)-2≤(b.length:Int) by omega)]
   simp only[Fd6,C7];rw[show ((b.length:Int)-2).toNat=b.length-2 by omega]
   have hby:=EY9 (Ap0 hb (b.length-2)) 4;have hln:((b.take (b.length-2)).drop 4).length≤140737488355328:=by rw[Ff8,Fe3];omega
   generalize (b.take (b.length-2)).drop 4=y at*;rw[CK7 200 (y,false) hby hln,Fd0];have hs:=AX9 2 200 (y,false);have hr:=Ag7 2 200 (by decide) (y,false) hby
   unfold AY0;generalize L8 2 200 (y,false)=c at*;have hby:=P9 hby hs;have hln:=Fd5 hs.length_le hln;obtain⟨k,hk⟩:∃k:Nat,c.1=k:=⟨c.1.toNat,by omega⟩
   simp only[];rw[hk,Ea1 k (by omega) c.2 hby hln,Fd0,Fd2]
   have hs:=u3 I3 BT0 c.2 k;have hfew:∀s∈(B0 I3 k c.2).1,s.2.1.length≤big∧s.2.2.length≤big:=CL1 _ I3 BT0 (fun x hx=>by have:=Ea6 x hx;unfold big;omega) c.2 hby k
   generalize B0 I3 k c.2=p at*;have hby:=P9 hby hs;have hln:=Fd5 hs.length_le hln;rw[CK7 400 p.2 hby hln,Fd0];have hs:=AX9 2 400 p.2;have hr:=Ag7 2 400 (by decide) p.2 hby
   generalize L8 2 400 p.2=d at*;have hby:=P9 hby hs;have hln:=Fd5 hs.length_le hln;obtain⟨m,hm⟩:∃m:Nat,d.1=m:=⟨d.1.toNat,by omega⟩
   rw[hm,Ea2 m (by omega) d.2 hby hln,Fd0,Fd2]
   have hs:=u3 K8 CK8 d.2 m;generalize B0 K8 m d.2=g at*;by_cases h5:g.2.2=true∨g.2.1≠[]
   ·rw[if_pos h5]
    have e:(bif g.2.2 then true else decide ((0:Int)<(g.2.1.length:Int)))=true:=by
     rcases h5 with h5 | h5
     ·rw[h5];rfl
     ·have:=List.length_pos_iff.2 h5
      rw[decide_eq_true (by omega)];cases g.2.2 <;> rfl
    rw[e];rfl
   ·rw[if_neg h5]
    have e:(bif g.2.2 then true else decide ((0:Int)<(g.2.1.length:Int)))=false:=by
     have h6:¬g.2.2=true:=fun h=>h5 (.inl h)
     have h7:g.2.1=[]:=Classical.byContradiction fun h=>h5 (.inr h)
     rw[h7,show g.2.2=false by simpa using h6]
     rfl
    rw[e];simp only[cond_false];rw[BR8 (p.1,g.1) (fun _ s hs=>hfew s hs),Fd0]
    by_cases h8:(G7 (p.1,g.1)).1=0
    ·have e:((G7 (p.1,g.1)).1 != 0)=false:=by simp[h8]
     rw[if_neg (not_not_intro h8),e];rfl
    ·have e:((G7 (p.1,g.1)).1 != 0)=true:=by simp[h8]
     rw[if_pos h8,e];rfl
  ·have e:(E6 b != 0)=true:=by simp[h4]
   rw[if_pos h4,e];rfl
 ·rw[if_pos (.inr h3),decide_eq_false h3]
  rfl

/- Images: what the document's readers say. -/

/- Images: what the document opens. -/

/- Images: what is put together, on both sides. -/
def T4 (p:Int×Int):List Int:=C3 p.1 8++C3 p.2 4
def R5 (s:Sg):List Int:=C3 s.1 8++C3 (s.2.1.length:Int) 1++s.2.1.flatMap T4++C3 (s.2.2.length:Int) 1++s.2.2.flatMap (C3 · 1)
def R6 (g:Gp):List Int:=C3 g.1 2++C3 g.2.1 1++C3 g.2.2.1 8++C3 g.2.2.2.1 4++C3 g.2.2.2.2 4
def AP6 (t:Tk):List Int:=C3 (t.1.length:Int) 2++t.1.flatMap R5++C3 (t.2.length:Int) 2++t.2.flatMap R6
def U5 (t:Tk):List Int:=Y0++AP6 t
def E0 (b:List Int):List Int:=b++[E6 b/256,E6 b % 256]
theorem BA9 (b:List Int):0≤E6 b∧E6 b≤65535:=by have:=(P7 b b.length).isLt;unfold E6;omega
theorem Ap1 {b:List Int}(hb:ByL b):ByL (E0 b):=by
 have:=BA9 b;refine U4 hb fun c hc=> ?_
 simp at hc;omega
theorem BB0 {α:Type}{f:α→List Int}(hf:∀a,ByL (f a))(l:List α):ByL (l.flatMap f):=by intro c hc;obtain⟨a,_,h⟩:=List.mem_flatMap.1 hc;exact hf a c h
theorem Ea8 (p:Int×Int):ByL (T4 p):=U4 (W0 _ _) (W0 _ _)
theorem Ea9 (s:Sg):ByL (R5 s):=U4 (U4 (U4 (U4 (W0 _ _) (W0 _ _)) (BB0 Ea8 _)) (W0 _ _)) (BB0 (fun n=>W0 1 n) _)
theorem Eb0 (g:Gp):ByL (R6 g):=U4 (U4 (U4 (U4 (W0 _ _) (W0 _ _)) (W0 _ _)) (W0 _ _)) (W0 _ _)
theorem Eb1 (t:Tk):ByL (AP6 t):=U4 (U4 (U4 (W0 _ _) (BB0 Ea9 _)) (W0 _ _)) (BB0 Eb0 _)
theorem BB1 (t:Tk):ByL (U5 t):=U4 CL2 (Eb1 t)
theorem Ag8 {α:Type}{f:α→List Int}(n:Nat):∀(l:List α),(∀a∈l,(f a).length≤n)→(l.flatMap f).length≤l.length*n
 | [],_=>by simp
 |a::l,h=>by
  rw[Fg9,Fd1,List.length_cons,Nat.succ_mul];have h1:=h a (by simp)
  have h2:=Ag8 n l fun b hb=>h b (by simp[hb])
  omega
theorem CL4 (p:Int×Int):(T4 p).length=12:=by simp[T4,D9]
theorem CL5 (g:Gp):(R6 g).length=19:=by simp[R6,D9]
theorem CL6 (s:Sg)(h1:s.2.1.length≤64)(h2:s.2.2.length≤2):(R5 s).length≤780:=by
 have e1:=Ag8 (f:=T4) 12 s.2.1 fun p _=>by rw[CL4];exact Fe0 _
 have e2:=Ag8 (f:=(C3 · 1)) 1 s.2.2 fun p _=>by rw[D9];exact Fe0 _
 unfold R5;simp only[Fd1,D9];omega
def Few (t:Tk):Prop:=t.1.length≤200∧t.2.length≤400∧∀s∈t.1,s.2.1.length≤64∧s.2.2.length≤2
theorem BB2 {α:Type}{f:α→List Int}(n k:Nat)(l:List α)(h:∀a∈l,(f a).length≤n):((l.take k).flatMap f).length≤l.length*n:=by
 have h1:=Ag8 n (l.take k) fun a ha=>h a (Fg2 ha)
 have h2:(l.take k).length*n≤l.length*n:=Nat.mul_le_mul_right n (by rw[Fe3];omega)
 omega
theorem CL7 {t:Tk}(h:Few t):(U5 t).length≤200000:=by
 obtain⟨h1,h2,h3⟩:=h;have e1:=Ag8 (f:=R5) 780 t.1 fun s hs=>CL6 s (h3 s hs).1 (h3 s hs).2
 have e2:=Ag8 (f:=R6) 19 t.2 fun g _=>by rw[CL5];exact Fe0 _
 unfold U5 AP6 Y0;simp only[Fd1,D9,List.length_cons,List.length_nil];omega
theorem BB3 {α:Type}(f:α→List Int){l:List α}{k:Nat}(d:α)(h:k<l.length):(l.take (k+1)).flatMap f=(l.take k).flatMap f++f (l.getD k d):=by rw[← r8 (d:=d) h,List.flatMap_append];simp
theorem Ag9 {t:Tk}(h:(G7 t).1=0):1≤t.1.length∧t.1.length≤200∧t.2.length≤400∧(∀i,i<t.1.length→L6 t.1.length (t.1.getD i sg0)=true)∧∀i,i<t.2.length→K5 t i (t.2.getD i gp0)=true:=by
 unfold G7 at h;by_cases h1:t.1.length=0∨200<t.1.length∨400<t.2.length
 ·rw[if_pos h1] at h;exact absurd h (by decide)
 ·rw[if_neg h1] at h
  cases h2:O6 (fun i=>L6 t.1.length (t.1.getD i sg0)) t.1.length with
  |some i=>rw [h2] at h;have h':(11:Int)=0:=h;omega
  |none=>
   rw[h2] at h;cases h3:O6 (fun i=>K5 t i (t.2.getD i gp0)) t.2.length with
   |some i=>rw [h3] at h;have h':(16:Int)=0:=h;omega
   |none=>exact ⟨by omega,by omega,by omega,Az9.1 h2,Az9.1 h3⟩
theorem BT1 {t:Tk}(h:(G7 t).1=0):∀s∈t.1,L6 t.1.length s=true:=by
 intro s hs;obtain⟨i,hi,rfl⟩:=Fe4.1 hs;have:=(Ag9 h).2.2.2.1 i hi
 rwa [P6 hi] at this
theorem CL8 {t:Tk}(h:(G7 t).1=0):∀g∈t.2,∃i,K5 t i g=true:=by intro s hs;obtain⟨i,hi,rfl⟩:=Fe4.1 hs;have:=(Ag9 h).2.2.2.2 i hi;rw[P6 hi] at this;exact⟨i,this⟩
theorem CL9 {t:Tk}(h:(G7 t).1=0):Few t:=by
 obtain⟨_,h1,h2,_,_⟩:=Ag9 h;refine⟨h1,h2,fun s hs=> ?_⟩
 have:=BT1 h s hs;unfold L6 AF3 at this;simp only[Fd9,decide_eq_true_eq] at this;omega

/- Images: what the document puts together. -/
theorem BT2:∀(k:Nat) (X:List Int) (a:Int),(Fd4 (k+1) (0:Int)++X).set k a=Fd4 k 0++a::X
 |0,X,a=>rfl
 |k+1,X,a=>by rw[List.replicate_succ,List.cons_append,List.set_cons_succ,BT2 k X a];rfl
theorem CM0 (v:Int)(n j:Nat)(h:j<n):(C3 v n).drop j=v/256 ^ (n-1-j) % 256::(C3 v n).drop (j+1):=by
 have hl:j<(C3 v n).length:=by rw[D9];exact h
 rw[Fe8 hl];simp[C3]
theorem Eb2 (v m:Int)(hm:0<m):(-1-v)/m = -1-v/m:=by
 have h1:=Int.emod_nonneg v (Fg7 hm);have h2:=Fg8 v hm;have h3:=Int.mul_ediv_add_emod v m;have e : -1-v=m*(-1-v/m)+(m-1-v % m):=by rw[Int.mul_sub];omega
 rw[e,Int.add_comm,Int.add_mul_ediv_left _ _ (Fg7 hm),Int.ediv_eq_zero_of_lt (by omega) (by omega),Int.zero_add]
theorem CM1 (v:Int)(k:Nat):v/256 ^ k/256=v/256 ^ (k+1):=by rw[Ff7,Ff1 (Int.le_of_lt (Fd7 (by decide)))]
theorem div_le_self {w m:Int}(hw:0≤w)(hm:0<m):0≤w/m∧w/m≤w:=
 ⟨Int.ediv_nonneg hw (by omega),Int.ediv_le_self m hw⟩
theorem AJ4 (v:Int)(hv:I64 v)(n:Nat)(hn:n≤8):T8 v (n:Int)=some (C3 v n):=by
 obtain⟨v1,v2⟩:=hv;unfold T8;rw[decide_eq_true (show (0:Int)≤(n:Int) by omega),decide_eq_true (show (n:Int)≤(n:Int) by omega),decide_eq_true (show (n:Int)*1≤140737488355328 by omega),decide_eq_true (show (n:Int)≤140737488355328 by omega)]
 simp only[Fd6,C7];rw[A5 (n:=(n:Int)-1) (by omega),Fd2]
 have hend:Fd4 (n-n) (0:Int)++(C3 v n).drop (n-n)=C3 v n:=by simp
 by_cases hneg:v<0
 ·rw[decide_eq_true hneg,A5 (n := -1-v) (by omega)]
  simp only[cond_true];obtain⟨w,hw⟩:∃w, -1-v=w:=⟨_,rfl⟩;have hw0:0≤w:=by omega
  have hw1:w≤9223372036854775807:=by omega
  rw[hw,show (((n:Int)-1,Fd4 n (0:Int),w):Int×List Int×Int)=((n:Int)-1-((0:Nat):Int),Fd4 (n-0) (0:Int)++(C3 v n).drop (n-0),w/256 ^ 0) by
   simp[D9]]
  rw[Q7 (n:=n) (st:=fun k=>((n:Int)-1-(k:Int),Fd4 (n-k) (0:Int)++(C3 v n).drop (n-k),w/256 ^ k)) (x:=Fd4 (n-n) (0:Int)++(C3 v n).drop (n-n))]
  ·rw[hend];rfl
  ·intro k hk
   simp only[];have hp:(0:Int)<256 ^ k:=Fd7 (by decide)
   have hq:=div_le_self hw0 hp;have hcell:255-w/256 ^ k % 256=v/256 ^ k % 256:=by rw[← hw,Eb2 v _ hp];omega
   rw[decide_eq_true (show (0:Int)≤(n:Int)-1-(k:Int) by omega)]
   rw[Fe6 hq.1,Fe7 hq.1,hcell,CM1];have hq2:=div_le_self hw0 (show (0:Int)<256 ^ (k+1) from Fd7 (by decide))
   rw[A5 (n:=v/256 ^ k % 256) (by omega),A5 (n:=w/256 ^ (k+1)) (by omega),A5 (n:=(n:Int)-1-(k:Int)-1) (by omega)]
   have hu:IntKind.u8.wrap (v/256 ^ k % 256)=v/256 ^ k % 256:=by simp[Fe9,Ff0,Ff3]
   rw[hu];have hll:(Fd4 (n-k) (0:Int)++(C3 v n).drop (n-k)).length=n:=by rw[Fd1,Fg1,Ff8,D9];omega
   rw[hll,decide_eq_true (show (n:Int)-1-(k:Int)<(n:Int) by omega),show ((n:Int)-1-(k:Int)).toNat=n-1-k by omega]
   simp only[cond_true,Fd6,C7];rw[show n-k=(n-1-k)+1 by omega,BT2,show n-(k+1)=n-1-k by omega,CM0 v n (n-1-k) (by omega),show n-1-(n-1-k)=k by omega]
   refine congrArg some (congrArg Sum.inl ?_);simp only[Prod.mk.injEq,and_true];omega
  ·simp only[]
   rw[decide_eq_false (by omega)]
   rfl
 ·rw[decide_eq_false hneg]
  simp only[cond_false];have hw0:0≤v:=by omega
  rw[show ((Fd4 n (0:Int),(n:Int)-1,v):List Int×Int×Int)=(Fd4 (n-0) (0:Int)++(C3 v n).drop (n-0),(n:Int)-1-((0:Nat):Int),v/256 ^ 0) by
   simp[D9]]
  rw[Q7 (n:=n) (st:=fun k=>(Fd4 (n-k) (0:Int)++(C3 v n).drop (n-k),(n:Int)-1-(k:Int),v/256 ^ k)) (x:=Fd4 (n-n) (0:Int)++(C3 v n).drop (n-n))]
  ·rw[hend];rfl
  ·intro k hk
   simp only[];have hp:(0:Int)<256 ^ k:=Fd7 (by decide)
   have hq:=div_le_self hw0 hp;rw[decide_eq_true (show (0:Int)≤(n:Int)-1-(k:Int) by omega)]
   rw[Fe6 hq.1,Fe7 hq.1,CM1];have hq2:=div_le_self hw0 (show (0:Int)<256 ^ (k+1) from Fd7 (by decide))
   rw[A5 (n:=v/256 ^ (k+1)) (by omega),A5 (n:=(n:Int)-1-(k:Int)-1) (by omega)]
   have hu:IntKind.u8.wrap (v/256 ^ k % 256)=v/256 ^ k % 256:=by simp[Fe9,Ff0,Ff3]
   rw[hu];have hll:(Fd4 (n-k) (0:Int)++(C3 v n).drop (n-k)).length=n:=by rw[Fd1,Fg1,Ff8,D9];omega
   rw[hll,decide_eq_true (show (n:Int)-1-(k:Int)<(n:Int) by omega),show ((n:Int)-1-(k:Int)).toNat=n-1-k by omega]
   simp only[cond_true,Fd6,C7];rw[show n-k=(n-1-k)+1 by omega,BT2,show n-(k+1)=n-1-k by omega,CM0 v n (n-1-k) (by omega),show n-1-(n-1-k)=k by omega]
   refine congrArg some (congrArg Sum.inl ?_);simp only[Prod.mk.injEq,and_true,true_and];omega
  ·simp only[]
   rw[decide_eq_false (by omega)]
   rfl
theorem Eb3 (v:Int):C3 v 1=[v % 256]:=by simp[C3]
theorem wrap_u8 (v:Int):[IntKind.u8.wrap v]=C3 v 1:=by rw[Eb3];simp[Fe9,Ff0,Ff3]
def AY1 (t:Tk):Prop:=(∀s∈t.1,I64 s.1∧∀p∈s.2.1,I64 p.1∧I64 p.2)∧∀g∈t.2,I64 g.1∧I64 g.2.2.1∧I64 g.2.2.2.1∧I64 g.2.2.2.2
theorem Eb4 (t:Tk)(hf:Few t)(hN:AY1 t):AL3 t=some (E0 (U5 t)):=by
 obtain⟨w1,w2,w3⟩:=hf;obtain⟨n1,n2⟩:=hN;have hf:Few t:=⟨w1,w2,w3⟩;unfold AL3;have hm:([(79:Int),(68:Int),(79:Int),(49:Int)]:List Int)=Y0:=rfl;have lseg:=fun k=>BB2 (f:=R5) 780 k t.1 fun s hs=>CL6 s (w3 s hs).1 (w3 s hs).2
 have lgrp:=fun k=>BB2 (f:=R6) 19 k t.2 fun g _=>by rw[CL5];exact Fe0 _
 have hlm:Y0.length=4:=rfl;rw[hm,show (2:Int)=((2:Nat):Int) from rfl,AJ4 _ ⟨by omega,by omega⟩ 2 (by decide),Fd0,D9,hlm,decide_eq_true (show (4+2)*1≤140737488355328 by decide)]
 simp only[C7];obtain⟨A,hA⟩:∃A,Y0++C3 (t.1.length:Int) 2=A:=⟨_,rfl⟩;have hAl:A.length=6:=by rw[← hA,Fd1,D9];rfl
 rw[hA,show (((0:Int),A):Int×List Int)=(((0:Nat):Int),A++(t.1.take 0).flatMap R5) by simp]
 rw[Q7 (n:=t.1.length) (st:=fun k=>((k:Int),A++(t.1.take k).flatMap R5)) (x:=A++t.1.flatMap R5)]
 ·have lall:=lseg t.1.length
  rw[Fd8] at lall;simp only[Fd0];rw[AJ4 _ ⟨by omega,by omega⟩ 2 (by decide),Fd0,D9,decide_eq_true (by rw[Fd1];omega)]
  simp only[C7];obtain⟨C,hC⟩:∃C,A++t.1.flatMap R5++C3 (t.2.length:Int) 2=C:=⟨_,rfl⟩;have hCl:C.length≤160000:=by rw[← hC,Fd1,Fd1,D9];omega
  rw[hC,show (((0:Int),C):Int×List Int)=(((0:Nat):Int),C++(t.2.take 0).flatMap R6) by simp]
  rw[Q7 (n:=t.2.length) (st:=fun k=>((k:Int),C++(t.2.take k).flatMap R6)) (x:=C++t.2.flatMap R6)]
  ·simp only[Fd0]
   have hi:C++t.2.flatMap R6=U5 t:=by rw[← hC,← hA];unfold U5 AP6;simp only[Fd3]
   have hby:=BB1 t;have hil:=CL7 hf;rw[hi];generalize U5 t=b at*;rw[CJ5 b (AX7 hby) (by omega),Fd0]
   have hcr:=BA9 b;rw[Fe7 hcr.1,Fe6 hcr.1,A5 (n:=E6 b/256) (by omega)]
   have e1:IntKind.u8.wrap (E6 b/256)=E6 b/256:=by simp[Fe9,Ff0,Ff3];omega
   have e2:IntKind.u8.wrap (E6 b % 256)=E6 b % 256:=by simp[Fe9,Ff0,Ff3]
   rw[e1,e2,decide_eq_true (by simp;omega)]
   rfl
  ·intro k hk
   simp only[];have hlk:=lgrp k;rw[decide_eq_true (show (k:Int)<(t.2.length:Int) by omega),decide_eq_true (show (0:Int)≤(k:Int) by omega),Fd2,A5 (n:=(k:Int)+1) (by omega)]
   simp only[cond_true,Fd6,C7];have hg:t.2.getD k ((0:Int),((0:Int),((0:Int),((0:Int),(0:Int)))))=t.2.getD k gp0:=rfl;have hmem:t.2.getD k gp0∈t.2:=by rw[P6 hk];exact Fe2 hk
   have hn:=n2 _ hmem;rw[hg,BB3 R6 gp0 hk];generalize t.2.getD k gp0=g at*;generalize (t.2.take k).flatMap R6=G at*;have hG:(C++G).length≤200000:=by rw[Fd1];omega
   rw[← Fd3];generalize C++G=H at*;rw[AJ4 _ hn.1 2 (by decide),Fd0,D9,decide_eq_true (by omega)]
   simp only[C7];rw[wrap_u8,D9,decide_eq_true (by simp only[Fd1,D9];omega)]
   simp only[C7];rw[show (8:Int)=((8:Nat):Int) from rfl,AJ4 _ hn.2.1 8 (by decide),Fd0,D9,decide_eq_true (by simp only[Fd1,D9];omega)]
   simp only[C7];rw[show (4:Int)=((4:Nat):Int) from rfl,AJ4 _ hn.2.2.1 4 (by decide),Fd0,D9,decide_eq_true (by simp only[Fd1,D9];omega)]
   simp only[C7];rw[AJ4 _ hn.2.2.2 4 (by decide),Fd0,D9,decide_eq_true (by simp only[Fd1,D9];omega)]
   simp only[C7];unfold R6;simp only[Fd3];rfl
  ·simp only[]
   rw[decide_eq_false (by omega),Fd8]
   rfl
 ·intro k hk
  simp only[];have hlk:=lseg k;rw[decide_eq_true (show (k:Int)<(t.1.length:Int) by omega),decide_eq_true (show (0:Int)≤(k:Int) by omega),Fd2,A5 (n:=(k:Int)+1) (by omega)]
  simp only[cond_true,Fd6,C7];have hg:t.1.getD k ((0:Int),([],[]))=t.1.getD k sg0:=rfl;have hmem:t.1.getD k sg0∈t.1:=by rw[P6 hk];exact Fe2 hk
  have hw:=w3 _ hmem;have hn:=n1 _ hmem;rw[hg,BB3 R5 sg0 hk];generalize t.1.getD k sg0=s at*;generalize (t.1.take k).flatMap R5=G at*;have hG:(A++G).length≤156100:=by rw[Fd1];omega
  rw[← Fd3];generalize A++G=H at*;have lp:=fun j=>BB2 (f:=T4) 12 j s.2.1 fun p _=>by rw[CL4];exact Fe0 _
  have ln:=fun j=>BB2 (f:=(C3 · 1)) 1 j s.2.2 fun p _=>by rw[D9];exact Fe0 _
  rw[show (8:Int)=((8:Nat):Int) from rfl,AJ4 _ hn.1 8 (by decide),Fd0,D9,decide_eq_true (by omega)]
  simp only[C7];rw[wrap_u8,D9,decide_eq_true (by simp only[Fd1,D9];omega)]
  simp only[C7];obtain⟨D,hD⟩:∃D,H++C3 s.1 8++C3 (s.2.1.length:Int) 1=D:=⟨_,rfl⟩;have hDl:D.length≤157000:=by rw[← hD];simp only[Fd1,D9];omega
  rw[hD,show ((D,(0:Int)):List Int×Int)=(D++(s.2.1.take 0).flatMap T4,((0:Nat):Int)) by simp]
  rw[Q7 (n:=s.2.1.length) (st:=fun k=>(D++(s.2.1.take k).flatMap T4,(k:Int))) (x:=D++s.2.1.flatMap T4)]
  ·have lall:=lp s.2.1.length
   rw[Fd8] at lall;simp only[Fd0];rw[wrap_u8,D9,decide_eq_true (by rw[Fd1];omega)]
   simp only[C7];obtain⟨E,hE⟩:∃E,D++s.2.1.flatMap T4++C3 (s.2.2.length:Int) 1=E:=⟨_,rfl⟩;have hEl:E.length≤160000:=by rw[← hE,Fd1,Fd1,D9];omega
   rw[hE,show (((0:Int),E):Int×List Int)=(((0:Nat):Int),E++(s.2.2.take 0).flatMap (C3 · 1)) by simp]
   rw[Q7 (n:=s.2.2.length) (st:=fun k=>((k:Int),E++(s.2.2.take k).flatMap (C3 · 1))) (x:=E++s.2.2.flatMap (C3 · 1))]
   ·simp only[Fd0]
    rw[← hE,← hD];unfold R5;simp only[Fd3];rfl
   ·intro j hj
    simp only[];have hlj:=ln j;rw[decide_eq_true (show (j:Int)<(s.2.2.length:Int) by omega),decide_eq_true (show (0:Int)≤(j:Int) by omega),Fd2,A5 (n:=(j:Int)+1) (by omega)]
    simp only[cond_true,Fd6,C7];rw[BB3 (C3 · 1) 0 hj,wrap_u8,D9,decide_eq_true (by simp only[Fd1];omega),Fd3]
    rfl
   ·simp only[]
    rw[decide_eq_false (by omega),Fd8]
    rfl
  ·intro j hj
   simp only[];have hlj:=lp j;have hpm:s.2.1.getD j ((0:Int),(0:Int))∈s.2.1:=by rw[P6 hj];exact Fe2 hj
   have hpn:=hn.2 _ hpm;rw[decide_eq_true (show (j:Int)<(s.2.1.length:Int) by omega),decide_eq_true (show (0:Int)≤(j:Int) by omega),Fd2,A5 (n:=(j:Int)+1) (by omega)]
   simp only[cond_true,Fd6,C7];rw[BB3 T4 ((0:Int),(0:Int)) hj,AJ4 _ hpn.1 8 (by decide),Fd0,D9,decide_eq_true (by simp only[Fd1];omega)]
   simp only[C7];rw[show (4:Int)=((4:Nat):Int) from rfl,AJ4 _ hpn.2 4 (by decide),Fd0,D9,decide_eq_true (by simp only[Fd1,D9];omega)]
   simp only[C7];unfold T4;simp only[Fd3];rfl
  ·simp only[]
   rw[decide_eq_false (by omega),Fd8]
   rfl
 ·simp only[]
  rw[decide_eq_false (by omega),Fd8]
  rfl

/- Images: what is put together is opened, and what is opened is put together. -/
theorem p1:(256:Int) ^ 1=256:=by decide
theorem p2:(256:Int) ^ 2=65536:=by decide
theorem p4:(256:Int) ^ 4=4294967296:=by decide
theorem p3':128*(256:Int) ^ (4-1)=2147483648:=by decide
theorem p7':128*(256:Int) ^ (8-1)=9223372036854775808:=by decide
theorem BT3 (v:Int)(l:List Int)(h:I64 v):C5 8 true (C3 v 8++l,false)=(v,l,false):=by obtain⟨h1,h2⟩:=h;exact CJ8 8 (by decide) v l (by rw[p7'];omega) (by rw[p7'];omega)
theorem Eb5 (v:Int)(l:List Int)(h : -2147483648≤v∧v≤2147483647):C5 4 true (C3 v 4++l,false)=(v,l,false):=
 CJ8 4 (by decide) v l (by rw[p3'];omega) (by rw[p3'];omega)
theorem BB4 (n:Nat)(most v:Int)(l:List Int)(h:0≤v∧v<256 ^ n)(hm:v≤most):L8 n most (C3 v n++l,false)=(v,l,false):=by unfold L8;rw[Ag6 n v l h,if_neg (by simp only[];omega)]
theorem CM2 {α:Type}(f:Rs→α×Rs)(P:α→List Int)(l:List α)(h:∀a∈l,∀r,f (P a++r,false)=(a,r,false))(r:List Int):
  ∀k,k≤l.length→B0 f k (l.flatMap P++r,false)=(l.take k,(l.drop k).flatMap P++r,false)
 |0,_=>by simp[B0]
 |k+1,hk=>by
  have hk':k<l.length:=hk;have e:l.drop k=l[k]::l.drop (k+1):=Fe8 hk';rw[B0,CM2 f P l h r k (by omega),e,Fg9,Fd3]
  simp only[];rw[h l[k] (Fe2 hk')];simp only[];rw[List.take_add_one,List.getElem?_eq_getElem hk'];rfl
theorem BB5 {α:Type}(f:Rs→α×Rs)(P:α→List Int)(l:List α)(h:∀a∈l,∀r,f (P a++r,false)=(a,r,false))(r:List Int):
  B0 f l.length (l.flatMap P++r,false)=(l,r,false):=by
 rw[CM2 f P l h r l.length (Fe0 _)];simp
theorem Eb6 (p:Int×Int)(h1:I64 p.1)(h2 : -1048576≤p.2∧p.2≤1048576)(r:List Int):H6 (T4 p++r,false)=(p,r,false):=by unfold H6 T4;rw[Fd3,BT3 _ _ h1];simp only[];rw[Eb5 _ _ (by omega)]
theorem Eb7 (n:Nat)(hn:n≤200)(s:Sg)(hs:L6 n s=true)(hN:I64 s.1∧∀p∈s.2.1,I64 p.1∧I64 p.2)(r:List Int):I3 (R5 s++r,false)=(s,r,false):=by
 obtain⟨a,ps,ws⟩:=s;unfold L6 AF3 at hs;simp only[Fd9,decide_eq_true_eq] at hs;obtain⟨⟨⟨⟨_,_⟩,⟨⟨⟨h1,h2⟩,_⟩,hp⟩⟩,h3⟩,hw⟩:=hs;simp only[] at hN h1 h2 hp h3 hw;have hP:∀p∈ps,∀r,H6 (T4 p++r,false)=(p,r,false):=by intro p hpm r;obtain⟨i,hi,rfl⟩:=Fe4.1 hpm;have hh:=List.all_eq_true.1 hp i (Fg0.2 hi);unfold r7 at hh;rw[P6 hi] at hh;simp only[Fd9,decide_eq_true_eq] at hh;exact Eb6 _ (hN.2 _ hpm).1 (by omega) r
 have hW:∀v∈ws,∀r,L7 (C3 v 1++r,false)=(v,r,false):=by intro v hvm r;obtain⟨i,hi,rfl⟩:=Fe4.1 hvm;have hh:=List.all_eq_true.1 hw i (Fg0.2 hi);unfold AJ2 at hh;rw[P6 hi] at hh;simp only[Fd9,decide_eq_true_eq] at hh;exact Ag6 1 _ r (by rw[p1];omega)
 unfold I3 R5;simp only[Fd3];rw[BT3 _ _ hN.1];simp only[];rw[BB4 1 64 _ _ (by rw[p1];omega) (by omega)]
 simp only[Fd2];rw[BB5 H6 T4 ps hP];simp only[];rw[BB4 1 2 _ _ (by rw[p1];omega) (by omega)]
 simp only[Fd2];rw[BB5 L7 (C3 · 1) ws hW]
theorem Eb8 (t:Tk)(ht:t.1.length≤200)(i:Nat)(g:Gp)(hg:K5 t i g=true)(hN:I64 g.2.2.1)(r:List Int):K8 (R6 g++r,false)=(g,r,false):=by
 unfold K5 at hg;simp only[Fd9,decide_eq_true_eq] at hg;unfold K8 R6;simp only[Fd3];rw[Ag6 2 _ _ (by rw[p2];omega)]
 simp only[];rw[Ag6 1 _ _ (by rw[p1];omega)]
 simp only[];rw[BT3 _ _ hN];simp only[];rw[Ag6 4 _ _ (by rw[p4];omega)]
 simp only[];rw[Ag6 4 _ _ (by rw[p4];omega)]
theorem Eb9 (t:Tk)(h:(G7 t).1=0)(hN:AY1 t):AY0 (AP6 t,false)=(t,[],false):=by
 obtain⟨c1,c2,c3,_,_⟩:=Ag9 h;have hs:=BT1 h;have hg:=CL8 h;have e:AP6 t=C3 (t.1.length:Int) 2++(t.1.flatMap R5++(C3 (t.2.length:Int) 2++(t.2.flatMap R6++[]))):=by unfold AP6;simp only[Fd3,List.append_nil]
 unfold AY0;rw[e,BB4 2 200 _ _ (by rw[p2];omega) (by omega)]
 simp only[Fd2];rw[BB5 I3 R5 t.1 fun s hm r=>Eb7 _ c2 s (hs s hm) (hN.1 s hm) r]
 simp only[];rw[BB4 2 400 _ _ (by rw[p2];omega) (by omega)]
 simp only[Fd2];rw[BB5 K8 R6 t.2 fun g hm r=>by obtain⟨i,hi⟩:=hg g hm;exact Eb8 t c2 i g hi (hN.2 g hm).2.1 r]
theorem CM3 (b:List Int):(E0 b).length=b.length+2:=by simp[E0]
theorem CM4 (b:List Int):(E0 b).take b.length=b:=Ff2 rfl
theorem Ec0 {b:List Int}(hb:ByL b):E6 (E0 b)=0:=by
 rw[CJ1 (AX7 (Ap1 hb)) (n:=b.length) (CM3 b),CM4];have h1:(E0 b).getD b.length 0=E6 b/256:=by unfold E0;rw[Fe5,Ff5 (Fe0 _),Nat.sub_self];rfl
 have h2:(E0 b).getD (b.length+1) 0=E6 b % 256:=by unfold E0;rw[Fe5,Ff5 (by omega),Nat.add_sub_cancel_left];rfl
 rw[h1,h2];omega
theorem Ec1 (t:Tk)(h:(G7 t).1=0)(hN:AY1 t):AC0 (E0 (U5 t))=(t,0):=by
 have hf:=CL9 h;have hl:=CL7 hf;have hl6:4≤(U5 t).length:=by unfold U5 Y0;simp
 unfold AC0;rw[CM3,if_neg (by omega),if_neg ?_,if_neg (not_not_intro (Ec0 (BB1 t))),Ff4,CM4]
 ·have e:(U5 t).drop 4=AP6 t:=Ff9 rfl
  rw[e,Eb9 t h hN];simp only[ne_eq,not_true_eq_false,or_self,Bool.false_eq_true,if_false,h]
 ·rintro (h' | h')
  ·omega
  ·refine h' ?_
   have:(E0 (U5 t)).take 4=Y0:=by unfold E0 U5;rw[Fd3];exact Ff2 (show Y0.length=4 from rfl)
   exact this
end Go.Proofs.YthfjpkdadjemcaaGreat
