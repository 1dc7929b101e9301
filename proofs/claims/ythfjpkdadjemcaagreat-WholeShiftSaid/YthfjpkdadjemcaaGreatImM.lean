/- Images: the bytes of numbers. -/
import Derived.Test.YthfjpkdadjemcaaGreatPlain
import Derived.Test.YthfjpkdadjemcaaGreatFnsF3
import Derived.Test.YthfjpkdadjemcaaGreatLoopF
import Derived.Test.YthfjpkdadjemcaaGreatTrM
import Derived.Test.YthfjpkdadjemcaaGreatCrcM
set_option linter.unusedSimpArgs false
set_option linter.unusedVariables false
namespace Go.Proofs.YthfjpkdadjemcaaGreat
def D4 (v:Int)(n:Nat):List Int:=(List.range n).map fun j=>v/256 ^ (n-1-j) % 256
theorem G5 (v:Int)(n:Nat):(D4 v n).length=n:=by simp[D4]
end Go.Proofs.YthfjpkdadjemcaaGreat

/- Images: numbers read out of bytes. -/
set_option linter.unusedSimpArgs false
set_option linter.unusedVariables false
namespace Go.Proofs.YthfjpkdadjemcaaGreat
open Go.RowKit
abbrev Rs:=List Int×Bool
def ByL (l:List Int):Prop:=∀c∈l,0≤c∧c≤255
theorem AW2 {l:List Int}(h:ByL l):Bytes l:=by
 intro i;by_cases hi:i<l.length
 ·rw[P7 hi]
  exact h _ (List.getElem_mem hi)
 ·rw[List.getD_eq_getElem?_getD,List.getElem?_eq_none (by omega)]
  exact⟨by decide,by decide⟩
theorem An3 {l:List Int}(h:ByL l)(n:Nat):ByL (l.take n):=fun c hc=>h c (List.mem_of_mem_take hc)
theorem ET6 {l:List Int}(h:ByL l)(n:Nat):ByL (l.drop n):=fun c hc=>h c (List.mem_of_mem_drop hc)
theorem U9 {l m:List Int}(h:ByL l)(h':ByL m):ByL (l++m):=fun c hc=>by
 rcases List.mem_append.1 hc with hc | hc
 ·exact h c hc
 ·exact h' c hc
def O3 (l:List Int):Int:=l.foldl (fun v c=>256*v+c) 0
theorem BT9 (l:List Int)(c:Int):O3 (l++[c])=256*O3 l+c:=by simp[O3]
theorem BU0 (v:Int)(n:Nat):D4 v (n+1)=D4 (v/256) n++[v % 256]:=by
 unfold D4;rw[List.range_succ,List.map_append];congr 1
 ·refine List.map_congr_left fun j hj=> ?_
  have hj:=List.mem_range.1 hj;have e:n+1-1-j=(n-1-j)+1:=by omega
  rw[e,Int.pow_succ,Int.mul_comm,← Int.ediv_ediv_of_nonneg (by decide)]
 ·simp
theorem W3:∀(n:Nat) (v:Int),ByL (D4 v n)
 |0,v=>by intro c hc;cases hc
 |n+1,v=>by
  rw[BU0];refine U9 (W3 n _) fun c hc=> ?_
  rw[List.mem_singleton.1 hc];omega
theorem ET7 (v m:Int)(hm:0<m):v % (m*256)=256*(v/256 % m)+v % 256:=by
 have e:v/(m*256)=v/256/m:=by rw[Int.mul_comm,Int.ediv_ediv_of_nonneg (by decide)]
 have h1:=Int.emod_def v (m*256);have h2:=Int.emod_def (v/256) m;have h3:=Int.emod_def v 256;rw[e] at h1;rw[h1,h2,h3,Int.mul_sub,Int.mul_assoc,Int.mul_left_comm m 256];omega
theorem CF0:∀(n:Nat) (v:Int),O3 (D4 v n)=v % 256 ^ n
 |0,v=>by simp[D4,O3]
 |n+1,v=>by rw[BU0,BT9,CF0 n,Int.pow_succ,ET7 _ _ (Int.pow_pos (by decide))]
theorem CF1:∀(n:Nat) (l:List Int),ByL l→l.length=n→D4 (O3 l) n=l
 |0,l,_,h=>by rw[List.length_eq_zero_iff.1 h];rfl
 |n+1,l,hb,h=>by
  have hne:l≠[]:=by intro h0;rw[h0] at h;cases h
  obtain⟨m,c,rfl⟩:∃m c,l=m++[c]:=⟨l.dropLast,l.getLast hne,(List.dropLast_concat_getLast hne).symm⟩;have hc:=hb c (by simp)
  rw[BT9,BU0,show (256*O3 m+c)/256=O3 m by omega,show (256*O3 m+c) % 256=c by omega]
  rw[CF1 n m (fun d hd=>hb d (by simp[hd])) (by simp at h;omega)]
theorem CF2 {l:List Int}(hb:ByL l):0≤O3 l∧O3 l<256 ^ l.length:=by have h:=CF0 l.length (O3 l);rw[CF1 _ l hb rfl] at h;rw[h];exact⟨Int.emod_nonneg _ (Int.ne_of_gt (Int.pow_pos (by decide))),Int.emod_lt_of_pos _ (Int.pow_pos (by decide))⟩
def sgn (n:Nat)(u:Int):Int:=if 128*256 ^ (n-1)≤u then u-256 ^ n else u
def D2 (n:Nat)(s:Bool)(x:Rs):Int×Rs:=
 if x.2=true∨x.1.length<n then (0,x.1,true) else (bif s then sgn n (O3 (x.1.take n)) else O3 (x.1.take n),x.1.drop n,false)
theorem R1 (n:Nat)(s:Bool)(x:Rs):(D2 n s x).2.1 <:+ x.1:=by
 unfold D2;split
 ·exact List.suffix_refl _
 ·exact List.drop_suffix _ _
theorem P0 {l m:List Int}(h:ByL m)(hs:l <:+ m):ByL l:=fun c hc=>h c (hs.subset hc)
end Go.Proofs.YthfjpkdadjemcaaGreat

/- Images: what the readers of both sides say. -/
set_option linter.unusedSimpArgs false
set_option linter.unusedVariables false
namespace Go.Proofs.YthfjpkdadjemcaaGreat
open Go.RowKit
theorem ET8 (n:Int):IntKind.i32.wrap n=(n+2147483648) % 4294967296-2147483648:=by
 have e:IntKind.i32.wrap n=if n % 4294967296≥2147483648 then n % 4294967296-4294967296 else n % 4294967296:=by
  unfold IntKind.wrap;simp only[Bool.and_eq_true,decide_eq_true_eq];have h0:IntKind.i32.signed=true:=rfl;have h1:(2:Int) ^ IntKind.i32.bits=4294967296:=by decide
  have h2:(2:Int) ^ (IntKind.i32.bits-1)=2147483648:=by decide
  simp only[h0,h1,h2,true_and]
 rw[e];split <;> omega
theorem CF3 {i k:Nat}(h:i≤k):(256:Int) ^ i≤256 ^ k:=by
 have h2:=Nat.pow_le_pow_right (n:=256) (by decide) h
 have h3:((256 ^ i:Nat):Int)≤((256 ^ k:Nat):Int):=Int.ofNat_le.2 h2;rw[Int.natCast_pow,Int.natCast_pow] at h3;exact h3
theorem orV (a b:Int)(ha:0≤a)(h2:256*a≤18446744073709551615)(hb:0≤b∧b≤255):bits .u64 .or (IntKind.u64.wrap (a*2 ^ 8)) (IntKind.u64.wrap b)=256*a+b:=by
 have e1:IntKind.u64.wrap (a*2 ^ 8)=256*a:=by rw[IntKind.wrap_u64];omega
 have e2:IntKind.u64.wrap b=b:=by rw[IntKind.wrap_u64];omega
 rw[e1,e2];exact EP1 (256*a) b 8 (by omega) h2 (by omega) hb.1 (by omega) (by omega)
theorem ET9 {l:List Int}{i:Nat}(hi:i<l.length):O3 (l.take (i+1))=256*O3 (l.take i)+l.getD i 0:=by rw[← Ae6 (d:=0) hi,BT9]
theorem CF4 (n:Nat)(h1:1≤n)(h8:n≤8)(x:Rs)(hb:ByL x.1)(hl:x.1.length≤140737488355328):M5 (n:Int) x.1 x.2=some (IntKind.i64.wrap (D2 n false x).1,(D2 n false x).2.1,(D2 n false x).2.2):=by
 obtain⟨x,sh⟩:=x;unfold M5 D2;simp only[] at hb hl ⊢;by_cases hc:sh=true∨x.length<n
 ·rw[if_pos hc]
  have e:(bif sh then true else decide ((x.length:Int)<(n:Int)))=true:=by
   rcases hc with hc | hc
   ·rw[hc];rfl
   ·rw[decide_eq_true (by omega)];cases sh <;> rfl
  rw[e];rfl
 ·rw[if_neg hc]
  have hs:sh=false:=by cases sh with | false=>rfl | true=>exact absurd (.inl rfl) hc
  have hn:n≤x.length:=Nat.le_of_not_lt fun h=>hc (.inr h)
  subst hs;simp only[cond_false];rw[decide_eq_false (show ¬(x.length:Int)<(n:Int) by omega),decide_eq_true (show (0:Int)≤(n:Int) by omega),decide_eq_true (show (n:Int)≤(x.length:Int) by omega),decide_eq_true (show (x.length:Int)≤(x.length:Int) by omega)]
  simp only[cond_false,Bool.and_self,D3,Int.toNat_natCast,Int.toNat_zero,List.drop_zero,List.take_length];have hlen:(x.take n).length=n:=by rw[List.length_take];omega
  generalize hm:x.take n=m at*;have hbm:ByL m:=by rw[← hm];exact An3 hb n
  have e0:(((0:Int),(0:Int)):Int×Int)=(((0:Nat):Int),O3 (m.take 0)):=rfl;rw[e0,Q9 (n:=n) (st:=fun i=>((i:Int),O3 (m.take i))) (x:=O3 m)]
  ·rfl
  ·intro i hi
   simp only[];have hr:=CF2 (An3 hbm i);rw[List.length_take,Nat.min_eq_left (by omega)] at hr
   have hp:=CF3 (show i≤7 by omega)
   have hp7:(256:Int) ^ 7=72057594037927936:=by decide
   rw[hp7] at hp;have hc':=AW2 hbm i;rw[decide_eq_true (show (i:Int)<(m.length:Int) by omega),decide_eq_true (show (0:Int)≤(i:Int) by omega),B0 (n:=(i:Int)+1) (by omega),Int.toNat_natCast,ET9 (by omega)]
   generalize O3 (m.take i)=v at*;rw[orV v _ hr.1 (by omega) hc']
   simp only[cond_true,Bool.and_self,D3];rfl
  ·simp only[]
   rw[decide_eq_false (by omega),List.take_of_length_le (by omega)]
   rfl
theorem BC4 (n:Nat)(x:Rs)(hb:ByL x.1):0≤(D2 n false x).1∧(D2 n false x).1<256 ^ n:=by
 unfold D2;split
 ·exact⟨Int.le_refl 0,Int.pow_pos (by decide)⟩
 ·rename_i h
  have h:=CF2 (An3 hb n);simp only[cond_false];have e:(x.1.take n).length=n:=by rw[List.length_take];omega
  rw[e] at h;exact h
theorem BC5 (n:Nat)(h1:1≤n)(h8:n<8)(x:Rs)(hb:ByL x.1)(hl:x.1.length≤140737488355328):M5 (n:Int) x.1 x.2=some (D2 n false x):=by
 rw[CF4 n h1 (by omega) x hb hl]
 have h:=BC4 n x hb;have hp:=CF3 (show n≤7 by omega)
 have hp7:(256:Int) ^ 7=72057594037927936:=by decide
 rw[B0 (by omega)]
theorem CF5 (x:Rs)(hb:ByL x.1)(hl:x.1.length≤140737488355328):M5 1 x.1 x.2=some (D2 1 false x):=BC5 1 (by decide) (by decide) x hb hl
theorem EU0 (x:Rs)(hb:ByL x.1)(hl:x.1.length≤140737488355328):M5 2 x.1 x.2=some (D2 2 false x):=BC5 2 (by decide) (by decide) x hb hl
theorem BU1 (x:Rs)(hb:ByL x.1)(hl:x.1.length≤140737488355328):M5 4 x.1 x.2=some (D2 4 false x):=BC5 4 (by decide) (by decide) x hb hl
theorem CF6 (n:Nat)(x:Rs):(D2 n true x).2=(D2 n false x).2:=by unfold D2;split <;> rfl
theorem CF7 (n:Nat)(hn:0<n)(x:Rs):(D2 n true x).1=sgn n (D2 n false x).1:=by
 unfold D2;split
 ·unfold sgn
  have hp:(0:Int)<256 ^ (n-1):=Int.pow_pos (by decide)
  rw[if_neg (by simp only[];omega)]
 ·rfl
theorem BU2 (x:Rs)(hb:ByL x.1)(hl:x.1.length≤140737488355328):M5 8 x.1 x.2=some (D2 8 true x):=by
 have h:=CF4 8 (by decide) (by decide) x hb hl
 have h2:=BC4 8 x hb;have hw:IntKind.i64.wrap (D2 8 false x).1=(D2 8 true x).1:=by
  rw[CF7 8 (by decide)]
  unfold sgn;rw[IntKind.wrap_i64];have e1:(256:Int) ^ 8=18446744073709551616:=by decide
  have e2:128*(256:Int) ^ (8-1)=9223372036854775808:=by decide
  rw[e1] at h2 ⊢;rw[e2];split <;> omega
 rw[hw,← CF6] at h;exact h
def K3 (x:Rs):(Int×Int)×Rs:=(((D2 8 true x).1,(D2 4 true (D2 8 true x).2).1),(D2 4 true (D2 8 true x).2).2)
theorem EU1 (x:Rs)(hb:ByL x.1)(hl:x.1.length≤140737488355328):AQ8 x.1 x.2=some (K3 x):=by
 unfold AQ8 K3;rw[BU2 x hb hl,Option.bind_some];have hs:=R1 8 true x;have hb2:=P0 hb hs;have hl2:=hs.length_le;rw[BU1 (D2 8 true x).2 hb2 (by omega),Option.bind_some]
 generalize (D2 8 true x).2=y at*;simp only[];have h2:=BC4 4 y hb2;have hw:IntKind.i64.wrap (IntKind.i32.wrap (D2 4 false y).1)=(D2 4 true y).1:=by
  rw[CF7 4 (by decide)]
  unfold sgn;have e1:(256:Int) ^ 4=4294967296:=by decide
  have e2:128*(256:Int) ^ (4-1)=2147483648:=by decide
  rw[e1] at h2 ⊢;rw[e2];have e3:∀u:Int,IntKind.i32.wrap u=(u+2147483648) % 4294967296-2147483648:=fun u=>ET8 u
  rw[e3,B0 (by omega)]
  split <;> omega
 rw[hw,CF6 4]
def B9 {α:Type}(f:Rs→α×Rs):Nat→Rs→List α×Rs
 |0,x=>([],x)
 |n+1,x=>((B9 f n x).1++[(f (B9 f n x).2).1],(f (B9 f n x).2).2)
theorem AW3 {α:Type}(f:Rs→α×Rs)(x:Rs):∀n,(B9 f n x).1.length=n
 |0=>rfl
 |n+1=>by rw[B9,List.length_append,AW3 f x n];rfl
theorem u3 {α:Type}(f:Rs→α×Rs)(hf:∀x,(f x).2.1 <:+ x.1)(x:Rs):∀n,(B9 f n x).2.1 <:+ x.1
 |0=>List.suffix_refl _
 |n+1=>(hf _).trans (u3 f hf x n)
theorem BC6 (x:Rs):(K3 x).2.1 <:+ x.1:=(R1 4 true _).trans (R1 8 true x)
theorem EU2 (n:Nat)(hn:n≤1000)(x:Rs)(hb:ByL x.1)(hl:x.1.length≤140737488355328):AQ9 (n:Int) x.1 x.2=some (B9 K3 n x):=by
 unfold AQ9;rw[show ((0:Int),x.2,([]:List (Int×Int)),x.1)=(((0:Nat):Int),(B9 K3 0 x).2.2,(B9 K3 0 x).1,(B9 K3 0 x).2.1) from rfl];rw[Q9 (n:=n) (st:=fun k=>((k:Int),(B9 K3 k x).2.2,(B9 K3 k x).1,(B9 K3 k x).2.1)) (x:=((B9 K3 n x).2.2,(B9 K3 n x).2.1,(B9 K3 n x).1))]
 ·rfl
 ·intro k hk
  simp only[];have hs:=u3 K3 BC6 x k;rw[decide_eq_true (show (k:Int)<(n:Int) by omega),EU1 (B9 K3 k x).2 (P0 hb hs) (Nat.le_trans hs.length_le hl),B0 (n:=(k:Int)+1) (by omega)]
  have hle:((B9 K3 k x).1.length+([(K3 (B9 K3 k x).2).1]:List (Int×Int)).length)*16≤140737488355328:=by rw[AW3,List.length_singleton];omega
  simp only[cond_true,Option.bind_some];rw[decide_eq_true hle];rfl
 ·simp only[]
  rw[decide_eq_false (by omega)]
  rfl
def M9 (x:Rs):Int×Rs:=D2 1 false x
theorem CF8 (x:Rs):(M9 x).2.1 <:+ x.1:=R1 1 false x
theorem EU3 (x:Rs)(hb:ByL x.1)(hl:x.1.length≤140737488355328):AR0 x.1 x.2=some (M9 x):=by unfold AR0 M9;rw[CF5 x hb hl];rfl
theorem EU4 (n:Nat)(hn:n≤1000)(x:Rs)(hb:ByL x.1)(hl:x.1.length≤140737488355328):AR1 (n:Int) x.1 x.2=some (B9 M9 n x):=by
 unfold AR1;rw[show ((0:Int),x.2,([]:List Int),x.1)=(((0:Nat):Int),(B9 M9 0 x).2.2,(B9 M9 0 x).1,(B9 M9 0 x).2.1) from rfl];rw[Q9 (n:=n) (st:=fun k=>((k:Int),(B9 M9 k x).2.2,(B9 M9 k x).1,(B9 M9 k x).2.1)) (x:=((B9 M9 n x).2.2,(B9 M9 n x).2.1,(B9 M9 n x).1))]
 ·rfl
 ·intro k hk
  simp only[];have hs:=u3 M9 CF8 x k;rw[decide_eq_true (show (k:Int)<(n:Int) by omega),EU3 (B9 M9 k x).2 (P0 hb hs) (Nat.le_trans hs.length_le hl),B0 (n:=(k:Int)+1) (by omega)]
  have hle:((B9 M9 k x).1.length+([(M9 (B9 M9 k x).2).1]:List Int).length)*8≤140737488355328:=by rw[AW3,List.length_singleton];omega
  simp only[cond_true,Option.bind_some];rw[decide_eq_true hle];rfl
 ·simp only[]
  rw[decide_eq_false (by omega)]
  rfl
def N0 (n:Nat)(most:Int)(x:Rs):Int×Rs:=if most<(D2 n false x).1 then (0,(D2 n false x).2.1,true) else D2 n false x
theorem AW4 (n:Nat)(most:Int)(x:Rs):(N0 n most x).2.1 <:+ x.1:=by unfold N0;split <;> exact R1 n false x
theorem Ae8 (n:Nat)(most:Int)(hm:0≤most)(x:Rs)(hb:ByL x.1):0≤(N0 n most x).1∧(N0 n most x).1≤most:=by
 unfold N0;have:=BC4 n x hb;split
 ·exact⟨Int.le_refl _,hm⟩
 ·omega
theorem CF9 (n:Nat)(h1:1≤n)(h8:n<8)(most:Int)(x:Rs)(hb:ByL x.1)(hl:x.1.length≤140737488355328):l8 (n:Int) most x.1 x.2=some (N0 n most x):=by
 unfold l8 N0;rw[BC5 n h1 h8 x hb hl,Option.bind_some];by_cases h:most<(D2 n false x).1
 ·rw[if_pos h]
  simp only[];rw[decide_eq_true h];rfl
 ·rw[if_neg h]
  simp only[];rw[decide_eq_false h];rfl
theorem CG0 (most:Int)(x:Rs)(hb:ByL x.1)(hl:x.1.length≤140737488355328):l8 1 most x.1 x.2=some (N0 1 most x):=CF9 1 (by decide) (by decide) most x hb hl
theorem CG1 (most:Int)(x:Rs)(hb:ByL x.1)(hl:x.1.length≤140737488355328):l8 2 most x.1 x.2=some (N0 2 most x):=CF9 2 (by decide) (by decide) most x hb hl
def K4 (x:Rs):Sg×Rs:=
 let a:=D2 8 true x
 let c:=N0 1 64 a.2
 let p:=B9 K3 c.1.toNat c.2
 let d:=N0 1 2 p.2
 let w:=B9 M9 d.1.toNat d.2
 ((a.1,p.1,w.1),w.2)
theorem BU3 (x:Rs):(K4 x).2.1 <:+ x.1:=
 (u3 M9 CF8 _ _).trans ((AW4 1 2 _).trans ((u3 K3 BC6 _ _).trans ((AW4 1 64 _).trans (R1 8 true x))))
theorem EU5 (x:Rs)(hb:ByL x.1)(hl:x.1.length≤140737488355328):AR2 x.1 x.2=some (K4 x):=by
 unfold AR2 K4;simp only[];rw[BU2 x hb hl,Option.bind_some];have hs:=R1 8 true x;generalize D2 8 true x=a at*;have hb:=P0 hb hs;have hl:=Nat.le_trans hs.length_le hl;rw[CG0 64 a.2 hb hl,Option.bind_some];have hs:=AW4 1 64 a.2;have hr:=Ae8 1 64 (by decide) a.2 hb
 generalize N0 1 64 a.2=c at*;have hb:=P0 hb hs;have hl:=Nat.le_trans hs.length_le hl
 try simp only[]
 obtain⟨k,hk⟩:∃k:Nat,c.1=k:=⟨c.1.toNat,by omega⟩
 rw[hk,EU2 k (by omega) c.2 hb hl,Option.bind_some,Int.toNat_natCast]
 have hs:=u3 K3 BC6 c.2 k;generalize B9 K3 k c.2=p at*;have hb:=P0 hb hs;have hl:=Nat.le_trans hs.length_le hl;rw[CG0 2 p.2 hb hl,Option.bind_some];have hs:=AW4 1 2 p.2;have hr:=Ae8 1 2 (by decide) p.2 hb
 generalize N0 1 2 p.2=d at*;have hb:=P0 hb hs;have hl:=Nat.le_trans hs.length_le hl;obtain⟨m,hm⟩:∃m:Nat,d.1=m:=⟨d.1.toNat,by omega⟩
 rw[hm,EU4 m (by omega) d.2 hb hl,Option.bind_some,Int.toNat_natCast]
def N1 (x:Rs):Gp×Rs:=
 let a:=D2 2 false x
 let b:=D2 1 false a.2
 let c:=D2 8 true b.2
 let d:=D2 4 false c.2
 let e:=D2 4 false d.2
 ((a.1,b.1,c.1,d.1,e.1),e.2)
theorem CG2 (x:Rs):(N1 x).2.1 <:+ x.1:=
 (R1 4 false _).trans ((R1 4 false _).trans ((R1 8 true _).trans ((R1 1 false _).trans (R1 2 false x))))
theorem EU6 (x:Rs)(hb:ByL x.1)(hl:x.1.length≤140737488355328):AR4 x.1 x.2=some (N1 x):=by
 unfold AR4 N1;simp only[];rw[EU0 x hb hl,Option.bind_some];have hs:=R1 2 false x;generalize D2 2 false x=a at*;have hb:=P0 hb hs;have hl:=Nat.le_trans hs.length_le hl;rw[CF5 a.2 hb hl,Option.bind_some];have hs:=R1 1 false a.2;generalize D2 1 false a.2=b at*;have hb:=P0 hb hs;have hl:=Nat.le_trans hs.length_le hl
 try simp only[]
 rw[BU2 b.2 hb hl,Option.bind_some];have hs:=R1 8 true b.2;generalize D2 8 true b.2=c at*;have hb:=P0 hb hs;have hl:=Nat.le_trans hs.length_le hl;rw[BU1 c.2 hb hl,Option.bind_some];have hs:=R1 4 false c.2;generalize D2 4 false c.2=d at*;have hb:=P0 hb hs;have hl:=Nat.le_trans hs.length_le hl;rw[BU1 d.2 hb hl,Option.bind_some]
theorem EU7 (n:Nat)(hn:n≤1000)(x:Rs)(hb:ByL x.1)(hl:x.1.length≤140737488355328):AR3 (n:Int) x.1 x.2=some (B9 K4 n x):=by
 unfold AR3;rw[show ((0:Int),x.2,([]:List Sg),x.1)=(((0:Nat):Int),(B9 K4 0 x).2.2,(B9 K4 0 x).1,(B9 K4 0 x).2.1) from rfl];rw[Q9 (n:=n) (st:=fun k=>((k:Int),(B9 K4 k x).2.2,(B9 K4 k x).1,(B9 K4 k x).2.1)) (x:=((B9 K4 n x).2.2,(B9 K4 n x).2.1,(B9 K4 n x).1))]
 ·rfl
 ·intro k hk
  simp only[];have hs:=u3 K4 BU3 x k;rw[decide_eq_true (show (k:Int)<(n:Int) by omega),EU5 (B9 K4 k x).2 (P0 hb hs) (Nat.le_trans hs.length_le hl),B0 (n:=(k:Int)+1) (by omega)]
  have hle:((B9 K4 k x).1.length+([(K4 (B9 K4 k x).2).1]:List Sg).length)*56≤140737488355328:=by rw[AW3,List.length_singleton];omega
  simp only[cond_true,Option.bind_some];rw[decide_eq_true hle];rfl
 ·simp only[]
  rw[decide_eq_false (by omega)]
  rfl
theorem EU8 (n:Nat)(hn:n≤1000)(x:Rs)(hb:ByL x.1)(hl:x.1.length≤140737488355328):AR5 (n:Int) x.1 x.2=some (B9 N1 n x):=by
 unfold AR5;rw[show ((0:Int),x.2,([]:List Gp),x.1)=(((0:Nat):Int),(B9 N1 0 x).2.2,(B9 N1 0 x).1,(B9 N1 0 x).2.1) from rfl];rw[Q9 (n:=n) (st:=fun k=>((k:Int),(B9 N1 k x).2.2,(B9 N1 k x).1,(B9 N1 k x).2.1)) (x:=((B9 N1 n x).2.2,(B9 N1 n x).2.1,(B9 N1 n x).1))]
 ·rfl
 ·intro k hk
  simp only[];have hs:=u3 N1 CG2 x k;rw[decide_eq_true (show (k:Int)<(n:Int) by omega),EU6 (B9 N1 k x).2 (P0 hb hs) (Nat.le_trans hs.length_le hl),B0 (n:=(k:Int)+1) (by omega)]
  have hle:((B9 N1 k x).1.length+([(N1 (B9 N1 k x).2).1]:List Gp).length)*40≤140737488355328:=by rw[AW3,List.length_singleton];omega
  simp only[cond_true,Option.bind_some];rw[decide_eq_true hle];rfl
 ·simp only[]
  rw[decide_eq_false (by omega)]
  rfl
def An4 (x:Rs):Tk×Rs:=
 let c:=N0 2 200 x
 let s:=B9 K4 c.1.toNat c.2
 let d:=N0 2 400 s.2
 let g:=B9 N1 d.1.toNat d.2
 ((s.1,g.1),g.2)
def AE0:List Int:=[79,68,79,49]
def AI0 (b:List Int):Tk×Int:=
 if 1048576<b.length then (([],[]),15)
 else if b.length<6∨b.take 4≠AE0 then (([],[]),11)
 else if F9 b≠0 then (([],[]),31)
 else if (An4 ((b.take (b.length-2)).drop 4,false)).2.2=true∨(An4 ((b.take (b.length-2)).drop 4,false)).2.1≠[] then (([],[]),14)
 else if (O7 (An4 ((b.take (b.length-2)).drop 4,false)).1).1≠0 then (([],[]),51)
 else ((An4 ((b.take (b.length-2)).drop 4,false)).1,0)
end Go.Proofs.YthfjpkdadjemcaaGreat

/- Images: what is opened, on both sides. -/
set_option linter.unusedSimpArgs false
set_option linter.unusedVariables false
namespace Go.Proofs.YthfjpkdadjemcaaGreat
open Go.RowKit
theorem EU9 (b:ByteArray):∀(k i:Nat) (r:List UInt8),b.size-i=k→ByteArray.toList.loop b i r=r.reverse++b.data.toList.drop i:=by
 intro k
 induction k with
 |zero=>
  intro i r h;rw[ByteArray.toList.loop,if_neg (by omega),List.drop_eq_nil_of_le (by rw[Array.length_toList];exact Nat.le_of_sub_eq_zero h),List.append_nil]
 |succ k ih=>
  intro i r h;have hi:i<b.size:=by omega
  rw[ByteArray.toList.loop,if_pos hi,ih (i+1) _ (by omega),List.reverse_cons,List.append_assoc]
  congr 1;have hi':i<b.data.toList.length:=by rw[Array.length_toList];exact hi
  rw[List.drop_eq_getElem_cons hi'];simp only[List.singleton_append,List.cons.injEq,and_true];have hd:i<b.data.size:=hi;show b.data[i]! = _;rw[getElem!_pos b.data i hd,Array.getElem_toList]
theorem CG3 (l:List Int):(bytesOf l).toList=l.map fun n=>UInt8.ofNat n.toNat:=by show ByteArray.toList.loop (bytesOf l) 0 []=_;rw[EU9 _ _ _ _ rfl];simp[bytesOf]
theorem EV0 {a b:Int}(ha:0≤a∧a≤255)(hb:0≤b∧b≤255)(h:UInt8.ofNat a.toNat=UInt8.ofNat b.toNat):a=b:=by have:=congrArg UInt8.toNat h;simp only[UInt8.toNat_ofNat'] at this;omega
theorem CG4:∀{l m:List Int},ByL l→ByL m→(l.map fun n=>UInt8.ofNat n.toNat)=(m.map fun n=>UInt8.ofNat n.toNat)→l=m
 | [],[],_,_,_=>rfl
 | [],_::_,_,_,h=>by simp at h
 |_::_,[],_,_,h=>by simp at h
 |a::l,b::m,ha,hb,h=>by simp only[List.map_cons,List.cons.injEq] at h;rw[EV0 (ha a (by simp)) (hb b (by simp)) h.1,CG4 (fun c hc=>ha c (by simp[hc])) (fun c hc=>hb c (by simp[hc])) h.2]
theorem EV1 {l m:List Int}(hl:ByL l)(hm:ByL m):((bytesOf l).toList==(bytesOf m).toList)=decide (l=m):=by
 rw[CG3,CG3];by_cases h:l=m
 ·rw[h,decide_eq_true rfl,beq_self_eq_true]
 ·rw[decide_eq_false h]
  exact beq_false_of_ne fun h'=>h (CG4 hl hm h')
theorem CG5 {α:Type}(P:α→Prop)(f:Rs→α×Rs)(hf:∀x,(f x).2.1 <:+ x.1)(hP:∀x,ByL x.1→P (f x).1)(x:Rs)(hb:ByL x.1):∀n,∀a∈(B9 f n x).1,P a
 |0,a,ha=>by cases ha
 |n+1,a,ha=>by
  rcases List.mem_append.1 ha with ha | ha
  ·exact CG5 P f hf hP x hb n a ha
  ·rw[List.mem_singleton.1 ha]
   exact hP _ (P0 hb (u3 f hf x n))
theorem EV2 (x:Rs)(hb:ByL x.1):(K4 x).1.2.1.length≤64∧(K4 x).1.2.2.length≤2:=by
 have s1:=R1 8 true x;have h1:=Ae8 1 64 (by decide) (D2 8 true x).2 (P0 hb s1)
 have s2:=AW4 1 64 (D2 8 true x).2;have s3:=u3 K3 BC6 (N0 1 64 (D2 8 true x).2).2 (N0 1 64 (D2 8 true x).2).1.toNat;have h2:=Ae8 1 2 (by decide) (B9 K3 (N0 1 64 (D2 8 true x).2).1.toNat (N0 1 64 (D2 8 true x).2).2).2 (P0 hb (s3.trans (s2.trans s1)))
 constructor
 ·show (B9 K3 _ _).1.length≤64
  rw[AW3];omega
 ·show (B9 M9 _ _).1.length≤2
  rw[AW3];omega
theorem CG6:ByL AE0:=by unfold AE0;intro c hc;simp at hc;omega
theorem EV3:(⟨#[79,68,79,49]⟩:ByteArray)=bytesOf AE0:=rfl
theorem EV4 (b:List Int)(hb:ByL b):AK7 b=some (AI0 b):=by
 unfold AK7 AI0;by_cases h1:1048576<b.length
 ·rw[if_pos h1,decide_eq_true (show (1048576:Int)<(b.length:Int) by omega)]
  rfl
 rw[if_neg h1,decide_eq_false (show ¬(1048576:Int)<(b.length:Int) by omega)]
 simp only[cond_false];by_cases h2:b.length<6
 ·rw[if_pos (.inl h2),decide_eq_true (show (b.length:Int)<6 by omega)]
  simp only[Bool.not_true,Bool.not_false,Bool.or_true,D3,cond_true]
 rw[decide_eq_false (show ¬(b.length:Int)<6 by omega),decide_eq_true (show (4:Int)≤(b.length:Int) by omega)]
 simp only[Bool.not_false,Bool.not_true,Bool.or_false,Bool.and_self,D3,cond_false];rw[show (4:Int).toNat=4 from rfl,show (0:Int).toNat=0 from rfl,List.drop_zero,EV3,EV1 (An3 hb 4) CG6];by_cases h3:b.take 4=AE0
 ·rw[if_neg (by
          rintro (h | h); · exact h2 h
          ·exact h h3),decide_eq_true h3]
  simp only[Bool.not_true,cond_false];rw[CE8 b (AW2 hb) (by omega),Option.bind_some]
  by_cases h4:F9 b=0
  ·have e:(F9 b != 0)=false:=by simp[h4]
   rw[if_neg (not_not_intro h4),e];simp only[cond_false];rw[B0 (n:=(b.length:Int)-2) (by omega),decide_eq_true (show (4:Int)≤(b.length:Int)-2 by omega),decide_eq_true (show (b.length:Int)-2≤(b.length:Int) by omega)]
   simp only[Bool.and_self,D3];rw[show ((b.length:Int)-2).toNat=b.length-2 by omega]
   have hby:=ET6 (An3 hb (b.length-2)) 4;have hln:((b.take (b.length-2)).drop 4).length≤140737488355328:=by rw[List.length_drop,List.length_take];omega
   generalize (b.take (b.length-2)).drop 4=y at*;rw[CG1 200 (y,false) hby hln,Option.bind_some];have hs:=AW4 2 200 (y,false);have hr:=Ae8 2 200 (by decide) (y,false) hby
   unfold An4;generalize N0 2 200 (y,false)=c at*;have hby:=P0 hby hs;have hln:=Nat.le_trans hs.length_le hln;obtain⟨k,hk⟩:∃k:Nat,c.1=k:=⟨c.1.toNat,by omega⟩
   simp only[];rw[hk,EU7 k (by omega) c.2 hby hln,Option.bind_some,Int.toNat_natCast]
   have hs:=u3 K4 BU3 c.2 k;have hfew:∀s∈(B9 K4 k c.2).1,s.2.1.length≤big∧s.2.2.length≤big:=CG5 _ K4 BU3 (fun x hx=>by have:=EV2 x hx;unfold big;omega) c.2 hby k
   generalize B9 K4 k c.2=p at*;have hby:=P0 hby hs;have hln:=Nat.le_trans hs.length_le hln;rw[CG1 400 p.2 hby hln,Option.bind_some];have hs:=AW4 2 400 p.2;have hr:=Ae8 2 400 (by decide) p.2 hby
   generalize N0 2 400 p.2=d at*;have hby:=P0 hby hs;have hln:=Nat.le_trans hs.length_le hln;obtain⟨m,hm⟩:∃m:Nat,d.1=m:=⟨d.1.toNat,by omega⟩
   rw[hm,EU8 m (by omega) d.2 hby hln,Option.bind_some,Int.toNat_natCast]
   have hs:=u3 N1 CG2 d.2 m;generalize B9 N1 m d.2=g at*;by_cases h5:g.2.2=true∨g.2.1≠[]
   ·rw[if_pos h5]
    have e:(bif g.2.2 then true else decide ((0:Int)<(g.2.1.length:Int)))=true:=by
     rcases h5 with h5 | h5
     ·rw[h5];rfl
     ·have:=List.length_pos_iff.2 h5
      rw[decide_eq_true (by omega)];cases g.2.2 <;> rfl
    rw[e];rfl
   ·rw[if_neg h5]
    have e:(bif g.2.2 then true else decide ((0:Int)<(g.2.1.length:Int)))=false:=by
     have h6:¬g.2.2=true:=fun h=>h5 (.inl h)
     have h7:g.2.1=[]:=Classical.byContradiction fun h=>h5 (.inr h)
     rw[h7,show g.2.2=false by simpa using h6]
     rfl
    rw[e];simp only[cond_false];rw[CD7 (p.1,g.1) (fun _ s hs=>hfew s hs),Option.bind_some]
    by_cases h8:(O7 (p.1,g.1)).1=0
    ·have e:((O7 (p.1,g.1)).1 != 0)=false:=by simp[h8]
     rw[if_neg (not_not_intro h8),e];rfl
    ·have e:((O7 (p.1,g.1)).1 != 0)=true:=by simp[h8]
     rw[if_pos h8,e];rfl
  ·have e:(F9 b != 0)=true:=by simp[h4]
   rw[if_pos h4,e];rfl
 ·rw[if_pos (.inr h3),decide_eq_false h3]
  rfl
end Go.Proofs.YthfjpkdadjemcaaGreat

/- Images: what the document's readers say. -/
set_option linter.unusedSimpArgs false
set_option linter.unusedVariables false
namespace Go.Proofs.YthfjpkdadjemcaaGreat
open Go.RowKit
end Go.Proofs.YthfjpkdadjemcaaGreat

/- Images: what the document opens. -/
set_option linter.unusedSimpArgs false
set_option linter.unusedVariables false
namespace Go.Proofs.YthfjpkdadjemcaaGreat
open Go.RowKit
end Go.Proofs.YthfjpkdadjemcaaGreat

/- Images: what is put together, on both sides. -/
set_option linter.unusedSimpArgs false
set_option linter.unusedVariables false
namespace Go.Proofs.YthfjpkdadjemcaaGreat
open Go.RowKit
def u4 (p:Int×Int):List Int:=D4 p.1 8++D4 p.2 4
def Y7 (s:Sg):List Int:=D4 s.1 8++D4 (s.2.1.length:Int) 1++s.2.1.flatMap u4++D4 (s.2.2.length:Int) 1++s.2.2.flatMap (D4 · 1)
def Y8 (g:Gp):List Int:=D4 g.1 2++D4 g.2.1 1++D4 g.2.2.1 8++D4 g.2.2.2.1 4++D4 g.2.2.2.2 4
def BC7 (t:Tk):List Int:=D4 (t.1.length:Int) 2++t.1.flatMap Y7++D4 (t.2.length:Int) 2++t.2.flatMap Y8
def AO0 (t:Tk):List Int:=AE0++BC7 t
def I4 (b:List Int):List Int:=b++[F9 b/256,F9 b % 256]
theorem BC8 (b:List Int):0≤F9 b∧F9 b≤65535:=by have:=(O8 b b.length).isLt;unfold F9;omega
theorem BU4 {b:List Int}(hb:ByL b):ByL (I4 b):=by
 have:=BC8 b;refine U9 hb fun c hc=> ?_
 simp at hc;omega
theorem BC9 {α:Type}{f:α→List Int}(hf:∀a,ByL (f a))(l:List α):ByL (l.flatMap f):=by intro c hc;obtain⟨a,_,h⟩:=List.mem_flatMap.1 hc;exact hf a c h
theorem EV5 (p:Int×Int):ByL (u4 p):=U9 (W3 _ _) (W3 _ _)
theorem EV6 (s:Sg):ByL (Y7 s):=U9 (U9 (U9 (U9 (W3 _ _) (W3 _ _)) (BC9 EV5 _)) (W3 _ _)) (BC9 (fun n=>W3 1 n) _)
theorem EV7 (g:Gp):ByL (Y8 g):=U9 (U9 (U9 (U9 (W3 _ _) (W3 _ _)) (W3 _ _)) (W3 _ _)) (W3 _ _)
theorem EV8 (t:Tk):ByL (BC7 t):=U9 (U9 (U9 (W3 _ _) (BC9 EV6 _)) (W3 _ _)) (BC9 EV7 _)
theorem CG7 (t:Tk):ByL (AO0 t):=U9 CG6 (EV8 t)
theorem Ae9 {α:Type}{f:α→List Int}(n:Nat):∀(l:List α),(∀a∈l,(f a).length≤n)→(l.flatMap f).length≤l.length*n
 | [],_=>by simp
 |a::l,h=>by
  rw[List.flatMap_cons,List.length_append,List.length_cons,Nat.succ_mul];have h1:=h a (by simp)
  have h2:=Ae9 n l fun b hb=>h b (by simp[hb])
  omega
theorem CG8 (p:Int×Int):(u4 p).length=12:=by simp[u4,G5]
theorem CG9 (g:Gp):(Y8 g).length=19:=by simp[Y8,G5]
theorem CH0 (s:Sg)(h1:s.2.1.length≤64)(h2:s.2.2.length≤2):(Y7 s).length≤780:=by
 have e1:=Ae9 (f:=u4) 12 s.2.1 fun p _=>by rw[CG8];exact Nat.le_refl _
 have e2:=Ae9 (f:=(D4 · 1)) 1 s.2.2 fun p _=>by rw[G5];exact Nat.le_refl _
 unfold Y7;simp only[List.length_append,G5];omega
def Few (t:Tk):Prop:=t.1.length≤200∧t.2.length≤400∧∀s∈t.1,s.2.1.length≤64∧s.2.2.length≤2
theorem BD0 {α:Type}{f:α→List Int}(n k:Nat)(l:List α)(h:∀a∈l,(f a).length≤n):((l.take k).flatMap f).length≤l.length*n:=by
 have h1:=Ae9 n (l.take k) fun a ha=>h a (List.mem_of_mem_take ha)
 have h2:(l.take k).length*n≤l.length*n:=Nat.mul_le_mul_right n (by rw[List.length_take];omega)
 omega
theorem EV9 {t:Tk}(h:Few t):(AO0 t).length≤200000:=by
 obtain⟨h1,h2,h3⟩:=h;have e1:=Ae9 (f:=Y7) 780 t.1 fun s hs=>CH0 s (h3 s hs).1 (h3 s hs).2
 have e2:=Ae9 (f:=Y8) 19 t.2 fun g _=>by rw[CG9];exact Nat.le_refl _
 unfold AO0 BC7 AE0;simp only[List.length_append,G5,List.length_cons,List.length_nil];omega
theorem BD1 {α:Type}(f:α→List Int){l:List α}{k:Nat}(d:α)(h:k<l.length):(l.take (k+1)).flatMap f=(l.take k).flatMap f++f (l.getD k d):=by rw[← Ae6 (d:=d) h,List.flatMap_append];simp
theorem BD2 {t:Tk}(h:(O7 t).1=0):1≤t.1.length∧t.1.length≤200∧t.2.length≤400∧(∀i,i<t.1.length→Q7 t.1.length (t.1.getD i sg0)=true)∧∀i,i<t.2.length→Q8 t i (t.2.getD i gp0)=true:=by
 unfold O7 at h;by_cases h1:t.1.length=0∨200<t.1.length∨400<t.2.length
 ·rw[if_pos h1] at h;exact absurd h (by decide)
 ·rw[if_neg h1] at h
  cases h2:r8 (fun i=>Q7 t.1.length (t.1.getD i sg0)) t.1.length with
  |some i=>rw [h2] at h;have h':(11:Int)=0:=h;omega
  |none=>
   rw[h2] at h;cases h3:r8 (fun i=>Q8 t i (t.2.getD i gp0)) t.2.length with
   |some i=>rw [h3] at h;have h':(16:Int)=0:=h;omega
   |none=>exact ⟨by omega,by omega,by omega,CD6.1 h2,CD6.1 h3⟩
theorem CH1 {t:Tk}(h:(O7 t).1=0):∀s∈t.1,Q7 t.1.length s=true:=by
 intro s hs;obtain⟨i,hi,rfl⟩:=List.mem_iff_getElem.1 hs;have:=(BD2 h).2.2.2.1 i hi
 rwa [P7 hi] at this
theorem EW0 {t:Tk}(h:(O7 t).1=0):∀g∈t.2,∃i,Q8 t i g=true:=by intro s hs;obtain⟨i,hi,rfl⟩:=List.mem_iff_getElem.1 hs;have:=(BD2 h).2.2.2.2 i hi;rw[P7 hi] at this;exact⟨i,this⟩
theorem EW1 {t:Tk}(h:(O7 t).1=0):Few t:=by
 obtain⟨_,h1,h2,_,_⟩:=BD2 h;refine⟨h1,h2,fun s hs=> ?_⟩
 have:=CH1 h s hs;unfold Q7 AH8 at this;simp only[Bool.and_eq_true,decide_eq_true_eq] at this;omega
end Go.Proofs.YthfjpkdadjemcaaGreat

/- Images: what the document puts together. -/
set_option linter.unusedSimpArgs false
set_option linter.unusedVariables false
namespace Go.Proofs.YthfjpkdadjemcaaGreat
open Go.RowKit
theorem BU5:∀(k:Nat) (X:List Int) (a:Int),(List.replicate (k+1) (0:Int)++X).set k a=List.replicate k 0++a::X
 |0,X,a=>rfl
 |k+1,X,a=>by rw[List.replicate_succ,List.cons_append,List.set_cons_succ,BU5 k X a];rfl
theorem CH2 (v:Int)(n j:Nat)(h:j<n):(D4 v n).drop j=v/256 ^ (n-1-j) % 256::(D4 v n).drop (j+1):=by
 have hl:j<(D4 v n).length:=by rw[G5];exact h
 rw[List.drop_eq_getElem_cons hl];simp[D4]
theorem EW2 (v m:Int)(hm:0<m):(-1-v)/m = -1-v/m:=by
 have h1:=Int.emod_nonneg v (Int.ne_of_gt hm);have h2:=Int.emod_lt_of_pos v hm;have h3:=Int.mul_ediv_add_emod v m;have e : -1-v=m*(-1-v/m)+(m-1-v % m):=by rw[Int.mul_sub];omega
 rw[e,Int.add_comm,Int.add_mul_ediv_left _ _ (Int.ne_of_gt hm),Int.ediv_eq_zero_of_lt (by omega) (by omega),Int.zero_add]
theorem CH3 (v:Int)(k:Nat):v/256 ^ k/256=v/256 ^ (k+1):=by rw[Int.pow_succ,Int.ediv_ediv_of_nonneg (Int.le_of_lt (Int.pow_pos (by decide)))]
theorem div_le_self {w m:Int}(hw:0≤w)(hm:0<m):0≤w/m∧w/m≤w:=
 ⟨Int.ediv_nonneg hw (by omega),Int.ediv_le_self m hw⟩
theorem AI1 (v:Int)(hv:I64 v)(n:Nat)(hn:n≤8):T9 v (n:Int)=some (D4 v n):=by
 obtain⟨v1,v2⟩:=hv;unfold T9;rw[decide_eq_true (show (0:Int)≤(n:Int) by omega),decide_eq_true (show (n:Int)≤(n:Int) by omega),decide_eq_true (show (n:Int)*1≤140737488355328 by omega),decide_eq_true (show (n:Int)≤140737488355328 by omega)]
 simp only[Bool.and_self,D3];rw[B0 (n:=(n:Int)-1) (by omega),Int.toNat_natCast]
 have hend:List.replicate (n-n) (0:Int)++(D4 v n).drop (n-n)=D4 v n:=by simp
 by_cases hneg:v<0
 ·rw[decide_eq_true hneg,B0 (n := -1-v) (by omega)]
  simp only[cond_true];obtain⟨w,hw⟩:∃w, -1-v=w:=⟨_,rfl⟩;have hw0:0≤w:=by omega
  have hw1:w≤9223372036854775807:=by omega
  rw[hw,show (((n:Int)-1,List.replicate n (0:Int),w):Int×List Int×Int)=((n:Int)-1-((0:Nat):Int),List.replicate (n-0) (0:Int)++(D4 v n).drop (n-0),w/256 ^ 0) by
   simp[G5]]
  rw[Q9 (n:=n) (st:=fun k=>((n:Int)-1-(k:Int),List.replicate (n-k) (0:Int)++(D4 v n).drop (n-k),w/256 ^ k)) (x:=List.replicate (n-n) (0:Int)++(D4 v n).drop (n-n))]
  ·rw[hend];rfl
  ·intro k hk
   simp only[];have hp:(0:Int)<256 ^ k:=Int.pow_pos (by decide)
   have hq:=div_le_self hw0 hp;have hcell:255-w/256 ^ k % 256=v/256 ^ k % 256:=by rw[← hw,EW2 v _ hp];omega
   rw[decide_eq_true (show (0:Int)≤(n:Int)-1-(k:Int) by omega)]
   rw[Int.tmod_eq_emod_of_nonneg hq.1,Int.tdiv_eq_ediv_of_nonneg hq.1,hcell,CH3];have hq2:=div_le_self hw0 (show (0:Int)<256 ^ (k+1) from Int.pow_pos (by decide))
   rw[B0 (n:=v/256 ^ k % 256) (by omega),B0 (n:=w/256 ^ (k+1)) (by omega),B0 (n:=(n:Int)-1-(k:Int)-1) (by omega)]
   have hu:IntKind.u8.wrap (v/256 ^ k % 256)=v/256 ^ k % 256:=by simp[IntKind.wrap,IntKind.signed,IntKind.bits]
   rw[hu];have hll:(List.replicate (n-k) (0:Int)++(D4 v n).drop (n-k)).length=n:=by rw[List.length_append,List.length_replicate,List.length_drop,G5];omega
   rw[hll,decide_eq_true (show (n:Int)-1-(k:Int)<(n:Int) by omega),show ((n:Int)-1-(k:Int)).toNat=n-1-k by omega]
   simp only[cond_true,Bool.and_self,D3];rw[show n-k=(n-1-k)+1 by omega,BU5,show n-(k+1)=n-1-k by omega,CH2 v n (n-1-k) (by omega),show n-1-(n-1-k)=k by omega]
   refine congrArg some (congrArg Sum.inl ?_);simp only[Prod.mk.injEq,and_true];omega
  ·simp only[]
   rw[decide_eq_false (by omega)]
   rfl
 ·rw[decide_eq_false hneg]
  simp only[cond_false];have hw0:0≤v:=by omega
  rw[show ((List.replicate n (0:Int),(n:Int)-1,v):List Int×Int×Int)=(List.replicate (n-0) (0:Int)++(D4 v n).drop (n-0),(n:Int)-1-((0:Nat):Int),v/256 ^ 0) by
   simp[G5]]
  rw[Q9 (n:=n) (st:=fun k=>(List.replicate (n-k) (0:Int)++(D4 v n).drop (n-k),(n:Int)-1-(k:Int),v/256 ^ k)) (x:=List.replicate (n-n) (0:Int)++(D4 v n).drop (n-n))]
  ·rw[hend];rfl
  ·intro k hk
   simp only[];have hp:(0:Int)<256 ^ k:=Int.pow_pos (by decide)
   have hq:=div_le_self hw0 hp;rw[decide_eq_true (show (0:Int)≤(n:Int)-1-(k:Int) by omega)]
   rw[Int.tmod_eq_emod_of_nonneg hq.1,Int.tdiv_eq_ediv_of_nonneg hq.1,CH3];have hq2:=div_le_self hw0 (show (0:Int)<256 ^ (k+1) from Int.pow_pos (by decide))
   rw[B0 (n:=v/256 ^ (k+1)) (by omega),B0 (n:=(n:Int)-1-(k:Int)-1) (by omega)]
   have hu:IntKind.u8.wrap (v/256 ^ k % 256)=v/256 ^ k % 256:=by simp[IntKind.wrap,IntKind.signed,IntKind.bits]
   rw[hu];have hll:(List.replicate (n-k) (0:Int)++(D4 v n).drop (n-k)).length=n:=by rw[List.length_append,List.length_replicate,List.length_drop,G5];omega
   rw[hll,decide_eq_true (show (n:Int)-1-(k:Int)<(n:Int) by omega),show ((n:Int)-1-(k:Int)).toNat=n-1-k by omega]
   simp only[cond_true,Bool.and_self,D3];rw[show n-k=(n-1-k)+1 by omega,BU5,show n-(k+1)=n-1-k by omega,CH2 v n (n-1-k) (by omega),show n-1-(n-1-k)=k by omega]
   refine congrArg some (congrArg Sum.inl ?_);simp only[Prod.mk.injEq,and_true,true_and];omega
  ·simp only[]
   rw[decide_eq_false (by omega)]
   rfl
theorem EW3 (v:Int):D4 v 1=[v % 256]:=by simp[D4]
theorem wrap_u8 (v:Int):[IntKind.u8.wrap v]=D4 v 1:=by rw[EW3];simp[IntKind.wrap,IntKind.signed,IntKind.bits]
def Af0 (t:Tk):Prop:=(∀s∈t.1,I64 s.1∧∀p∈s.2.1,I64 p.1∧I64 p.2)∧∀g∈t.2,I64 g.1∧I64 g.2.2.1∧I64 g.2.2.2.1∧I64 g.2.2.2.2
theorem EW4 (t:Tk)(hf:Few t)(hN:Af0 t):AK4 t=some (I4 (AO0 t)):=by
 obtain⟨w1,w2,w3⟩:=hf;obtain⟨n1,n2⟩:=hN;have hf:Few t:=⟨w1,w2,w3⟩;unfold AK4;have hm:([(79:Int),(68:Int),(79:Int),(49:Int)]:List Int)=AE0:=rfl;have lseg:=fun k=>BD0 (f:=Y7) 780 k t.1 fun s hs=>CH0 s (w3 s hs).1 (w3 s hs).2
 have lgrp:=fun k=>BD0 (f:=Y8) 19 k t.2 fun g _=>by rw[CG9];exact Nat.le_refl _
 have hlm:AE0.length=4:=rfl;rw[hm,show (2:Int)=((2:Nat):Int) from rfl,AI1 _ ⟨by omega,by omega⟩ 2 (by decide),Option.bind_some,G5,hlm,decide_eq_true (show (4+2)*1≤140737488355328 by decide)]
 simp only[D3];obtain⟨A,hA⟩:∃A,AE0++D4 (t.1.length:Int) 2=A:=⟨_,rfl⟩;have hAl:A.length=6:=by rw[← hA,List.length_append,G5];rfl
 rw[hA,show (((0:Int),A):Int×List Int)=(((0:Nat):Int),A++(t.1.take 0).flatMap Y7) by simp]
 rw[Q9 (n:=t.1.length) (st:=fun k=>((k:Int),A++(t.1.take k).flatMap Y7)) (x:=A++t.1.flatMap Y7)]
 ·have lall:=lseg t.1.length
  rw[List.take_length] at lall;simp only[Option.bind_some];rw[AI1 _ ⟨by omega,by omega⟩ 2 (by decide),Option.bind_some,G5,decide_eq_true (by rw[List.length_append];omega)]
  simp only[D3];obtain⟨C,hC⟩:∃C,A++t.1.flatMap Y7++D4 (t.2.length:Int) 2=C:=⟨_,rfl⟩;have hCl:C.length≤160000:=by rw[← hC,List.length_append,List.length_append,G5];omega
  rw[hC,show (((0:Int),C):Int×List Int)=(((0:Nat):Int),C++(t.2.take 0).flatMap Y8) by simp]
  rw[Q9 (n:=t.2.length) (st:=fun k=>((k:Int),C++(t.2.take k).flatMap Y8)) (x:=C++t.2.flatMap Y8)]
  ·simp only[Option.bind_some]
   have hi:C++t.2.flatMap Y8=AO0 t:=by rw[← hC,← hA];unfold AO0 BC7;simp only[List.append_assoc]
   have hby:=CG7 t;have hil:=EV9 hf;rw[hi];generalize AO0 t=b at*;rw[CE9 b (AW2 hby) (by omega),Option.bind_some]
   have hcr:=BC8 b;rw[Int.tdiv_eq_ediv_of_nonneg hcr.1,Int.tmod_eq_emod_of_nonneg hcr.1,B0 (n:=F9 b/256) (by omega)]
   have e1:IntKind.u8.wrap (F9 b/256)=F9 b/256:=by simp[IntKind.wrap,IntKind.signed,IntKind.bits];omega
   have e2:IntKind.u8.wrap (F9 b % 256)=F9 b % 256:=by simp[IntKind.wrap,IntKind.signed,IntKind.bits]
   rw[e1,e2,decide_eq_true (by simp;omega)]
   rfl
  ·intro k hk
   simp only[];have hlk:=lgrp k;rw[decide_eq_true (show (k:Int)<(t.2.length:Int) by omega),decide_eq_true (show (0:Int)≤(k:Int) by omega),Int.toNat_natCast,B0 (n:=(k:Int)+1) (by omega)]
   simp only[cond_true,Bool.and_self,D3];have hg:t.2.getD k ((0:Int),((0:Int),((0:Int),((0:Int),(0:Int)))))=t.2.getD k gp0:=rfl;have hmem:t.2.getD k gp0∈t.2:=by rw[P7 hk];exact List.getElem_mem hk
   have hn:=n2 _ hmem;rw[hg,BD1 Y8 gp0 hk];generalize t.2.getD k gp0=g at*;generalize (t.2.take k).flatMap Y8=G at*;have hG:(C++G).length≤200000:=by rw[List.length_append];omega
   rw[← List.append_assoc];generalize C++G=H at*;rw[AI1 _ hn.1 2 (by decide),Option.bind_some,G5,decide_eq_true (by omega)]
   simp only[D3];rw[wrap_u8,G5,decide_eq_true (by simp only[List.length_append,G5];omega)]
   simp only[D3];rw[show (8:Int)=((8:Nat):Int) from rfl,AI1 _ hn.2.1 8 (by decide),Option.bind_some,G5,decide_eq_true (by simp only[List.length_append,G5];omega)]
   simp only[D3];rw[show (4:Int)=((4:Nat):Int) from rfl,AI1 _ hn.2.2.1 4 (by decide),Option.bind_some,G5,decide_eq_true (by simp only[List.length_append,G5];omega)]
   simp only[D3];rw[AI1 _ hn.2.2.2 4 (by decide),Option.bind_some,G5,decide_eq_true (by simp only[List.length_append,G5];omega)]
   simp only[D3];unfold Y8;simp only[List.append_assoc];rfl
  ·simp only[]
   rw[decide_eq_false (by omega),List.take_length]
   rfl
 ·intro k hk
  simp only[];have hlk:=lseg k;rw[decide_eq_true (show (k:Int)<(t.1.length:Int) by omega),decide_eq_true (show (0:Int)≤(k:Int) by omega),Int.toNat_natCast,B0 (n:=(k:Int)+1) (by omega)]
  simp only[cond_true,Bool.and_self,D3];have hg:t.1.getD k ((0:Int),([],[]))=t.1.getD k sg0:=rfl;have hmem:t.1.getD k sg0∈t.1:=by rw[P7 hk];exact List.getElem_mem hk
  have hw:=w3 _ hmem;have hn:=n1 _ hmem;rw[hg,BD1 Y7 sg0 hk];generalize t.1.getD k sg0=s at*;generalize (t.1.take k).flatMap Y7=G at*;have hG:(A++G).length≤156100:=by rw[List.length_append];omega
  rw[← List.append_assoc];generalize A++G=H at*;have lp:=fun j=>BD0 (f:=u4) 12 j s.2.1 fun p _=>by rw[CG8];exact Nat.le_refl _
  have ln:=fun j=>BD0 (f:=(D4 · 1)) 1 j s.2.2 fun p _=>by rw[G5];exact Nat.le_refl _
  rw[show (8:Int)=((8:Nat):Int) from rfl,AI1 _ hn.1 8 (by decide),Option.bind_some,G5,decide_eq_true (by omega)]
  simp only[D3];rw[wrap_u8,G5,decide_eq_true (by simp only[List.length_append,G5];omega)]
  simp only[D3];obtain⟨D,hD⟩:∃D,H++D4 s.1 8++D4 (s.2.1.length:Int) 1=D:=⟨_,rfl⟩;have hDl:D.length≤157000:=by rw[← hD];simp only[List.length_append,G5];omega
  rw[hD,show ((D,(0:Int)):List Int×Int)=(D++(s.2.1.take 0).flatMap u4,((0:Nat):Int)) by simp]
  rw[Q9 (n:=s.2.1.length) (st:=fun k=>(D++(s.2.1.take k).flatMap u4,(k:Int))) (x:=D++s.2.1.flatMap u4)]
  ·have lall:=lp s.2.1.length
   rw[List.take_length] at lall;simp only[Option.bind_some];rw[wrap_u8,G5,decide_eq_true (by rw[List.length_append];omega)]
   simp only[D3];obtain⟨E,hE⟩:∃E,D++s.2.1.flatMap u4++D4 (s.2.2.length:Int) 1=E:=⟨_,rfl⟩;have hEl:E.length≤160000:=by rw[← hE,List.length_append,List.length_append,G5];omega
   rw[hE,show (((0:Int),E):Int×List Int)=(((0:Nat):Int),E++(s.2.2.take 0).flatMap (D4 · 1)) by simp]
   rw[Q9 (n:=s.2.2.length) (st:=fun k=>((k:Int),E++(s.2.2.take k).flatMap (D4 · 1))) (x:=E++s.2.2.flatMap (D4 · 1))]
   ·simp only[Option.bind_some]
    rw[← hE,← hD];unfold Y7;simp only[List.append_assoc];rfl
   ·intro j hj
    simp only[];have hlj:=ln j;rw[decide_eq_true (show (j:Int)<(s.2.2.length:Int) by omega),decide_eq_true (show (0:Int)≤(j:Int) by omega),Int.toNat_natCast,B0 (n:=(j:Int)+1) (by omega)]
    simp only[cond_true,Bool.and_self,D3];rw[BD1 (D4 · 1) 0 hj,wrap_u8,G5,decide_eq_true (by simp only[List.length_append];omega),List.append_assoc]
    rfl
   ·simp only[]
    rw[decide_eq_false (by omega),List.take_length]
    rfl
  ·intro j hj
   simp only[];have hlj:=lp j;have hpm:s.2.1.getD j ((0:Int),(0:Int))∈s.2.1:=by rw[P7 hj];exact List.getElem_mem hj
   have hpn:=hn.2 _ hpm;rw[decide_eq_true (show (j:Int)<(s.2.1.length:Int) by omega),decide_eq_true (show (0:Int)≤(j:Int) by omega),Int.toNat_natCast,B0 (n:=(j:Int)+1) (by omega)]
   simp only[cond_true,Bool.and_self,D3];rw[BD1 u4 ((0:Int),(0:Int)) hj,AI1 _ hpn.1 8 (by decide),Option.bind_some,G5,decide_eq_true (by simp only[List.length_append];omega)]
   simp only[D3];rw[show (4:Int)=((4:Nat):Int) from rfl,AI1 _ hpn.2 4 (by decide),Option.bind_some,G5,decide_eq_true (by simp only[List.length_append,G5];omega)]
   simp only[D3];unfold u4;simp only[List.append_assoc];rfl
  ·simp only[]
   rw[decide_eq_false (by omega),List.take_length]
   rfl
 ·simp only[]
  rw[decide_eq_false (by omega),List.take_length]
  rfl
end Go.Proofs.YthfjpkdadjemcaaGreat
