/- Images: the bytes of numbers. -/
import Derived.Test.YthfjpkdadjemcaaGreatPlain
import Derived.Test.YthfjpkdadjemcaaGreatFnsF3
import Derived.Test.YthfjpkdadjemcaaGreatLoopF
import Derived.Test.YthfjpkdadjemcaaGreatTrM
import Derived.Test.YthfjpkdadjemcaaGreatCrcM
set_option linter.unusedSimpArgs false
set_option linter.unusedVariables false
namespace Go.Proofs.YthfjpkdadjemcaaGreat
open _root_.Option renaming bind_some → FU5
open _root_.List renaming length_append → FU6, replicate → FU8, append_assoc → FV1, take_length → FV2, length_singleton → FV4, length_take → FV5, getElem_mem → FW2, drop_eq_getElem_cons → FW4, length_drop → FW5, length_replicate → FW6, mem_of_mem_take → FW7, mem_iff_getElem → FW8, mem_singleton → FX2
open _root_.Int renaming toNat_natCast → FU7, pow_pos → FV3, tmod_eq_emod_of_nonneg → FV6, tdiv_eq_ediv_of_nonneg → FV7, ediv_ediv_of_nonneg → FW0, pow_succ → FX1, emod_def → FX3, ne_of_gt → FX4, emod_lt_of_pos → FX5
open _root_.Nat renaming le_trans → FU9, le_refl → FW1
open _root_.Bool renaming and_self → FV0, not_true → FW9
open Go.IntKind renaming wrap → FV8, signed → FV9, bits → FW3, wrap_u64 → FX6
open _root_.Array renaming length_toList → FX0
def D4 (v:Int)(n:Nat):List Int:=(List.range n).map fun j=>v/256 ^ (n-1-j) % 256
theorem G3 (v:Int)(n:Nat):(D4 v n).length=n:=by simp[D4]

/- Images: numbers read out of bytes. -/
open Go.RowKit
abbrev Rs:=List Int×Bool
def ByL (l:List Int):Prop:=∀c∈l,0≤c∧c≤255
theorem Ae6 {l:List Int}(h:ByL l):Bytes l:=by
 intro i;by_cases hi:i<l.length
 ·rw[Y3 hi]
  exact h _ (FW2 hi)
 ·rw[List.getD_eq_getElem?_getD,List.getElem?_eq_none (by omega)]
  exact⟨by decide,by decide⟩
theorem Ap2 {l:List Int}(h:ByL l)(n:Nat):ByL (l.take n):=fun c hc=>h c (FW7 hc)
theorem ET8 {l:List Int}(h:ByL l)(n:Nat):ByL (l.drop n):=fun c hc=>h c (List.mem_of_mem_drop hc)
theorem U7 {l m:List Int}(h:ByL l)(h':ByL m):ByL (l++m):=fun c hc=>by
 rcases List.mem_append.1 hc with hc | hc
 ·exact h c hc
 ·exact h' c hc
def O9 (l:List Int):Int:=l.foldl (fun v c=>256*v+c) 0
theorem BT2 (l:List Int)(c:Int):O9 (l++[c])=256*O9 l+c:=by simp[O9]
theorem BT3 (v:Int)(n:Nat):D4 v (n+1)=D4 (v/256) n++[v % 256]:=by
 unfold D4;rw[List.range_succ,List.map_append];congr 1
 ·refine List.map_congr_left fun j hj=> ?_
  have hj:=List.mem_range.1 hj;have e:n+1-1-j=(n-1-j)+1:=by omega
  rw[e,FX1,Int.mul_comm,← FW0 (by decide)]
 ·simp
theorem W0:∀(n:Nat) (v:Int),ByL (D4 v n)
 |0,v=>by intro c hc;cases hc
 |n+1,v=>by
  rw[BT3];refine U7 (W0 n _) fun c hc=> ?_
  rw[FX2.1 hc];omega
theorem ET9 (v m:Int)(hm:0<m):v % (m*256)=256*(v/256 % m)+v % 256:=by
 have e:v/(m*256)=v/256/m:=by rw[Int.mul_comm,FW0 (by decide)]
 have h1:=FX3 v (m*256);have h2:=FX3 (v/256) m;have h3:=FX3 v 256;rw[e] at h1;rw[h1,h2,h3,Int.mul_sub,Int.mul_assoc,Int.mul_left_comm m 256];omega
theorem CI3:∀(n:Nat) (v:Int),O9 (D4 v n)=v % 256 ^ n
 |0,v=>by simp[D4,O9]
 |n+1,v=>by rw[BT3,BT2,CI3 n,FX1,ET9 _ _ (FV3 (by decide))]
theorem CI4:∀(n:Nat) (l:List Int),ByL l→l.length=n→D4 (O9 l) n=l
 |0,l,_,h=>by rw[List.length_eq_zero_iff.1 h];rfl
 |n+1,l,hb,h=>by
  have hne:l≠[]:=by intro h0;rw[h0] at h;cases h
  obtain⟨m,c,rfl⟩:∃m c,l=m++[c]:=⟨l.dropLast,l.getLast hne,(List.dropLast_concat_getLast hne).symm⟩;have hc:=hb c (by simp)
  rw[BT2,BT3,show (256*O9 m+c)/256=O9 m by omega,show (256*O9 m+c) % 256=c by omega]
  rw[CI4 n m (fun d hd=>hb d (by simp[hd])) (by simp at h;omega)]
theorem CI5 {l:List Int}(hb:ByL l):0≤O9 l∧O9 l<256 ^ l.length:=by have h:=CI3 l.length (O9 l);rw[CI4 _ l hb rfl] at h;rw[h];exact⟨Int.emod_nonneg _ (FX4 (FV3 (by decide))),FX5 _ (FV3 (by decide))⟩
def sgn (n:Nat)(u:Int):Int:=if 128*256 ^ (n-1)≤u then u-256 ^ n else u
def D1 (n:Nat)(s:Bool)(x:Rs):Int×Rs:=
 if x.2=true∨x.1.length<n then (0,x.1,true) else (bif s then sgn n (O9 (x.1.take n)) else O9 (x.1.take n),x.1.drop n,false)
theorem R7 (n:Nat)(s:Bool)(x:Rs):(D1 n s x).2.1 <:+ x.1:=by
 unfold D1;split
 ·exact List.suffix_refl _
 ·exact List.drop_suffix _ _
theorem P6 {l m:List Int}(h:ByL m)(hs:l <:+ m):ByL l:=fun c hc=>h c (hs.subset hc)

/- Images: what the readers of both sides say. -/
theorem EU0 (n:Int):IntKind.i32.wrap n=(n+2147483648) % 4294967296-2147483648:=by
 have e:IntKind.i32.wrap n=if n % 4294967296≥2147483648 then n % 4294967296-4294967296 else n % 4294967296:=by
  unfold FV8;simp only[Bool.and_eq_true,decide_eq_true_eq];have h0:IntKind.i32.signed=true:=rfl;have h1:(2:Int) ^ IntKind.i32.bits=4294967296:=by decide
  have h2:(2:Int) ^ (IntKind.i32.bits-1)=2147483648:=by decide
  simp only[h0,h1,h2,true_and]
 rw[e];split <;> omega
theorem CI6 {i k:Nat}(h:i≤k):(256:Int) ^ i≤256 ^ k:=by
 have h2:=Nat.pow_le_pow_right (n:=256) (by decide) h
 have h3:((256 ^ i:Nat):Int)≤((256 ^ k:Nat):Int):=Int.ofNat_le.2 h2;rw[Int.natCast_pow,Int.natCast_pow] at h3;exact h3
theorem orV (a b:Int)(ha:0≤a)(h2:256*a≤18446744073709551615)(hb:0≤b∧b≤255):bits .u64 .or (IntKind.u64.wrap (a*2 ^ 8)) (IntKind.u64.wrap b)=256*a+b:=by
 have e1:IntKind.u64.wrap (a*2 ^ 8)=256*a:=by rw[FX6];omega
 have e2:IntKind.u64.wrap b=b:=by rw[FX6];omega
 rw[e1,e2];exact EP5 (256*a) b 8 (by omega) h2 (by omega) hb.1 (by omega) (by omega)
theorem EU1 {l:List Int}{i:Nat}(hi:i<l.length):O9 (l.take (i+1))=256*O9 (l.take i)+l.getD i 0:=by rw[← BA4 (d:=0) hi,BT2]
theorem CI7 (n:Nat)(h1:1≤n)(h8:n≤8)(x:Rs)(hb:ByL x.1)(hl:x.1.length≤140737488355328):M9 (n:Int) x.1 x.2=some (IntKind.i64.wrap (D1 n false x).1,(D1 n false x).2.1,(D1 n false x).2.2):=by
 obtain⟨x,sh⟩:=x;unfold M9 D1;simp only[] at hb hl ⊢;by_cases hc:sh=true∨x.length<n
 ·rw[if_pos hc]
  have e:(bif sh then true else decide ((x.length:Int)<(n:Int)))=true:=by
   rcases hc with hc | hc
   ·rw[hc];rfl
   ·rw[decide_eq_true (by omega)];cases sh <;> rfl
  rw[e];rfl
 ·rw[if_neg hc]
  have hs:sh=false:=by cases sh with | false=>rfl | true=>exact absurd (.inl rfl) hc
  have hn:n≤x.length:=Nat.le_of_not_lt fun h=>hc (.inr h)
  subst hs;simp only[cond_false];rw[decide_eq_false (show ¬(x.length:Int)<(n:Int) by omega),decide_eq_true (show (0:Int)≤(n:Int) by omega),decide_eq_true (show (n:Int)≤(x.length:Int) by omega),decide_eq_true (show (x.length:Int)≤(x.length:Int) by omega)]
  simp only[cond_false,FV0,D3,FU7,Int.toNat_zero,List.drop_zero,FV2];have hlen:(x.take n).length=n:=by rw[FV5];omega
  generalize hm:x.take n=m at*;have hbm:ByL m:=by rw[← hm];exact Ap2 hb n
  have e0:(((0:Int),(0:Int)):Int×Int)=(((0:Nat):Int),O9 (m.take 0)):=rfl;rw[e0,R5 (n:=n) (st:=fun i=>((i:Int),O9 (m.take i))) (x:=O9 m)]
  ·rfl
  ·intro i hi
   simp only[];have hr:=CI5 (Ap2 hbm i);rw[FV5,Nat.min_eq_left (by omega)] at hr
   have hp:=CI6 (show i≤7 by omega)
   have hp7:(256:Int) ^ 7=72057594037927936:=by decide
   rw[hp7] at hp;have hc':=Ae6 hbm i;rw[decide_eq_true (show (i:Int)<(m.length:Int) by omega),decide_eq_true (show (0:Int)≤(i:Int) by omega),B3 (n:=(i:Int)+1) (by omega),FU7,EU1 (by omega)]
   generalize O9 (m.take i)=v at*;rw[orV v _ hr.1 (by omega) hc']
   simp only[cond_true,FV0,D3];rfl
  ·simp only[]
   rw[decide_eq_false (by omega),List.take_of_length_le (by omega)]
   rfl
theorem BB0 (n:Nat)(x:Rs)(hb:ByL x.1):0≤(D1 n false x).1∧(D1 n false x).1<256 ^ n:=by
 unfold D1;split
 ·exact⟨Int.le_refl 0,FV3 (by decide)⟩
 ·rename_i h
  have h:=CI5 (Ap2 hb n);simp only[cond_false];have e:(x.1.take n).length=n:=by rw[FV5];omega
  rw[e] at h;exact h
theorem BB1 (n:Nat)(h1:1≤n)(h8:n<8)(x:Rs)(hb:ByL x.1)(hl:x.1.length≤140737488355328):M9 (n:Int) x.1 x.2=some (D1 n false x):=by
 rw[CI7 n h1 (by omega) x hb hl]
 have h:=BB0 n x hb;have hp:=CI6 (show n≤7 by omega)
 have hp7:(256:Int) ^ 7=72057594037927936:=by decide
 rw[B3 (by omega)]
theorem CI8 (x:Rs)(hb:ByL x.1)(hl:x.1.length≤140737488355328):M9 1 x.1 x.2=some (D1 1 false x):=BB1 1 (by decide) (by decide) x hb hl
theorem EU2 (x:Rs)(hb:ByL x.1)(hl:x.1.length≤140737488355328):M9 2 x.1 x.2=some (D1 2 false x):=BB1 2 (by decide) (by decide) x hb hl
theorem BT4 (x:Rs)(hb:ByL x.1)(hl:x.1.length≤140737488355328):M9 4 x.1 x.2=some (D1 4 false x):=BB1 4 (by decide) (by decide) x hb hl
theorem CI9 (n:Nat)(x:Rs):(D1 n true x).2=(D1 n false x).2:=by unfold D1;split <;> rfl
theorem CJ0 (n:Nat)(hn:0<n)(x:Rs):(D1 n true x).1=sgn n (D1 n false x).1:=by
 unfold D1;split
 ·unfold sgn
  have hp:(0:Int)<256 ^ (n-1):=FV3 (by decide)
  rw[if_neg (by simp only[];omega)]
 ·rfl
theorem BT5 (x:Rs)(hb:ByL x.1)(hl:x.1.length≤140737488355328):M9 8 x.1 x.2=some (D1 8 true x):=by
 have h:=CI7 8 (by decide) (by decide) x hb hl
 have h2:=BB0 8 x hb;have hw:IntKind.i64.wrap (D1 8 false x).1=(D1 8 true x).1:=by
  rw[CJ0 8 (by decide)]
  unfold sgn;rw[IntKind.wrap_i64];have e1:(256:Int) ^ 8=18446744073709551616:=by decide
  have e2:128*(256:Int) ^ (8-1)=9223372036854775808:=by decide
  rw[e1] at h2 ⊢;rw[e2];split <;> omega
 rw[hw,← CI9] at h;exact h
def K1 (x:Rs):(Int×Int)×Rs:=(((D1 8 true x).1,(D1 4 true (D1 8 true x).2).1),(D1 4 true (D1 8 true x).2).2)
theorem EU3 (x:Rs)(hb:ByL x.1)(hl:x.1.length≤140737488355328):AS2 x.1 x.2=some (K1 x):=by
 unfold AS2 K1;rw[BT5 x hb hl,FU5];have hs:=R7 8 true x;have hb2:=P6 hb hs;have hl2:=hs.length_le;rw[BT4 (D1 8 true x).2 hb2 (by omega),FU5]
 generalize (D1 8 true x).2=y at*;simp only[];have h2:=BB0 4 y hb2;have hw:IntKind.i64.wrap (IntKind.i32.wrap (D1 4 false y).1)=(D1 4 true y).1:=by
  rw[CJ0 4 (by decide)]
  unfold sgn;have e1:(256:Int) ^ 4=4294967296:=by decide
  have e2:128*(256:Int) ^ (4-1)=2147483648:=by decide
  rw[e1] at h2 ⊢;rw[e2];have e3:∀u:Int,IntKind.i32.wrap u=(u+2147483648) % 4294967296-2147483648:=fun u=>EU0 u
  rw[e3,B3 (by omega)]
  split <;> omega
 rw[hw,CI9 4]
def B6 {α:Type}(f:Rs→α×Rs):Nat→Rs→List α×Rs
 |0,x=>([],x)
 |n+1,x=>((B6 f n x).1++[(f (B6 f n x).2).1],(f (B6 f n x).2).2)
theorem AW8 {α:Type}(f:Rs→α×Rs)(x:Rs):∀n,(B6 f n x).1.length=n
 |0=>rfl
 |n+1=>by rw[B6,FU6,AW8 f x n];rfl
theorem r6 {α:Type}(f:Rs→α×Rs)(hf:∀x,(f x).2.1 <:+ x.1)(x:Rs):∀n,(B6 f n x).2.1 <:+ x.1
 |0=>List.suffix_refl _
 |n+1=>(hf _).trans (r6 f hf x n)
theorem BB2 (x:Rs):(K1 x).2.1 <:+ x.1:=(R7 4 true _).trans (R7 8 true x)
theorem EU4 (n:Nat)(hn:n≤1000)(x:Rs)(hb:ByL x.1)(hl:x.1.length≤140737488355328):AS3 (n:Int) x.1 x.2=some (B6 K1 n x):=by
 unfold AS3;rw[show ((0:Int),x.2,([]:List (Int×Int)),x.1)=(((0:Nat):Int),(B6 K1 0 x).2.2,(B6 K1 0 x).1,(B6 K1 0 x).2.1) from rfl];rw[R5 (n:=n) (st:=fun k=>((k:Int),(B6 K1 k x).2.2,(B6 K1 k x).1,(B6 K1 k x).2.1)) (x:=((B6 K1 n x).2.2,(B6 K1 n x).2.1,(B6 K1 n x).1))]
 ·rfl
 ·intro k hk
  simp only[];have hs:=r6 K1 BB2 x k;rw[decide_eq_true (show (k:Int)<(n:Int) by omega),EU3 (B6 K1 k x).2 (P6 hb hs) (FU9 hs.length_le hl),B3 (n:=(k:Int)+1) (by omega)]
  have hle:((B6 K1 k x).1.length+([(K1 (B6 K1 k x).2).1]:List (Int×Int)).length)*16≤140737488355328:=by rw[AW8,FV4];omega
  simp only[cond_true,FU5];rw[decide_eq_true hle];rfl
 ·simp only[]
  rw[decide_eq_false (by omega)]
  rfl
def N5 (x:Rs):Int×Rs:=D1 1 false x
theorem CJ1 (x:Rs):(N5 x).2.1 <:+ x.1:=R7 1 false x
theorem EU5 (x:Rs)(hb:ByL x.1)(hl:x.1.length≤140737488355328):AS4 x.1 x.2=some (N5 x):=by unfold AS4 N5;rw[CI8 x hb hl];rfl
theorem EU6 (n:Nat)(hn:n≤1000)(x:Rs)(hb:ByL x.1)(hl:x.1.length≤140737488355328):AS5 (n:Int) x.1 x.2=some (B6 N5 n x):=by
 unfold AS5;rw[show ((0:Int),x.2,([]:List Int),x.1)=(((0:Nat):Int),(B6 N5 0 x).2.2,(B6 N5 0 x).1,(B6 N5 0 x).2.1) from rfl];rw[R5 (n:=n) (st:=fun k=>((k:Int),(B6 N5 k x).2.2,(B6 N5 k x).1,(B6 N5 k x).2.1)) (x:=((B6 N5 n x).2.2,(B6 N5 n x).2.1,(B6 N5 n x).1))]
 ·rfl
 ·intro k hk
  simp only[];have hs:=r6 N5 CJ1 x k;rw[decide_eq_true (show (k:Int)<(n:Int) by omega),EU5 (B6 N5 k x).2 (P6 hb hs) (FU9 hs.length_le hl),B3 (n:=(k:Int)+1) (by omega)]
  have hle:((B6 N5 k x).1.length+([(N5 (B6 N5 k x).2).1]:List Int).length)*8≤140737488355328:=by rw[AW8,FV4];omega
  simp only[cond_true,FU5];rw[decide_eq_true hle];rfl
 ·simp only[]
  rw[decide_eq_false (by omega)]
  rfl
def N6 (n:Nat)(most:Int)(x:Rs):Int×Rs:=if most<(D1 n false x).1 then (0,(D1 n false x).2.1,true) else D1 n false x
theorem AW9 (n:Nat)(most:Int)(x:Rs):(N6 n most x).2.1 <:+ x.1:=by unfold N6;split <;> exact R7 n false x
theorem Ae7 (n:Nat)(most:Int)(hm:0≤most)(x:Rs)(hb:ByL x.1):0≤(N6 n most x).1∧(N6 n most x).1≤most:=by
 unfold N6;have:=BB0 n x hb;split
 ·exact⟨Int.le_refl _,hm⟩
 ·omega
theorem CJ2 (n:Nat)(h1:1≤n)(h8:n<8)(most:Int)(x:Rs)(hb:ByL x.1)(hl:x.1.length≤140737488355328):Z8 (n:Int) most x.1 x.2=some (N6 n most x):=by
 unfold Z8 N6;rw[BB1 n h1 h8 x hb hl,FU5];by_cases h:most<(D1 n false x).1
 ·rw[if_pos h]
  simp only[];rw[decide_eq_true h];rfl
 ·rw[if_neg h]
  simp only[];rw[decide_eq_false h];rfl
theorem CJ3 (most:Int)(x:Rs)(hb:ByL x.1)(hl:x.1.length≤140737488355328):Z8 1 most x.1 x.2=some (N6 1 most x):=CJ2 1 (by decide) (by decide) most x hb hl
theorem CJ4 (most:Int)(x:Rs)(hb:ByL x.1)(hl:x.1.length≤140737488355328):Z8 2 most x.1 x.2=some (N6 2 most x):=CJ2 2 (by decide) (by decide) most x hb hl
def K2 (x:Rs):Sg×Rs:=
 let a:=D1 8 true x
 let c:=N6 1 64 a.2
 let p:=B6 K1 c.1.toNat c.2
 let d:=N6 1 2 p.2
 let w:=B6 N5 d.1.toNat d.2
 ((a.1,p.1,w.1),w.2)
theorem BT6 (x:Rs):(K2 x).2.1 <:+ x.1:=
 (r6 N5 CJ1 _ _).trans ((AW9 1 2 _).trans ((r6 K1 BB2 _ _).trans ((AW9 1 64 _).trans (R7 8 true x))))
theorem EU7 (x:Rs)(hb:ByL x.1)(hl:x.1.length≤140737488355328):AS6 x.1 x.2=some (K2 x):=by
 unfold AS6 K2;simp only[];rw[BT5 x hb hl,FU5];have hs:=R7 8 true x;generalize D1 8 true x=a at*;have hb:=P6 hb hs;have hl:=FU9 hs.length_le hl;rw[CJ3 64 a.2 hb hl,FU5];have hs:=AW9 1 64 a.2;have hr:=Ae7 1 64 (by decide) a.2 hb
 generalize N6 1 64 a.2=c at*;have hb:=P6 hb hs;have hl:=FU9 hs.length_le hl
 try simp only[]
 obtain⟨k,hk⟩:∃k:Nat,c.1=k:=⟨c.1.toNat,by omega⟩
 rw[hk,EU4 k (by omega) c.2 hb hl,FU5,FU7]
 have hs:=r6 K1 BB2 c.2 k;generalize B6 K1 k c.2=p at*;have hb:=P6 hb hs;have hl:=FU9 hs.length_le hl;rw[CJ3 2 p.2 hb hl,FU5];have hs:=AW9 1 2 p.2;have hr:=Ae7 1 2 (by decide) p.2 hb
 generalize N6 1 2 p.2=d at*;have hb:=P6 hb hs;have hl:=FU9 hs.length_le hl;obtain⟨m,hm⟩:∃m:Nat,d.1=m:=⟨d.1.toNat,by omega⟩
 rw[hm,EU6 m (by omega) d.2 hb hl,FU5,FU7]
def N7 (x:Rs):Gp×Rs:=
 let a:=D1 2 false x
 let b:=D1 1 false a.2
 let c:=D1 8 true b.2
 let d:=D1 4 false c.2
 let e:=D1 4 false d.2
 ((a.1,b.1,c.1,d.1,e.1),e.2)
theorem CJ5 (x:Rs):(N7 x).2.1 <:+ x.1:=
 (R7 4 false _).trans ((R7 4 false _).trans ((R7 8 true _).trans ((R7 1 false _).trans (R7 2 false x))))
theorem EU8 (x:Rs)(hb:ByL x.1)(hl:x.1.length≤140737488355328):AS8 x.1 x.2=some (N7 x):=by
 unfold AS8 N7;simp only[];rw[EU2 x hb hl,FU5];have hs:=R7 2 false x;generalize D1 2 false x=a at*;have hb:=P6 hb hs;have hl:=FU9 hs.length_le hl;rw[CI8 a.2 hb hl,FU5];have hs:=R7 1 false a.2;generalize D1 1 false a.2=b at*;have hb:=P6 hb hs;have hl:=FU9 hs.length_le hl
 try simp only[]
 rw[BT5 b.2 hb hl,FU5];have hs:=R7 8 true b.2;generalize D1 8 true b.2=c at*;have hb:=P6 hb hs;have hl:=FU9 hs.length_le hl;rw[BT4 c.2 hb hl,FU5];have hs:=R7 4 false c.2;generalize D1 4 false c.2=d at*;have hb:=P6 hb hs;have hl:=FU9 hs.length_le hl;rw[BT4 d.2 hb hl,FU5]
theorem EU9 (n:Nat)(hn:n≤1000)(x:Rs)(hb:ByL x.1)(hl:x.1.length≤140737488355328):AS7 (n:Int) x.1 x.2=some (B6 K2 n x):=by
 unfold AS7;rw[show ((0:Int),x.2,([]:List Sg),x.1)=(((0:Nat):Int),(B6 K2 0 x).2.2,(B6 K2 0 x).1,(B6 K2 0 x).2.1) from rfl];rw[R5 (n:=n) (st:=fun k=>((k:Int),(B6 K2 k x).2.2,(B6 K2 k x).1,(B6 K2 k x).2.1)) (x:=((B6 K2 n x).2.2,(B6 K2 n x).2.1,(B6 K2 n x).1))]
 ·rfl
 ·intro k hk
  simp only[];have hs:=r6 K2 BT6 x k;rw[decide_eq_true (show (k:Int)<(n:Int) by omega),EU7 (B6 K2 k x).2 (P6 hb hs) (FU9 hs.length_le hl),B3 (n:=(k:Int)+1) (by omega)]
  have hle:((B6 K2 k x).1.length+([(K2 (B6 K2 k x).2).1]:List Sg).length)*56≤140737488355328:=by rw[AW8,FV4];omega
  simp only[cond_true,FU5];rw[decide_eq_true hle];rfl
 ·simp only[]
  rw[decide_eq_false (by omega)]
  rfl
theorem EV0 (n:Nat)(hn:n≤1000)(x:Rs)(hb:ByL x.1)(hl:x.1.length≤140737488355328):AS9 (n:Int) x.1 x.2=some (B6 N7 n x):=by
 unfold AS9;rw[show ((0:Int),x.2,([]:List Gp),x.1)=(((0:Nat):Int),(B6 N7 0 x).2.2,(B6 N7 0 x).1,(B6 N7 0 x).2.1) from rfl];rw[R5 (n:=n) (st:=fun k=>((k:Int),(B6 N7 k x).2.2,(B6 N7 k x).1,(B6 N7 k x).2.1)) (x:=((B6 N7 n x).2.2,(B6 N7 n x).2.1,(B6 N7 n x).1))]
 ·rfl
 ·intro k hk
  simp only[];have hs:=r6 N7 CJ5 x k;rw[decide_eq_true (show (k:Int)<(n:Int) by omega),EU8 (B6 N7 k x).2 (P6 hb hs) (FU9 hs.length_le hl),B3 (n:=(k:Int)+1) (by omega)]
  have hle:((B6 N7 k x).1.length+([(N7 (B6 N7 k x).2).1]:List Gp).length)*40≤140737488355328:=by rw[AW8,FV4];omega
  simp only[cond_true,FU5];rw[decide_eq_true hle];rfl
 ·simp only[]
  rw[decide_eq_false (by omega)]
  rfl
def Ap3 (x:Rs):Tk×Rs:=
 let c:=N6 2 200 x
 let s:=B6 K2 c.1.toNat c.2
 let d:=N6 2 400 s.2
 let g:=B6 N7 d.1.toNat d.2
 ((s.1,g.1),g.2)
def AD8:List Int:=[79,68,79,49]
def AI7 (b:List Int):Tk×Int:=
 if 1048576<b.length then (([],[]),15)
 else if b.length<6∨b.take 4≠AD8 then (([],[]),11)
 else if F7 b≠0 then (([],[]),31)
 else if (Ap3 ((b.take (b.length-2)).drop 4,false)).2.2=true∨(Ap3 ((b.take (b.length-2)).drop 4,false)).2.1≠[] then (([],[]),14)
 else if (P3 (Ap3 ((b.take (b.length-2)).drop 4,false)).1).1≠0 then (([],[]),51)
 else ((Ap3 ((b.take (b.length-2)).drop 4,false)).1,0)

/- Images: what is opened, on both sides. -/
theorem EV1 (b:ByteArray):∀(k i:Nat) (r:List UInt8),b.size-i=k→ByteArray.toList.loop b i r=r.reverse++b.data.toList.drop i:=by
 intro k
 induction k with
 |zero=>
  intro i r h;rw[ByteArray.toList.loop,if_neg (by omega),List.drop_eq_nil_of_le (by rw[FX0];exact Nat.le_of_sub_eq_zero h),List.append_nil]
 |succ k ih=>
  intro i r h;have hi:i<b.size:=by omega
  rw[ByteArray.toList.loop,if_pos hi,ih (i+1) _ (by omega),List.reverse_cons,FV1]
  congr 1;have hi':i<b.data.toList.length:=by rw[FX0];exact hi
  rw[FW4 hi'];simp only[List.singleton_append,List.cons.injEq,and_true];have hd:i<b.data.size:=hi;show b.data[i]! = _;rw[getElem!_pos b.data i hd,Array.getElem_toList]
theorem CJ6 (l:List Int):(bytesOf l).toList=l.map fun n=>UInt8.ofNat n.toNat:=by show ByteArray.toList.loop (bytesOf l) 0 []=_;rw[EV1 _ _ _ _ rfl];simp[bytesOf]
theorem EV2 {a b:Int}(ha:0≤a∧a≤255)(hb:0≤b∧b≤255)(h:UInt8.ofNat a.toNat=UInt8.ofNat b.toNat):a=b:=by have:=congrArg UInt8.toNat h;simp only[UInt8.toNat_ofNat'] at this;omega
theorem CJ7:∀{l m:List Int},ByL l→ByL m→(l.map fun n=>UInt8.ofNat n.toNat)=(m.map fun n=>UInt8.ofNat n.toNat)→l=m
 | [],[],_,_,_=>rfl
 | [],_::_,_,_,h=>by simp at h
 |_::_,[],_,_,h=>by simp at h
 |a::l,b::m,ha,hb,h=>by simp only[List.map_cons,List.cons.injEq] at h;rw[EV2 (ha a (by simp)) (hb b (by simp)) h.1,CJ7 (fun c hc=>ha c (by simp[hc])) (fun c hc=>hb c (by simp[hc])) h.2]
theorem EV3 {l m:List Int}(hl:ByL l)(hm:ByL m):((bytesOf l).toList==(bytesOf m).toList)=decide (l=m):=by
 rw[CJ6,CJ6];by_cases h:l=m
 ·rw[h,decide_eq_true rfl,beq_self_eq_true]
 ·rw[decide_eq_false h]
  exact beq_false_of_ne fun h'=>h (CJ7 hl hm h')
theorem CJ8 {α:Type}(P:α→Prop)(f:Rs→α×Rs)(hf:∀x,(f x).2.1 <:+ x.1)(hP:∀x,ByL x.1→P (f x).1)(x:Rs)(hb:ByL x.1):∀n,∀a∈(B6 f n x).1,P a
 |0,a,ha=>by cases ha
 |n+1,a,ha=>by
  rcases List.mem_append.1 ha with ha | ha
  ·exact CJ8 P f hf hP x hb n a ha
  ·rw[FX2.1 ha]
   exact hP _ (P6 hb (r6 f hf x n))
theorem EV4 (x:Rs)(hb:ByL x.1):(K2 x).1.2.1.length≤64∧(K2 x).1.2.2.length≤2:=by
 have s1:=R7 8 true x;have h1:=Ae7 1 64 (by decide) (D1 8 true x).2 (P6 hb s1)
 have s2:=AW9 1 64 (D1 8 true x).2;have s3:=r6 K1 BB2 (N6 1 64 (D1 8 true x).2).2 (N6 1 64 (D1 8 true x).2).1.toNat;have h2:=Ae7 1 2 (by decide) (B6 K1 (N6 1 64 (D1 8 true x).2).1.toNat (N6 1 64 (D1 8 true x).2).2).2 (P6 hb (s3.trans (s2.trans s1)))
 constructor
 ·show (B6 K1 _ _).1.length≤64
  rw[AW8];omega
 ·show (B6 N5 _ _).1.length≤2
  rw[AW8];omega
theorem CJ9:ByL AD8:=by unfold AD8;intro c hc;simp at hc;omega
theorem EV5:(⟨#[79,68,79,49]⟩:ByteArray)=bytesOf AD8:=rfl
theorem EV6 (b:List Int)(hb:ByL b):AL5 b=some (AI7 b):=by
 unfold AL5 AI7;by_cases h1:1048576<b.length
 ·rw[if_pos h1,decide_eq_true (show (1048576:Int)<(b.length:Int) by omega)]
  rfl
 rw[if_neg h1,decide_eq_false (show ¬(1048576:Int)<(b.length:Int) by omega)]
 simp only[cond_false];by_cases h2:b.length<6
 ·rw[if_pos (.inl h2),decide_eq_true (show (b.length:Int)<6 by omega)]
  simp only[FW9,Bool.not_false,Bool.or_true,D3,cond_true]
 rw[decide_eq_false (show ¬(b.length:Int)<6 by omega),decide_eq_true (show (4:Int)≤(b.length:Int) by omega)]
 simp only[Bool.not_false,FW9,Bool.or_false,FV0,D3,cond_false];rw[show (4:Int).toNat=4 from rfl,show (0:Int).toNat=0 from rfl,List.drop_zero,EV5,EV3 (Ap2 hb 4) CJ9];by_cases h3:b.take 4=AD8
 ·rw[if_neg (by
          rintro (h | h); · exact h2 h
          ·exact h h3),decide_eq_true h3]
  simp only[FW9,cond_false];rw[CI1 b (Ae6 hb) (by omega),FU5]
  by_cases h4:F7 b=0
  ·have e:(F7 b != 0)=false:=by simp[h4]
   rw[if_neg (not_not_intro h4),e];simp only[cond_false];rw[B3 (n:=(b.length:Int)-2) (by omega),decide_eq_true (show (4:Int)≤(b.length:Int)-2 by omega),decide_eq_true (show (b.length:Int)-2≤(b.length:Int) by omega)]
   simp only[FV0,D3];rw[show ((b.length:Int)-2).toNat=b.length-2 by omega]
   have hby:=ET8 (Ap2 hb (b.length-2)) 4;have hln:((b.take (b.length-2)).drop 4).length≤140737488355328:=by rw[FW5,FV5];omega
   generalize (b.take (b.length-2)).drop 4=y at*;rw[CJ4 200 (y,false) hby hln,FU5];have hs:=AW9 2 200 (y,false);have hr:=Ae7 2 200 (by decide) (y,false) hby
   unfold Ap3;generalize N6 2 200 (y,false)=c at*;have hby:=P6 hby hs;have hln:=FU9 hs.length_le hln;obtain⟨k,hk⟩:∃k:Nat,c.1=k:=⟨c.1.toNat,by omega⟩
   simp only[];rw[hk,EU9 k (by omega) c.2 hby hln,FU5,FU7]
   have hs:=r6 K2 BT6 c.2 k;have hfew:∀s∈(B6 K2 k c.2).1,s.2.1.length≤big∧s.2.2.length≤big:=CJ8 _ K2 BT6 (fun x hx=>by have:=EV4 x hx;unfold big;omega) c.2 hby k
   generalize B6 K2 k c.2=p at*;have hby:=P6 hby hs;have hln:=FU9 hs.length_le hln;rw[CJ4 400 p.2 hby hln,FU5];have hs:=AW9 2 400 p.2;have hr:=Ae7 2 400 (by decide) p.2 hby
   generalize N6 2 400 p.2=d at*;have hby:=P6 hby hs;have hln:=FU9 hs.length_le hln;obtain⟨m,hm⟩:∃m:Nat,d.1=m:=⟨d.1.toNat,by omega⟩
   rw[hm,EV0 m (by omega) d.2 hby hln,FU5,FU7]
   have hs:=r6 N7 CJ5 d.2 m;generalize B6 N7 m d.2=g at*;by_cases h5:g.2.2=true∨g.2.1≠[]
   ·rw[if_pos h5]
    have e:(bif g.2.2 then true else decide ((0:Int)<(g.2.1.length:Int)))=true:=by
     rcases h5 with h5 | h5
     ·rw[h5];rfl
     ·have:=List.length_pos_iff.2 h5
      rw[decide_eq_true (by omega)];cases g.2.2 <;> rfl
    rw[e];rfl
   ·rw[if_neg h5]
    have e:(bif g.2.2 then true else decide ((0:Int)<(g.2.1.length:Int)))=false:=by
     have h6:¬g.2.2=true:=fun h=>h5 (.inl h)
     have h7:g.2.1=[]:=Classical.byContradiction fun h=>h5 (.inr h)
     rw[h7,show g.2.2=false by simpa using h6]
     rfl
    rw[e];simp only[cond_false];rw[CH0 (p.1,g.1) (fun _ s hs=>hfew s hs),FU5]
    by_cases h8:(P3 (p.1,g.1)).1=0
    ·have e:((P3 (p.1,g.1)).1 != 0)=false:=by simp[h8]
     rw[if_neg (not_not_intro h8),e];rfl
    ·have e:((P3 (p.1,g.1)).1 != 0)=true:=by simp[h8]
     rw[if_pos h8,e];rfl
  ·have e:(F7 b != 0)=true:=by simp[h4]
   rw[if_pos h4,e];rfl
 ·rw[if_pos (.inr h3),decide_eq_false h3]
  rfl

/- Images: what the document's readers say. -/

/- Images: what the document opens. -/

/- Images: what is put together, on both sides. -/
def r7 (p:Int×Int):List Int:=D4 p.1 8++D4 p.2 4
def Y4 (s:Sg):List Int:=D4 s.1 8++D4 (s.2.1.length:Int) 1++s.2.1.flatMap r7++D4 (s.2.2.length:Int) 1++s.2.2.flatMap (D4 · 1)
def Y5 (g:Gp):List Int:=D4 g.1 2++D4 g.2.1 1++D4 g.2.2.1 8++D4 g.2.2.2.1 4++D4 g.2.2.2.2 4
def BB3 (t:Tk):List Int:=D4 (t.1.length:Int) 2++t.1.flatMap Y4++D4 (t.2.length:Int) 2++t.2.flatMap Y5
def AP2 (t:Tk):List Int:=AD8++BB3 t
def I5 (b:List Int):List Int:=b++[F7 b/256,F7 b % 256]
theorem BB4 (b:List Int):0≤F7 b∧F7 b≤65535:=by have:=(P4 b b.length).isLt;unfold F7;omega
theorem BT7 {b:List Int}(hb:ByL b):ByL (I5 b):=by
 have:=BB4 b;refine U7 hb fun c hc=> ?_
 simp at hc;omega
theorem BB5 {α:Type}{f:α→List Int}(hf:∀a,ByL (f a))(l:List α):ByL (l.flatMap f):=by intro c hc;obtain⟨a,_,h⟩:=List.mem_flatMap.1 hc;exact hf a c h
theorem EV7 (p:Int×Int):ByL (r7 p):=U7 (W0 _ _) (W0 _ _)
theorem EV8 (s:Sg):ByL (Y4 s):=U7 (U7 (U7 (U7 (W0 _ _) (W0 _ _)) (BB5 EV7 _)) (W0 _ _)) (BB5 (fun n=>W0 1 n) _)
theorem EV9 (g:Gp):ByL (Y5 g):=U7 (U7 (U7 (U7 (W0 _ _) (W0 _ _)) (W0 _ _)) (W0 _ _)) (W0 _ _)
theorem EW0 (t:Tk):ByL (BB3 t):=U7 (U7 (U7 (W0 _ _) (BB5 EV8 _)) (W0 _ _)) (BB5 EV9 _)
theorem CK0 (t:Tk):ByL (AP2 t):=U7 CJ9 (EW0 t)
theorem Ae8 {α:Type}{f:α→List Int}(n:Nat):∀(l:List α),(∀a∈l,(f a).length≤n)→(l.flatMap f).length≤l.length*n
 | [],_=>by simp
 |a::l,h=>by
  rw[List.flatMap_cons,FU6,List.length_cons,Nat.succ_mul];have h1:=h a (by simp)
  have h2:=Ae8 n l fun b hb=>h b (by simp[hb])
  omega
theorem CK1 (p:Int×Int):(r7 p).length=12:=by simp[r7,G3]
theorem CK2 (g:Gp):(Y5 g).length=19:=by simp[Y5,G3]
theorem CK3 (s:Sg)(h1:s.2.1.length≤64)(h2:s.2.2.length≤2):(Y4 s).length≤780:=by
 have e1:=Ae8 (f:=r7) 12 s.2.1 fun p _=>by rw[CK1];exact FW1 _
 have e2:=Ae8 (f:=(D4 · 1)) 1 s.2.2 fun p _=>by rw[G3];exact FW1 _
 unfold Y4;simp only[FU6,G3];omega
def Few (t:Tk):Prop:=t.1.length≤200∧t.2.length≤400∧∀s∈t.1,s.2.1.length≤64∧s.2.2.length≤2
theorem BB6 {α:Type}{f:α→List Int}(n k:Nat)(l:List α)(h:∀a∈l,(f a).length≤n):((l.take k).flatMap f).length≤l.length*n:=by
 have h1:=Ae8 n (l.take k) fun a ha=>h a (FW7 ha)
 have h2:(l.take k).length*n≤l.length*n:=Nat.mul_le_mul_right n (by rw[FV5];omega)
 omega
theorem EW1 {t:Tk}(h:Few t):(AP2 t).length≤200000:=by
 obtain⟨h1,h2,h3⟩:=h;have e1:=Ae8 (f:=Y4) 780 t.1 fun s hs=>CK3 s (h3 s hs).1 (h3 s hs).2
 have e2:=Ae8 (f:=Y5) 19 t.2 fun g _=>by rw[CK2];exact FW1 _
 unfold AP2 BB3 AD8;simp only[FU6,G3,List.length_cons,List.length_nil];omega
theorem BB7 {α:Type}(f:α→List Int){l:List α}{k:Nat}(d:α)(h:k<l.length):(l.take (k+1)).flatMap f=(l.take k).flatMap f++f (l.getD k d):=by rw[← BA4 (d:=d) h,List.flatMap_append];simp
theorem BB8 {t:Tk}(h:(P3 t).1=0):1≤t.1.length∧t.1.length≤200∧t.2.length≤400∧(∀i,i<t.1.length→R3 t.1.length (t.1.getD i sg0)=true)∧∀i,i<t.2.length→R4 t i (t.2.getD i gp0)=true:=by
 unfold P3 at h;by_cases h1:t.1.length=0∨200<t.1.length∨400<t.2.length
 ·rw[if_pos h1] at h;exact absurd h (by decide)
 ·rw[if_neg h1] at h
  cases h2:q8 (fun i=>R3 t.1.length (t.1.getD i sg0)) t.1.length with
  |some i=>rw [h2] at h;have h':(11:Int)=0:=h;omega
  |none=>
   rw[h2] at h;cases h3:q8 (fun i=>R4 t i (t.2.getD i gp0)) t.2.length with
   |some i=>rw [h3] at h;have h':(16:Int)=0:=h;omega
   |none=>exact ⟨by omega,by omega,by omega,CG9.1 h2,CG9.1 h3⟩
theorem CK4 {t:Tk}(h:(P3 t).1=0):∀s∈t.1,R3 t.1.length s=true:=by
 intro s hs;obtain⟨i,hi,rfl⟩:=FW8.1 hs;have:=(BB8 h).2.2.2.1 i hi
 rwa [Y3 hi] at this
theorem EW2 {t:Tk}(h:(P3 t).1=0):∀g∈t.2,∃i,R4 t i g=true:=by intro s hs;obtain⟨i,hi,rfl⟩:=FW8.1 hs;have:=(BB8 h).2.2.2.2 i hi;rw[Y3 hi] at this;exact⟨i,this⟩
theorem EW3 {t:Tk}(h:(P3 t).1=0):Few t:=by
 obtain⟨_,h1,h2,_,_⟩:=BB8 h;refine⟨h1,h2,fun s hs=> ?_⟩
 have:=CK4 h s hs;unfold R3 AI5 at this;simp only[Bool.and_eq_true,decide_eq_true_eq] at this;omega

/- Images: what the document puts together. -/
theorem BT8:∀(k:Nat) (X:List Int) (a:Int),(FU8 (k+1) (0:Int)++X).set k a=FU8 k 0++a::X
 |0,X,a=>rfl
 |k+1,X,a=>by rw[List.replicate_succ,List.cons_append,List.set_cons_succ,BT8 k X a];rfl
theorem CK5 (v:Int)(n j:Nat)(h:j<n):(D4 v n).drop j=v/256 ^ (n-1-j) % 256::(D4 v n).drop (j+1):=by
 have hl:j<(D4 v n).length:=by rw[G3];exact h
 rw[FW4 hl];simp[D4]
theorem EW4 (v m:Int)(hm:0<m):(-1-v)/m = -1-v/m:=by
 have h1:=Int.emod_nonneg v (FX4 hm);have h2:=FX5 v hm;have h3:=Int.mul_ediv_add_emod v m;have e : -1-v=m*(-1-v/m)+(m-1-v % m):=by rw[Int.mul_sub];omega
 rw[e,Int.add_comm,Int.add_mul_ediv_left _ _ (FX4 hm),Int.ediv_eq_zero_of_lt (by omega) (by omega),Int.zero_add]
theorem CK6 (v:Int)(k:Nat):v/256 ^ k/256=v/256 ^ (k+1):=by rw[FX1,FW0 (Int.le_of_lt (FV3 (by decide)))]
theorem div_le_self {w m:Int}(hw:0≤w)(hm:0<m):0≤w/m∧w/m≤w:=
 ⟨Int.ediv_nonneg hw (by omega),Int.ediv_le_self m hw⟩
theorem AI8 (v:Int)(hv:I64 v)(n:Nat)(hn:n≤8):T8 v (n:Int)=some (D4 v n):=by
 obtain⟨v1,v2⟩:=hv;unfold T8;rw[decide_eq_true (show (0:Int)≤(n:Int) by omega),decide_eq_true (show (n:Int)≤(n:Int) by omega),decide_eq_true (show (n:Int)*1≤140737488355328 by omega),decide_eq_true (show (n:Int)≤140737488355328 by omega)]
 simp only[FV0,D3];rw[B3 (n:=(n:Int)-1) (by omega),FU7]
 have hend:FU8 (n-n) (0:Int)++(D4 v n).drop (n-n)=D4 v n:=by simp
 by_cases hneg:v<0
 ·rw[decide_eq_true hneg,B3 (n := -1-v) (by omega)]
  simp only[cond_true];obtain⟨w,hw⟩:∃w, -1-v=w:=⟨_,rfl⟩;have hw0:0≤w:=by omega
  have hw1:w≤9223372036854775807:=by omega
  rw[hw,show (((n:Int)-1,FU8 n (0:Int),w):Int×List Int×Int)=((n:Int)-1-((0:Nat):Int),FU8 (n-0) (0:Int)++(D4 v n).drop (n-0),w/256 ^ 0) by
   simp[G3]]
  rw[R5 (n:=n) (st:=fun k=>((n:Int)-1-(k:Int),FU8 (n-k) (0:Int)++(D4 v n).drop (n-k),w/256 ^ k)) (x:=FU8 (n-n) (0:Int)++(D4 v n).drop (n-n))]
  ·rw[hend];rfl
  ·intro k hk
   simp only[];have hp:(0:Int)<256 ^ k:=FV3 (by decide)
   have hq:=div_le_self hw0 hp;have hcell:255-w/256 ^ k % 256=v/256 ^ k % 256:=by rw[← hw,EW4 v _ hp];omega
   rw[decide_eq_true (show (0:Int)≤(n:Int)-1-(k:Int) by omega)]
   rw[FV6 hq.1,FV7 hq.1,hcell,CK6];have hq2:=div_le_self hw0 (show (0:Int)<256 ^ (k+1) from FV3 (by decide))
   rw[B3 (n:=v/256 ^ k % 256) (by omega),B3 (n:=w/256 ^ (k+1)) (by omega),B3 (n:=(n:Int)-1-(k:Int)-1) (by omega)]
   have hu:IntKind.u8.wrap (v/256 ^ k % 256)=v/256 ^ k % 256:=by simp[FV8,FV9,FW3]
   rw[hu];have hll:(FU8 (n-k) (0:Int)++(D4 v n).drop (n-k)).length=n:=by rw[FU6,FW6,FW5,G3];omega
   rw[hll,decide_eq_true (show (n:Int)-1-(k:Int)<(n:Int) by omega),show ((n:Int)-1-(k:Int)).toNat=n-1-k by omega]
   simp only[cond_true,FV0,D3];rw[show n-k=(n-1-k)+1 by omega,BT8,show n-(k+1)=n-1-k by omega,CK5 v n (n-1-k) (by omega),show n-1-(n-1-k)=k by omega]
   refine congrArg some (congrArg Sum.inl ?_);simp only[Prod.mk.injEq,and_true];omega
  ·simp only[]
   rw[decide_eq_false (by omega)]
   rfl
 ·rw[decide_eq_false hneg]
  simp only[cond_false];have hw0:0≤v:=by omega
  rw[show ((FU8 n (0:Int),(n:Int)-1,v):List Int×Int×Int)=(FU8 (n-0) (0:Int)++(D4 v n).drop (n-0),(n:Int)-1-((0:Nat):Int),v/256 ^ 0) by
   simp[G3]]
  rw[R5 (n:=n) (st:=fun k=>(FU8 (n-k) (0:Int)++(D4 v n).drop (n-k),(n:Int)-1-(k:Int),v/256 ^ k)) (x:=FU8 (n-n) (0:Int)++(D4 v n).drop (n-n))]
  ·rw[hend];rfl
  ·intro k hk
   simp only[];have hp:(0:Int)<256 ^ k:=FV3 (by decide)
   have hq:=div_le_self hw0 hp;rw[decide_eq_true (show (0:Int)≤(n:Int)-1-(k:Int) by omega)]
   rw[FV6 hq.1,FV7 hq.1,CK6];have hq2:=div_le_self hw0 (show (0:Int)<256 ^ (k+1) from FV3 (by decide))
   rw[B3 (n:=v/256 ^ (k+1)) (by omega),B3 (n:=(n:Int)-1-(k:Int)-1) (by omega)]
   have hu:IntKind.u8.wrap (v/256 ^ k % 256)=v/256 ^ k % 256:=by simp[FV8,FV9,FW3]
   rw[hu];have hll:(FU8 (n-k) (0:Int)++(D4 v n).drop (n-k)).length=n:=by rw[FU6,FW6,FW5,G3];omega
   rw[hll,decide_eq_true (show (n:Int)-1-(k:Int)<(n:Int) by omega),show ((n:Int)-1-(k:Int)).toNat=n-1-k by omega]
   simp only[cond_true,FV0,D3];rw[show n-k=(n-1-k)+1 by omega,BT8,show n-(k+1)=n-1-k by omega,CK5 v n (n-1-k) (by omega),show n-1-(n-1-k)=k by omega]
   refine congrArg some (congrArg Sum.inl ?_);simp only[Prod.mk.injEq,and_true,true_and];omega
  ·simp only[]
   rw[decide_eq_false (by omega)]
   rfl
theorem EW5 (v:Int):D4 v 1=[v % 256]:=by simp[D4]
theorem wrap_u8 (v:Int):[IntKind.u8.wrap v]=D4 v 1:=by rw[EW5];simp[FV8,FV9,FW3]
def BB9 (t:Tk):Prop:=(∀s∈t.1,I64 s.1∧∀p∈s.2.1,I64 p.1∧I64 p.2)∧∀g∈t.2,I64 g.1∧I64 g.2.2.1∧I64 g.2.2.2.1∧I64 g.2.2.2.2
theorem EW6 (t:Tk)(hf:Few t)(hN:BB9 t):AG2 t=some (I5 (AP2 t)):=by
 obtain⟨w1,w2,w3⟩:=hf;obtain⟨n1,n2⟩:=hN;have hf:Few t:=⟨w1,w2,w3⟩;unfold AG2;have hm:([(79:Int),(68:Int),(79:Int),(49:Int)]:List Int)=AD8:=rfl;have lseg:=fun k=>BB6 (f:=Y4) 780 k t.1 fun s hs=>CK3 s (w3 s hs).1 (w3 s hs).2
 have lgrp:=fun k=>BB6 (f:=Y5) 19 k t.2 fun g _=>by rw[CK2];exact FW1 _
 have hlm:AD8.length=4:=rfl;rw[hm,show (2:Int)=((2:Nat):Int) from rfl,AI8 _ ⟨by omega,by omega⟩ 2 (by decide),FU5,G3,hlm,decide_eq_true (show (4+2)*1≤140737488355328 by decide)]
 simp only[D3];obtain⟨A,hA⟩:∃A,AD8++D4 (t.1.length:Int) 2=A:=⟨_,rfl⟩;have hAl:A.length=6:=by rw[← hA,FU6,G3];rfl
 rw[hA,show (((0:Int),A):Int×List Int)=(((0:Nat):Int),A++(t.1.take 0).flatMap Y4) by simp]
 rw[R5 (n:=t.1.length) (st:=fun k=>((k:Int),A++(t.1.take k).flatMap Y4)) (x:=A++t.1.flatMap Y4)]
 ·have lall:=lseg t.1.length
  rw[FV2] at lall;simp only[FU5];rw[AI8 _ ⟨by omega,by omega⟩ 2 (by decide),FU5,G3,decide_eq_true (by rw[FU6];omega)]
  simp only[D3];obtain⟨C,hC⟩:∃C,A++t.1.flatMap Y4++D4 (t.2.length:Int) 2=C:=⟨_,rfl⟩;have hCl:C.length≤160000:=by rw[← hC,FU6,FU6,G3];omega
  rw[hC,show (((0:Int),C):Int×List Int)=(((0:Nat):Int),C++(t.2.take 0).flatMap Y5) by simp]
  rw[R5 (n:=t.2.length) (st:=fun k=>((k:Int),C++(t.2.take k).flatMap Y5)) (x:=C++t.2.flatMap Y5)]
  ·simp only[FU5]
   have hi:C++t.2.flatMap Y5=AP2 t:=by rw[← hC,← hA];unfold AP2 BB3;simp only[FV1]
   have hby:=CK0 t;have hil:=EW1 hf;rw[hi];generalize AP2 t=b at*;rw[CI2 b (Ae6 hby) (by omega),FU5]
   have hcr:=BB4 b;rw[FV7 hcr.1,FV6 hcr.1,B3 (n:=F7 b/256) (by omega)]
   have e1:IntKind.u8.wrap (F7 b/256)=F7 b/256:=by simp[FV8,FV9,FW3];omega
   have e2:IntKind.u8.wrap (F7 b % 256)=F7 b % 256:=by simp[FV8,FV9,FW3]
   rw[e1,e2,decide_eq_true (by simp;omega)]
   rfl
  ·intro k hk
   simp only[];have hlk:=lgrp k;rw[decide_eq_true (show (k:Int)<(t.2.length:Int) by omega),decide_eq_true (show (0:Int)≤(k:Int) by omega),FU7,B3 (n:=(k:Int)+1) (by omega)]
   simp only[cond_true,FV0,D3];have hg:t.2.getD k ((0:Int),((0:Int),((0:Int),((0:Int),(0:Int)))))=t.2.getD k gp0:=rfl;have hmem:t.2.getD k gp0∈t.2:=by rw[Y3 hk];exact FW2 hk
   have hn:=n2 _ hmem;rw[hg,BB7 Y5 gp0 hk];generalize t.2.getD k gp0=g at*;generalize (t.2.take k).flatMap Y5=G at*;have hG:(C++G).length≤200000:=by rw[FU6];omega
   rw[← FV1];generalize C++G=H at*;rw[AI8 _ hn.1 2 (by decide),FU5,G3,decide_eq_true (by omega)]
   simp only[D3];rw[wrap_u8,G3,decide_eq_true (by simp only[FU6,G3];omega)]
   simp only[D3];rw[show (8:Int)=((8:Nat):Int) from rfl,AI8 _ hn.2.1 8 (by decide),FU5,G3,decide_eq_true (by simp only[FU6,G3];omega)]
   simp only[D3];rw[show (4:Int)=((4:Nat):Int) from rfl,AI8 _ hn.2.2.1 4 (by decide),FU5,G3,decide_eq_true (by simp only[FU6,G3];omega)]
   simp only[D3];rw[AI8 _ hn.2.2.2 4 (by decide),FU5,G3,decide_eq_true (by simp only[FU6,G3];omega)]
   simp only[D3];unfold Y5;simp only[FV1];rfl
  ·simp only[]
   rw[decide_eq_false (by omega),FV2]
   rfl
 ·intro k hk
  simp only[];have hlk:=lseg k;rw[decide_eq_true (show (k:Int)<(t.1.length:Int) by omega),decide_eq_true (show (0:Int)≤(k:Int) by omega),FU7,B3 (n:=(k:Int)+1) (by omega)]
  simp only[cond_true,FV0,D3];have hg:t.1.getD k ((0:Int),([],[]))=t.1.getD k sg0:=rfl;have hmem:t.1.getD k sg0∈t.1:=by rw[Y3 hk];exact FW2 hk
  have hw:=w3 _ hmem;have hn:=n1 _ hmem;rw[hg,BB7 Y4 sg0 hk];generalize t.1.getD k sg0=s at*;generalize (t.1.take k).flatMap Y4=G at*;have hG:(A++G).length≤156100:=by rw[FU6];omega
  rw[← FV1];generalize A++G=H at*;have lp:=fun j=>BB6 (f:=r7) 12 j s.2.1 fun p _=>by rw[CK1];exact FW1 _
  have ln:=fun j=>BB6 (f:=(D4 · 1)) 1 j s.2.2 fun p _=>by rw[G3];exact FW1 _
  rw[show (8:Int)=((8:Nat):Int) from rfl,AI8 _ hn.1 8 (by decide),FU5,G3,decide_eq_true (by omega)]
  simp only[D3];rw[wrap_u8,G3,decide_eq_true (by simp only[FU6,G3];omega)]
  simp only[D3];obtain⟨D,hD⟩:∃D,H++D4 s.1 8++D4 (s.2.1.length:Int) 1=D:=⟨_,rfl⟩;have hDl:D.length≤157000:=by rw[← hD];simp only[FU6,G3];omega
  rw[hD,show ((D,(0:Int)):List Int×Int)=(D++(s.2.1.take 0).flatMap r7,((0:Nat):Int)) by simp]
  rw[R5 (n:=s.2.1.length) (st:=fun k=>(D++(s.2.1.take k).flatMap r7,(k:Int))) (x:=D++s.2.1.flatMap r7)]
  ·have lall:=lp s.2.1.length
   rw[FV2] at lall;simp only[FU5];rw[wrap_u8,G3,decide_eq_true (by rw[FU6];omega)]
   simp only[D3];obtain⟨E,hE⟩:∃E,D++s.2.1.flatMap r7++D4 (s.2.2.length:Int) 1=E:=⟨_,rfl⟩;have hEl:E.length≤160000:=by rw[← hE,FU6,FU6,G3];omega
   rw[hE,show (((0:Int),E):Int×List Int)=(((0:Nat):Int),E++(s.2.2.take 0).flatMap (D4 · 1)) by simp]
   rw[R5 (n:=s.2.2.length) (st:=fun k=>((k:Int),E++(s.2.2.take k).flatMap (D4 · 1))) (x:=E++s.2.2.flatMap (D4 · 1))]
   ·simp only[FU5]
    rw[← hE,← hD];unfold Y4;simp only[FV1];rfl
   ·intro j hj
    simp only[];have hlj:=ln j;rw[decide_eq_true (show (j:Int)<(s.2.2.length:Int) by omega),decide_eq_true (show (0:Int)≤(j:Int) by omega),FU7,B3 (n:=(j:Int)+1) (by omega)]
    simp only[cond_true,FV0,D3];rw[BB7 (D4 · 1) 0 hj,wrap_u8,G3,decide_eq_true (by simp only[FU6];omega),FV1]
    rfl
   ·simp only[]
    rw[decide_eq_false (by omega),FV2]
    rfl
  ·intro j hj
   simp only[];have hlj:=lp j;have hpm:s.2.1.getD j ((0:Int),(0:Int))∈s.2.1:=by rw[Y3 hj];exact FW2 hj
   have hpn:=hn.2 _ hpm;rw[decide_eq_true (show (j:Int)<(s.2.1.length:Int) by omega),decide_eq_true (show (0:Int)≤(j:Int) by omega),FU7,B3 (n:=(j:Int)+1) (by omega)]
   simp only[cond_true,FV0,D3];rw[BB7 r7 ((0:Int),(0:Int)) hj,AI8 _ hpn.1 8 (by decide),FU5,G3,decide_eq_true (by simp only[FU6];omega)]
   simp only[D3];rw[show (4:Int)=((4:Nat):Int) from rfl,AI8 _ hpn.2 4 (by decide),FU5,G3,decide_eq_true (by simp only[FU6,G3];omega)]
   simp only[D3];unfold r7;simp only[FV1];rfl
  ·simp only[]
   rw[decide_eq_false (by omega),FV2]
   rfl
 ·simp only[]
  rw[decide_eq_false (by omega),FV2]
  rfl
end Go.Proofs.YthfjpkdadjemcaaGreat
