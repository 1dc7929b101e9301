/- The sums of bytes: the program's and the document's are the same. -/
import Derived.Test.YthfjpkdadjemcaaGreatTrM
import Derived.Test.YthfjpkdadjemcaaGreatFnsF3
set_option linter.unusedSimpArgs false
set_option linter.unusedVariables false
namespace Go.Proofs.YthfjpkdadjemcaaGreat
open Go.RowKit
open _root_.BitVec renaming toNat_ofNat → FR6, eq_of_getLsbD_eq → FR7, eq_of_toNat_eq → FS0, getLsbD_shiftLeft → FS3, getLsbD_xor → FS4, xor_assoc → FS7, getLsbD_ofNat → FS9, toNat_ofInt → FT1, msb_eq_getLsbD_last → FT2, xor_zero → FT6, toNat_shiftLeft → FT9
open _root_.Option renaming bind_some → FR8
open _root_.Nat renaming testBit_eq_decide_div_mod_eq → FR9, mod_eq_of_lt → FS5, shiftLeft_eq → FS8, min_eq_left → FT7, div_le_self → FT8, pow_le_pow_right → FU0, le_trans → FU3
open Go.IntKind renaming wrap → FS1, signed → FT0, bits → FT5
open _root_.Int renaming toNat_natCast → FS2, fdiv_eq_ediv_of_nonneg → FT4, natCast_nonneg → FU4
open _root_.Classical renaming byContradiction → FS6
open _root_.Bool renaming and_self → FT3, true_and → FU1
open _root_.List renaming getElem?_take → FU2
abbrev B16:=BitVec 16
def B4 (x:B16):B16:=(x <<< 1) ^^^ (bif x.msb then 0x1021#16 else 0#16)
theorem BA5 (x y:B16):B4 (x ^^^ y)=B4 x ^^^ B4 y:=by unfold B4;rw[BitVec.shiftLeft_xor_distrib,BitVec.msb_xor];generalize x <<< 1=a;generalize y <<< 1=b;cases x.msb <;> cases y.msb <;> apply FR7 <;> intro i hi <;> simp only[Bool.false_xor,Bool.true_xor,Bool.not_true,Bool.not_false,cond_true,cond_false,FS4] <;> cases a.getLsbD i <;> cases b.getLsbD i <;> simp
def G6:Nat→B16→B16
 |0,x=>x
 |n+1,x=>G6 n (B4 x)
theorem BA6:∀(n:Nat) (x y:B16),G6 n (x ^^^ y)=G6 n x ^^^ G6 n y
 |0,_,_=>rfl
 |n+1,x,y=>by rw[G6,G6,G6,BA5,BA6 n]
theorem BS5:∀(m n:Nat) (x:B16),G6 (m+n) x=G6 n (G6 m x)
 |0,n,x=>by rw[Nat.zero_add];rfl
 |m+1,n,x=>by rw[Nat.add_right_comm,G6,G6,BS5 m n]
theorem BS6 (n:Nat)(x:B16):G6 (n+1) x=B4 (G6 n x):=by rw[BS5 n 1];rfl
theorem ER4 {x:B16}(h:B4 x=0#16):x=0#16:=by
 unfold B4 at h;cases hm:x.msb with
 |true=>
  rw[hm] at h;have:=congrArg (fun z=>z.getLsbD 0) h
  simp at this
 |false=>
  rw[hm] at h;simp only[cond_false,FT6] at h;apply FR7;intro i hi;by_cases h15:i=15
  ·subst h15
   rw[FT2] at hm;simpa using hm
  ·have:=congrArg (fun z=>z.getLsbD (i+1)) h
   simp only[FS3] at this;have h16:i+1<16:=by omega
   simpa[h16] using this
theorem CH1:∀(n:Nat) {x:B16},G6 n x=0#16→x=0#16
 |0,_,h=>h
 |n+1,x,h=>ER4 (CH1 n h)
theorem CH2:∀(n:Nat),G6 n 0#16=0#16
 |0=>rfl
 |n+1=>by rw[G6,show B4 0#16=0#16 from by decide];exact CH2 n
def R6 (b:Bool):B16:=bif b then 1#16 else 0#16
def Q4 (b:Bool):B16:=bif b then 0x8000#16 else 0#16
theorem ER5 (b:Bool):G6 16 (R6 b)=B4 (Q4 b):=by cases b <;> decide
def O7 (m:Nat→Bool)(r:B16):Nat→B16
 |0=>r
 |n+1=>B4 (O7 m r n) ^^^ R6 (m n)
def AI6 (m:Nat→Bool)(s:B16):Nat→B16
 |0=>s
 |n+1=>B4 (AI6 m s n ^^^ Q4 (m n))
theorem CH3 (m:Nat→Bool)(r:B16):∀n,G6 16 (O7 m r n)=AI6 m (G6 16 r) n
 |0=>rfl
 |n+1=>by rw[O7,AI6,BA6,ER5,← G6,BS6,CH3 m r n,← BA5]
theorem CH4 (m:Nat→Bool)(r:B16)(n:Nat)(h:∀i,n≤i→m i=false):∀k,O7 m r (n+k)=G6 k (O7 m r n)
 |0=>rfl
 |k+1=>by
  rw[← Nat.add_assoc,O7,CH4 m r n h k,h (n+k) (by omega),BS6]
  simp[R6]
def V9 (m:Nat→Bool)(i:Nat):Bool:=m i ^^ decide (i<16)
def Ao9:B16:=0x84CF#16
def AW7:Nat→B16
 |0=>Ao9
 |n+1=>B4 (AW7 n) ^^^ R6 (decide (n<16))
theorem ER6 (a b:Bool):R6 (a ^^ b)=R6 a ^^^ R6 b:=by cases a <;> cases b <;> decide
theorem CH5 (m:Nat→Bool):∀n,O7 (V9 m) 0#16 n=O7 m Ao9 n ^^^ AW7 n
 |0=>by simp[O7,AW7]
 |n+1=>by rw[O7,O7,AW7,CH5 m n,BA5];unfold V9;rw[ER6];generalize B4 (O7 m Ao9 n)=a;generalize B4 (AW7 n)=b;generalize R6 (m n)=c;generalize R6 (decide (n<16))=d;apply FR7;intro i hi;simp only[FS4];cases a.getLsbD i <;> cases b.getLsbD i <;> cases c.getLsbD i <;> cases d.getLsbD i <;> rfl
theorem CH6:∀k,AW7 (16+k)=0#16
 |0=>by decide
 |k+1=>by
  rw[← Nat.add_assoc,AW7,CH6 k,decide_eq_false (by omega)]
  decide
theorem ER7 (m:Nat→Bool)(n:Nat)(h:∀i,n≤i→m i=false):O7 (V9 m) 0#16 (n+16)=AI6 m 0xFFFF#16 n:=by rw[CH5,Nat.add_comm n 16,CH6,FT6,Nat.add_comm 16 n,CH4 m Ao9 n h 16,CH3,show G6 16 Ao9=0xFFFF#16 from by decide]
def q9 (s:B16)(b:Nat):B16:=G6 8 (s ^^^ (BitVec.ofNat 16 b <<< 8))
theorem ER8 (s:B16)(b:Nat)(hb:b<256)(m:Nat→Bool)(k:Nat)(hm:∀j,j<8→m (k+j)=b.testBit (7-j))(hs:AI6 m 0xFFFF#16 k=s):AI6 m 0xFFFF#16 (k+8)=q9 s b:=by
 have e:AI6 m 0xFFFF#16 (k+8)=B4 (B4 (B4 (B4 (B4 (B4 (B4 (B4 (s ^^^ Q4 (b.testBit 7)) ^^^ Q4 (b.testBit 6)) ^^^ Q4 (b.testBit 5)) ^^^ Q4 (b.testBit 4)) ^^^ Q4 (b.testBit 3)) ^^^ Q4 (b.testBit 2)) ^^^ Q4 (b.testBit 1)) ^^^ Q4 (b.testBit 0)):=by
  have h0:=hm 0 (by omega);have h1:=hm 1 (by omega);have h2:=hm 2 (by omega);have h3:=hm 3 (by omega)
  have h4:=hm 4 (by omega);have h5:=hm 5 (by omega);have h6:=hm 6 (by omega);have h7:=hm 7 (by omega)
  simp only[Nat.add_zero,Nat.sub_zero] at h0;simp only[AI6,hs,h0,h1,h2,h3,h4,h5,h6,h7]
 rw[e];simp only[BA5];unfold q9;rw[BA6];have e2:G6 8 s=B4 (B4 (B4 (B4 (B4 (B4 (B4 (B4 s))))))):=rfl;rw[e2];simp only[FS7];refine congrArg _ ?_;have key:∀b:Fin 256,(B4 (B4 (B4 (B4 (B4 (B4 (B4 (B4 (Q4 (b.val.testBit 7))))))))) ^^^ (B4 (B4 (B4 (B4 (B4 (B4 (B4 (Q4 (b.val.testBit 6)))))))) ^^^ (B4 (B4 (B4 (B4 (B4 (B4 (Q4 (b.val.testBit 5))))))) ^^^ (B4 (B4 (B4 (B4 (B4 (Q4 (b.val.testBit 4)))))) ^^^ (B4 (B4 (B4 (B4 (Q4 (b.val.testBit 3))))) ^^^ (B4 (B4 (B4 (Q4 (b.val.testBit 2)))) ^^^ (B4 (B4 (Q4 (b.val.testBit 1))) ^^^ B4 (Q4 (b.val.testBit 0)))))))))=G6 8 (BitVec.ofNat 16 b.val <<< 8):=by decide +kernel
 exact key ⟨b,hb⟩
theorem ER9 (s:B16)(a b:Nat)(ha:a<256)(hb:b<256):q9 (q9 s a) b=0#16↔s=BitVec.ofNat 16 (a*256+b):=by
 have e:q9 (q9 s a) b=G6 16 (s ^^^ BitVec.ofNat 16 (a*256+b)):=by
  have e1:BitVec.ofNat 16 (a*256+b)=(BitVec.ofNat 16 a <<< 8) ^^^ BitVec.ofNat 16 b:=by
   have key:∀a:Fin 256,∀i:Fin 16,∀b:Fin 256,(BitVec.ofNat 16 (a.val*256+b.val)).getLsbD i.val=((BitVec.ofNat 16 a.val <<< 8) ^^^ BitVec.ofNat 16 b.val).getLsbD i.val:=by
    intro a i b;simp only[FS4,FS3,FS9];have hi:i.val<16:=i.isLt;have hb:=b.isLt;rw[show a.val*256+b.val=2 ^ 8*a.val+b.val by omega,Nat.testBit_two_pow_mul_add _ (by omega)]
    by_cases h8:i.val<8
    ·simp[h8,hi]
    ·have:b.val.testBit i.val=false:=Nat.testBit_lt_two_pow (Nat.lt_of_lt_of_le hb (by rw[show 256=2 ^ 8 from rfl];exact FU0 (by decide) (by omega)))
     have h':¬i.val<8:=h8;simp[h8,hi,this];omega
   apply FR7;intro i hi;exact key ⟨a,ha⟩ ⟨i,hi⟩ ⟨b,hb⟩
  have e2:BitVec.ofNat 16 b <<< 8=G6 8 (BitVec.ofNat 16 b):=by
   have key:∀b:Fin 256,BitVec.ofNat 16 b.val <<< 8=G6 8 (BitVec.ofNat 16 b.val):=by decide +kernel
   exact key ⟨b,hb⟩
  unfold q9;rw[e2,← BA6,← BS5,e1,FS7]
 rw[e];constructor
 ·intro h
  have:=CH1 _ h;exact BitVec.xor_eq_zero_iff.1 this
 ·intro h
  rw[h,BitVec.xor_self];exact CH2 _
def J0 (b:List Int)(i:Nat):Nat:=(b.getD i 0).toNat
def P4 (b:List Int):Nat→B16
 |0=>0xFFFF#16
 |n+1=>q9 (P4 b n) (J0 b n)
def F7 (b:List Int):Int:=((P4 b b.length).toNat:Int)
def Bytes (b:List Int):Prop:=∀i,0≤b.getD i 0∧b.getD i 0≤255
def P5 (b:List Int)(i:Nat):Bool:=decide (i<8*b.length)&&(J0 b (i/8)).testBit (7-i % 8)
theorem CH7 {b:List Int}(hb:Bytes b):∀n,n≤b.length→AI6 (P5 b) 0xFFFF#16 (8*n)=P4 b n
 |0,_=>rfl
 |n+1,h=>by
  rw[show 8*(n+1)=8*n+8 by omega,P4]
  have:=hb n;refine ER8 _ _ (by unfold J0;omega) _ _ (fun j hj=> ?_) (CH7 hb n (by omega))
  unfold P5;rw[decide_eq_true (show 8*n+j<8*b.length by omega),show (8*n+j)/8=n by omega,show (8*n+j) % 8=j by omega,FU1]
theorem ES0 {b:List Int}(hb:Bytes b):O7 (V9 (P5 b)) 0#16 (8*b.length+16)=P4 b b.length:=by rw[ER7 (P5 b) (8*b.length) (fun i hi=>by unfold P5;rw[decide_eq_false (by omega),Bool.false_and]),CH7 hb _ (Nat.le_refl _)]
theorem CH8 (b:List Int)(k:Nat):∀n,n≤k→P4 (b.take k) n=P4 b n
 |0,_=>rfl
 |n+1,h=>by
  rw[P4,P4,CH8 b k n (by omega)]
  unfold J0;simp only[List.getD,FU2,show n<k by omega,if_true]
theorem ES1 {b:List Int}(hb:Bytes b){n:Nat}(hn:b.length=n+2):F7 b=0↔F7 (b.take n)=b.getD n 0*256+b.getD (n+1) 0:=by
 have h1:=hb n;have h2:=hb (n+1);have e:F7 (b.take n)=((P4 b n).toNat:Int):=by unfold F7;rw[List.length_take,FT7 (by omega),CH8 b n n (Nat.le_refl _)]
 rw[e];unfold F7;rw[hn,P4,P4];have t:=ER9 (P4 b n) (J0 b n) (J0 b (n+1)) (by unfold J0;omega) (by unfold J0;omega)
 have g1:((J0 b n:Nat):Int)=b.getD n 0:=by unfold J0;omega
 have g2:((J0 b (n+1):Nat):Int)=b.getD (n+1) 0:=by unfold J0;omega
 have hlt:J0 b n*256+J0 b (n+1)<65536:=by unfold J0;omega
 constructor
 ·intro h
  have h0:q9 (q9 (P4 b n) (J0 b n)) (J0 b (n+1))=0#16:=by apply FS0;simp;omega
  rw[t.1 h0,FR6,FS5 (by omega)]
  omega
 ·intro h
  have h0:P4 b n=BitVec.ofNat 16 (J0 b n*256+J0 b (n+1)):=by
   apply FS0;rw[FR6,FS5 (by omega)]
   omega
  rw[t.2 h0];rfl

/- The readings of the sums of bytes, and of frames: the program's are the document's. -/
theorem BA7 (n:Int):IntKind.u16.wrap n=n % 65536:=by simp[FS1,FT5,FT0]
theorem BS7 (n:Int):IntKind.u32.wrap n=n % 4294967296:=by simp[FS1,FT5,FT0]
theorem BA8 (x:B16):BitVec.ofInt 16 (x.toNat:Int)=x:=by apply FS0;have:=x.isLt;rw[FT1];omega
theorem CH9 (x:B16):IntKind.u16.wrap (x.toNat:Int)=(x.toNat:Int):=by have:=x.isLt;rw[BA7];omega
theorem CI0 (x y:B16):bits .u16 .xor (x.toNat:Int) (y.toNat:Int)=((x ^^^ y).toNat:Int):=by show IntKind.u16.wrap (((BitVec.ofInt 16 (x.toNat:Int)) ^^^ (BitVec.ofInt 16 (y.toNat:Int))).toNat:Int)=_;rw[BA8,BA8,CH9]
theorem ES2 (x y:B16):bits .u16 .and (x.toNat:Int) (y.toNat:Int)=((x &&& y).toNat:Int):=by show IntKind.u16.wrap (((BitVec.ofInt 16 (x.toNat:Int)) &&& (BitVec.ofInt 16 (y.toNat:Int))).toNat:Int)=_;rw[BA8,BA8,CH9]
theorem ES3 (x:B16):IntKind.u16.wrap ((x.toNat:Int)*2 ^ 1)=((x <<< 1).toNat:Int):=by rw[BA7,FT9,FS8];omega
theorem ES4 (x:B16):(bits .u16 .and (x.toNat:Int) 32768 != 0)=x.msb:=by
 have e:x &&& 0x8000#16=bif x.msb then 0x8000#16 else 0#16:=by
  apply FR7;intro i hi;rw[FT2,BitVec.getLsbD_and];have key:∀i:Fin 16,(0x8000#16).getLsbD i.val=decide (i.val=15):=by decide
  rw[key ⟨i,hi⟩];by_cases h:i=15
  ·subst h
   cases hx:x.getLsbD 15 with
   |true=>simp [hx]
   |false=>simp [hx]
  ·simp only[h,decide_false,Bool.and_false]
   cases x.getLsbD (16-1) with
   |true=>simp only[cond_true];rw[key ⟨i,hi⟩];simp[h]
   |false=>simp
 have e2:=ES2 x 0x8000#16;rw[e] at e2;have e3:bits .u16 .and (x.toNat:Int) 32768=_:=e2;rw[e3];cases x.msb <;> rfl
theorem ES5 {b:Int}(h:0≤b∧b≤255):IntKind.u16.wrap (IntKind.u16.wrap b*2 ^ 8)=((BitVec.ofNat 16 b.toNat <<< 8).toNat:Int):=by rw[BA7,BA7,FT9,FS8,FR6];omega
theorem ES6 (s:B16)(b:Int)(h:0≤b∧b≤255):AS0 (s.toNat:Int) b=some ((q9 s b.toNat).toNat:Int):=by
 unfold AS0;simp only[];rw[ES5 h,CI0];unfold q9;generalize s ^^^ (BitVec.ofNat 16 b.toNat <<< 8)=x;rw[show ((0:Int),(x.toNat:Int))=(((0:Nat):Int),((G6 0 x).toNat:Int)) from rfl];rw[R5 (n:=8) (st:=fun i=>((i:Int),((G6 i x).toNat:Int))) (x:=((G6 8 x).toNat:Int))]
 ·rfl
 ·intro i hi
  simp only[];rw[decide_eq_true (show (i:Int)<8 by omega),ES4,ES3,show (4129:Int)=((0x1021#16).toNat:Int) from rfl,CI0,B3 (n:=(i:Int)+1) (by omega),BS6]
  simp only[cond_true];unfold B4;cases (G6 i x).msb with
  |true=>rfl
  |false=>simp only[cond_false,FR8,FT6];rfl
 ·rfl
theorem ES7 (b:List Int)(hb:Bytes b)(hl:b.length≤4611686018427387903):AS1 65535 b=some (F7 b):=by
 unfold AS1 F7;rw[show ((65535:Int),(0:Int))=(((P4 b 0).toNat:Int),((0:Nat):Int)) from rfl];rw[R5 (n:=b.length) (st:=fun i=>(((P4 b i).toNat:Int),(i:Int))) (x:=((P4 b b.length).toNat:Int))]
 ·rfl
 ·intro i hi
  simp only[];rw[decide_eq_true (show (i:Int)<b.length by omega),decide_eq_true (show (0:Int)≤i by omega),FS2,B3 (n:=(i:Int)+1) (by omega)]
  simp only[cond_true,FT3,D3];rw[ES6 _ _ (hb i)];rfl
 ·simp
theorem CI1 (b:List Int)(hb:Bytes b)(hl:b.length≤4611686018427387903):AL3 b=some (F7 b):=by unfold AL3;rw[ES7 b hb hl];rfl
theorem BS8 (a:Nat)(n:Nat):((a:Int).tdiv (n:Int))=((a/n:Nat):Int):=by
 rw[Int.tdiv_eq_ediv_of_nonneg (by omega)]
 rfl
theorem Ap0 (a:Nat)(n:Nat):((a:Int).tmod (n:Int))=((a % n:Nat):Int):=by
 rw[Int.tmod_eq_emod_of_nonneg (by omega)]
 rfl
theorem ES8 (x i:Nat):x % 2 ^ (i+1)=x % 2 ^ i+2 ^ i*(x.testBit i).toNat:=by
 rw[Nat.mod_pow_succ,FR9];have:x/2 ^ i % 2=0∨x/2 ^ i % 2=1:=by omega
 rcases this with h | h <;> rw[h] <;> rfl
theorem BS9 (n:Nat)(h:n≤9223372036854775807):IntKind.i64.wrap (n:Int)=(n:Int):=B3 (by omega)
theorem ES9 (x y:B16):AR6 (x.toNat:Int) (y.toNat:Int)=some ((x ^^^ y).toNat:Int):=by
 unfold AR6;have hx:=x.isLt;have hy:=y.isLt;rw[show ((0:Int),(0:Int),(1:Int))=(((0:Nat):Int),(((x ^^^ y).toNat % 2 ^ 0:Nat):Int),((2 ^ 0:Nat):Int)) from by simp[Nat.mod_one]]
 rw[R5 (n:=16) (st:=fun i=>((i:Int),(((x ^^^ y).toNat % 2 ^ i:Nat):Int),((2 ^ i:Nat):Int))) (x:=((x ^^^ y).toNat:Int))]
 ·rfl
 ·intro i hi
  have hp:2 ^ i≤2 ^ 15:=FU0 (by decide) (by omega)
  have hp0:0<2 ^ i:=Nat.two_pow_pos i;have hm:(x ^^^ y).toNat % 2 ^ i<2 ^ i:=Nat.mod_lt _ hp0;have hdx:x.toNat/2 ^ i≤x.toNat:=FT8 _ _;have hdy:y.toNat/2 ^ i≤y.toNat:=FT8 _ _;simp only[];rw[BS8,BS8,BS9 _ (FU3 hdx (by omega)),BS9 _ (FU3 hdy (by omega)),show (2:Int)=((2:Nat):Int) from rfl,Ap0,Ap0,decide_eq_true (show (i:Int)<16 by omega)]
  rw[B3 (n:=(i:Int)+1) (by omega),B3 (n:=((2:Nat):Int)*((2 ^ i:Nat):Int)) (by omega),B3 (n:=(((x ^^^ y).toNat % 2 ^ i:Nat):Int)+((2 ^ i:Nat):Int)) (by omega)]
  have e0:(((2 ^ i:Nat):Int)==0)=false:=beq_false_of_ne (by omega)
  rw[e0];simp only[cond_true,Bool.not_false,D3];have hb:((((x.toNat/2 ^ i % 2:Nat):Int))!=(((y.toNat/2 ^ i % 2:Nat):Int)))=(x ^^^ y).toNat.testBit i:=by
   rw[BitVec.toNat_xor,Nat.testBit_xor,FR9,FR9];have h1:x.toNat/2 ^ i % 2=0∨x.toNat/2 ^ i % 2=1:=by omega
   have h2:y.toNat/2 ^ i % 2=0∨y.toNat/2 ^ i % 2=1:=by omega
   rcases h1 with h1 | h1 <;> rcases h2 with h2 | h2 <;> rw[h1,h2] <;> rfl
  rw[hb,ES8,Nat.pow_succ];cases (x ^^^ y).toNat.testBit i with
  |true=>simp only[cond_true,FR8,Bool.toNat_true,Nat.mul_one];refine congrArg some (congrArg Sum.inl ?_);simp only[Prod.mk.injEq];omega
  |false=>simp only[cond_false,FR8,Bool.toNat_false,Nat.mul_zero];refine congrArg some (congrArg Sum.inl ?_);simp only[Prod.mk.injEq];omega
 ·simp only[]
  have hxy:(x ^^^ y).toNat % 2 ^ 16=(x ^^^ y).toNat:=FS5 (x ^^^ y).isLt;rw[decide_eq_false (by omega),hxy]
  rfl
theorem ET0 (x:B16)(c:Bool):((B4 x ^^^ R6 c).toNat:Int)=if 65536≤2*(x.toNat:Int)+(bif c then 1 else 0) then (((BitVec.ofNat 16 (2*x.toNat+c.toNat-65536)) ^^^ 0x1021#16).toNat:Int) else 2*(x.toNat:Int)+(bif c then 1 else 0):=by
 have hx:=x.isLt;have hsh:(x <<< 1) ^^^ R6 c=BitVec.ofNat 16 (2*x.toNat+c.toNat):=by
  apply FR7;intro i hi;cases i with
  |zero=>
   have:(2*x.toNat+c.toNat).testBit 0=c:=by rw[Nat.testBit_zero];cases c <;> simp <;> omega
   simp only[FS4,FS3,FS9,this];cases c <;> simp[R6]
  |succ i=>
   have:(2*x.toNat+c.toNat).testBit (i+1)=x.toNat.testBit i:=by rw[Nat.testBit_succ];congr 1;cases c <;> simp <;> omega
   simp only[FS4,FS3,FS9,this];have hb:(R6 c).getLsbD (i+1)=false:=by
    cases c with
    |false=>simp [R6]
    |true=>
     have key:∀i:Fin 16,(1#16).getLsbD i.val=decide (i.val=0):=by decide
     show (1#16).getLsbD (i+1)=false;rw[key ⟨i+1,hi⟩];simp
   rw[hb];have hi2:i+1<16:=hi;simp[hi2,BitVec.getLsbD]
 have hmsb:x.msb=decide (32768≤x.toNat):=by rw[BitVec.msb_eq_decide]
 have e:B4 x ^^^ R6 c=(bif x.msb then BitVec.ofNat 16 (2*x.toNat+c.toNat) ^^^ 0x1021#16 else BitVec.ofNat 16 (2*x.toNat+c.toNat)):=by
  unfold B4;rw[← hsh];generalize x <<< 1=a;generalize R6 c=d;cases x.msb with
  |false=>simp
  |true=>
   simp only[cond_true];rw[FS7,FS7,BitVec.xor_comm d]
 rw[e,hmsb];by_cases h:32768≤x.toNat
 ·rw[decide_eq_true h,if_pos (by cases c <;> simp <;> omega)]
  simp only[cond_true];have:BitVec.ofNat 16 (2*x.toNat+c.toNat)=BitVec.ofNat 16 (2*x.toNat+c.toNat-65536):=by apply FS0;rw[FR6,FR6];omega
  rw[this]
 ·rw[decide_eq_false h,if_neg (by cases c <;> simp <;> omega)]
  simp only[cond_false,FR6];cases c <;> simp <;> omega
theorem ET1 (a k:Nat)(hk:k≤7):((a:Int).fdiv (2 ^ (min (k:Int).toNat 8))).tmod 2=if a.testBit k then 1 else 0:=by
 rw[FS2,FT7 (by omega),show ((2:Int) ^ k)=((2 ^ k:Nat):Int) by simp,FT4 _ (FU4 _),← Int.natCast_ediv,show (2:Int)=((2:Nat):Int) from rfl,Ap0,FR9]
 have:a/2 ^ k % 2=0∨a/2 ^ k % 2=1:=by omega
 rcases this with h | h <;> rw[h] <;> rfl
theorem ET2 (n:Int):IntKind.u64.wrap n=n % 18446744073709551616:=by simp[FS1,FT5,FT0]
theorem CI2 (b:List Int)(hb:Bytes b)(hl:b.length≤140737488355328):AF9 b=some (F7 b):=by
 unfold AF9;simp only[];rw[B3 (n:=8*(b.length:Int)) (by omega),B3 (n:=8*(b.length:Int)+16) (by omega)]
 rw[show ((0:Int),(0:Int))=(((0:Nat):Int),((O7 (V9 (P5 b)) 0#16 0).toNat:Int)) from rfl];rw[R5 (n:=8*b.length+16) (st:=fun i=>((i:Int),((O7 (V9 (P5 b)) 0#16 i).toNat:Int))) (x:=F7 b)]
 ·rfl
 ·intro i hi
  simp only[];rw[decide_eq_true (show (i:Int)<8*(b.length:Int)+16 by omega),B3 (n:=(i:Int)+1) (by omega)]
  simp only[cond_true];have hbit:∀(K:Int→Option ((Int×Int) ⊕ Int)),(Option.bind (bif (decide ((i:Int)<8*(b.length:Int))) then
      let t23_8:Int:=(FS1 .i64 ((i:Int).tdiv (8:Int)))
      chk none ((decide ((0:Int)≤t23_8))&&(decide (t23_8<(b.length:Int))))<|
      let t25_9:Int:=(b.getD t23_8.toNat (0:Int))
      let t28_10:Int:=(FS1 .i64 ((7:Int)-((i:Int).tmod (8:Int))))
      let t29_11:Int:=(FS1 .u64 t28_10)
      chk none (decide ((0:Int)≤t29_11))<|
      let t30_12:Int:=(t25_9.fdiv (2 ^ (min t29_11.toNat 8)))
      let t31_13:Int:=(FS1 .i64 t30_12)
      some (t31_13.tmod (2:Int))
     else
      some (0:Int)) K)=K (if P5 b i then 1 else 0):=by
   intro K;unfold P5;by_cases h:i<8*b.length
   ·rw[decide_eq_true (show (i:Int)<8*(b.length:Int) by omega),decide_eq_true h]
    simp only[cond_true,FU1];rw[show (8:Int)=((8:Nat):Int) from rfl,BS8,Ap0,B3 (n:=((i/8:Nat):Int)) (by omega),B3 (n:=7-((i % 8:Nat):Int)) (by omega),decide_eq_true (show ((i/8:Nat):Int)<(b.length:Int) by omega),decide_eq_true (show (0:Int)≤((i/8:Nat):Int) by omega)]
    rw[show (7-((i % 8:Nat):Int))=((7-i % 8:Nat):Int) by omega,ET2,show (((7-i % 8:Nat):Int) % 18446744073709551616)=((7-i % 8:Nat):Int) by omega,decide_eq_true (show (0:Int)≤((7-i % 8:Nat):Int) by omega)]
    simp only[FT3,D3];have hbb:=hb (i/8);rw[FS2 (i/8)];have hN:b.getD (i/8) 0=((J0 b (i/8):Nat):Int):=by unfold J0;omega
    rw[hN];have hle:∀k:Nat,k≤7→IntKind.i64.wrap (((J0 b (i/8):Nat):Int).fdiv (2 ^ (min ((k:Nat):Int).toNat 8)))=((J0 b (i/8):Nat):Int).fdiv (2 ^ (min ((k:Nat):Int).toNat 8)):=by
     intro k hk;rw[FS2,FT7 (by omega),show ((2:Int) ^ k)=((2 ^ k:Nat):Int) by simp,FT4 _ (FU4 _),← Int.natCast_ediv]
     have h1:J0 b (i/8)/2 ^ k≤J0 b (i/8):=FT8 _ _;have h2:J0 b (i/8)≤255:=by unfold J0;omega
     exact BS9 _ (FU3 h1 (by omega))
    rw[hle _ (by omega),ET1 _ _ (by omega)]
    rfl
   ·rw[decide_eq_false (show ¬(i:Int)<8*(b.length:Int) by omega),decide_eq_false h]
    rfl
  rw[hbit];have hfl:∀(K:Int→Option ((Int×Int) ⊕ Int)),(Option.bind (bif (decide ((i:Int)<(16:Int))) then
      some (FS1 .i64 ((1:Int)-(if P5 b i then 1 else 0)))
     else
      some (if P5 b i then 1 else 0)) K)=K (bif V9 (P5 b) i then 1 else 0):=by
   intro K;unfold V9;have:(decide ((i:Int)<16))=decide (i<16):=by rw[decide_eq_decide];omega
   rw[this];cases P5 b i <;> cases decide (i<16) <;> rfl
  rw[hfl];have hr:=(O7 (V9 (P5 b)) 0#16 i).isLt;have hs:O7 (V9 (P5 b)) 0#16 (i+1)=B4 (O7 (V9 (P5 b)) 0#16 i) ^^^ R6 (V9 (P5 b) i):=rfl;rw[hs,ET0];generalize O7 (V9 (P5 b)) 0#16 i=r at*;generalize V9 (P5 b) i=c;have hc:(0:Int)≤(bif c then 1 else 0)∧(bif c then (1:Int) else 0)≤1:=by cases c <;> decide
  rw[B3 (n:=2*(r.toNat:Int)) (by omega),B3 (n:=2*(r.toNat:Int)+(bif c then 1 else 0)) (by omega)]
  by_cases h:65536≤2*(r.toNat:Int)+(bif c then 1 else 0)
  ·rw[decide_eq_true h,if_pos h]
   simp only[cond_true];rw[B3 (by omega)]
   have e:2*(r.toNat:Int)+(bif c then 1 else 0)-65536=((BitVec.ofNat 16 (2*r.toNat+c.toNat-65536)).toNat:Int):=by rw[FR6];cases c <;> simp at h ⊢ <;> omega
   rw[e,show (4129:Int)=((0x1021#16).toNat:Int) from rfl,ES9];rfl
  ·rw[decide_eq_false h,if_neg h]
   rfl
 ·simp only[]
  rw[decide_eq_false (by omega),ES0 hb]
  rfl

/- The readings of frames: the program's 'Get' is the document's. -/
def G1 (k:Int):Int:=if k=1∨k=2∨k=5 then 2 else if k=3∨k=4 then 4 else 0
theorem ET3 (k:Int):Ax7 k=some (G1 k):=by
 unfold Ax7 G1;by_cases h1:k=1
 ·subst h1;rfl
 by_cases h2:k=2
 ·subst h2;rfl
 by_cases h5:k=5
 ·subst h5;rfl
 by_cases h3:k=3
 ·subst h3;rfl
 by_cases h4:k=4
 ·subst h4;rfl
 rw[beq_false_of_ne h1,beq_false_of_ne h2,beq_false_of_ne h3,beq_false_of_ne h4,beq_false_of_ne h5,if_neg (by omega),if_neg (by omega)]
 rfl
theorem BA9 (k:Int):Aw7 k=some (G1 k):=by
 unfold Aw7 G1;simp only[];by_cases h0:k<1
 ·rw[decide_eq_true h0,if_neg (by omega),if_neg (by omega)];rfl
 by_cases h6:5<k
 ·rw[decide_eq_false h0,decide_eq_true h6,if_neg (by omega),if_neg (by omega)];rfl
 have:k=1∨k=2∨k=3∨k=4∨k=5:=by omega
 rcases this with rfl | rfl | rfl | rfl | rfl <;> rfl
theorem Ap1 (k:Int):G1 k=0∨(G1 k=2∧(k=1∨k=2∨k=5))∨(G1 k=4∧(k=3∨k=4)):=by
 unfold G1;by_cases h:k=1∨k=2∨k=5
 ·rw[if_pos h];exact .inr (.inl ⟨rfl,h⟩)
 ·rw[if_neg h]
  by_cases h2:k=3∨k=4
  ·rw[if_pos h2];exact .inr (.inr ⟨rfl,h2⟩)
  ·rw[if_neg h2];exact .inl rfl
def N4 (b:List Int)(o:Nat):Nat→Int
 |0=>0
 |i+1=>256*N4 b o i+b.getD (o+i) 0
theorem BT0 {b:List Int}(hb:Bytes b)(o:Nat):∀i,0≤N4 b o i∧N4 b o i<256 ^ i
 |0=>by simp[N4]
 |i+1=>by have h1:=BT0 hb o i;have h2:=hb (o+i);rw[N4,Int.pow_succ];omega
theorem ET4 (v c:Int)(hv:0≤v∧v<16777216)(hc:0≤c∧c≤255):bits .u32 .or (IntKind.u32.wrap (v*2 ^ 8)) (IntKind.u32.wrap c)=256*v+c:=by
 rw[BS7,BS7];obtain⟨n,rfl⟩:∃n:Nat,v=(n:Int):=⟨v.toNat,by omega⟩
 obtain⟨m,rfl⟩:∃m:Nat,c=(m:Int):=⟨c.toNat,by omega⟩
 show IntKind.u32.wrap (((BitVec.ofInt 32 (((n:Int)*2 ^ 8) % 4294967296)) ||| (BitVec.ofInt 32 ((m:Int) % 4294967296))).toNat:Int)=_;have e1:BitVec.ofInt 32 (((n:Int)*2 ^ 8) % 4294967296)=BitVec.ofNat 32 (n <<< 8):=by apply FS0;rw[FT1,FR6,FS8];omega
 have e2:BitVec.ofInt 32 ((m:Int) % 4294967296)=BitVec.ofNat 32 m:=by apply FS0;rw[FT1,FR6];omega
 have hs:n <<< 8=n*256:=by rw[FS8]
 rw[e1,e2,BitVec.toNat_or,FR6,FR6,FS5 (by omega),FS5 (by omega),← Nat.shiftLeft_add_eq_or_of_lt (show m<2 ^ 8 by omega),BS7,hs]
 omega
theorem ET5 (n:Int):IntKind.i32.wrap n=(n+2147483648) % 4294967296-2147483648:=by simp only[FS1,FT5,FT0,FU1,decide_eq_true_eq,show (2:Int) ^ 32=4294967296 from rfl,show (2:Int) ^ (32-1)=2147483648 from rfl];split <;> omega
theorem BT1 {b:List Int}(hb:Bytes b)(i:Nat):IntKind.i64.wrap (b.getD i 0)=b.getD i 0:=by have:=hb i;exact B3 (by omega)
theorem ET6 {b:List Int}{o n i:Nat}(hi:i<n)(hl:o+n≤b.length):((b.take (o+n)).drop o).getD i 0=b.getD (o+i) 0:=by simp only[List.getD,List.getElem?_drop,FU2,show o+i<o+n by omega,if_true]
def Ae5 (k v:Int):Int:=if G1 k=4∧2147483648≤v then v-4294967296 else v
def O8 (b:List Int):(Int×(Int×Int))×Int:=
 if b.length<5 then ((0,0,0),14) else if G1 (b.getD 0 0)=0 then ((0,0,0),30) else if b.getD 2 0≠G1 (b.getD 0 0)∨(b.length:Int)≠5+G1 (b.getD 0 0) then ((0,0,0),11)
 else if F7 b≠0 then ((0,0,0),31) else ((b.getD 0 0,b.getD 1 0,Ae5 (b.getD 0 0) (N4 b 3 (G1 (b.getD 0 0)).toNat)),0)
theorem ET7 (b:List Int)(hb:Bytes b)(hl:b.length≤140737488355328):AT7 b=some (O8 b):=by
 unfold AT7 O8;simp only[];by_cases h5:b.length<5
 ·rw[decide_eq_true (show (b.length:Int)<5 by omega),if_pos h5]
  rfl
 rw[decide_eq_false (show ¬(b.length:Int)<5 by omega),if_neg h5,decide_eq_true (show (0:Int)<b.length by omega),decide_eq_true (show (1:Int)<b.length by omega),decide_eq_true (show (2:Int)<b.length by omega)]
 have n0:(0:Int).toNat=0:=rfl;have n1:(1:Int).toNat=1:=rfl;have n2:(2:Int).toNat=2:=rfl;simp only[cond_false,FT3,D3,n0,n1,n2];rw[BT1 hb 0,BT1 hb 1,BT1 hb 2,ET3,FR8];have hsc:=Ap1 (b.getD 0 0);generalize hs:G1 (b.getD 0 0)=n at*;have hn:n=0∨n=2∨n=4:=by omega
 by_cases hn0:n=0
 ·subst hn0;rfl
 rw[beq_false_of_ne hn0,if_neg hn0,B3 (n:=3+n) (by omega),B3 (n:=3+n+2) (by omega)]
 simp only[cond_false];by_cases hf:b.getD 2 0≠n∨(b.length:Int)≠5+n
 ·rw[if_pos hf]
  have e:(bif b.getD 2 0 != n then true else (b.length:Int)!=3+n+2)=true:=by
   rcases hf with h | h
   ·rw[bne_iff_ne.2 h];rfl
   ·have:((b.length:Int)!=3+n+2)=true:=bne_iff_ne.2 (by omega)
    rw[this];cases (b.getD 2 0 != n) <;> rfl
  rw[e];rfl
 rw[if_neg hf];have hf1:b.getD 2 0=n:=by apply FS6;intro h;exact hf (.inl h)
 have hf2:(b.length:Int)=5+n:=by apply FS6;intro h;exact hf (.inr h)
 have e1:(b.getD 2 0 != n)=false:=by rw[hf1];simp
 have e2:((b.length:Int)!=3+n+2)=false:=by simp;omega
 rw[e1,e2];simp only[cond_false];rw[CI1 b hb (by omega),FR8]
 by_cases hc:F7 b≠0
 ·have:(F7 b != 0)=true:=bne_iff_ne.2 hc
  rw[this,if_pos hc];rfl
 have ec:(F7 b != 0)=false:=by
  have:F7 b=0:=by apply FS6;exact hc
  simp[this]
 rw[ec,if_neg hc,decide_eq_true (show (3:Int)≤3+n by omega),decide_eq_true (show (3:Int)+n≤b.length by omega)]
 simp only[cond_false,FT3,D3];obtain⟨m,rfl⟩:∃m:Nat,n=(m:Int):=⟨n.toNat,by omega⟩
 have en:((3:Int)+(m:Int)).toNat=3+m:=by omega
 have e3:(3:Int).toNat=3:=rfl;have hlen:((b.take (3+m)).drop 3).length=m:=by simp;omega
 rw[en,e3,hlen];have hm4:m≤4:=by omega
 rw[show ((0:Int),(0:Int))=(N4 b 3 0,((0:Nat):Int)) from rfl];rw[R5 (n:=m) (st:=fun i=>(N4 b 3 i,(i:Int))) (x:=N4 b 3 m)]
 ·rw[FR8]
  unfold BN5;have hv:=BT0 hb 3 m;have hv4:N4 b 3 m<4294967296:=by
   have:m=0∨m=2∨m=4:=by omega
   rcases this with rfl | rfl | rfl <;> (have:=hv.2;omega)
  simp only[FR8];rw[B3 (n:=N4 b 3 m) (by omega),FS2]
  unfold Ae5;rw[hs];by_cases hk:b.getD 0 0=3∨b.getD 0 0=4
  ·have hm:(m:Int)=4:=by omega
   have:(bif b.getD 0 0==3 then true else b.getD 0 0==4)=true:=by
    rcases hk with h | h <;> rw[h] <;> rfl
   rw[this];simp only[cond_true,FR8];rw[ET5,B3 (by omega)]
   by_cases hb':2147483648≤N4 b 3 m
   ·rw[if_pos ⟨hm,hb'⟩,show (N4 b 3 m+2147483648) % 4294967296-2147483648=N4 b 3 m-4294967296 by omega]
   ·rw[if_neg (by omega),show (N4 b 3 m+2147483648) % 4294967296-2147483648=N4 b 3 m by omega]
  ·have:(bif b.getD 0 0==3 then true else b.getD 0 0==4)=false:=by
    rw[beq_false_of_ne (show b.getD 0 0≠3 by omega),beq_false_of_ne (show b.getD 0 0≠4 by omega)]
    rfl
   rw[this,if_neg (by omega)]
   rfl
 ·intro i hi
  simp only[];have hv:=BT0 hb 3 i;have hv3:N4 b 3 i<16777216:=by
   have:i=0∨i=1∨i=2∨i=3:=by omega
   rcases this with rfl | rfl | rfl | rfl <;> (have:=hv.2;omega)
  rw[decide_eq_true (show (i:Int)<m by omega),decide_eq_true (show (0:Int)≤i by omega),FS2,ET6 hi (by omega),B3 (n:=(i:Int)+1) (by omega),ET4 _ _ ⟨hv.1,hv3⟩ (hb _)]
  rfl
 ·simp
end Go.Proofs.YthfjpkdadjemcaaGreat
