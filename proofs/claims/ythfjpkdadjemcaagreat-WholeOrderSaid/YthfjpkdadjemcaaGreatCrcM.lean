/- The sums of bytes: the program's and the document's are the same. -/
import Derived.Test.YthfjpkdadjemcaaGreatTrM
import Derived.Test.YthfjpkdadjemcaaGreatFnsF3
set_option linter.unusedSimpArgs false
set_option linter.unusedVariables false
namespace Go.Proofs.YthfjpkdadjemcaaGreat
open Go.RowKit
abbrev B16:=BitVec 16
def B7 (x:B16):B16:=(x <<< 1) ^^^ (bif x.msb then 0x1021#16 else 0#16)
theorem BC0 (x y:B16):B7 (x ^^^ y)=B7 x ^^^ B7 y:=by unfold B7;rw[BitVec.shiftLeft_xor_distrib,BitVec.msb_xor];generalize x <<< 1=a;generalize y <<< 1=b;cases x.msb <;> cases y.msb <;> apply BitVec.eq_of_getLsbD_eq <;> intro i hi <;> simp only[Bool.false_xor,Bool.true_xor,Bool.not_true,Bool.not_false,cond_true,cond_false,BitVec.getLsbD_xor] <;> cases a.getLsbD i <;> cases b.getLsbD i <;> simp
def G9:Nat→B16→B16
 |0,x=>x
 |n+1,x=>G9 n (B7 x)
theorem BC1:∀(n:Nat) (x y:B16),G9 n (x ^^^ y)=G9 n x ^^^ G9 n y
 |0,_,_=>rfl
 |n+1,x,y=>by rw[G9,G9,G9,BC0,BC1 n]
theorem BT2:∀(m n:Nat) (x:B16),G9 (m+n) x=G9 n (G9 m x)
 |0,n,x=>by rw[Nat.zero_add];rfl
 |m+1,n,x=>by rw[Nat.add_right_comm,G9,G9,BT2 m n]
theorem BT3 (n:Nat)(x:B16):G9 (n+1) x=B7 (G9 n x):=by rw[BT2 n 1];rfl
theorem ER2 {x:B16}(h:B7 x=0#16):x=0#16:=by
 unfold B7 at h;cases hm:x.msb with
 |true=>
  rw[hm] at h;have:=congrArg (fun z=>z.getLsbD 0) h
  simp at this
 |false=>
  rw[hm] at h;simp only[cond_false,BitVec.xor_zero] at h;apply BitVec.eq_of_getLsbD_eq;intro i hi;by_cases h15:i=15
  ·subst h15
   rw[BitVec.msb_eq_getLsbD_last] at hm;simpa using hm
  ·have:=congrArg (fun z=>z.getLsbD (i+1)) h
   simp only[BitVec.getLsbD_shiftLeft] at this;have h16:i+1<16:=by omega
   simpa[h16] using this
theorem CD8:∀(n:Nat) {x:B16},G9 n x=0#16→x=0#16
 |0,_,h=>h
 |n+1,x,h=>ER2 (CD8 n h)
theorem CD9:∀(n:Nat),G9 n 0#16=0#16
 |0=>rfl
 |n+1=>by rw[G9,show B7 0#16=0#16 from by decide];exact CD9 n
def R0 (b:Bool):B16:=bif b then 1#16 else 0#16
def P8 (b:Bool):B16:=bif b then 0x8000#16 else 0#16
theorem ER3 (b:Bool):G9 16 (R0 b)=B7 (P8 b):=by cases b <;> decide
def O2 (m:Nat→Bool)(r:B16):Nat→B16
 |0=>r
 |n+1=>B7 (O2 m r n) ^^^ R0 (m n)
def AH9 (m:Nat→Bool)(s:B16):Nat→B16
 |0=>s
 |n+1=>B7 (AH9 m s n ^^^ P8 (m n))
theorem CE0 (m:Nat→Bool)(r:B16):∀n,G9 16 (O2 m r n)=AH9 m (G9 16 r) n
 |0=>rfl
 |n+1=>by rw[O2,AH9,BC1,ER3,← G9,BT3,CE0 m r n,← BC0]
theorem CE1 (m:Nat→Bool)(r:B16)(n:Nat)(h:∀i,n≤i→m i=false):∀k,O2 m r (n+k)=G9 k (O2 m r n)
 |0=>rfl
 |k+1=>by
  rw[← Nat.add_assoc,O2,CE1 m r n h k,h (n+k) (by omega),BT3]
  simp[R0]
def W1 (m:Nat→Bool)(i:Nat):Bool:=m i ^^ decide (i<16)
def An0:B16:=0x84CF#16
def AW1:Nat→B16
 |0=>An0
 |n+1=>B7 (AW1 n) ^^^ R0 (decide (n<16))
theorem ER4 (a b:Bool):R0 (a ^^ b)=R0 a ^^^ R0 b:=by cases a <;> cases b <;> decide
theorem CE2 (m:Nat→Bool):∀n,O2 (W1 m) 0#16 n=O2 m An0 n ^^^ AW1 n
 |0=>by simp[O2,AW1]
 |n+1=>by rw[O2,O2,AW1,CE2 m n,BC0];unfold W1;rw[ER4];generalize B7 (O2 m An0 n)=a;generalize B7 (AW1 n)=b;generalize R0 (m n)=c;generalize R0 (decide (n<16))=d;apply BitVec.eq_of_getLsbD_eq;intro i hi;simp only[BitVec.getLsbD_xor];cases a.getLsbD i <;> cases b.getLsbD i <;> cases c.getLsbD i <;> cases d.getLsbD i <;> rfl
theorem CE3:∀k,AW1 (16+k)=0#16
 |0=>by decide
 |k+1=>by
  rw[← Nat.add_assoc,AW1,CE3 k,decide_eq_false (by omega)]
  decide
theorem ER5 (m:Nat→Bool)(n:Nat)(h:∀i,n≤i→m i=false):O2 (W1 m) 0#16 (n+16)=AH9 m 0xFFFF#16 n:=by rw[CE2,Nat.add_comm n 16,CE3,BitVec.xor_zero,Nat.add_comm 16 n,CE1 m An0 n h 16,CE0,show G9 16 An0=0xFFFF#16 from by decide]
def r9 (s:B16)(b:Nat):B16:=G9 8 (s ^^^ (BitVec.ofNat 16 b <<< 8))
theorem ER6 (s:B16)(b:Nat)(hb:b<256)(m:Nat→Bool)(k:Nat)(hm:∀j,j<8→m (k+j)=b.testBit (7-j))(hs:AH9 m 0xFFFF#16 k=s):AH9 m 0xFFFF#16 (k+8)=r9 s b:=by
 have e:AH9 m 0xFFFF#16 (k+8)=B7 (B7 (B7 (B7 (B7 (B7 (B7 (B7 (s ^^^ P8 (b.testBit 7)) ^^^ P8 (b.testBit 6)) ^^^ P8 (b.testBit 5)) ^^^ P8 (b.testBit 4)) ^^^ P8 (b.testBit 3)) ^^^ P8 (b.testBit 2)) ^^^ P8 (b.testBit 1)) ^^^ P8 (b.testBit 0)):=by
  have h0:=hm 0 (by omega);have h1:=hm 1 (by omega);have h2:=hm 2 (by omega);have h3:=hm 3 (by omega)
  have h4:=hm 4 (by omega);have h5:=hm 5 (by omega);have h6:=hm 6 (by omega);have h7:=hm 7 (by omega)
  simp only[Nat.add_zero,Nat.sub_zero] at h0;simp only[AH9,hs,h0,h1,h2,h3,h4,h5,h6,h7]
 rw[e];simp only[BC0];unfold r9;rw[BC1];have e2:G9 8 s=B7 (B7 (B7 (B7 (B7 (B7 (B7 (B7 s))))))):=rfl;rw[e2];simp only[BitVec.xor_assoc];refine congrArg _ ?_;have key:∀b:Fin 256,(B7 (B7 (B7 (B7 (B7 (B7 (B7 (B7 (P8 (b.val.testBit 7))))))))) ^^^ (B7 (B7 (B7 (B7 (B7 (B7 (B7 (P8 (b.val.testBit 6)))))))) ^^^ (B7 (B7 (B7 (B7 (B7 (B7 (P8 (b.val.testBit 5))))))) ^^^ (B7 (B7 (B7 (B7 (B7 (P8 (b.val.testBit 4)))))) ^^^ (B7 (B7 (B7 (B7 (P8 (b.val.testBit 3))))) ^^^ (B7 (B7 (B7 (P8 (b.val.testBit 2)))) ^^^ (B7 (B7 (P8 (b.val.testBit 1))) ^^^ B7 (P8 (b.val.testBit 0)))))))))=G9 8 (BitVec.ofNat 16 b.val <<< 8):=by decide +kernel
 exact key ⟨b,hb⟩
theorem ER7 (s:B16)(a b:Nat)(ha:a<256)(hb:b<256):r9 (r9 s a) b=0#16↔s=BitVec.ofNat 16 (a*256+b):=by
 have e:r9 (r9 s a) b=G9 16 (s ^^^ BitVec.ofNat 16 (a*256+b)):=by
  have e1:BitVec.ofNat 16 (a*256+b)=(BitVec.ofNat 16 a <<< 8) ^^^ BitVec.ofNat 16 b:=by
   have key:∀a:Fin 256,∀i:Fin 16,∀b:Fin 256,(BitVec.ofNat 16 (a.val*256+b.val)).getLsbD i.val=((BitVec.ofNat 16 a.val <<< 8) ^^^ BitVec.ofNat 16 b.val).getLsbD i.val:=by
    intro a i b;simp only[BitVec.getLsbD_xor,BitVec.getLsbD_shiftLeft,BitVec.getLsbD_ofNat];have hi:i.val<16:=i.isLt;have hb:=b.isLt;rw[show a.val*256+b.val=2 ^ 8*a.val+b.val by omega,Nat.testBit_two_pow_mul_add _ (by omega)]
    by_cases h8:i.val<8
    ·simp[h8,hi]
    ·have:b.val.testBit i.val=false:=Nat.testBit_lt_two_pow (Nat.lt_of_lt_of_le hb (by rw[show 256=2 ^ 8 from rfl];exact Nat.pow_le_pow_right (by decide) (by omega)))
     have h':¬i.val<8:=h8;simp[h8,hi,this];omega
   apply BitVec.eq_of_getLsbD_eq;intro i hi;exact key ⟨a,ha⟩ ⟨i,hi⟩ ⟨b,hb⟩
  have e2:BitVec.ofNat 16 b <<< 8=G9 8 (BitVec.ofNat 16 b):=by
   have key:∀b:Fin 256,BitVec.ofNat 16 b.val <<< 8=G9 8 (BitVec.ofNat 16 b.val):=by decide +kernel
   exact key ⟨b,hb⟩
  unfold r9;rw[e2,← BC1,← BT2,e1,BitVec.xor_assoc]
 rw[e];constructor
 ·intro h
  have:=CD8 _ h;exact BitVec.xor_eq_zero_iff.1 this
 ·intro h
  rw[h,BitVec.xor_self];exact CD9 _
def I9 (b:List Int)(i:Nat):Nat:=(b.getD i 0).toNat
def O8 (b:List Int):Nat→B16
 |0=>0xFFFF#16
 |n+1=>r9 (O8 b n) (I9 b n)
def F9 (b:List Int):Int:=((O8 b b.length).toNat:Int)
def Bytes (b:List Int):Prop:=∀i,0≤b.getD i 0∧b.getD i 0≤255
def O9 (b:List Int)(i:Nat):Bool:=decide (i<8*b.length)&&(I9 b (i/8)).testBit (7-i % 8)
theorem CE4 {b:List Int}(hb:Bytes b):∀n,n≤b.length→AH9 (O9 b) 0xFFFF#16 (8*n)=O8 b n
 |0,_=>rfl
 |n+1,h=>by
  rw[show 8*(n+1)=8*n+8 by omega,O8]
  have:=hb n;refine ER6 _ _ (by unfold I9;omega) _ _ (fun j hj=> ?_) (CE4 hb n (by omega))
  unfold O9;rw[decide_eq_true (show 8*n+j<8*b.length by omega),show (8*n+j)/8=n by omega,show (8*n+j) % 8=j by omega,Bool.true_and]
theorem ER8 {b:List Int}(hb:Bytes b):O2 (W1 (O9 b)) 0#16 (8*b.length+16)=O8 b b.length:=by rw[ER5 (O9 b) (8*b.length) (fun i hi=>by unfold O9;rw[decide_eq_false (by omega),Bool.false_and]),CE4 hb _ (Nat.le_refl _)]
theorem CE5 (b:List Int)(k:Nat):∀n,n≤k→O8 (b.take k) n=O8 b n
 |0,_=>rfl
 |n+1,h=>by
  rw[O8,O8,CE5 b k n (by omega)]
  unfold I9;simp only[List.getD,List.getElem?_take,show n<k by omega,if_true]
theorem ER9 {b:List Int}(hb:Bytes b){n:Nat}(hn:b.length=n+2):F9 b=0↔F9 (b.take n)=b.getD n 0*256+b.getD (n+1) 0:=by
 have h1:=hb n;have h2:=hb (n+1);have e:F9 (b.take n)=((O8 b n).toNat:Int):=by unfold F9;rw[List.length_take,Nat.min_eq_left (by omega),CE5 b n n (Nat.le_refl _)]
 rw[e];unfold F9;rw[hn,O8,O8];have t:=ER7 (O8 b n) (I9 b n) (I9 b (n+1)) (by unfold I9;omega) (by unfold I9;omega)
 have g1:((I9 b n:Nat):Int)=b.getD n 0:=by unfold I9;omega
 have g2:((I9 b (n+1):Nat):Int)=b.getD (n+1) 0:=by unfold I9;omega
 have hlt:I9 b n*256+I9 b (n+1)<65536:=by unfold I9;omega
 constructor
 ·intro h
  have h0:r9 (r9 (O8 b n) (I9 b n)) (I9 b (n+1))=0#16:=by apply BitVec.eq_of_toNat_eq;simp;omega
  rw[t.1 h0,BitVec.toNat_ofNat,Nat.mod_eq_of_lt (by omega)]
  omega
 ·intro h
  have h0:O8 b n=BitVec.ofNat 16 (I9 b n*256+I9 b (n+1)):=by
   apply BitVec.eq_of_toNat_eq;rw[BitVec.toNat_ofNat,Nat.mod_eq_of_lt (by omega)]
   omega
  rw[t.2 h0];rfl
end Go.Proofs.YthfjpkdadjemcaaGreat

/- The readings of the sums of bytes, and of frames: the program's are the document's. -/
set_option linter.unusedSimpArgs false
set_option linter.unusedVariables false
namespace Go.Proofs.YthfjpkdadjemcaaGreat
open Go.RowKit
theorem W2 (n:Int):IntKind.u16.wrap n=n % 65536:=by simp[IntKind.wrap,IntKind.bits,IntKind.signed]
theorem BT4 (n:Int):IntKind.u32.wrap n=n % 4294967296:=by simp[IntKind.wrap,IntKind.bits,IntKind.signed]
theorem BC2 (x:B16):BitVec.ofInt 16 (x.toNat:Int)=x:=by apply BitVec.eq_of_toNat_eq;have:=x.isLt;rw[BitVec.toNat_ofInt];omega
theorem CE6 (x:B16):IntKind.u16.wrap (x.toNat:Int)=(x.toNat:Int):=by have:=x.isLt;rw[W2];omega
theorem CE7 (x y:B16):bits .u16 .xor (x.toNat:Int) (y.toNat:Int)=((x ^^^ y).toNat:Int):=by show IntKind.u16.wrap (((BitVec.ofInt 16 (x.toNat:Int)) ^^^ (BitVec.ofInt 16 (y.toNat:Int))).toNat:Int)=_;rw[BC2,BC2,CE6]
theorem ES0 (x y:B16):bits .u16 .and (x.toNat:Int) (y.toNat:Int)=((x &&& y).toNat:Int):=by show IntKind.u16.wrap (((BitVec.ofInt 16 (x.toNat:Int)) &&& (BitVec.ofInt 16 (y.toNat:Int))).toNat:Int)=_;rw[BC2,BC2,CE6]
theorem ES1 (x:B16):IntKind.u16.wrap ((x.toNat:Int)*2 ^ 1)=((x <<< 1).toNat:Int):=by rw[W2,BitVec.toNat_shiftLeft,Nat.shiftLeft_eq];omega
theorem ES2 (x:B16):(bits .u16 .and (x.toNat:Int) 32768 != 0)=x.msb:=by
 have e:x &&& 0x8000#16=bif x.msb then 0x8000#16 else 0#16:=by
  apply BitVec.eq_of_getLsbD_eq;intro i hi;rw[BitVec.msb_eq_getLsbD_last,BitVec.getLsbD_and];have key:∀i:Fin 16,(0x8000#16).getLsbD i.val=decide (i.val=15):=by decide
  rw[key ⟨i,hi⟩];by_cases h:i=15
  ·subst h
   cases hx:x.getLsbD 15 with
   |true=>simp [hx]
   |false=>simp [hx]
  ·simp only[h,decide_false,Bool.and_false]
   cases x.getLsbD (16-1) with
   |true=>simp only[cond_true];rw[key ⟨i,hi⟩];simp[h]
   |false=>simp
 have e2:=ES0 x 0x8000#16;rw[e] at e2;have e3:bits .u16 .and (x.toNat:Int) 32768=_:=e2;rw[e3];cases x.msb <;> rfl
theorem ES3 {b:Int}(h:0≤b∧b≤255):IntKind.u16.wrap (IntKind.u16.wrap b*2 ^ 8)=((BitVec.ofNat 16 b.toNat <<< 8).toNat:Int):=by rw[W2,W2,BitVec.toNat_shiftLeft,Nat.shiftLeft_eq,BitVec.toNat_ofNat];omega
theorem ES4 (s:B16)(b:Int)(h:0≤b∧b≤255):AQ6 (s.toNat:Int) b=some ((r9 s b.toNat).toNat:Int):=by
 unfold AQ6;simp only[];rw[ES3 h,CE7];unfold r9;generalize s ^^^ (BitVec.ofNat 16 b.toNat <<< 8)=x;rw[show ((0:Int),(x.toNat:Int))=(((0:Nat):Int),((G9 0 x).toNat:Int)) from rfl];rw[Q9 (n:=8) (st:=fun i=>((i:Int),((G9 i x).toNat:Int))) (x:=((G9 8 x).toNat:Int))]
 ·rfl
 ·intro i hi
  simp only[];rw[decide_eq_true (show (i:Int)<8 by omega),ES2,ES1,show (4129:Int)=((0x1021#16).toNat:Int) from rfl,CE7,B0 (n:=(i:Int)+1) (by omega),BT3]
  simp only[cond_true];unfold B7;cases (G9 i x).msb with
  |true=>rfl
  |false=>simp only[cond_false,Option.bind_some,BitVec.xor_zero];rfl
 ·rfl
theorem ES5 (b:List Int)(hb:Bytes b)(hl:b.length≤4611686018427387903):AQ7 65535 b=some (F9 b):=by
 unfold AQ7 F9;rw[show ((65535:Int),(0:Int))=(((O8 b 0).toNat:Int),((0:Nat):Int)) from rfl];rw[Q9 (n:=b.length) (st:=fun i=>(((O8 b i).toNat:Int),(i:Int))) (x:=((O8 b b.length).toNat:Int))]
 ·rfl
 ·intro i hi
  simp only[];rw[decide_eq_true (show (i:Int)<b.length by omega),decide_eq_true (show (0:Int)≤i by omega),Int.toNat_natCast,B0 (n:=(i:Int)+1) (by omega)]
  simp only[cond_true,Bool.and_self,D3];rw[ES4 _ _ (hb i)];rfl
 ·simp
theorem CE8 (b:List Int)(hb:Bytes b)(hl:b.length≤4611686018427387903):AK5 b=some (F9 b):=by unfold AK5;rw[ES5 b hb hl];rfl
theorem BT5 (a:Nat)(n:Nat):((a:Int).tdiv (n:Int))=((a/n:Nat):Int):=by
 rw[Int.tdiv_eq_ediv_of_nonneg (by omega)]
 rfl
theorem An1 (a:Nat)(n:Nat):((a:Int).tmod (n:Int))=((a % n:Nat):Int):=by
 rw[Int.tmod_eq_emod_of_nonneg (by omega)]
 rfl
theorem ES6 (x i:Nat):x % 2 ^ (i+1)=x % 2 ^ i+2 ^ i*(x.testBit i).toNat:=by
 rw[Nat.mod_pow_succ,Nat.testBit_eq_decide_div_mod_eq];have:x/2 ^ i % 2=0∨x/2 ^ i % 2=1:=by omega
 rcases this with h | h <;> rw[h] <;> rfl
theorem BT6 (n:Nat)(h:n≤9223372036854775807):IntKind.i64.wrap (n:Int)=(n:Int):=B0 (by omega)
theorem ES7 (x y:B16):AQ2 (x.toNat:Int) (y.toNat:Int)=some ((x ^^^ y).toNat:Int):=by
 unfold AQ2;have hx:=x.isLt;have hy:=y.isLt;rw[show ((0:Int),(0:Int),(1:Int))=(((0:Nat):Int),(((x ^^^ y).toNat % 2 ^ 0:Nat):Int),((2 ^ 0:Nat):Int)) from by simp[Nat.mod_one]]
 rw[Q9 (n:=16) (st:=fun i=>((i:Int),(((x ^^^ y).toNat % 2 ^ i:Nat):Int),((2 ^ i:Nat):Int))) (x:=((x ^^^ y).toNat:Int))]
 ·rfl
 ·intro i hi
  have hp:2 ^ i≤2 ^ 15:=Nat.pow_le_pow_right (by decide) (by omega)
  have hp0:0<2 ^ i:=Nat.two_pow_pos i;have hm:(x ^^^ y).toNat % 2 ^ i<2 ^ i:=Nat.mod_lt _ hp0;have hdx:x.toNat/2 ^ i≤x.toNat:=Nat.div_le_self _ _;have hdy:y.toNat/2 ^ i≤y.toNat:=Nat.div_le_self _ _;simp only[];rw[BT5,BT5,BT6 _ (Nat.le_trans hdx (by omega)),BT6 _ (Nat.le_trans hdy (by omega)),show (2:Int)=((2:Nat):Int) from rfl,An1,An1,decide_eq_true (show (i:Int)<16 by omega)]
  rw[B0 (n:=(i:Int)+1) (by omega),B0 (n:=((2:Nat):Int)*((2 ^ i:Nat):Int)) (by omega),B0 (n:=(((x ^^^ y).toNat % 2 ^ i:Nat):Int)+((2 ^ i:Nat):Int)) (by omega)]
  have e0:(((2 ^ i:Nat):Int)==0)=false:=beq_false_of_ne (by omega)
  rw[e0];simp only[cond_true,Bool.not_false,D3];have hb:((((x.toNat/2 ^ i % 2:Nat):Int))!=(((y.toNat/2 ^ i % 2:Nat):Int)))=(x ^^^ y).toNat.testBit i:=by
   rw[BitVec.toNat_xor,Nat.testBit_xor,Nat.testBit_eq_decide_div_mod_eq,Nat.testBit_eq_decide_div_mod_eq];have h1:x.toNat/2 ^ i % 2=0∨x.toNat/2 ^ i % 2=1:=by omega
   have h2:y.toNat/2 ^ i % 2=0∨y.toNat/2 ^ i % 2=1:=by omega
   rcases h1 with h1 | h1 <;> rcases h2 with h2 | h2 <;> rw[h1,h2] <;> rfl
  rw[hb,ES6,Nat.pow_succ];cases (x ^^^ y).toNat.testBit i with
  |true=>simp only[cond_true,Option.bind_some,Bool.toNat_true,Nat.mul_one];refine congrArg some (congrArg Sum.inl ?_);simp only[Prod.mk.injEq];omega
  |false=>simp only[cond_false,Option.bind_some,Bool.toNat_false,Nat.mul_zero];refine congrArg some (congrArg Sum.inl ?_);simp only[Prod.mk.injEq];omega
 ·simp only[]
  have hxy:(x ^^^ y).toNat % 2 ^ 16=(x ^^^ y).toNat:=Nat.mod_eq_of_lt (x ^^^ y).isLt;rw[decide_eq_false (by omega),hxy]
  rfl
theorem ES8 (x:B16)(c:Bool):((B7 x ^^^ R0 c).toNat:Int)=if 65536≤2*(x.toNat:Int)+(bif c then 1 else 0) then (((BitVec.ofNat 16 (2*x.toNat+c.toNat-65536)) ^^^ 0x1021#16).toNat:Int) else 2*(x.toNat:Int)+(bif c then 1 else 0):=by
 have hx:=x.isLt;have hsh:(x <<< 1) ^^^ R0 c=BitVec.ofNat 16 (2*x.toNat+c.toNat):=by
  apply BitVec.eq_of_getLsbD_eq;intro i hi;cases i with
  |zero=>
   have:(2*x.toNat+c.toNat).testBit 0=c:=by rw[Nat.testBit_zero];cases c <;> simp <;> omega
   simp only[BitVec.getLsbD_xor,BitVec.getLsbD_shiftLeft,BitVec.getLsbD_ofNat,this];cases c <;> simp[R0]
  |succ i=>
   have:(2*x.toNat+c.toNat).testBit (i+1)=x.toNat.testBit i:=by rw[Nat.testBit_succ];congr 1;cases c <;> simp <;> omega
   simp only[BitVec.getLsbD_xor,BitVec.getLsbD_shiftLeft,BitVec.getLsbD_ofNat,this];have hb:(R0 c).getLsbD (i+1)=false:=by
    cases c with
    |false=>simp [R0]
    |true=>
     have key:∀i:Fin 16,(1#16).getLsbD i.val=decide (i.val=0):=by decide
     show (1#16).getLsbD (i+1)=false;rw[key ⟨i+1,hi⟩];simp
   rw[hb];have hi2:i+1<16:=hi;simp[hi2,BitVec.getLsbD]
 have hmsb:x.msb=decide (32768≤x.toNat):=by rw[BitVec.msb_eq_decide]
 have e:B7 x ^^^ R0 c=(bif x.msb then BitVec.ofNat 16 (2*x.toNat+c.toNat) ^^^ 0x1021#16 else BitVec.ofNat 16 (2*x.toNat+c.toNat)):=by
  unfold B7;rw[← hsh];generalize x <<< 1=a;generalize R0 c=d;cases x.msb with
  |false=>simp
  |true=>
   simp only[cond_true];rw[BitVec.xor_assoc,BitVec.xor_assoc,BitVec.xor_comm d]
 rw[e,hmsb];by_cases h:32768≤x.toNat
 ·rw[decide_eq_true h,if_pos (by cases c <;> simp <;> omega)]
  simp only[cond_true];have:BitVec.ofNat 16 (2*x.toNat+c.toNat)=BitVec.ofNat 16 (2*x.toNat+c.toNat-65536):=by apply BitVec.eq_of_toNat_eq;rw[BitVec.toNat_ofNat,BitVec.toNat_ofNat];omega
  rw[this]
 ·rw[decide_eq_false h,if_neg (by cases c <;> simp <;> omega)]
  simp only[cond_false,BitVec.toNat_ofNat];cases c <;> simp <;> omega
theorem ES9 (a k:Nat)(hk:k≤7):((a:Int).fdiv (2 ^ (min (k:Int).toNat 8))).tmod 2=if a.testBit k then 1 else 0:=by
 rw[Int.toNat_natCast,Nat.min_eq_left (by omega),show ((2:Int) ^ k)=((2 ^ k:Nat):Int) by simp,Int.fdiv_eq_ediv_of_nonneg _ (Int.natCast_nonneg _),← Int.natCast_ediv,show (2:Int)=((2:Nat):Int) from rfl,An1,Nat.testBit_eq_decide_div_mod_eq]
 have:a/2 ^ k % 2=0∨a/2 ^ k % 2=1:=by omega
 rcases this with h | h <;> rw[h] <;> rfl
theorem ET0 (n:Int):IntKind.u64.wrap n=n % 18446744073709551616:=by simp[IntKind.wrap,IntKind.bits,IntKind.signed]
theorem CE9 (b:List Int)(hb:Bytes b)(hl:b.length≤140737488355328):AF8 b=some (F9 b):=by
 unfold AF8;simp only[];rw[B0 (n:=8*(b.length:Int)) (by omega),B0 (n:=8*(b.length:Int)+16) (by omega)]
 rw[show ((0:Int),(0:Int))=(((0:Nat):Int),((O2 (W1 (O9 b)) 0#16 0).toNat:Int)) from rfl];rw[Q9 (n:=8*b.length+16) (st:=fun i=>((i:Int),((O2 (W1 (O9 b)) 0#16 i).toNat:Int))) (x:=F9 b)]
 ·rfl
 ·intro i hi
  simp only[];rw[decide_eq_true (show (i:Int)<8*(b.length:Int)+16 by omega),B0 (n:=(i:Int)+1) (by omega)]
  simp only[cond_true];have hbit:∀(K:Int→Option ((Int×Int) ⊕ Int)),(Option.bind (bif (decide ((i:Int)<8*(b.length:Int))) then
      let t23_8:Int:=(IntKind.wrap .i64 ((i:Int).tdiv (8:Int)))
      chk none ((decide ((0:Int)≤t23_8))&&(decide (t23_8<(b.length:Int))))<|
      let t25_9:Int:=(b.getD t23_8.toNat (0:Int))
      let t28_10:Int:=(IntKind.wrap .i64 ((7:Int)-((i:Int).tmod (8:Int))))
      let t29_11:Int:=(IntKind.wrap .u64 t28_10)
      chk none (decide ((0:Int)≤t29_11))<|
      let t30_12:Int:=(t25_9.fdiv (2 ^ (min t29_11.toNat 8)))
      let t31_13:Int:=(IntKind.wrap .i64 t30_12)
      some (t31_13.tmod (2:Int))
     else
      some (0:Int)) K)=K (if O9 b i then 1 else 0):=by
   intro K;unfold O9;by_cases h:i<8*b.length
   ·rw[decide_eq_true (show (i:Int)<8*(b.length:Int) by omega),decide_eq_true h]
    simp only[cond_true,Bool.true_and];rw[show (8:Int)=((8:Nat):Int) from rfl,BT5,An1,B0 (n:=((i/8:Nat):Int)) (by omega),B0 (n:=7-((i % 8:Nat):Int)) (by omega),decide_eq_true (show ((i/8:Nat):Int)<(b.length:Int) by omega),decide_eq_true (show (0:Int)≤((i/8:Nat):Int) by omega)]
    rw[show (7-((i % 8:Nat):Int))=((7-i % 8:Nat):Int) by omega,ET0,show (((7-i % 8:Nat):Int) % 18446744073709551616)=((7-i % 8:Nat):Int) by omega,decide_eq_true (show (0:Int)≤((7-i % 8:Nat):Int) by omega)]
    simp only[Bool.and_self,D3];have hbb:=hb (i/8);rw[Int.toNat_natCast (i/8)];have hN:b.getD (i/8) 0=((I9 b (i/8):Nat):Int):=by unfold I9;omega
    rw[hN];have hle:∀k:Nat,k≤7→IntKind.i64.wrap (((I9 b (i/8):Nat):Int).fdiv (2 ^ (min ((k:Nat):Int).toNat 8)))=((I9 b (i/8):Nat):Int).fdiv (2 ^ (min ((k:Nat):Int).toNat 8)):=by
     intro k hk;rw[Int.toNat_natCast,Nat.min_eq_left (by omega),show ((2:Int) ^ k)=((2 ^ k:Nat):Int) by simp,Int.fdiv_eq_ediv_of_nonneg _ (Int.natCast_nonneg _),← Int.natCast_ediv]
     have h1:I9 b (i/8)/2 ^ k≤I9 b (i/8):=Nat.div_le_self _ _;have h2:I9 b (i/8)≤255:=by unfold I9;omega
     exact BT6 _ (Nat.le_trans h1 (by omega))
    rw[hle _ (by omega),ES9 _ _ (by omega)]
    rfl
   ·rw[decide_eq_false (show ¬(i:Int)<8*(b.length:Int) by omega),decide_eq_false h]
    rfl
  rw[hbit];have hfl:∀(K:Int→Option ((Int×Int) ⊕ Int)),(Option.bind (bif (decide ((i:Int)<(16:Int))) then
      some (IntKind.wrap .i64 ((1:Int)-(if O9 b i then 1 else 0)))
     else
      some (if O9 b i then 1 else 0)) K)=K (bif W1 (O9 b) i then 1 else 0):=by
   intro K;unfold W1;have:(decide ((i:Int)<16))=decide (i<16):=by rw[decide_eq_decide];omega
   rw[this];cases O9 b i <;> cases decide (i<16) <;> rfl
  rw[hfl];have hr:=(O2 (W1 (O9 b)) 0#16 i).isLt;have hs:O2 (W1 (O9 b)) 0#16 (i+1)=B7 (O2 (W1 (O9 b)) 0#16 i) ^^^ R0 (W1 (O9 b) i):=rfl;rw[hs,ES8];generalize O2 (W1 (O9 b)) 0#16 i=r at*;generalize W1 (O9 b) i=c;have hc:(0:Int)≤(bif c then 1 else 0)∧(bif c then (1:Int) else 0)≤1:=by cases c <;> decide
  rw[B0 (n:=2*(r.toNat:Int)) (by omega),B0 (n:=2*(r.toNat:Int)+(bif c then 1 else 0)) (by omega)]
  by_cases h:65536≤2*(r.toNat:Int)+(bif c then 1 else 0)
  ·rw[decide_eq_true h,if_pos h]
   simp only[cond_true];rw[B0 (by omega)]
   have e:2*(r.toNat:Int)+(bif c then 1 else 0)-65536=((BitVec.ofNat 16 (2*r.toNat+c.toNat-65536)).toNat:Int):=by rw[BitVec.toNat_ofNat];cases c <;> simp at h ⊢ <;> omega
   rw[e,show (4129:Int)=((0x1021#16).toNat:Int) from rfl,ES7];rfl
  ·rw[decide_eq_false h,if_neg h]
   rfl
 ·simp only[]
  rw[decide_eq_false (by omega),ER8 hb]
  rfl
end Go.Proofs.YthfjpkdadjemcaaGreat

/- The readings of frames: the program's 'Get' is the document's. -/
set_option linter.unusedSimpArgs false
set_option linter.unusedVariables false
namespace Go.Proofs.YthfjpkdadjemcaaGreat
open Go.RowKit
def G0 (k:Int):Int:=if k=1∨k=2∨k=5 then 2 else if k=3∨k=4 then 4 else 0
theorem ET1 (k:Int):Ax5 k=some (G0 k):=by
 unfold Ax5 G0;by_cases h1:k=1
 ·subst h1;rfl
 by_cases h2:k=2
 ·subst h2;rfl
 by_cases h5:k=5
 ·subst h5;rfl
 by_cases h3:k=3
 ·subst h3;rfl
 by_cases h4:k=4
 ·subst h4;rfl
 rw[beq_false_of_ne h1,beq_false_of_ne h2,beq_false_of_ne h3,beq_false_of_ne h4,beq_false_of_ne h5,if_neg (by omega),if_neg (by omega)]
 rfl
theorem BC3 (k:Int):Au9 k=some (G0 k):=by
 unfold Au9 G0;simp only[];by_cases h0:k<1
 ·rw[decide_eq_true h0,if_neg (by omega),if_neg (by omega)];rfl
 by_cases h6:5<k
 ·rw[decide_eq_false h0,decide_eq_true h6,if_neg (by omega),if_neg (by omega)];rfl
 have:k=1∨k=2∨k=3∨k=4∨k=5:=by omega
 rcases this with rfl | rfl | rfl | rfl | rfl <;> rfl
theorem An2 (k:Int):G0 k=0∨(G0 k=2∧(k=1∨k=2∨k=5))∨(G0 k=4∧(k=3∨k=4)):=by
 unfold G0;by_cases h:k=1∨k=2∨k=5
 ·rw[if_pos h];exact .inr (.inl ⟨rfl,h⟩)
 ·rw[if_neg h]
  by_cases h2:k=3∨k=4
  ·rw[if_pos h2];exact .inr (.inr ⟨rfl,h2⟩)
  ·rw[if_neg h2];exact .inl rfl
def M8 (b:List Int)(o:Nat):Nat→Int
 |0=>0
 |i+1=>256*M8 b o i+b.getD (o+i) 0
theorem BT7 {b:List Int}(hb:Bytes b)(o:Nat):∀i,0≤M8 b o i∧M8 b o i<256 ^ i
 |0=>by simp[M8]
 |i+1=>by have h1:=BT7 hb o i;have h2:=hb (o+i);rw[M8,Int.pow_succ];omega
theorem ET2 (v c:Int)(hv:0≤v∧v<16777216)(hc:0≤c∧c≤255):bits .u32 .or (IntKind.u32.wrap (v*2 ^ 8)) (IntKind.u32.wrap c)=256*v+c:=by
 rw[BT4,BT4];obtain⟨n,rfl⟩:∃n:Nat,v=(n:Int):=⟨v.toNat,by omega⟩
 obtain⟨m,rfl⟩:∃m:Nat,c=(m:Int):=⟨c.toNat,by omega⟩
 show IntKind.u32.wrap (((BitVec.ofInt 32 (((n:Int)*2 ^ 8) % 4294967296)) ||| (BitVec.ofInt 32 ((m:Int) % 4294967296))).toNat:Int)=_;have e1:BitVec.ofInt 32 (((n:Int)*2 ^ 8) % 4294967296)=BitVec.ofNat 32 (n <<< 8):=by apply BitVec.eq_of_toNat_eq;rw[BitVec.toNat_ofInt,BitVec.toNat_ofNat,Nat.shiftLeft_eq];omega
 have e2:BitVec.ofInt 32 ((m:Int) % 4294967296)=BitVec.ofNat 32 m:=by apply BitVec.eq_of_toNat_eq;rw[BitVec.toNat_ofInt,BitVec.toNat_ofNat];omega
 have hs:n <<< 8=n*256:=by rw[Nat.shiftLeft_eq]
 rw[e1,e2,BitVec.toNat_or,BitVec.toNat_ofNat,BitVec.toNat_ofNat,Nat.mod_eq_of_lt (by omega),Nat.mod_eq_of_lt (by omega),← Nat.shiftLeft_add_eq_or_of_lt (show m<2 ^ 8 by omega),BT4,hs]
 omega
theorem ET3 (n:Int):IntKind.i32.wrap n=(n+2147483648) % 4294967296-2147483648:=by simp only[IntKind.wrap,IntKind.bits,IntKind.signed,Bool.true_and,decide_eq_true_eq,show (2:Int) ^ 32=4294967296 from rfl,show (2:Int) ^ (32-1)=2147483648 from rfl];split <;> omega
theorem BT8 {b:List Int}(hb:Bytes b)(i:Nat):IntKind.i64.wrap (b.getD i 0)=b.getD i 0:=by have:=hb i;exact B0 (by omega)
theorem ET4 {b:List Int}{o n i:Nat}(hi:i<n)(hl:o+n≤b.length):((b.take (o+n)).drop o).getD i 0=b.getD (o+i) 0:=by simp only[List.getD,List.getElem?_drop,List.getElem?_take,show o+i<o+n by omega,if_true]
def Ae7 (k v:Int):Int:=if G0 k=4∧2147483648≤v then v-4294967296 else v
def F5 (b:List Int):(Int×(Int×Int))×Int:=
 if b.length<5 then ((0,0,0),14) else if G0 (b.getD 0 0)=0 then ((0,0,0),30) else if b.getD 2 0≠G0 (b.getD 0 0)∨(b.length:Int)≠5+G0 (b.getD 0 0) then ((0,0,0),11)
 else if F9 b≠0 then ((0,0,0),31) else ((b.getD 0 0,b.getD 1 0,Ae7 (b.getD 0 0) (M8 b 3 (G0 (b.getD 0 0)).toNat)),0)
theorem ET5 (b:List Int)(hb:Bytes b)(hl:b.length≤140737488355328):AS5 b=some (F5 b):=by
 unfold AS5 F5;simp only[];by_cases h5:b.length<5
 ·rw[decide_eq_true (show (b.length:Int)<5 by omega),if_pos h5]
  rfl
 rw[decide_eq_false (show ¬(b.length:Int)<5 by omega),if_neg h5,decide_eq_true (show (0:Int)<b.length by omega),decide_eq_true (show (1:Int)<b.length by omega),decide_eq_true (show (2:Int)<b.length by omega)]
 have n0:(0:Int).toNat=0:=rfl;have n1:(1:Int).toNat=1:=rfl;have n2:(2:Int).toNat=2:=rfl;simp only[cond_false,Bool.and_self,D3,n0,n1,n2];rw[BT8 hb 0,BT8 hb 1,BT8 hb 2,ET1,Option.bind_some];have hsc:=An2 (b.getD 0 0);generalize hs:G0 (b.getD 0 0)=n at*;have hn:n=0∨n=2∨n=4:=by omega
 by_cases hn0:n=0
 ·subst hn0;rfl
 rw[beq_false_of_ne hn0,if_neg hn0,B0 (n:=3+n) (by omega),B0 (n:=3+n+2) (by omega)]
 simp only[cond_false];by_cases hf:b.getD 2 0≠n∨(b.length:Int)≠5+n
 ·rw[if_pos hf]
  have e:(bif b.getD 2 0 != n then true else (b.length:Int)!=3+n+2)=true:=by
   rcases hf with h | h
   ·rw[bne_iff_ne.2 h];rfl
   ·have:((b.length:Int)!=3+n+2)=true:=bne_iff_ne.2 (by omega)
    rw[this];cases (b.getD 2 0 != n) <;> rfl
  rw[e];rfl
 rw[if_neg hf];have hf1:b.getD 2 0=n:=by apply Classical.byContradiction;intro h;exact hf (.inl h)
 have hf2:(b.length:Int)=5+n:=by apply Classical.byContradiction;intro h;exact hf (.inr h)
 have e1:(b.getD 2 0 != n)=false:=by rw[hf1];simp
 have e2:((b.length:Int)!=3+n+2)=false:=by simp;omega
 rw[e1,e2];simp only[cond_false];rw[CE8 b hb (by omega),Option.bind_some]
 by_cases hc:F9 b≠0
 ·have:(F9 b != 0)=true:=bne_iff_ne.2 hc
  rw[this,if_pos hc];rfl
 have ec:(F9 b != 0)=false:=by
  have:F9 b=0:=by apply Classical.byContradiction;exact hc
  simp[this]
 rw[ec,if_neg hc,decide_eq_true (show (3:Int)≤3+n by omega),decide_eq_true (show (3:Int)+n≤b.length by omega)]
 simp only[cond_false,Bool.and_self,D3];obtain⟨m,rfl⟩:∃m:Nat,n=(m:Int):=⟨n.toNat,by omega⟩
 have en:((3:Int)+(m:Int)).toNat=3+m:=by omega
 have e3:(3:Int).toNat=3:=rfl;have hlen:((b.take (3+m)).drop 3).length=m:=by simp;omega
 rw[en,e3,hlen];have hm4:m≤4:=by omega
 rw[show ((0:Int),(0:Int))=(M8 b 3 0,((0:Nat):Int)) from rfl];rw[Q9 (n:=m) (st:=fun i=>(M8 b 3 i,(i:Int))) (x:=M8 b 3 m)]
 ·rw[Option.bind_some]
  unfold BO4;have hv:=BT7 hb 3 m;have hv4:M8 b 3 m<4294967296:=by
   have:m=0∨m=2∨m=4:=by omega
   rcases this with rfl | rfl | rfl <;> (have:=hv.2;omega)
  simp only[Option.bind_some];rw[B0 (n:=M8 b 3 m) (by omega),Int.toNat_natCast]
  unfold Ae7;rw[hs];by_cases hk:b.getD 0 0=3∨b.getD 0 0=4
  ·have hm:(m:Int)=4:=by omega
   have:(bif b.getD 0 0==3 then true else b.getD 0 0==4)=true:=by
    rcases hk with h | h <;> rw[h] <;> rfl
   rw[this];simp only[cond_true,Option.bind_some];rw[ET3,B0 (by omega)]
   by_cases hb':2147483648≤M8 b 3 m
   ·rw[if_pos ⟨hm,hb'⟩,show (M8 b 3 m+2147483648) % 4294967296-2147483648=M8 b 3 m-4294967296 by omega]
   ·rw[if_neg (by omega),show (M8 b 3 m+2147483648) % 4294967296-2147483648=M8 b 3 m by omega]
  ·have:(bif b.getD 0 0==3 then true else b.getD 0 0==4)=false:=by
    rw[beq_false_of_ne (show b.getD 0 0≠3 by omega),beq_false_of_ne (show b.getD 0 0≠4 by omega)]
    rfl
   rw[this,if_neg (by omega)]
   rfl
 ·intro i hi
  simp only[];have hv:=BT7 hb 3 i;have hv3:M8 b 3 i<16777216:=by
   have:i=0∨i=1∨i=2∨i=3:=by omega
   rcases this with rfl | rfl | rfl | rfl <;> (have:=hv.2;omega)
  rw[decide_eq_true (show (i:Int)<m by omega),decide_eq_true (show (0:Int)≤i by omega),Int.toNat_natCast,ET4 hi (by omega),B0 (n:=(i:Int)+1) (by omega),ET2 _ _ ⟨hv.1,hv3⟩ (hb _)]
  rfl
 ·simp
end Go.Proofs.YthfjpkdadjemcaaGreat
