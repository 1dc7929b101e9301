/- The sums of bytes: the program's and the document's are the same. -/
import Derived.Test.YthfjpkdadjemcaaGreatTrM
import Derived.Test.YthfjpkdadjemcaaGreatFnsF3
set_option linter.unusedSimpArgs false
set_option linter.unusedVariables false
namespace Go.Proofs.YthfjpkdadjemcaaGreat
open Go.RowKit
abbrev B16:=BitVec 16
def C1 (x:B16):B16:=(x <<< 1) ^^^ (bif x.msb then 0x1021#16 else 0#16)
theorem Av9 (x y:B16):C1 (x ^^^ y)=C1 x ^^^ C1 y:=by unfold C1;rw[BitVec.shiftLeft_xor_distrib,BitVec.msb_xor];generalize x <<< 1=a;generalize y <<< 1=b;cases x.msb <;> cases y.msb <;> apply BitVec.eq_of_getLsbD_eq <;> intro i hi <;> simp only[Bool.false_xor,Bool.true_xor,Bool.not_true,Bool.not_false,cond_true,cond_false,BitVec.getLsbD_xor] <;> cases a.getLsbD i <;> cases b.getLsbD i <;> simp
def I9:Nat→B16→B16
 |0,x=>x
 |n+1,x=>I9 n (C1 x)
theorem BL5:∀(n:Nat) (x y:B16),I9 n (x ^^^ y)=I9 n x ^^^ I9 n y
 |0,_,_=>rfl
 |n+1,x,y=>by rw[I9,I9,I9,Av9,BL5 n]
theorem Bv7:∀(m n:Nat) (x:B16),I9 (m+n) x=I9 n (I9 m x)
 |0,n,x=>by rw[Nat.zero_add];rfl
 |m+1,n,x=>by rw[Nat.add_right_comm,I9,I9,Bv7 m n]
theorem BL6 (n:Nat)(x:B16):I9 (n+1) x=C1 (I9 n x):=by rw[Bv7 n 1];rfl
def P7 (b:Bool):B16:=bif b then 1#16 else 0#16
def O7 (b:Bool):B16:=bif b then 0x8000#16 else 0#16
theorem EF5 (b:Bool):I9 16 (P7 b)=C1 (O7 b):=by cases b <;> decide
def N6 (m:Nat→Bool)(r:B16):Nat→B16
 |0=>r
 |n+1=>C1 (N6 m r n) ^^^ P7 (m n)
def AD7 (m:Nat→Bool)(s:B16):Nat→B16
 |0=>s
 |n+1=>C1 (AD7 m s n ^^^ O7 (m n))
theorem Bv8 (m:Nat→Bool)(r:B16):∀n,I9 16 (N6 m r n)=AD7 m (I9 16 r) n
 |0=>rfl
 |n+1=>by rw[N6,AD7,BL5,EF5,← I9,BL6,Bv8 m r n,← Av9]
theorem Bv9 (m:Nat→Bool)(r:B16)(n:Nat)(h:∀i,n≤i→m i=false):∀k,N6 m r (n+k)=I9 k (N6 m r n)
 |0=>rfl
 |k+1=>by
  rw[← Nat.add_assoc,N6,Bv9 m r n h k,h (n+k) (by omega),BL6]
  simp[P7]
def U0 (m:Nat→Bool)(i:Nat):Bool:=m i ^^ decide (i<16)
def Ai2:B16:=0x84CF#16
def AR9:Nat→B16
 |0=>Ai2
 |n+1=>C1 (AR9 n) ^^^ P7 (decide (n<16))
theorem EF6 (a b:Bool):P7 (a ^^ b)=P7 a ^^^ P7 b:=by cases a <;> cases b <;> decide
theorem Bw0 (m:Nat→Bool):∀n,N6 (U0 m) 0#16 n=N6 m Ai2 n ^^^ AR9 n
 |0=>by simp[N6,AR9]
 |n+1=>by rw[N6,N6,AR9,Bw0 m n,Av9];unfold U0;rw[EF6];generalize C1 (N6 m Ai2 n)=a;generalize C1 (AR9 n)=b;generalize P7 (m n)=c;generalize P7 (decide (n<16))=d;apply BitVec.eq_of_getLsbD_eq;intro i hi;simp only[BitVec.getLsbD_xor];cases a.getLsbD i <;> cases b.getLsbD i <;> cases c.getLsbD i <;> cases d.getLsbD i <;> rfl
theorem Bw1:∀k,AR9 (16+k)=0#16
 |0=>by decide
 |k+1=>by
  rw[← Nat.add_assoc,AR9,Bw1 k,decide_eq_false (by omega)]
  decide
theorem EF7 (m:Nat→Bool)(n:Nat)(h:∀i,n≤i→m i=false):N6 (U0 m) 0#16 (n+16)=AD7 m 0xFFFF#16 n:=by rw[Bw0,Nat.add_comm n 16,Bw1,BitVec.xor_zero,Nat.add_comm 16 n,Bv9 m Ai2 n h 16,Bv8,show I9 16 Ai2=0xFFFF#16 from by decide]
def Ai3 (s:B16)(b:Nat):B16:=I9 8 (s ^^^ (BitVec.ofNat 16 b <<< 8))
theorem EF8 (s:B16)(b:Nat)(hb:b<256)(m:Nat→Bool)(k:Nat)(hm:∀j,j<8→m (k+j)=b.testBit (7-j))(hs:AD7 m 0xFFFF#16 k=s):AD7 m 0xFFFF#16 (k+8)=Ai3 s b:=by
 have e:AD7 m 0xFFFF#16 (k+8)=C1 (C1 (C1 (C1 (C1 (C1 (C1 (C1 (s ^^^ O7 (b.testBit 7)) ^^^ O7 (b.testBit 6)) ^^^ O7 (b.testBit 5)) ^^^ O7 (b.testBit 4)) ^^^ O7 (b.testBit 3)) ^^^ O7 (b.testBit 2)) ^^^ O7 (b.testBit 1)) ^^^ O7 (b.testBit 0)):=by
  have h0:=hm 0 (by omega);have h1:=hm 1 (by omega);have h2:=hm 2 (by omega);have h3:=hm 3 (by omega)
  have h4:=hm 4 (by omega);have h5:=hm 5 (by omega);have h6:=hm 6 (by omega);have h7:=hm 7 (by omega)
  simp only[Nat.add_zero,Nat.sub_zero] at h0;simp only[AD7,hs,h0,h1,h2,h3,h4,h5,h6,h7]
 rw[e];simp only[Av9];unfold Ai3;rw[BL5];have e2:I9 8 s=C1 (C1 (C1 (C1 (C1 (C1 (C1 (C1 s))))))):=rfl;rw[e2];simp only[BitVec.xor_assoc];refine congrArg _ ?_;have key:∀b:Fin 256,(C1 (C1 (C1 (C1 (C1 (C1 (C1 (C1 (O7 (b.val.testBit 7))))))))) ^^^ (C1 (C1 (C1 (C1 (C1 (C1 (C1 (O7 (b.val.testBit 6)))))))) ^^^ (C1 (C1 (C1 (C1 (C1 (C1 (O7 (b.val.testBit 5))))))) ^^^ (C1 (C1 (C1 (C1 (C1 (O7 (b.val.testBit 4)))))) ^^^ (C1 (C1 (C1 (C1 (O7 (b.val.testBit 3))))) ^^^ (C1 (C1 (C1 (O7 (b.val.testBit 2)))) ^^^ (C1 (C1 (O7 (b.val.testBit 1))) ^^^ C1 (O7 (b.val.testBit 0)))))))))=I9 8 (BitVec.ofNat 16 b.val <<< 8):=by decide +kernel
 exact key ⟨b,hb⟩
def l9 (b:List Int)(i:Nat):Nat:=(b.getD i 0).toNat
def AD8 (b:List Int):Nat→B16
 |0=>0xFFFF#16
 |n+1=>Ai3 (AD8 b n) (l9 b n)
def K3 (b:List Int):Int:=((AD8 b b.length).toNat:Int)
def Bytes (b:List Int):Prop:=∀i,0≤b.getD i 0∧b.getD i 0≤255
def O2 (b:List Int)(i:Nat):Bool:=decide (i<8*b.length)&&(l9 b (i/8)).testBit (7-i % 8)
theorem Bw2 {b:List Int}(hb:Bytes b):∀n,n≤b.length→AD7 (O2 b) 0xFFFF#16 (8*n)=AD8 b n
 |0,_=>rfl
 |n+1,h=>by
  rw[show 8*(n+1)=8*n+8 by omega,AD8]
  have:=hb n;refine EF8 _ _ (by unfold l9;omega) _ _ (fun j hj=> ?_) (Bw2 hb n (by omega))
  unfold O2;rw[decide_eq_true (show 8*n+j<8*b.length by omega),show (8*n+j)/8=n by omega,show (8*n+j) % 8=j by omega,Bool.true_and]
theorem EF9 {b:List Int}(hb:Bytes b):N6 (U0 (O2 b)) 0#16 (8*b.length+16)=AD8 b b.length:=by rw[EF7 (O2 b) (8*b.length) (fun i hi=>by unfold O2;rw[decide_eq_false (by omega),Bool.false_and]),Bw2 hb _ (Nat.le_refl _)]
end Go.Proofs.YthfjpkdadjemcaaGreat

/- The readings of the sums of bytes, and of frames: the program's are the document's. -/
set_option linter.unusedSimpArgs false
set_option linter.unusedVariables false
namespace Go.Proofs.YthfjpkdadjemcaaGreat
open Go.RowKit
theorem Aw0 (n:Int):IntKind.u16.wrap n=n % 65536:=by simp[IntKind.wrap,IntKind.bits,IntKind.signed]
theorem BL7 (n:Int):IntKind.u32.wrap n=n % 4294967296:=by simp[IntKind.wrap,IntKind.bits,IntKind.signed]
theorem Aw1 (x:B16):BitVec.ofInt 16 (x.toNat:Int)=x:=by apply BitVec.eq_of_toNat_eq;have:=x.isLt;rw[BitVec.toNat_ofInt];omega
theorem Bw3 (x:B16):IntKind.u16.wrap (x.toNat:Int)=(x.toNat:Int):=by have:=x.isLt;rw[Aw0];omega
theorem Bw4 (x y:B16):bits .u16 .xor (x.toNat:Int) (y.toNat:Int)=((x ^^^ y).toNat:Int):=by show IntKind.u16.wrap (((BitVec.ofInt 16 (x.toNat:Int)) ^^^ (BitVec.ofInt 16 (y.toNat:Int))).toNat:Int)=_;rw[Aw1,Aw1,Bw3]
theorem EG0 (x y:B16):bits .u16 .and (x.toNat:Int) (y.toNat:Int)=((x &&& y).toNat:Int):=by show IntKind.u16.wrap (((BitVec.ofInt 16 (x.toNat:Int)) &&& (BitVec.ofInt 16 (y.toNat:Int))).toNat:Int)=_;rw[Aw1,Aw1,Bw3]
theorem EG1 (x:B16):IntKind.u16.wrap ((x.toNat:Int)*2 ^ 1)=((x <<< 1).toNat:Int):=by rw[Aw0,BitVec.toNat_shiftLeft,Nat.shiftLeft_eq];omega
theorem EG2 (x:B16):(bits .u16 .and (x.toNat:Int) 32768 != 0)=x.msb:=by
 have e:x &&& 0x8000#16=bif x.msb then 0x8000#16 else 0#16:=by
  apply BitVec.eq_of_getLsbD_eq;intro i hi;rw[BitVec.msb_eq_getLsbD_last,BitVec.getLsbD_and];have key:∀i:Fin 16,(0x8000#16).getLsbD i.val=decide (i.val=15):=by decide
  rw[key ⟨i,hi⟩];by_cases h:i=15
  ·subst h
   cases hx:x.getLsbD 15 with
   |true=>simp [hx]
   |false=>simp [hx]
  ·simp only[h,decide_false,Bool.and_false]
   cases x.getLsbD (16-1) with
   |true=>simp only[cond_true];rw[key ⟨i,hi⟩];simp[h]
   |false=>simp
 have e2:=EG0 x 0x8000#16;rw[e] at e2;have e3:bits .u16 .and (x.toNat:Int) 32768=_:=e2;rw[e3];cases x.msb <;> rfl
theorem EG3 {b:Int}(h:0≤b∧b≤255):IntKind.u16.wrap (IntKind.u16.wrap b*2 ^ 8)=((BitVec.ofNat 16 b.toNat <<< 8).toNat:Int):=by rw[Aw0,Aw0,BitVec.toNat_shiftLeft,Nat.shiftLeft_eq,BitVec.toNat_ofNat];omega
theorem EG4 (s:B16)(b:Int)(h:0≤b∧b≤255):AM0 (s.toNat:Int) b=some ((Ai3 s b.toNat).toNat:Int):=by
 unfold AM0;simp only[];rw[EG3 h,Bw4];unfold Ai3;generalize s ^^^ (BitVec.ofNat 16 b.toNat <<< 8)=x;rw[show ((0:Int),(x.toNat:Int))=(((0:Nat):Int),((I9 0 x).toNat:Int)) from rfl];rw[P6 (n:=8) (st:=fun i=>((i:Int),((I9 i x).toNat:Int))) (x:=((I9 8 x).toNat:Int))]
 ·rfl
 ·intro i hi
  simp only[];rw[decide_eq_true (show (i:Int)<8 by omega),EG2,EG1,show (4129:Int)=((0x1021#16).toNat:Int) from rfl,Bw4,D0 (n:=(i:Int)+1) (by omega),BL6]
  simp only[cond_true];unfold C1;cases (I9 i x).msb with
  |true=>rfl
  |false=>simp only[cond_false,Option.bind_some,BitVec.xor_zero];rfl
 ·rfl
theorem EG5 (b:List Int)(hb:Bytes b)(hl:b.length≤4611686018427387903):AM1 65535 b=some (K3 b):=by
 unfold AM1 K3;rw[show ((65535:Int),(0:Int))=(((AD8 b 0).toNat:Int),((0:Nat):Int)) from rfl];rw[P6 (n:=b.length) (st:=fun i=>(((AD8 b i).toNat:Int),(i:Int))) (x:=((AD8 b b.length).toNat:Int))]
 ·rfl
 ·intro i hi
  simp only[];rw[decide_eq_true (show (i:Int)<b.length by omega),decide_eq_true (show (0:Int)≤i by omega),Int.toNat_natCast,D0 (n:=(i:Int)+1) (by omega)]
  simp only[cond_true,Bool.and_self,D7];rw[EG4 _ _ (hb i)];rfl
 ·simp
theorem Bw5 (b:List Int)(hb:Bytes b)(hl:b.length≤4611686018427387903):AG0 b=some (K3 b):=by unfold AG0;rw[EG5 b hb hl];rfl
theorem BL8 (a:Nat)(n:Nat):((a:Int).tdiv (n:Int))=((a/n:Nat):Int):=by
 rw[Int.tdiv_eq_ediv_of_nonneg (by omega)]
 rfl
theorem Aw2 (a:Nat)(n:Nat):((a:Int).tmod (n:Int))=((a % n:Nat):Int):=by
 rw[Int.tmod_eq_emod_of_nonneg (by omega)]
 rfl
theorem EG6 (x i:Nat):x % 2 ^ (i+1)=x % 2 ^ i+2 ^ i*(x.testBit i).toNat:=by
 rw[Nat.mod_pow_succ,Nat.testBit_eq_decide_div_mod_eq];have:x/2 ^ i % 2=0∨x/2 ^ i % 2=1:=by omega
 rcases this with h | h <;> rw[h] <;> rfl
theorem BL9 (n:Nat)(h:n≤9223372036854775807):IntKind.i64.wrap (n:Int)=(n:Int):=D0 (by omega)
theorem EG7 (x y:B16):AL6 (x.toNat:Int) (y.toNat:Int)=some ((x ^^^ y).toNat:Int):=by
 unfold AL6;have hx:=x.isLt;have hy:=y.isLt;rw[show ((0:Int),(0:Int),(1:Int))=(((0:Nat):Int),(((x ^^^ y).toNat % 2 ^ 0:Nat):Int),((2 ^ 0:Nat):Int)) from by simp[Nat.mod_one]]
 rw[P6 (n:=16) (st:=fun i=>((i:Int),(((x ^^^ y).toNat % 2 ^ i:Nat):Int),((2 ^ i:Nat):Int))) (x:=((x ^^^ y).toNat:Int))]
 ·rfl
 ·intro i hi
  have hp:2 ^ i≤2 ^ 15:=Nat.pow_le_pow_right (by decide) (by omega)
  have hp0:0<2 ^ i:=Nat.two_pow_pos i;have hm:(x ^^^ y).toNat % 2 ^ i<2 ^ i:=Nat.mod_lt _ hp0;have hdx:x.toNat/2 ^ i≤x.toNat:=Nat.div_le_self _ _;have hdy:y.toNat/2 ^ i≤y.toNat:=Nat.div_le_self _ _;simp only[];rw[BL8,BL8,BL9 _ (Nat.le_trans hdx (by omega)),BL9 _ (Nat.le_trans hdy (by omega)),show (2:Int)=((2:Nat):Int) from rfl,Aw2,Aw2,decide_eq_true (show (i:Int)<16 by omega)]
  rw[D0 (n:=(i:Int)+1) (by omega),D0 (n:=((2:Nat):Int)*((2 ^ i:Nat):Int)) (by omega),D0 (n:=(((x ^^^ y).toNat % 2 ^ i:Nat):Int)+((2 ^ i:Nat):Int)) (by omega)]
  have e0:(((2 ^ i:Nat):Int)==0)=false:=beq_false_of_ne (by omega)
  rw[e0];simp only[cond_true,Bool.not_false,D7];have hb:((((x.toNat/2 ^ i % 2:Nat):Int))!=(((y.toNat/2 ^ i % 2:Nat):Int)))=(x ^^^ y).toNat.testBit i:=by
   rw[BitVec.toNat_xor,Nat.testBit_xor,Nat.testBit_eq_decide_div_mod_eq,Nat.testBit_eq_decide_div_mod_eq];have h1:x.toNat/2 ^ i % 2=0∨x.toNat/2 ^ i % 2=1:=by omega
   have h2:y.toNat/2 ^ i % 2=0∨y.toNat/2 ^ i % 2=1:=by omega
   rcases h1 with h1 | h1 <;> rcases h2 with h2 | h2 <;> rw[h1,h2] <;> rfl
  rw[hb,EG6,Nat.pow_succ];cases (x ^^^ y).toNat.testBit i with
  |true=>simp only[cond_true,Option.bind_some,Bool.toNat_true,Nat.mul_one];refine congrArg some (congrArg Sum.inl ?_);simp only[Prod.mk.injEq];omega
  |false=>simp only[cond_false,Option.bind_some,Bool.toNat_false,Nat.mul_zero];refine congrArg some (congrArg Sum.inl ?_);simp only[Prod.mk.injEq];omega
 ·simp only[]
  have hxy:(x ^^^ y).toNat % 2 ^ 16=(x ^^^ y).toNat:=Nat.mod_eq_of_lt (x ^^^ y).isLt;rw[decide_eq_false (by omega),hxy]
  rfl
theorem EG8 (x:B16)(c:Bool):((C1 x ^^^ P7 c).toNat:Int)=if 65536≤2*(x.toNat:Int)+(bif c then 1 else 0) then (((BitVec.ofNat 16 (2*x.toNat+c.toNat-65536)) ^^^ 0x1021#16).toNat:Int) else 2*(x.toNat:Int)+(bif c then 1 else 0):=by
 have hx:=x.isLt;have hsh:(x <<< 1) ^^^ P7 c=BitVec.ofNat 16 (2*x.toNat+c.toNat):=by
  apply BitVec.eq_of_getLsbD_eq;intro i hi;cases i with
  |zero=>
   have:(2*x.toNat+c.toNat).testBit 0=c:=by rw[Nat.testBit_zero];cases c <;> simp <;> omega
   simp only[BitVec.getLsbD_xor,BitVec.getLsbD_shiftLeft,BitVec.getLsbD_ofNat,this];cases c <;> simp[P7]
  |succ i=>
   have:(2*x.toNat+c.toNat).testBit (i+1)=x.toNat.testBit i:=by rw[Nat.testBit_succ];congr 1;cases c <;> simp <;> omega
   simp only[BitVec.getLsbD_xor,BitVec.getLsbD_shiftLeft,BitVec.getLsbD_ofNat,this];have hb:(P7 c).getLsbD (i+1)=false:=by
    cases c with
    |false=>simp [P7]
    |true=>
     have key:∀i:Fin 16,(1#16).getLsbD i.val=decide (i.val=0):=by decide
     show (1#16).getLsbD (i+1)=false;rw[key ⟨i+1,hi⟩];simp
   rw[hb];have hi2:i+1<16:=hi;simp[hi2,BitVec.getLsbD]
 have hmsb:x.msb=decide (32768≤x.toNat):=by rw[BitVec.msb_eq_decide]
 have e:C1 x ^^^ P7 c=(bif x.msb then BitVec.ofNat 16 (2*x.toNat+c.toNat) ^^^ 0x1021#16 else BitVec.ofNat 16 (2*x.toNat+c.toNat)):=by
  unfold C1;rw[← hsh];generalize x <<< 1=a;generalize P7 c=d;cases x.msb with
  |false=>simp
  |true=>
   simp only[cond_true];rw[BitVec.xor_assoc,BitVec.xor_assoc,BitVec.xor_comm d]
 rw[e,hmsb];by_cases h:32768≤x.toNat
 ·rw[decide_eq_true h,if_pos (by cases c <;> simp <;> omega)]
  simp only[cond_true];have:BitVec.ofNat 16 (2*x.toNat+c.toNat)=BitVec.ofNat 16 (2*x.toNat+c.toNat-65536):=by apply BitVec.eq_of_toNat_eq;rw[BitVec.toNat_ofNat,BitVec.toNat_ofNat];omega
  rw[this]
 ·rw[decide_eq_false h,if_neg (by cases c <;> simp <;> omega)]
  simp only[cond_false,BitVec.toNat_ofNat];cases c <;> simp <;> omega
theorem EG9 (a k:Nat)(hk:k≤7):((a:Int).fdiv (2 ^ (min (k:Int).toNat 8))).tmod 2=if a.testBit k then 1 else 0:=by
 rw[Int.toNat_natCast,Nat.min_eq_left (by omega),show ((2:Int) ^ k)=((2 ^ k:Nat):Int) by simp,Int.fdiv_eq_ediv_of_nonneg _ (Int.natCast_nonneg _),← Int.natCast_ediv,show (2:Int)=((2:Nat):Int) from rfl,Aw2,Nat.testBit_eq_decide_div_mod_eq]
 have:a/2 ^ k % 2=0∨a/2 ^ k % 2=1:=by omega
 rcases this with h | h <;> rw[h] <;> rfl
theorem EH0 (n:Int):IntKind.u64.wrap n=n % 18446744073709551616:=by simp[IntKind.wrap,IntKind.bits,IntKind.signed]
theorem EH1 (b:List Int)(hb:Bytes b)(hl:b.length≤140737488355328):AF7 b=some (K3 b):=by
 unfold AF7;simp only[];rw[D0 (n:=8*(b.length:Int)) (by omega),D0 (n:=8*(b.length:Int)+16) (by omega)]
 rw[show ((0:Int),(0:Int))=(((0:Nat):Int),((N6 (U0 (O2 b)) 0#16 0).toNat:Int)) from rfl];rw[P6 (n:=8*b.length+16) (st:=fun i=>((i:Int),((N6 (U0 (O2 b)) 0#16 i).toNat:Int))) (x:=K3 b)]
 ·rfl
 ·intro i hi
  simp only[];rw[decide_eq_true (show (i:Int)<8*(b.length:Int)+16 by omega),D0 (n:=(i:Int)+1) (by omega)]
  simp only[cond_true];have hbit:∀(K:Int→Option ((Int×Int) ⊕ Int)),(Option.bind (bif (decide ((i:Int)<8*(b.length:Int))) then
      let t23_8:Int:=(IntKind.wrap .i64 ((i:Int).tdiv (8:Int)))
      chk none ((decide ((0:Int)≤t23_8))&&(decide (t23_8<(b.length:Int))))<|
      let t25_9:Int:=(b.getD t23_8.toNat (0:Int))
      let t28_10:Int:=(IntKind.wrap .i64 ((7:Int)-((i:Int).tmod (8:Int))))
      let t29_11:Int:=(IntKind.wrap .u64 t28_10)
      chk none (decide ((0:Int)≤t29_11))<|
      let t30_12:Int:=(t25_9.fdiv (2 ^ (min t29_11.toNat 8)))
      let t31_13:Int:=(IntKind.wrap .i64 t30_12)
      some (t31_13.tmod (2:Int))
     else
      some (0:Int)) K)=K (if O2 b i then 1 else 0):=by
   intro K;unfold O2;by_cases h:i<8*b.length
   ·rw[decide_eq_true (show (i:Int)<8*(b.length:Int) by omega),decide_eq_true h]
    simp only[cond_true,Bool.true_and];rw[show (8:Int)=((8:Nat):Int) from rfl,BL8,Aw2,D0 (n:=((i/8:Nat):Int)) (by omega),D0 (n:=7-((i % 8:Nat):Int)) (by omega),decide_eq_true (show ((i/8:Nat):Int)<(b.length:Int) by omega),decide_eq_true (show (0:Int)≤((i/8:Nat):Int) by omega)]
    rw[show (7-((i % 8:Nat):Int))=((7-i % 8:Nat):Int) by omega,EH0,show (((7-i % 8:Nat):Int) % 18446744073709551616)=((7-i % 8:Nat):Int) by omega,decide_eq_true (show (0:Int)≤((7-i % 8:Nat):Int) by omega)]
    simp only[Bool.and_self,D7];have hbb:=hb (i/8);rw[Int.toNat_natCast (i/8)];have hN:b.getD (i/8) 0=((l9 b (i/8):Nat):Int):=by unfold l9;omega
    rw[hN];have hle:∀k:Nat,k≤7→IntKind.i64.wrap (((l9 b (i/8):Nat):Int).fdiv (2 ^ (min ((k:Nat):Int).toNat 8)))=((l9 b (i/8):Nat):Int).fdiv (2 ^ (min ((k:Nat):Int).toNat 8)):=by
     intro k hk;rw[Int.toNat_natCast,Nat.min_eq_left (by omega),show ((2:Int) ^ k)=((2 ^ k:Nat):Int) by simp,Int.fdiv_eq_ediv_of_nonneg _ (Int.natCast_nonneg _),← Int.natCast_ediv]
     have h1:l9 b (i/8)/2 ^ k≤l9 b (i/8):=Nat.div_le_self _ _;have h2:l9 b (i/8)≤255:=by unfold l9;omega
     exact BL9 _ (Nat.le_trans h1 (by omega))
    rw[hle _ (by omega),EG9 _ _ (by omega)]
    rfl
   ·rw[decide_eq_false (show ¬(i:Int)<8*(b.length:Int) by omega),decide_eq_false h]
    rfl
  rw[hbit];have hfl:∀(K:Int→Option ((Int×Int) ⊕ Int)),(Option.bind (bif (decide ((i:Int)<(16:Int))) then
      some (IntKind.wrap .i64 ((1:Int)-(if O2 b i then 1 else 0)))
     else
      some (if O2 b i then 1 else 0)) K)=K (bif U0 (O2 b) i then 1 else 0):=by
   intro K;unfold U0;have:(decide ((i:Int)<16))=decide (i<16):=by rw[decide_eq_decide];omega
   rw[this];cases O2 b i <;> cases decide (i<16) <;> rfl
  rw[hfl];have hr:=(N6 (U0 (O2 b)) 0#16 i).isLt;have hs:N6 (U0 (O2 b)) 0#16 (i+1)=C1 (N6 (U0 (O2 b)) 0#16 i) ^^^ P7 (U0 (O2 b) i):=rfl;rw[hs,EG8];generalize N6 (U0 (O2 b)) 0#16 i=r at*;generalize U0 (O2 b) i=c;have hc:(0:Int)≤(bif c then 1 else 0)∧(bif c then (1:Int) else 0)≤1:=by cases c <;> decide
  rw[D0 (n:=2*(r.toNat:Int)) (by omega),D0 (n:=2*(r.toNat:Int)+(bif c then 1 else 0)) (by omega)]
  by_cases h:65536≤2*(r.toNat:Int)+(bif c then 1 else 0)
  ·rw[decide_eq_true h,if_pos h]
   simp only[cond_true];rw[D0 (by omega)]
   have e:2*(r.toNat:Int)+(bif c then 1 else 0)-65536=((BitVec.ofNat 16 (2*r.toNat+c.toNat-65536)).toNat:Int):=by rw[BitVec.toNat_ofNat];cases c <;> simp at h ⊢ <;> omega
   rw[e,show (4129:Int)=((0x1021#16).toNat:Int) from rfl,EG7];rfl
  ·rw[decide_eq_false h,if_neg h]
   rfl
 ·simp only[]
  rw[decide_eq_false (by omega),EF9 hb]
  rfl
end Go.Proofs.YthfjpkdadjemcaaGreat

/- The readings of frames: the program's 'Get' is the document's. -/
set_option linter.unusedSimpArgs false
set_option linter.unusedVariables false
namespace Go.Proofs.YthfjpkdadjemcaaGreat
open Go.RowKit
def Y3 (k:Int):Int:=if k=1∨k=2∨k=5 then 2 else if k=3∨k=4 then 4 else 0
theorem EH2 (k:Int):Ar9 k=some (Y3 k):=by
 unfold Ar9 Y3;by_cases h1:k=1
 ·subst h1;rfl
 by_cases h2:k=2
 ·subst h2;rfl
 by_cases h5:k=5
 ·subst h5;rfl
 by_cases h3:k=3
 ·subst h3;rfl
 by_cases h4:k=4
 ·subst h4;rfl
 rw[beq_false_of_ne h1,beq_false_of_ne h2,beq_false_of_ne h3,beq_false_of_ne h4,beq_false_of_ne h5,if_neg (by omega),if_neg (by omega)]
 rfl
theorem Bw6 (k:Int):Y3 k=0∨(Y3 k=2∧(k=1∨k=2∨k=5))∨(Y3 k=4∧(k=3∨k=4)):=by
 unfold Y3;by_cases h:k=1∨k=2∨k=5
 ·rw[if_pos h];exact .inr (.inl ⟨rfl,h⟩)
 ·rw[if_neg h]
  by_cases h2:k=3∨k=4
  ·rw[if_pos h2];exact .inr (.inr ⟨rfl,h2⟩)
  ·rw[if_neg h2];exact .inl rfl
def P8 (b:List Int)(o:Nat):Nat→Int
 |0=>0
 |i+1=>256*P8 b o i+b.getD (o+i) 0
theorem BM0 {b:List Int}(hb:Bytes b)(o:Nat):∀i,0≤P8 b o i∧P8 b o i<256 ^ i
 |0=>by simp[P8]
 |i+1=>by have h1:=BM0 hb o i;have h2:=hb (o+i);rw[P8,Int.pow_succ];omega
theorem EH3 (v c:Int)(hv:0≤v∧v<16777216)(hc:0≤c∧c≤255):bits .u32 .or (IntKind.u32.wrap (v*2 ^ 8)) (IntKind.u32.wrap c)=256*v+c:=by
 rw[BL7,BL7];obtain⟨n,rfl⟩:∃n:Nat,v=(n:Int):=⟨v.toNat,by omega⟩
 obtain⟨m,rfl⟩:∃m:Nat,c=(m:Int):=⟨c.toNat,by omega⟩
 show IntKind.u32.wrap (((BitVec.ofInt 32 (((n:Int)*2 ^ 8) % 4294967296)) ||| (BitVec.ofInt 32 ((m:Int) % 4294967296))).toNat:Int)=_;have e1:BitVec.ofInt 32 (((n:Int)*2 ^ 8) % 4294967296)=BitVec.ofNat 32 (n <<< 8):=by apply BitVec.eq_of_toNat_eq;rw[BitVec.toNat_ofInt,BitVec.toNat_ofNat,Nat.shiftLeft_eq];omega
 have e2:BitVec.ofInt 32 ((m:Int) % 4294967296)=BitVec.ofNat 32 m:=by apply BitVec.eq_of_toNat_eq;rw[BitVec.toNat_ofInt,BitVec.toNat_ofNat];omega
 have hs:n <<< 8=n*256:=by rw[Nat.shiftLeft_eq]
 rw[e1,e2,BitVec.toNat_or,BitVec.toNat_ofNat,BitVec.toNat_ofNat,Nat.mod_eq_of_lt (by omega),Nat.mod_eq_of_lt (by omega),← Nat.shiftLeft_add_eq_or_of_lt (show m<2 ^ 8 by omega),BL7,hs]
 omega
theorem EH4 (n:Int):IntKind.i32.wrap n=(n+2147483648) % 4294967296-2147483648:=by simp only[IntKind.wrap,IntKind.bits,IntKind.signed,Bool.true_and,decide_eq_true_eq,show (2:Int) ^ 32=4294967296 from rfl,show (2:Int) ^ (32-1)=2147483648 from rfl];split <;> omega
theorem BM1 {b:List Int}(hb:Bytes b)(i:Nat):IntKind.i64.wrap (b.getD i 0)=b.getD i 0:=by have:=hb i;exact D0 (by omega)
theorem EH5 {b:List Int}{o n i:Nat}(hi:i<n)(hl:o+n≤b.length):((b.take (o+n)).drop o).getD i 0=b.getD (o+i) 0:=by simp only[List.getD,List.getElem?_drop,List.getElem?_take,show o+i<o+n by omega,if_true]
def Bw7 (k v:Int):Int:=if Y3 k=4∧2147483648≤v then v-4294967296 else v
def O8 (b:List Int):(Int×(Int×Int))×Int:=
 if b.length<5 then ((0,0,0),14) else if Y3 (b.getD 0 0)=0 then ((0,0,0),30) else if b.getD 2 0≠Y3 (b.getD 0 0)∨(b.length:Int)≠5+Y3 (b.getD 0 0) then ((0,0,0),11)
 else if K3 b≠0 then ((0,0,0),31) else ((b.getD 0 0,b.getD 1 0,Bw7 (b.getD 0 0) (P8 b 3 (Y3 (b.getD 0 0)).toNat)),0)
theorem EH6 (b:List Int)(hb:Bytes b)(hl:b.length≤140737488355328):AN9 b=some (O8 b):=by
 unfold AN9 O8;simp only[];by_cases h5:b.length<5
 ·rw[decide_eq_true (show (b.length:Int)<5 by omega),if_pos h5]
  rfl
 rw[decide_eq_false (show ¬(b.length:Int)<5 by omega),if_neg h5,decide_eq_true (show (0:Int)<b.length by omega),decide_eq_true (show (1:Int)<b.length by omega),decide_eq_true (show (2:Int)<b.length by omega)]
 have n0:(0:Int).toNat=0:=rfl;have n1:(1:Int).toNat=1:=rfl;have n2:(2:Int).toNat=2:=rfl;simp only[cond_false,Bool.and_self,D7,n0,n1,n2];rw[BM1 hb 0,BM1 hb 1,BM1 hb 2,EH2,Option.bind_some];have hsc:=Bw6 (b.getD 0 0);generalize hs:Y3 (b.getD 0 0)=n at*;have hn:n=0∨n=2∨n=4:=by omega
 by_cases hn0:n=0
 ·subst hn0;rfl
 rw[beq_false_of_ne hn0,if_neg hn0,D0 (n:=3+n) (by omega),D0 (n:=3+n+2) (by omega)]
 simp only[cond_false];by_cases hf:b.getD 2 0≠n∨(b.length:Int)≠5+n
 ·rw[if_pos hf]
  have e:(bif b.getD 2 0 != n then true else (b.length:Int)!=3+n+2)=true:=by
   rcases hf with h | h
   ·rw[bne_iff_ne.2 h];rfl
   ·have:((b.length:Int)!=3+n+2)=true:=bne_iff_ne.2 (by omega)
    rw[this];cases (b.getD 2 0 != n) <;> rfl
  rw[e];rfl
 rw[if_neg hf];have hf1:b.getD 2 0=n:=by apply Classical.byContradiction;intro h;exact hf (.inl h)
 have hf2:(b.length:Int)=5+n:=by apply Classical.byContradiction;intro h;exact hf (.inr h)
 have e1:(b.getD 2 0 != n)=false:=by rw[hf1];simp
 have e2:((b.length:Int)!=3+n+2)=false:=by simp;omega
 rw[e1,e2];simp only[cond_false];rw[Bw5 b hb (by omega),Option.bind_some]
 by_cases hc:K3 b≠0
 ·have:(K3 b != 0)=true:=bne_iff_ne.2 hc
  rw[this,if_pos hc];rfl
 have ec:(K3 b != 0)=false:=by
  have:K3 b=0:=by apply Classical.byContradiction;exact hc
  simp[this]
 rw[ec,if_neg hc,decide_eq_true (show (3:Int)≤3+n by omega),decide_eq_true (show (3:Int)+n≤b.length by omega)]
 simp only[cond_false,Bool.and_self,D7];obtain⟨m,rfl⟩:∃m:Nat,n=(m:Int):=⟨n.toNat,by omega⟩
 have en:((3:Int)+(m:Int)).toNat=3+m:=by omega
 have e3:(3:Int).toNat=3:=rfl;have hlen:((b.take (3+m)).drop 3).length=m:=by simp;omega
 rw[en,e3,hlen];have hm4:m≤4:=by omega
 rw[show ((0:Int),(0:Int))=(P8 b 3 0,((0:Nat):Int)) from rfl];rw[P6 (n:=m) (st:=fun i=>(P8 b 3 i,(i:Int))) (x:=P8 b 3 m)]
 ·rw[Option.bind_some]
  unfold BH0;have hv:=BM0 hb 3 m;have hv4:P8 b 3 m<4294967296:=by
   have:m=0∨m=2∨m=4:=by omega
   rcases this with rfl | rfl | rfl <;> (have:=hv.2;omega)
  simp only[Option.bind_some];rw[D0 (n:=P8 b 3 m) (by omega),Int.toNat_natCast]
  unfold Bw7;rw[hs];by_cases hk:b.getD 0 0=3∨b.getD 0 0=4
  ·have hm:(m:Int)=4:=by omega
   have:(bif b.getD 0 0==3 then true else b.getD 0 0==4)=true:=by
    rcases hk with h | h <;> rw[h] <;> rfl
   rw[this];simp only[cond_true,Option.bind_some];rw[EH4,D0 (by omega)]
   by_cases hb':2147483648≤P8 b 3 m
   ·rw[if_pos ⟨hm,hb'⟩,show (P8 b 3 m+2147483648) % 4294967296-2147483648=P8 b 3 m-4294967296 by omega]
   ·rw[if_neg (by omega),show (P8 b 3 m+2147483648) % 4294967296-2147483648=P8 b 3 m by omega]
  ·have:(bif b.getD 0 0==3 then true else b.getD 0 0==4)=false:=by
    rw[beq_false_of_ne (show b.getD 0 0≠3 by omega),beq_false_of_ne (show b.getD 0 0≠4 by omega)]
    rfl
   rw[this,if_neg (by omega)]
   rfl
 ·intro i hi
  simp only[];have hv:=BM0 hb 3 i;have hv3:P8 b 3 i<16777216:=by
   have:i=0∨i=1∨i=2∨i=3:=by omega
   rcases this with rfl | rfl | rfl | rfl <;> (have:=hv.2;omega)
  rw[decide_eq_true (show (i:Int)<m by omega),decide_eq_true (show (0:Int)≤i by omega),Int.toNat_natCast,EH5 hi (by omega),D0 (n:=(i:Int)+1) (by omega),EH3 _ _ ⟨hv.1,hv3⟩ (hb _)]
  rfl
 ·simp
end Go.Proofs.YthfjpkdadjemcaaGreat
