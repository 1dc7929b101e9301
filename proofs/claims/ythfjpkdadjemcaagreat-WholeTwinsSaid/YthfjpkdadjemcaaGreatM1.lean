/- A functional reading of the code: types, abstract values, and the reading itself. No program in sight. -/
import Derived.Test.YthfjpkdadjemcaaGreatE1
import Derived.WalkKit
import Derived.Laws.Cells
import Derived.Laws.CopyRow
import Derived.Laws.Tables
import Derived.Laws.StructEq
set_option linter.unusedSimpArgs false
set_option linter.unusedVariables false
namespace Go.Proofs.YthfjpkdadjemcaaGreat
open _root_.Nat renaming beq → Ef8, ble → Eg2, le_of_ble_eq_true → Eg4, blt → Eg6, eq_of_beq_eq_true → Eg9, add_assoc → Eh3, zero_add → Eh4, succ_mul → Eh8, add_zero → Ei3, zero_le → Ei4, mul_le_mul_right → Ei8
open _root_.List renaming getElem?_eq_some_iff → Ef9, getElem?_take → Eg1, getElem?_eq_getElem → Eg5, getElem?_drop → Eg8, replicate → Eh9, getElem?_map → Ei1, take_append_drop → Ei6, mem_of_getElem? → Ei9, getElem?_of_mem → Ej0, getD → Ej1, range → Ej4
open _root_.Bool renaming and_eq_true → Eg0, false_eq_true → Eh6
open Go.Sem renaming run_bind → Eg3, run_pure → Ei2
open Go.IntKind renaming signed → Eg7, bits → Eh1, max → Eh7, min → Ei0
open Go.Result renaming andThen_ok → Eh0
open _root_.Array renaming getElem?_push → Eh2, getElem?_eq_getElem → Eh5, mem_of_getElem? → Ei7, getElem?_map → Ej2, mem_append → Ej3
open _root_.Option renaming map_eq_some_iff → Ei5, map → Ej5, map_some → Ej6
def Ty.size:Ty→Nat
 | .unit=>0
 | .pair a b=>a.size+b.size
 | .agg a=>a.size
 |_=>1
def Ty.isAgg:Ty→Bool
 | .agg _=>true
 |_=>false
inductive EV where
 |undef
 |dat (t:Ty) (v:t.den)
 |nil
 |own (k:Nat) (t:Ty) (l:List t.den)
 |ptr (b off:Nat)
 |pix (b off s n:Nat) (i:Int) (o:Nat)
 |elt (t:Ty) (l:List t.den) (i:Int) (o:Nat)
 |elx (t:Ty) (l:List t.den) (i:Int) (o s n:Nat) (m:Int) (o2:Nat)
 |elo (k:Nat) (t:Ty) (l:List t.den) (i:Int) (o:Nat)
 |fre (k:Nat) (t:Ty) (l:List t.den)
 |clo (f:Nat) (fst caps:List EV)
 |sl (es:List EV)
 |cp (e:EV)
 |rp (es:List EV) (off:Nat)
 |tup (vs:List EV)
 |row (cs:List EV)
def soft (k:Nat):Bool:=Eg2 50000 (k % 100000)
def AP6 (n e:Nat):Nat:=match n with
 |0=>950000000+e
 |_+1=>900000000+e
theorem BV6 {n e:Nat}(h:e<25000):AP6 n e % 100000=e∧AP6 n e % 25000=e:=by cases n <;> unfold AP6 <;> simp only <;> omega
def K4 (k:Nat):Bool:=Eg2 75000 (k % 100000)
def EV.to (t:Ty):EV→Option t.den
 | .dat t' v=>if h:t'=t then some (h▸v) else none
 | .nil=>match t with
  | .slice _=>some []
  |_=>none
 | .own k a l=>match t with
  | .slice b=>match soft k with
   |true=>none
   |false=>if h:a=b then some (h▸l) else none
  |_=>none
 |_=>none
def flat:(t:Ty)→t.den→List EV
 | .int k,n=>[.dat (.int k) n]
 | .bool,b=>[.dat .bool b]
 | .str,s=>[.dat .str s]
 | .slice a,l=>[.dat (.slice a) l]
 | .unit,_=>[]
 | .pair a b,x=>flat a x.1++flat b x.2
 | .agg a,x=>flat a x
def asm:(t:Ty)→List EV→Option (t.den×List EV)
 | .int k,cs=>match cs with
  |c::r=>match c.to (.int k) with
   |some v=>some (v,r)
   |none=>none
  | []=>none
 | .bool,cs=>match cs with
  |c::r=>match c.to .bool with
   |some v=>some (v,r)
   |none=>none
  | []=>none
 | .str,cs=>match cs with
  |c::r=>match c.to .str with
   |some v=>some (v,r)
   |none=>none
  | []=>none
 | .slice a,cs=>match cs with
  |c::r=>match c.to (.slice a) with
   |some v=>some (v,r)
   |none=>none
  | []=>none
 | .unit,cs=>some ((),cs)
 | .pair a b,cs=>match asm a cs with
  |some (x,r)=>match asm b r with
   |some (y,r')=>some ((x,y),r')
   |none=>none
  |none=>none
 | .agg a,cs=>asm a cs
def EV.toA (t:Ty)(e:EV):Option t.den:=match t,e with
 | .agg a,.row cs=>match asm (.agg a) cs with
  |some (v,[])=>some v
  |_=>none
 |t,e=>e.to t
def EV.loose:EV→Bool
 | .nil=>true
 | .own _ _ _=>true
 |_=>false
def EV.cells:EV→Option (List EV)
 | .dat t v=>some (flat t v)
 | .row cs=>some cs
 | .undef=>none
 | .tup _=>none
 | .elo _ _ _ _ _=>none
 | .fre _ _ _=>none
 |x=>some [x]
abbrev Pl:=Nat×Nat
structure St where
 C1:List EV
 boxes:List (Option (List EV))
 jr:List Pl
inductive Mk where
 |scalar
 |struct (fs:List (Nat×Nat×Nat))
 |array (n e s:Nat)
 |slice (e s bytes:Nat)
structure TD where
 ty:Option Ty
 zero:List EV
 how:Mk
def I6 (d:TD):Bool:=match d.how with
 | .struct _ | .array _ _ _=>true
 |_=>false
inductive PT where
 |dat (t:Ty)
 |own (t:Ty)
 |ref (i off:Nat)
 |clo (f:Nat) (fst caps:List PT)
 |sl (ps:List PT)
 |rp (ps:List PT) (off:Nat)
 |skip
structure Con where
 f:Nat
 ps:List PT
 boxes:List (List PT)
 ins:Ty
 nin:Nat
 outs:Ty
 rs:List PT
 A2:Nat
 F:ins.den→Option outs.den
structure J1 where
 f:Nat
 ps:List PT
 ins:Ty
 nin:Nat
 outs:Ty
 rs:List PT
 new:List PT
 A2:Nat
 F:ins.den→Option outs.den
inductive OP where
 |dat (t:Ty)
 |own (k:Nat) (t:Ty)
 |ref (i off:Nat)
structure F9 where
 f:Nat
 ps:List OP
 boxes:List (List OP)
 ins:Ty
 nin:Nat
 outs:Ty
 rs:List OP
 aft:List (List OP)
 A2:Nat
 F:ins.den→Option outs.den
structure Cx where
 td:Nat→Option TD
 cons:List Con
 news:List J1
 owns:List F9
 AJ2:List Nat
def N8 (l:List (Nat×TD))(t:Nat):Option TD:=
 match l with
 | []=>none
 | (k,d)::r=>match Ef8 k t with
  |true=>some d
  |false=>N8 r t
def Aq4 (l:List (Nat×((t:Ty)×t.den)))(g:Nat):Option ((t:Ty)×t.den):=
 match l with
 | []=>none
 | (k,d)::r=>match Ef8 k g with
  |true=>some d
  |false=>Aq4 r g
def BD6 (g:Nat):EV:=match Aq4 BD5 g with
 |some d=>.elt d.1 [d.2] 0 0
 |none=>.undef
def fits (k:IntKind)(n:Int):Bool:=match k with
 | .i8=>decide (-128≤n)&&decide (n≤127)
 | .i16=>decide (-32768≤n)&&decide (n≤32767)
 | .i32=>decide (-2147483648≤n)&&decide (n≤2147483647)
 | .i64=>decide (-9223372036854775808≤n)&&decide (n≤9223372036854775807)
 | .u8=>decide (0≤n)&&decide (n≤255)
 | .u16=>decide (0≤n)&&decide (n≤65535)
 | .u32=>decide (0≤n)&&decide (n≤4294967295)
 | .u64=>decide (0≤n)&&decide (n≤18446744073709551615)
def ofConst:Value→EV
 | .int k n=>match fits k n with
  |true=>.dat (.int k) n
  |false=>.undef
 | .bool b=>.dat .bool b
 | .string s=>match Eg2 s.size 1000000 with
  |true=>.dat .str s
  |false=>.undef
 | .slice none 0 0=>.nil
 |_=>.undef
def chk {ρ:Type}(g:Option Bool)(c:Bool)(k:Option ρ):Option ρ:=
 match g with
 |none=>bif c then k else none
 |some g=>bif c|| !g then k else none
def eqT:(t:Ty)→t.den→t.den→Bool
 | .int _,a,b=>(a:Int)==b
 | .bool,a,b=>(a:Bool)==b
 | .str,a,b=>a.toList==b.toList
 | .unit,_,_=>true
 | .pair a b,x,y=>eqT a x.1 y.1&&eqT b x.2 y.2
 | .slice _,_,_=>false
 | .agg a,x,y=>eqT a x y
def Ty.plain:Ty→Bool
 | .slice _=>false
 | .pair a b=>a.plain&&b.plain
 | .agg a=>a.plain
 |_=>true
def Ty.cmp:Ty→Bool
 | .bool=>true
 | .agg a=>a.plain
 |_=>false
def bits (k:IntKind)(op:BinOp)(x y:Int):Int:=
 let a:=BitVec.ofInt k.bits x
 let b:=BitVec.ofInt k.bits y
 match op with
 | .and=>k.wrap (a &&& b).toNat
 | .or=>k.wrap (a ||| b).toNat
 | .xor=>k.wrap (a ^^^ b).toNat
 |_=>k.wrap (a &&& ~~~b).toNat
def BD7 {ρ:Type}(g:Option Bool)(op:BinOp)(k:IntKind)(x y:Int)(q:EV→Option ρ):Option ρ:=
 match op with
 | .add=>q (.dat (.int k) (k.wrap (x+y)))
 | .sub=>q (.dat (.int k) (k.wrap (x-y)))
 | .mul=>q (.dat (.int k) (k.wrap (x*y)))
 | .quo=>chk g (!(y==0)) (q (.dat (.int k) (k.wrap (x.tdiv y))))
 | .rem=>chk g (!(y==0)) (q (.dat (.int k) (x.tmod y)))
 | .and | .or | .xor | .andNot=>q (.dat (.int k) (bits k op x y))
 | .eql=>q (.dat .bool (x==y))
 | .neq=>q (.dat .bool (x != y))
 | .lss=>q (.dat .bool (decide (x<y)))
 | .leq=>q (.dat .bool (decide (x≤y)))
 | .gtr=>q (.dat .bool (decide (y<x)))
 | .geq=>q (.dat .bool (decide (y≤x)))
 | .shl=>chk g (decide (0≤y)) (q (.dat (.int k) (k.wrap (x*2 ^ (min y.toNat k.bits)))))
 | .shr=>chk g (decide (0≤y)) (q (.dat (.int k) (x.fdiv (2 ^ (min y.toNat k.bits)))))
def BD8:BinOp→Bool
 | .shl | .shr=>true
 |_=>false
def R9 (d:Option TD)(t:Ty):Bool:=match d with
 |some d=>match d.ty with
  |some t'=>decide (t'=t)
  |none=>false
 |none=>false
def BD9 {ρ:Type}(g:Option Bool)(d:Option TD)(op:BinOp)(x y:EV)(q:EV→Option ρ):Option ρ:=
 match x,y with
 | .dat (.int k) a,.dat (.int k') b=>if k=k'∨BD8 op=true then BD7 g op k a b q else none
 | .dat .str a,.dat .str b=>match op with
  | .add=>chk g (decide (a.size+b.size≤9223372036854775807)) (q (.dat .str (a++b)))
  | .eql=>q (.dat .bool (a.toList==b.toList))
  | .neq=>q (.dat .bool !(a.toList==b.toList))
  |_=>none
 | .dat t a,.dat t' b=>if h:t'=t then (match t.cmp&&R9 d t with
  |true=>match op with
   | .eql=>q (.dat .bool (eqT t a (h▸b)))
   | .neq=>q (.dat .bool !(eqT t a (h▸b)))
   |_=>none
  |false=>none) else none
 |_,_=>none
def W1 (d:TD)(cs:List EV)(off:Nat):Option EV:=
 match d.how with
 | .scalar | .slice .. => cs[off]?
 |_=>match Eg2 (off+d.zero.length) cs.length with
  |false=>none
  |true=>match d.ty with
   |some t=>match asm t (cs.drop off) with
    |some (v,_)=>some (.dat t v)
    |none=>some (.row ((cs.drop off).take d.zero.length))
   |none=>some (.row ((cs.drop off).take d.zero.length))
def M1 (cs:List EV)(off:Nat)(new:List EV):List EV:=cs.take off++new++cs.drop (off+new.length)
def AX3 (t:Ty)(d:TD)(cs:List EV)(off s:Nat):Nat→Option (List t.den)
 |0=>some []
 |n+1=>match W1 d cs off with
  |some e=>match e.to t with
   |some v=>match AX3 t d cs (off+s) s n with
    |some l=>some (v::l)
    |none=>none
   |none=>none
  |none=>none
def BV7 (c:Bool):EV→EV→Option EV
 | .dat t v,.dat t' v'=>if h:t'=t then some (.dat t (bif c then v else h▸v')) else none
 |_,_=>none
def W2 (c:Bool):List EV→List EV→Option (List EV)
 | [],_=>some []
 |x::xs,y::ys=>match BV7 c x y with
  |some z=>match W2 c xs ys with
   |some zs=>some (z::zs)
   |none=>none
  |none=>none
 |_::_,[]=>none
def AX4 (cs:List EV)(off s:Nat)(i:Int)(new:List EV)(j:Nat):Nat→Option (List EV)
 |0=>some cs
 |n+1=>match W2 (i==(j:Int)) new ((cs.drop off).take new.length) with
  |some m=>AX4 (M1 cs off m) (off+s) s i new (j+1) n
  |none=>none
def J2:(t:Ty)→List EV→Option t.den
 | .unit,es=>match es with
  | []=>some ()
  |_=>none
 | .pair a b,es=>match es with
  | []=>none
  | [e]=>e.to (.pair a b)
  |e::r=>match e.to a with
   |some x=>match J2 b r with
    |some y=>some (x,y)
    |none=>none
   |none=>none
 |t,es=>match es with
  | [e]=>e.to t
  |_=>none
def A8:(t:Ty)→Nat→t.den→List EV
 | .pair a b,n+2,x=>.dat a x.1::A8 b (n+1) x.2
 |_,0,_=>[]
 |t,_+1,x=>[.dat t x]
def H9:Nat→EV→Bool
 |0,_=>true
 |n+1,e=>match e with
  | .own _ _ _=>true
  | .elo _ _ _ _ _=>true
  | .fre _ _ _=>true
  | .clo _ fst caps=>fst.any (H9 n)||caps.any (H9 n)
  | .sl es=>es.any (H9 n)
  | .cp e=>H9 n e
  | .rp es _=>es.any (H9 n)
  | .tup vs=>vs.any (H9 n)
  | .row cs=>cs.any (H9 n)
  |_=>false
def E8 (k:Nat)(l:List Nat):Bool:=l.any (Ef8 k)
def BIG:Nat:=1000000000000
abbrev N9:=List (Nat×((t:Ty)×List t.den))
def AE1 (l:N9)(k:Nat):Option ((t:Ty)×List t.den):=match l with
 | []=>none
 | (j,d)::r=>match Ef8 j k with
  |true=>some d
  |false=>AE1 r k
def settle (dead:List Nat)(up:N9)(e:EV):EV:=match e with
 | .own k t l=>match E8 k dead with
  |true=>match soft k with
   |true=>match AE1 up k with
    |some d=>.own k d.1 (match K4 k with
     |true=>d.2
     |false=>bif Ef8 l.length d.2.length then d.2 else [])
    |none=>.undef
   |false=>.dat (.slice t) l
  |false=>match AE1 up (k % BIG) with
   |some _=>.undef
   |none=>.own (k % BIG) t l
 |e=>match H9 20 e with
  |true=>.undef
  |false=>e
def steady (dead:List Nat)(up:N9)(e:EV):Bool:=match e with
 | .own k _ _=> !E8 k dead&&Eg6 k BIG&&(match AE1 up (k % BIG) with
  |some _=>false
  |none=>true)
 |e=> !H9 20 e
def ren:Nat→Nat→EV→EV
 |0,_,_=>.undef
 |n+1,k,e=>match e with
  | .dat t v=>.dat t v
  | .ptr b off=>match b with
   |0=>.ptr k off
   |_+1=>.undef
  | .clo f fst caps=>.clo f (fst.map (ren n k)) (caps.map (ren n k))
  | .sl es=>.sl (es.map (ren n k))
  | .tup es=>.tup (es.map (ren n k))
  |_=>.undef
def EV.raw:EV→EV
 | .own k t l=>match soft k with
  |true=>.own k t l
  |false=>.dat (.slice t) l
 |x=>x

def J3 (l:List (Nat×Nat))(i:Nat):Option Nat:=
 match l with
 | []=>none
 | (k,b)::r=>match Ef8 k i with
  |true=>some b
  |false=>J3 r i
def hasB (l:List (Nat×Nat))(b:Nat):Bool:=
 match l with
 | []=>false
 | (_,c)::r=>Ef8 c b||hasB r b
def B7:Nat→List PT→List EV→List (Nat×Nat)→Option (List EV×List (Nat×Nat))
 |0,_,_,_=>none
 |_+1,[],[],asg=>some ([],asg)
 |n+1,.dat t::ps,e::es,asg=>match e.toA t with
  |some v=>match B7 n ps es asg with
   |some (l,a)=>some (.dat t v::l,a)
   |none=>none
  |none=>none
 |n+1,.own t::ps,e::es,asg=>match e.raw.to (.slice t) with
  |some v=>match B7 n ps es asg with
   |some (l,a)=>some (.dat (.slice t) v::l,a)
   |none=>none
  |none=>none
 |n+1,.ref i off::ps,.ptr b off'::es,asg=>match Ef8 off off' with
  |true=>match J3 asg i with
   |some b'=>match Ef8 b b' with
    |true=>B7 n ps es asg
    |false=>none
   |none=>match hasB asg b with
    |true=>none
    |false=>B7 n ps es ((i,b)::asg)
  |false=>none
 |n+1,.clo f pf pc::ps,.clo f' fst caps::es,asg=>match Ef8 f f' with
  |true=>match B7 n pf fst asg with
   |some (l,a)=>match B7 n pc caps a with
    |some (l',a')=>match B7 n ps es a' with
     |some (l'',a'')=>some (l++(l'++l''),a'')
     |none=>none
    |none=>none
   |none=>none
  |false=>none
 |n+1,.sl pp::ps,.sl es'::es,asg=>match B7 n pp es' asg with
  |some (l,a)=>match B7 n ps es a with
   |some (l',a')=>some (l++l',a')
   |none=>none
  |none=>none
 |n+1,.rp pp off::ps,.rp es' off'::es,asg=>match Ef8 off off' with
  |true=>match B7 n pp es' asg with
   |some (l,a)=>match B7 n ps es a with
    |some (l',a')=>some (l++l',a')
    |none=>none
   |none=>none
  |false=>none
 |n+1,.skip::ps,_::es,asg=>B7 n ps es asg
 |_+1,_,_,_=>none
def W3 (rd:Nat→Option (List EV)):Nat→List (List PT)→List (Nat×Nat)→Option (List EV×List (Nat×Nat))
 |_,[],asg=>some ([],asg)
 |i,pts::r,asg=>match J3 asg i with
  |some b=>match rd b with
   |some cs=>match B7 200 pts cs asg with
    |some (l,a)=>match W3 rd (i+1) r a with
     |some (l',a')=>some (l++l',a')
     |none=>none
    |none=>none
   |none=>none
  |none=>none
def G0:List PT→List EV→List EV→Option (List EV×List EV)
 | [],[],new=>some ([],new)
 | .dat _::ps,_::cs,n::new=>match G0 ps cs new with
  |some (l,r)=>some (n::l,r)
  |none=>none
 | .ref _ _::ps,c::cs,new=>match G0 ps cs new with
  |some (l,r)=>some (c::l,r)
  |none=>none
 | .clo _ _ _::ps,c::cs,new=>match G0 ps cs new with
  |some (l,r)=>some (c::l,r)
  |none=>none
 |_,_,_=>none
structure Wr where
 b:Nat
 off:Nat
 new:List EV
def AB4 (rd:Nat→Option (List EV))(asg:List (Nat×Nat)):Nat→List (List PT)→List EV→Option (List Wr)
 |_,[],_=>some []
 |i,pts::r,new=>match J3 asg i with
  |some b=>match rd b with
   |some cs=>match G0 pts cs new with
    |some (l,rest)=>match AB4 rd asg (i+1) r rest with
     |some ws=>some (⟨b,0,l⟩::ws)
     |none=>none
    |none=>none
   |none=>none
  |none=>none
def H2 (vs:List EV):EV:=match vs with
 | [v]=>v
 |_=>.tup vs
def D8 (deep:Bool):Nat→List PT→Bool
 |0,_=>false
 |_+1,[]=>true
 |n+1,.dat _::ps=>D8 deep n ps
 |_+1,.own _::_=>false
 |n+1,.ref _ _::ps=>D8 deep n ps
 |n+1,.clo _ a b::ps=>deep&&D8 deep n a&&D8 deep n b&&D8 deep n ps
 |n+1,.sl a::ps=>deep&&D8 deep n a&&D8 deep n ps
 |n+1,.rp a _::ps=>deep&&D8 deep n a&&D8 deep n ps
 |n+1,.skip::ps=>deep&&D8 deep n ps
def O0:List PT→Bool
 | []=>true
 | .dat _::r=>O0 r
 |_::_=>false
def AE2 (n:Nat):List (Nat×Nat)→Bool
 | []=>true
 | (k,_)::r=>Eg2 (k+1) n&&AE2 n r
def Aq5 (c:Con)(nin:Nat)(a:List (Nat×Nat)):Bool:=
 D8 true 200 c.ps&&c.boxes.all (D8 false 200)&&c.boxes.all (fun p=>Eg2 (p.length+1) 200)&&O0 c.rs&&Ef8 nin c.nin&&AE2 c.boxes.length a&&Eg2 c.rs.length c.A2
def AX5 (e:EV):EV:=match e with
 | .dat t v=>.dat t v
 | .nil=>.nil
 | .own k t l=>match soft k with
  |true=>.undef
  |false=>.dat (.slice t) l
 |_=>.undef
def Aq6 (e:EV):EV:=match e with
 | .rp es off=>.rp (es.map AX5) off
 |e=>AX5 e
def Af8 (rd:Nat→Option (List EV))(p:PT)(e:EV):EV×List Nat:=match p,e with
 | .rp _ _,.ptr b off=>match rd b with
  |some cs=>(.rp (cs.map AX5) off,[b])
  |none=>(.undef,[])
 |_,e=>(Aq6 e,[])
def S0 (rd:Nat→Option (List EV)):List PT→List EV→List EV×List Nat
 |p::ps,e::es=>((Af8 rd p e).1::(S0 rd ps es).1,(Af8 rd p e).2++(S0 rd ps es).2)
 |_,es=>(es.map Aq6,[])
def BE0:List PT→Bool
 | []=>false
 |p::r=>(match p with
  | .rp _ _=>true
  |_=>false)||BE0 r
def BE1 (c:Con)(nin:Nat)(a:List (Nat×Nat)):Bool:=D8 true 200 c.ps&&O0 c.rs&&c.outs.plain&&Ef8 nin c.nin&&(match a with
 | []=>true
 |_::_=>false)&&(match c.boxes with
 | []=>true
 |_::_=>false)
def roE {ρ:Type}(g:Option Bool)(c:Con)(args:List EV)(bs:List Nat)(q:EV→Option (List EV)→List Wr→List Nat→Option ρ):Option ρ:=
 match B7 200 c.ps args [] with
 |none=>none
 |some (l,a)=>match BE1 c l.length a,J2 c.ins l with
  |true,some x=>(match g with
   |none=>c.F x
   |some b=>bif b then c.F x else some c.outs.J7).bind fun y=>q (H2 ((A8 c.outs c.A2 y).take c.rs.length)) none [] bs
  |_,_=>none
def BV8 {ρ:Type}(rd:Nat→Option (List EV))(g:Option Bool)(c:Con)(args:List EV)(q:EV→Option (List EV)→List Wr→List Nat→Option ρ):Option ρ:=
 match BE0 c.ps with
 |true=>roE g c (S0 rd c.ps args).1 (S0 rd c.ps args).2 q
 |false=>
 match B7 200 c.ps args [] with
 |none=>none
 |some (l,a)=>match W3 rd 0 c.boxes a with
  |none=>none
  |some (l',a')=>match Aq5 c (l++l').length a',J2 c.ins (l++l') with
   |false,_=>none
   |true,none=>none
   |true,some x=>match g with
    |none=>(c.F x).bind fun y=>match AB4 rd a' 0 c.boxes ((A8 c.outs c.A2 y).drop c.rs.length) with
     |some ws=>q (H2 ((A8 c.outs c.A2 y).take c.rs.length)) none ws (a'.map (·.2))
     |none=>none
    |some b=>match c.boxes with
     | []=>(bif b then c.F x else some c.outs.J7).bind fun y=>q (H2 ((A8 c.outs c.A2 y).take c.rs.length)) none [] []
     |_=>none
def D5:Nat→List PT→List EV→List EV×List EV
 |0,_,d=>([],d)
 |_+1,[],d=>([],d)
 |n+1,.dat _::ps,d=>match d with
  |e::d'=>match D5 n ps d' with
   | (l,r)=>(e::l,r)
  | []=>([],[])
 |n+1,.own t::ps,d=>match d with
  |e::d'=>match D5 n ps d' with
   | (l,r)=>((match e with
    | .dat (.slice a) v=>.own (1000+d'.length) a v
    |_=>.undef)::l,r)
  | []=>([],[])
 |n+1,.ref i off::ps,d=>match D5 n ps d with
  | (l,r)=>(.ptr i off::l,r)
 |n+1,.clo f pf pc::ps,d=>match D5 n pf d with
  | (c,r)=>match D5 n pc r with
   | (c',r')=>match D5 n ps r' with
    | (l,r'')=>(.clo f c c'::l,r'')
 |n+1,.sl pp::ps,d=>match D5 n pp d with
  | (c,r)=>match D5 n ps r with
   | (l,r')=>(.sl c::l,r')
 |n+1,.rp pp off::ps,d=>match D5 n pp d with
  | (c,r)=>match D5 n ps r with
   | (l,r')=>(.rp c off::l,r')
 |n+1,.skip::ps,d=>match D5 n ps d with
  | (l,r)=>(.undef::l,r)
def P0:List (List PT)→List EV→List (Option (List EV))
 | [],_=>[]
 |pts::r,d=>match D5 200 pts d with
  | (l,d')=>some l::P0 r d'
def J1.res (c:J1)(y:c.outs.den):EV:=H2 (D5 200 c.rs (A8 c.outs c.A2 y)).1
def J1.AB5 (c:J1)(y:c.outs.den):List EV:=(D5 200 c.new (D5 200 c.rs (A8 c.outs c.A2 y)).2).1
def BV9 (c:J1)(nin:Nat)(a:List (Nat×Nat)):Bool:=D8 true 200 c.ps&&O0 c.new&&Ef8 nin c.nin&&(match a with
 | []=>true
 |_=>false)
def BW0 {ρ:Type}(nb:Nat)(g:Option Bool)(c:J1)(args:List EV)(q:EV→Option (List EV)→List Wr→List Nat→Option ρ):Option ρ:=
 match g with
 |some _=>none
 |none=>match B7 200 c.ps args [] with
  |some (l,a)=>match BV9 c l.length a,J2 c.ins l with
   |true,some x=>(c.F x).bind fun y=>q (ren 20 nb (c.res y)) (some (c.AB5 y)) [] []
   |_,_=>none
  |none=>none
def Aq7 (f:Nat):List J1→Option J1
 | []=>none
 |c::r=>match Ef8 c.f f with
  |true=>some c
  |false=>Aq7 f r
def Af9 (f:Nat)(ok:Con→Bool):List Con→Option Con
 | []=>none
 |c::r=>match Ef8 c.f f&&ok c with
  |true=>some c
  |false=>Af9 f ok r
def BW1 {ρ:Type}(Γ:Cx)(nb:Nat)(rd:Nat→Option (List EV))(g:Option Bool)(f:Nat)(args:List EV)(q:EV→Option (List EV)→List Wr→List Nat→Option ρ):Option ρ:=
 match Af9 f (fun c=>match B7 200 c.ps (match BE0 c.ps with | true=>(S0 rd c.ps args).1 | false=>args) [] with | some _=>true | none=>false) Γ.cons with
 |some c=>BV8 rd g c args q
 |none=>match Aq7 f Γ.news with
  |some c=>BW0 nb g c args q
  |none=>none
def Aq8 (c a b:EV):EV:=match c,a,b with
 | .dat .bool c,.dat .bool a,.dat .bool b=>.dat .bool (bif c then a else b)
 |_,_,_=>.undef
def intOf:EV→Option Int
 | .dat (.int _) n=>some n
 |_=>none
def Aq9 (t:Ty):List (Nat×EV)→Nat→Option (List t.den)
 | [],_=>some []
 | (i,e)::r,k=>match Ef8 i k with
  |true=>match e.toA t with
   |some v=>match Aq9 t r (k+1) with
    |some l=>some (v::l)
    |none=>none
   |none=>none
  |false=>none
def Ar0:List (Nat×EV)→Nat→Option (List EV)
 | [],_=>some []
 | (i,e)::r,k=>match Ef8 i k with
  |true=>match e with
   | .clo f a b=>match Ar0 r (k+1) with
    |some l=>some (.clo f a b::l)
    |none=>none
   |_=>none
  |false=>none
def Ag0 (place:Nat→Option (Nat×Nat))(cs:List EV):List (Nat×EV)→Option (List EV)
 | []=>some cs
 | (i,e)::r=>match place i with
  |some (off,size)=>match e.cells with
   |some new=>match Ef8 new.length size&&Eg2 (off+size) cs.length with
    |true=>Ag0 place (M1 cs off new) r
    |false=>none
   |none=>none
  |none=>none
def AJ3 (d:TD)(i:Nat):Option (Nat×Nat):=match d.how with
 | .struct fs=>match fs[i]? with
  |some (_,off,size)=>some (off,size)
  |none=>none
 | .array _ _ s=>some (i*s,s)
 |_=>none
def AE3 (mx:Bool)(k:IntKind):Int→List EV→Option Int
 |x,[]=>some x
 |x,.dat (.int k') y::r=>if k=k' then AE3 mx k (match mx with | true=>if y>x then y else x | false=>if y<x then y else x) r else none
 |_,_::_=>none
def AX6 (s:ByteArray):List Int:=s.data.toList.map fun b=>(b.toNat:Int)
def bytesOf (l:List Int):ByteArray:=⟨(l.map fun n=>UInt8.ofNat n.toNat).toArray⟩
def AP7 {ρ:Type}(g:Option Bool)(k:Option ρ):Option ρ:=match g with
 |none=>k
 |some _=>none
def isInt:Ty→Bool
 | .int _=>true
 | .slice (.int .u8)=>true
 |_=>false
def BW2 (d:TD):Bool:=match d.how with
 | .struct _=>true
 |_=>false
def W4 (Γ:Cx)(t:Nat)(ty:Ty):Bool:=match Γ.td t with
 |some d=>match d.how with
  | .slice e _ _=>R9 (Γ.td e) ty
  |_=>false
 |none=>false
def AP8 (Γ:Cx)(t:Nat):Bool:=match Γ.td t with
 |some d=>match d.how with
  | .slice _ _ _=>true
  |_=>false
 |none=>false
def BW3 {ρ:Type}(off:Nat)(y:EV)(q:EV→Option (List EV)→List Wr→List Nat→Option ρ):Option ρ:=match y with
 | .elo k ty l ix o=>q (.elo k ty l ix (o+off)) none [] []
 | .rp es o=>q (.rp es (o+off)) none [] []
 |_=>none
def BW4 {ρ:Type}(y:EV)(q:EV→Option (List EV)→List Wr→List Nat→Option ρ):Option ρ:=match y with
 | .rp es off=>q (.rp es off) none [] []
 |_=>none
def BW5 {ρ:Type}(d:TD)(y:EV)(q:EV→Option (List EV)→List Wr→List Nat→Option ρ):Option ρ:=match y with
 | .rp es off=>match W1 d es off with
  |some v=>q v none [] []
  |none=>none
 |_=>none
def Ag1 (t:Ty)(es:List EV)(off:Nat):Nat→Option (List t.den)
 |0=>some []
 |n+1=>match asm t (es.drop off) with
  |some (v,_)=>match Ag1 t es (off+t.size) n with
   |some l=>some (v::l)
   |none=>none
  |none=>none
def BW6 {ρ:Type}(ed:Option TD)(g:Option Bool)(n s:Nat)(y:EV)(i:Operand)(iv:EV)(q:EV→Option (List EV)→List Wr→List Nat→Option ρ):Option ρ:=match y with
 | .rp es off=>match i with
  | .const (.int _ m)=>match decide (0≤m)&&decide (m<(n:Int)) with
   |true=>q (.rp es (off+m.toNat*s)) none [] []
   |false=>none
  |_=>match intOf iv with
   |some m=>match ed with
    |some d=>match d.ty with
     |some ty=>match Ag1 ty es off n,Ef8 ty.size s&&Eg2 (off+n*s) es.length with
      |some l,true=>chk g (decide (0≤m)&&decide (m<(n:Int))) (q (.elt ty l m 0) none [] [])
      |_,_=>none
     |none=>none
    |none=>none
   |none=>none
 | .elo k ty l ix o=>match i with
  | .const (.int _ m)=>match decide (0≤m)&&decide (m<(n:Int)) with
   |true=>q (.elo k ty l ix (o+m.toNat*s)) none [] []
   |false=>none
  |_=>none
 |_=>none
def BW7 (AJ2:List Nat)(T:Nat):Operand→Bool
 | .const (.pointer none)=>Eg6 T 100000000&&E8 T AJ2
 |_=>false
def opE {ρ:Type}(Γ:Cx)(nb:Nat)(rd:Nat→Option (List EV))(g:Option Bool)(A:Operand→EV)(o:Op)(q:EV→Option (List EV)→List Wr→List Nat→Option ρ):Option ρ:=
 match o with
 | .move x=>q (A x) none [] []
 | .assign x=>q (A x) none [] []
 | .pick c a b=>match A c with
  | .dat .bool _=>q (Aq8 (A c) (A a) (A b)) none [] []
  |_=>none
 | .alloc t=>AP7 g (match Γ.td t with
  |some d=>q (.ptr nb 0) (some d.zero) [] []
  |none=>none)
 | .box t x=>AP7 g (match Γ.td t with
  |some d=>match (A x).cells with
   |some cs=>match Ef8 cs.length d.zero.length with
    |true=>q (.ptr nb 0) (some cs) [] []
    |false=>none
   |none=>none
  |none=>none)
 | .build t ps=>match Γ.td t with
  |some d=>match I6 d with
   |true=>match Ag0 (AJ3 d) d.zero (ps.toList.map fun p=>(p.1,A p.2)) with
    |some cs=>match cs.any EV.loose with
     |true=>q (.row cs) none [] []
     |false=>match d.ty with
      |some ty=>match asm ty cs with
       |some (v,[])=>q (.dat ty v) none [] []
       |_=>q (.row cs) none [] []
      |none=>q (.row cs) none [] []
    |none=>none
   |false=>none
  |none=>none
 | .buildSlice t n ps=>match Γ.td t with
  |some d=>match d.how with
   | .slice e _ _=>match Γ.td e with
    |some de=>match de.ty with
     |some ty=>match Aq9 ty (ps.toList.map fun p=>(p.1,A p.2)) 0 with
      |some l=>match Ef8 l.length n&&Eg2 (n*de.zero.length) 100000&&Eg2 n 100000 with
       |true=>match (Ef8 n 0||isInt ty)&&Eg6 e 25000 with
        |true=>q (.own (AP6 n e) ty l) none [] []
        |false=>q (.dat (.slice ty) l) none [] []
       |false=>none
      |none=>none
     |none=>match Ar0 (ps.toList.map fun p=>(p.1,A p.2)) 0 with
      |some l=>match Ef8 l.length n&&Ef8 de.zero.length 1&&Eg2 n 100000 with
       |true=>q (.sl l) none [] []
       |false=>none
      |none=>none
    |none=>none
   |_=>none
  |none=>none
 | .load t a=>match Γ.td t with
  |some d=>match A a with
   | .ptr b off=>match rd b with
    |some cs=>match W1 d cs off with
     |some v=>q v none [] [b]
     |none=>none
    |none=>none
   | .pix b off s n i o=>match rd b with
    |some cs=>match d.ty with
     |some ty=>match AX3 ty d cs (off+o) s n with
      |some l=>q (.dat ty (l.getD i.toNat ty.J7)) none [] [b]
      |none=>none
     |none=>none
    |none=>none
   | .elt ty l i o=>match W1 d (flat ty (l.getD i.toNat ty.J7)) o with
    |some v=>match Ef8 o 0,d.ty with
     |true,some t'=>if h:ty=t' then q (.dat ty (l.getD i.toNat ty.J7)) none [] [] else q v none [] []
     |_,_=>q v none [] []
    |none=>none
   | .elx ty l i o s n m o2=>match d.ty with
    |some dt=>match AX3 dt d (flat ty (l.getD i.toNat ty.J7)) (o+o2) s n with
     |some ls=>q (.dat dt (ls.getD m.toNat dt.J7)) none [] []
     |none=>none
    |none=>none
   | .cp e=>match W1 d [e] 0 with
    |some v=>q v none [] []
    |none=>none
   |y=>BW5 d y q
  |none=>none
 | .store t a x=>AP7 g (match Γ.td t with
  |some d=>match (A x).cells with
   |some new=>match A a with
    | .ptr b off=>match rd b with
     |some cs=>match Ef8 new.length d.zero.length&&Eg2 (off+d.zero.length) cs.length with
      |true=>q .undef none [⟨b,off,new⟩] [b]
      |false=>none
     |none=>none
    | .pix b off s n i o=>match rd b with
     |some cs=>match Ef8 new.length d.zero.length&&Eg2 (off+n*s) cs.length&&Eg2 (o+d.zero.length) s with
      |true=>match AX4 cs (off+o) s i new 0 n with
       |some cs'=>q .undef none [⟨b,0,cs'⟩] [b]
       |none=>none
      |false=>none
     |none=>none
    |_=>none
   |none=>none
  |none=>none)
 | .nilCheck x=>match A x with
  | .ptr b off=>q (.ptr b off) none [] []
  | .pix b off s n i o=>q (.pix b off s n i o) none [] []
  | .elt t l i o=>q (.elt t l i o) none [] []
  | .elx t l i o s n m o2=>q (.elx t l i o s n m o2) none [] []
  | .elo k t l i o=>q (.elo k t l i o) none [] []
  |y=>BW4 y q
 | .binOp op T x y _=>match BW7 Γ.AJ2 T y,A x with
  |true,.ptr _ _=>match op with
   | .eql=>q (.dat .bool false) none [] []
   | .neq=>q (.dat .bool true) none [] []
   |_=>none
  |_,_=>BD9 g (Γ.td T) op (A x) (A y) fun v=>q v none [] []
 | .unOp op _ x=>match op,A x with
  | .not,.dat .bool b=>q (.dat .bool !b) none [] []
  | .neg,.dat (.int k) n=>q (.dat (.int k) (k.wrap (0-n))) none [] []
  | .xor,.dat (.int k) n=>q (.dat (.int k) (bits k .xor (if k.signed then -1 else k.max) n)) none [] []
  |_,_=>none
 | .convert s d x=>match (A x).raw with
  | .dat (.int k) n=>match Γ.td d,R9 (Γ.td s) (.int k) with
   |some dd,true=>match dd.ty with
    |some (.int k')=>q (.dat (.int k') (k'.wrap n)) none [] []
    |_=>none
   |_,_=>none
  | .dat .str b=>match Γ.td d,R9 (Γ.td s) .str with
   |some dd,true=>match dd.how with
    | .slice e _ _=>match R9 (Γ.td e) (.int .u8)&&Eg6 e 25000 with
     |true=>q (.own (900000000+e) (.int .u8) (AX6 b)) none [] []
     |false=>none
    |_=>none
   |_,_=>none
  | .dat (.slice ty) l=>if h:ty = .int .u8 then (match R9 (Γ.td d) .str&&W4 Γ s (.int .u8) with
   |true=>q (.dat .str (bytesOf (show List (Ty.int .u8).den from h▸l))) none [] []
   |false=>none) else none
  | .nil=>match R9 (Γ.td d) .str&&W4 Γ s (.int .u8) with
   |true=>q (.dat .str (bytesOf [])) none [] []
   |false=>none
  |_=>none
 | .makeFunc fn first captured=>match fn with
  | .func f=>q (.clo f (first.toList.map A) (captured.toList.map A)) none [] []
  |_=>none
 | .slice t x lo hi mx=>match mx with
  |some _=>none
  |none=>match (A x).raw with
   | .dat (.slice ty) l=>match W4 Γ t ty with
    |false=>none
    |true=>match (match lo with | some y=>intOf (A y) | none=>some 0),(match hi with | some y=>intOf (A y) | none=>some (l.length:Int)) with
    |some a,some b=>chk g (decide (0≤a)&&decide (a≤b)&&decide (b≤(l.length:Int))) (q (.dat (.slice ty) ((l.take b.toNat).drop a.toNat)) none [] [])
    |_,_=>none
   | .dat .str s=>match R9 (Γ.td t) .str with
    |false=>none
    |true=>match (match lo with | some y=>intOf (A y) | none=>some 0),(match hi with | some y=>intOf (A y) | none=>some (s.size:Int)) with
    |some a,some b=>chk g (decide (0≤a)&&decide (a≤b)&&decide (b≤(s.size:Int))) (q (.dat .str (s.extract a.toNat b.toNat)) none [] [])
    |_,_=>none
   |_=>none
 | .fieldAddr t x i=>match Γ.td t with
  |some d=>match AJ3 d i with
   |some (off,size)=>match Eg2 1 size with
    |true=>match BW2 d with
     |true=>match A x with
      | .ptr b o=>q (.ptr b (o+off)) none [] []
      | .pix b o1 s n ix o=>q (.pix b o1 s n ix (o+off)) none [] []
      | .elt ty l ix o=>q (.elt ty l ix (o+off)) none [] []
      | .elx ty l ix o s n m o2=>q (.elx ty l ix o s n m (o2+off)) none [] []
      |y=>BW3 off y q
     |false=>none
    |false=>none
   |none=>none
  |none=>none
 | .field t x i=>match A x with
  | .dat (.agg c) v=>match R9 (Γ.td t) (.agg c),Γ.td t with
   |true,some d=>match d.how with
    | .struct fs=>match fs[i]? with
     |some (ft,off,_)=>match Γ.td ft with
      |some fd=>match W1 fd (flat c v) off with
       |some e=>q e none [] []
       |none=>none
      |none=>none
     |none=>none
    |_=>none
   |_,_=>none
  |_=>none
 | .indexAddr t x i=>match Γ.td t with
  |some d=>match d.how with
   | .array n e s=>match A x with
    | .ptr b off=>match i with
     | .const (.int _ m)=>match decide (0≤m)&&decide (m<(n:Int)) with
      |true=>q (.ptr b (off+m.toNat*s)) none [] []
      |false=>none
     |_=>match intOf (A i) with
      |some m=>chk g (decide (0≤m)&&decide (m<(n:Int))) (q (.pix b off s n m 0) none [] [])
      |none=>none
    | .elt ty l ix o=>match i with
     | .const (.int _ m)=>match decide (0≤m)&&decide (m<(n:Int)) with
      |true=>q (.elt ty l ix (o+m.toNat*s)) none [] []
      |false=>none
     |_=>match intOf (A i) with
      |some m=>chk g (decide (0≤m)&&decide (m<(n:Int))) (q (.elx ty l ix o s n m 0) none [] [])
      |none=>none
    |y=>BW6 (Γ.td e) g n s y i (A i) q
   | .slice _ es1 _=>match (A x).raw with
    | .dat (.slice ty) l=>match intOf (A i),W4 Γ t ty with
     |some m,true=>chk g (decide (0≤m)&&decide (m<(l.length:Int))) (q (.elt ty l m 0) none [] [])
     |_,_=>none
    | .own k ty l=>match intOf (A i),W4 Γ t ty with
     |some m,true=>chk g (decide (0≤m)&&decide (m<(l.length:Int))) (q (.elo k ty l m 0) none [] [])
     |_,_=>none
    | .sl es=>match intOf (A i) with
     |some m=>match decide (0≤m)&&decide (m<(es.length:Int))&&Ef8 es1 1 with
      |true=>match es[m.toNat]? with
       |some e=>q (.cp e) none [] []
       |none=>none
      |false=>none
     |none=>none
    |_=>none
   |_=>none
  |none=>none
 | .index t x i=>match A x with
  | .dat .str s=>match intOf (A i),R9 (Γ.td t) .str with
   |some m,true=>chk g (decide (0≤m)&&decide (m<(s.size:Int))) (q (.dat (.int .u8) ((s[m.toNat]?.getD 0).toNat:Int)) none [] [])
   |_,_=>none
  | .dat (.agg c) v=>match intOf (A i),Γ.td t with
   |some m,some d=>match d.how with
    | .array n e s=>match Γ.td e with
     |some ed=>match ed.ty with
      |some ty=>match AX3 ty ed (flat c v) 0 s n with
       |some l=>chk g (decide (0≤m)&&decide (m<(n:Int))) (q (.dat ty (l.getD m.toNat ty.J7)) none [] [])
       |none=>none
      |none=>none
     |none=>none
    |_=>none
   |_,_=>none
  |_=>none
 | .extract x i=>match A x with
  | .tup vs=>match vs[i]? with
   |some v=>q v none [] []
   |none=>none
  |_=>none
 | .call c=>match c.callee with
  | .builtin b=>match b with
   | .len=>match c.argTypes[0]? with
    |some at_=>match c.args.toList.map A with
     | [.dat .str s]=>match R9 (Γ.td at_) .str with
      |true=>q (.dat (.int .i64) (s.size:Int)) none [] []
      |false=>none
     | [.dat (.slice _) l]=>match AP8 Γ at_ with
      |true=>q (.dat (.int .i64) (l.length:Int)) none [] []
      |false=>none
     | [.own _ _ l]=>match AP8 Γ at_ with
      |true=>q (.dat (.int .i64) (l.length:Int)) none [] []
      |false=>none
     | [.nil]=>match AP8 Γ at_ with
      |true=>q (.dat (.int .i64) (0:Int)) none [] []
      |false=>none
     | [.sl es]=>match AP8 Γ at_ with
      |true=>q (.dat (.int .i64) (es.length:Int)) none [] []
      |false=>none
     |_=>none
    |none=>none
   | .max=>match (c.args.toList.map A) with
    | .dat (.int k) x::r=>match AE3 true k x r with
     |some m=>q (.dat (.int k) m) none [] []
     |none=>none
    |_=>none
   | .min=>match (c.args.toList.map A) with
    | .dat (.int k) x::r=>match AE3 false k x r with
     |some m=>q (.dat (.int k) m) none [] []
     |none=>none
    |_=>none
   |_=>none
  | .value f=>match A f with
   | .clo f fst caps=>BW1 Γ nb rd g f (fst++c.args.toList.map A++caps) q
   |_=>none
  | .invoke _ _=>none
 |_=>none
structure Rec where
 dst:Option Nat
 ch:List (Nat×Bool)
 val:EV
def recAt (rs:List Rec)(j:Nat):EV:=match rs[j]? with
 |some r=>r.val
 |none=>.undef
def W5 (rs:List Rec)(j:Nat):Bool:=match recAt rs j with
 | .dat .bool b=>b
 |_=>false
def chainB (rs:List Rec):List (Nat×Bool)→Bool
 | []=>true
 | [(j,w)]=>match w with
  |true=>W5 rs j
  |false=> !W5 rs j
 | (j,w)::r=>(match w with
  |true=>W5 rs j
  |false=> !W5 rs j)&&chainB rs r
def Ar1 (p:Nat×Bool):List (Nat×Bool)→Bool
 | []=>false
 | (j,w)::r=>(Ef8 j p.1&&(w==p.2))||Ar1 p r
def Ar2:List (Nat×Bool)→List (Nat×Bool)→Bool
 | [],_=>true
 |p::r,l=>Ar1 p l&&Ar2 r l
def I0 (rs:List Rec)(t:Nat):Nat→Option (Nat×Rec)
 |0=>none
 |n+1=>match rs[n]? with
  |some r=>match r.dst with
   |some d=>match Ef8 d t with
    |true=>some (n,r)
    |false=>I0 rs t n
   |none=>I0 rs t n
  |none=>I0 rs t n
def Y8 (base:List EV)(rs:List Rec)(ch:List (Nat×Bool))(t:Nat):EV:=match I0 rs t rs.length with
 |some (_,r)=>match Ar2 r.ch ch with
  |true=>r.val
  |false=>.undef
 |none=>match base[t]? with
  |some e=>e
  |none=>.undef
def W6 (base:List EV)(rs:List Rec)(ch:List (Nat×Bool)):Operand→EV
 | .tmp t=>Y8 base rs ch t
 | .const v=>ofConst v
 | .func f=>.clo f [] []
 | .global g=>BD6 g
def M3 (base:List EV)(rs:List Rec)(ch:List (Nat×Bool))(o:Op):Operand→EV:=match o with
 | .pick (.tmp c) a b=>match I0 rs c rs.length with
  |some (j,_)=>fun x=>match x with
   | .tmp t=>match Ef8 t c with
    |true=>Y8 base rs ch t
    |false=>match a,b with
     | .tmp t',.const _=>match Ef8 t t' with
      |true=>Y8 base rs ((j,true)::ch) t
      |false=>.undef
     | .const _,.tmp t'=>match Ef8 t t' with
      |true=>Y8 base rs ((j,false)::ch) t
      |false=>.undef
     |_,_=>.undef
   |x=>W6 base rs ch x
  |none=>W6 base rs ch
 |_=>W6 base rs ch
def Ar3 (rs:List Rec)(g:Option (Nat×Bool)):Option (List (Nat×Bool)):=match g with
 |none=>some []
 |some (j,w)=>match rs[j]? with
  |some r=>match r.dst,r.val with
   |some d,.dat .bool _=>match I0 rs d rs.length with
    |some (j',_)=>match Ef8 j j' with
     |true=>some ((j,w)::r.ch)
     |false=>none
    |none=>none
   |_,_=>none
  |none=>none
def BW8 (n:Nat)(d:Option Nat):Bool:=match d with
 |some d=>Eg2 (d+1) n
 |none=>true
def guardOf (rs:List Rec)(ch:List (Nat×Bool)):Option Bool:=match ch with
 | []=>none
 |_=>some (chainB rs ch)
def A3 (bx:List (Option (List EV)))(b:Nat):Option (List EV):=match bx[b]? with
 |some (some cs)=>some cs
 |_=>none
def K9 (bx:List (Option (List EV)))(w:Wr):List (Option (List EV)):=match A3 bx w.b with
 |some cs=>bx.set w.b (some (M1 cs w.off w.new))
 |none=>bx
def AX7 (bx:List (Option (List EV)))(n:Option (List EV)):List (Option (List EV)):=match n with
 |some cs=>bx++[some cs]
 |none=>bx
def BE2 (w:Wr):List Pl:=(Ej4 w.new.length).map fun i=>(w.b+1,w.off+i)
def Ar4 (x y:Option EV):Bool:=match x,y with
 |some (.ptr b o),some (.ptr b' o')=>Ef8 b b'&&Ef8 o o'
 |_,_=>false
def jrW (bx:List (Option (List EV)))(w:Wr):List Pl:=match A3 bx w.b with
 |some cs=>(BE2 w).filter fun p=> !Ar4 cs[p.2]? w.new[p.2-w.off]?
 |none=>BE2 w
def Ar5:List (Option (List EV))→List Wr→List Pl→List Pl
 |_,[],j=>j
 |bx,w::ws,j=>Ar5 (K9 bx w) ws (jrW bx w++j)
structure Rg where
 rs:List Rec
 bx:List (Option (List EV))
 jr:List Pl
 dead:List Nat
 tw:List (List Nat×List Nat)
 upd:N9
def AJ4:Nat:=1000000000000000
def Rg.next (s:Rg)(r:Rec)(n:Option (List EV))(ws:List Wr)(tr:List Nat)(k:List Nat)(up:N9):Rg:=
 ⟨s.rs++[r],AX7 (ws.foldl K9 s.bx) n,Ar5 s.bx ws s.jr,k++s.dead,
  s.tw++[(tr,match n with
   |some _=>s.bx.length::(ws.map (·.b)++k.map (· + AJ4))
   |none=>ws.map (·.b)++k.map (· + AJ4))],List.append up s.upd⟩
def isApp (o:Op):Option (Operand×Operand×Nat):=match o with
 | .call c=>match c.callee with
  | .builtin .append=>match c.args.toList,c.argTypes.toList with
   | [x,y],[t,t']=>match Ef8 t t' with
    |true=>some (x,y,t)
    |false=>none
   |_,_=>none
  |_=>none
 |_=>none
def Ar6 (Γ:Cx)(t:Nat):Option (Ty×Nat×Nat):=match Γ.td t with
 |some d=>match d.how with
  | .slice e _ bytes=>match Γ.td e with
   |some de=>match de.ty with
    |some ty=>match Eg2 1 ty.size&&Eg2 1 bytes with
     |true=>some (ty,bytes,e)
     |false=>none
    |none=>none
   |none=>none
  |_=>none
 |none=>none
def BW9 (ty:Ty)(e:Nat)(dst:Option Nat)(x:EV):Option (Nat×List ty.den):=match x with
 | .nil=>match dst with
  |some d=>some (d*100000+e,[])
  |none=>none
 | .own k ty' l=>if h:ty'=ty then some (k,h▸l) else none
 |_=>none
def BX0 (dead:List Nat)(k e:Nat):Bool:=(Ef8 (k % 100000) e||(soft k&&Ef8 (k % 25000) e))&& !E8 k dead
def AB6 (k e:Nat):Nat:=match soft k with
 |true=>k/100000*100000+e
 |false=>k
def BE3 {ρ:Type}(Γ:Cx)(dead:List Nat)(dst:Option Nat)(x y:EV)(t:Nat)(q:EV→Nat→Option ρ):Option ρ:=
 match Ar6 Γ t with
 |some (ty,bytes,e)=>match BW9 ty e dst x,y.to (.slice ty) with
  |some (k,l),some l'=>match BX0 dead k e&&Eg6 e 25000 with
   |true=>chk none (decide ((l.length+l'.length)*bytes≤140737488355328)) (q (.own (AB6 k e+BIG) ty (l++l')) k)
   |false=>none
  |_,_=>none
 |none=>none
def K5 (dead:List Nat):List OP→List EV→List (Nat×Nat)→List (Nat×Nat)→Option (List EV×List (Nat×Nat)×List (Nat×Nat))
 | [],[],a,tk=>some ([],a,tk)
 | .dat t::ps,e::es,a,tk=>match e.toA t with
  |some v=>match K5 dead ps es a tk with
   |some (l,a',tk')=>some (.dat t v::l,a',tk')
   |none=>none
  |none=>none
 | .own κ t::ps,e::es,a,tk=>match e with
  | .own k t' l=>match Ef8 (k % 100000) (κ % 100000)&&Eg6 κ BIG&&(Eg6 k BIG|| !soft k)&& !E8 k dead&& !hasB tk k&&(match J3 tk κ with
   |some _=>false
   |none=>true)&&decide (t'=t) with
   |true=>match K5 dead ps es a ((κ,k)::tk) with
    |some (r,a',tk')=>some (.dat (.slice t') l::r,a',tk')
    |none=>none
   |false=>none
  | .nil=>match K4 κ with
   |true=>none
   |false=>match K5 dead ps es a tk with
    |some (r,a',tk')=>some (.dat (.slice t) []::r,a',tk')
    |none=>none
  |_=>none
 | .ref i off::ps,e::es,a,tk=>match e with
  | .ptr b off'=>match Ef8 off off' with
   |true=>match J3 a i with
    |some b'=>match Ef8 b b' with
     |true=>K5 dead ps es a tk
     |false=>none
    |none=>match hasB a b with
     |true=>none
     |false=>K5 dead ps es ((i,b)::a) tk
   |false=>none
  |_=>none
 |_,_,_,_=>none
def AP9 (dead:List Nat)(rd:Nat→Option (List EV)):Nat→List (List OP)→List (Nat×Nat)→List (Nat×Nat)→Option (List EV×List (Nat×Nat)×List (Nat×Nat))
 |_,[],a,tk=>some ([],a,tk)
 |i,pts::r,a,tk=>match J3 a i with
  |some b=>match rd b with
   |some cs=>match K5 dead pts cs a tk with
    |some (l,a1,tk1)=>match AP9 dead rd (i+1) r a1 tk1 with
     |some (l',a',tk')=>some (l++l',a',tk')
     |none=>none
    |none=>none
   |none=>none
  |none=>none
def D9 (tn bn:Nat→Nat):List OP→List EV→List EV×List EV
 | [],d=>([],d)
 | .dat _::ps,d=>match d with
  |e::d'=>match D9 tn bn ps d' with
   | (l,r)=>(e::l,r)
  | []=>([],[])
 | .own κ _::ps,d=>match d with
  |e::d'=>match D9 tn bn ps d' with
   | (l,r)=>((match e with
    | .dat (.slice a) v=>.own (tn κ) a v
    |_=>.undef)::l,r)
  | []=>([],[])
 | .ref i off::ps,d=>match D9 tn bn ps d with
  | (l,r)=>(.ptr (bn i) off::l,r)
def G4 (tn bn:Nat→Nat):List (List OP)→List EV→List (List EV)
 | [],_=>[]
 |pts::r,d=>match D9 tn bn pts d with
  | (l,d')=>l::G4 tn bn r d'
def F9.G7 (c:F9)(x:c.ins.den):List EV:=(D9 id id c.ps (A8 c.ins c.nin x)).1
def F9.L0 (c:F9)(x:c.ins.den):List (Option (List EV)):=(G4 id id c.boxes (D9 id id c.ps (A8 c.ins c.nin x)).2).map some
def F9.res (c:F9)(y:c.outs.den):EV:=H2 (D9 id id c.rs (A8 c.outs c.A2 y)).1
def F9.S1 (c:F9)(y:c.outs.den):List (Option (List EV)):=(G4 id id c.aft (D9 id id c.rs (A8 c.outs c.A2 y)).2).map some
def P1 (dst:Option Nat)(tk:List (Nat×Nat))(κ:Nat):Nat:=match J3 tk κ with
 |some k=>k
 |none=>match dst with
  |some d=>(d+1)*100000000+κ
  |none=>κ
def AE4:List OP→List Nat
 | []=>[]
 | .own κ _::r=>κ::AE4 r
 |_::r=>AE4 r
def Ag2:List (List OP)→List Nat
 | []=>[]
 |p::r=>AE4 p++Ag2 r
def F9.W7 (c:F9):List Nat:=AE4 c.rs++Ag2 c.aft
def Ag3:List Nat→Bool
 | []=>true
 |x::r=> !E8 x r&&Ag3 r
def BE4 (c:F9)(nin:Nat)(a:List (Nat×Nat)):Bool:=
 Ef8 nin c.nin&&AE2 c.boxes.length a&&Ef8 c.aft.length c.boxes.length
def AE5 (rd:Nat→Option (List EV))(a:List (Nat×Nat)):Nat→List (List EV)→Option (List Wr)
 |_,[]=>some []
 |i,cs::r=>match J3 a i with
  |some b=>match rd b with
   |some cs0=>match Ef8 cs.length cs0.length with
    |true=>match AE5 rd a (i+1) r with
     |some ws=>some (⟨b,0,cs⟩::ws)
     |none=>none
    |false=>none
   |none=>none
  |none=>none
def W8 (a:List (Nat×Nat))(i:Nat):Nat:=match J3 a i with
 |some b=>b
 |none=>0
def BE5 {ρ:Type}(dead:List Nat)(dst:Option Nat)(rd:Nat→Option (List EV))(c:F9)(args:List EV)(q:EV→List Wr→List Nat→List Nat→Option ρ):Option ρ:=
 match K5 dead c.ps args [] [] with
 |none=>none
 |some (l,a,tk)=>match AP9 dead rd 0 c.boxes a tk with
  |none=>none
  |some (l',a',tk')=>match BE4 c (l++l').length a',J2 c.ins (l++l') with
   |true,some x=>(c.F x).bind fun y=>
     match D9 (fun κ=>P1 dst tk' κ+BIG) (W8 a') c.rs (A8 c.outs c.A2 y) with
     | (vs,d)=>match AE5 rd a' 0 (G4 (fun κ=>P1 dst tk' κ+BIG) (W8 a') c.aft d) with
      |some ws=>match Ag3 (c.W7.map (P1 dst tk'))&&c.W7.all (fun κ=> !E8 (P1 dst tk' κ) dead&&(Eg6 (P1 dst tk' κ) BIG|| !soft κ)) with
       |true=>q (H2 vs) ws (a'.map (·.2)) (tk'.map (·.2)++c.W7.map (P1 dst tk'))
       |false=>none
      |none=>none
   |_,_=>none
def BE6 (Γ:Cx)(o:Op):Option (Nat×Operand):=match o with
 | .convert s d x=>match Ef8 s d&&AP8 Γ s with
  |true=>some (s,x)
  |false=>none
 |_=>none
def BE7 {ρ:Type}(Γ:Cx)(dead:List Nat)(t:Nat)(x:EV)(q:EV→Nat→Option ρ):Option ρ:=match x with
 | .own k ty l=>match l with
  | []=>none
  |_::_=>match W4 Γ t ty&&decide (ty = .int .u8)&& !E8 k dead&& !soft k with
   |true=>q (.own (k+BIG) ty l) k
   |false=>none
 |_=>none
def Ar7 (f:Nat):List F9→Option F9
 | []=>none
 |c::r=>match Ef8 c.f f with
  |true=>some c
  |false=>Ar7 f r
structure AJ5 where
 c:Bool
 v:EV
 ks:List Nat
 us:List Nat
 up:N9
def BE8 (Γ:Cx)(dead:List Nat)(dst:Option Nat)(t:Nat)(n c:EV):Option AJ5:=match dst with
 |none=>none
 |some d=>match n with
  | .dat (.int _) a=>match c with
   | .dat (.int _) b=>match Γ.td t with
    |some dt=>match dt.how with
     | .slice e _ bytes=>match Γ.td e with
      |some de=>match de.ty,de.zero with
       |some (.int k0),[z]=>match z.to (.int k0) with
        |some z0=>match Eg6 e 25000&& !E8 (d*100000+75000+e) dead&&Eg6 d 9000000 with
         |true=>some ⟨decide (0≤a)&&decide (a≤b)&&decide (b*bytes≤140737488355328)&&decide (b≤140737488355328),.own (d*100000+75000+e+BIG) (.int k0) (Eh9 a.toNat z0),[d*100000+75000+e],[],[]⟩
         |false=>none
        |none=>none
       |_,_=>none
      |none=>none
     |_=>none
    |none=>none
   |_=>none
  |_=>none
def BE9 (Γ:Cx)(dead:List Nat)(t:Nat)(a:EV):Option AJ5:=match a with
 | .elo k ty l i o=>match E8 k dead with
  |true=>none
  |false=>match Γ.td t with
   |some d=>match W1 d (flat ty (l.getD i.toNat ty.J7)) o with
    |some v=>some ⟨true,v,[],[k],[]⟩
    |none=>none
   |none=>none
 |_=>none
def BF0 (Γ:Cx)(dead:List Nat)(t:Nat)(a x:EV):Option AJ5:=match a with
 | .elo k ty l i o=>match E8 k dead with
  |true=>none
  |false=>match Γ.td t with
   |some d=>match x.cells with
    |some new=>match Ef8 new.length d.zero.length&&Eg2 (o+d.zero.length) ty.size&&Eg6 k BIG with
     |true=>match asm ty (M1 (flat ty (l.getD i.toNat ty.J7)) o new) with
      |some (v,[])=>some ⟨true,.undef,[k],[],[(k,⟨ty,l.set i.toNat v⟩)]⟩
      |_=>none
     |false=>none
    |none=>none
   |none=>none
 |_=>none
def BF1 (Γ:Cx)(dead:List Nat)(t t':Nat)(x y:EV):Option AJ5:=match x with
 | .own k ty l=>match ty,l with
  | .int k0,l=>match soft k&&K4 k&& !E8 k dead&&Eg6 k BIG&&Ef8 t t'&&W4 Γ t (.int k0) with
   |true=>match y.to (.slice (.int k0)) with
    |some m=>some ⟨decide (0<l.length),.dat (.int .i64) ((min m.length l.length:Nat):Int),[k],[],[(k,⟨.int k0,(show List Int from m).take l.length++(show List Int from l).drop m.length⟩)]⟩
    |none=>none
   |false=>none
  |_,_=>none
 |_=>none
def BF2 (ty:Ty)(e:Nat)(dst:Option Nat)(wish:Bool)(dead:List Nat)(x:EV):Option (Nat×Nat×List ty.den×Bool):=match x with
 | .own k ty' l=>match soft k with
  |true=>match Ef8 (k % 25000) e&& !E8 k dead&&Eg6 k BIG with
   |true=>if h:ty'=ty then some (k,k,h▸l,true) else none
   |false=>none
  |false=>match dst with
   |some d=>match Eg2 950000000 k&&Eg6 k 960000000&&Ef8 (k % 100000) e&& !E8 k dead&& !E8 (d*100000+50000+e) dead&&Eg6 d 9000000 with
    |true=>if h:ty'=ty then some (k,d*100000+50000+e,h▸l,decide (l.length=0)) else none
    |false=>none
   |none=>none
 | .nil=>match dst with
  |some d=>match wish&& !E8 (d*100000+50000+e) dead&&Eg6 d 9000000 with
   |true=>some (d*100000+50000+e,d*100000+50000+e,[],true)
   |false=>none
  |none=>none
 |_=>none
def CO0 (Γ:Cx)(dst:Option Nat):Bool:=match dst with
 |some d=>E8 (100000000+d) Γ.AJ2
 |none=>false
def BF3 (ty:Ty)(dead:List Nat)(y:EV):Option (List ty.den×List Nat):=match y with
 | .own k ty' l=>match soft k with
  |true=>match E8 k dead with
   |true=>none
   |false=>if h:ty'=ty then some (h▸l,[k]) else none
  |false=>match y.to (.slice ty) with
   |some l'=>some (l',[])
   |none=>none
 |y=>match y.to (.slice ty) with
  |some l'=>some (l',[])
  |none=>none
def BF4 (Γ:Cx)(dead:List Nat)(dst:Option Nat)(t t':Nat)(x y:EV):Option AJ5:=match Ar6 Γ t with
 |some (ty,bytes,e)=>match BF2 ty e dst (CO0 Γ dst) dead x with
  |some (k,tgt,l,c)=>match BF3 ty dead y with
   |some (l',us)=>match Ef8 t t'&&Eg6 e 25000 with
    |true=>some ⟨c&&decide ((l.length+l'.length)*bytes≤140737488355328),.own (tgt+BIG) ty (l++l'),[k,tgt],us,[]⟩
    |false=>none
   |none=>none
  |none=>none
 |none=>none
def BF5 (Γ:Cx)(dead:List Nat)(dst:Option Nat)(A:Operand→EV)(o:Op):Option AJ5:=match o with
 | .makeSlice t n c=>BE8 Γ dead dst t (A n) (A c)
 | .load t a=>BE9 Γ dead t (A a)
 | .store t a x=>BF0 Γ dead t (A a) (A x)
 | .call c=>match c.callee with
  | .builtin .copy=>match c.args.toList,c.argTypes.toList with
   | [x,y],[t,t']=>BF1 Γ dead t t' (A x) (A y)
   |_,_=>none
  | .builtin .append=>match c.args.toList,c.argTypes.toList with
   | [x,y],[t,t']=>BF4 Γ dead dst t t' (A x) (A y)
   |_,_=>none
  |_=>none
 |_=>none
def BF6 (Γ:Cx)(A:Operand→EV)(o:Op):Option (F9×List EV):=match o with
 | .call c=>match c.callee with
  | .value f=>match Γ.owns with
   | []=>none
   |owns=>match A f with
    | .clo f fst caps=>match Ar7 f owns with
     |some oc=>some (oc,fst++c.args.toList.map A++caps)
     |none=>none
    |_=>none
  |_=>none
 |_=>none
def AQ0 (dead:List Nat):List EV→List Nat
 | []=>[]
 |e::r=>match e with
  | .own k _ _=>match soft k&& !E8 k dead with
   |true=>k::AQ0 dead r
   |false=>AQ0 dead r
  |_=>AQ0 dead r
def Y9 (ks:List Nat)(e:EV):EV:=match e with
 | .own k t l=>match E8 k ks with
  |true=>.dat (.slice t) l
  |false=>.own k t l
 |e=>e
def BF7 (dead:List Nat)(A:Operand→EV)(o:Op):Option (List Nat):=match o with
 | .call c=>match c.callee with
  | .value _=>match AQ0 dead (c.args.toList.map A) with
   | []=>none
   |k::ks=>some (k::ks)
  |_=>none
 |_=>none
def AX8 (dead:List Nat)(rd:Nat→Option (List EV)):List EV→Option (Nat×List EV×List Nat)
 | []=>none
 |e::r=>match e with
  | .ptr b _=>match rd b with
   |some cs=>match AQ0 dead cs with
    | []=>AX8 dead rd r
    |k::ks=>some (b,cs.map (Y9 (k::ks)),k::ks)
   |none=>AX8 dead rd r
  |_=>AX8 dead rd r
def BF8 (dead:List Nat)(rd:Nat→Option (List EV))(A:Operand→EV)(o:Op):Option (Nat×List EV×List Nat):=match o with
 | .call c=>match c.callee with
  | .value _=>AX8 dead rd (c.args.toList.map A)
  |_=>none
 |_=>none
def Ag4 (rd:Nat→Option (List EV))(b:Nat)(cs:List EV):Nat→Option (List EV):=fun x=>match Ef8 x b with
 |true=>some cs
 |false=>rd x
def CO1 (ch:List (Nat×Bool))(A:Operand→EV)(o:Op):Bool:=match ch with
 | []=>false
 |_::_=>match o with
  | .call c=>match c.callee with
   | .value _=>c.args.toList.any fun x=>match A x with
    | .ptr _ _=>true
    |_=>false
   |_=>false
  |_=>false
def BX1 (n A2:Nat)(t:Ty):EV:=H2 ((A8 t A2 t.J7).take n)
def CO2 (Γ:Cx)(A:Operand→EV)(o:Op):EV:=match o with
 | .call c=>match c.callee with
  | .value f=>match A f with
   | .clo f _ _=>match Af9 f (fun _=>true) Γ.cons with
    |some c=>BX1 c.rs.length c.A2 c.outs
    |none=>.undef
   |_=>.undef
  |_=>.undef
 |_=>.undef
def Q6 {ρ:Type}(Γ:Cx)(base:List EV):List Oper→Rg→(Rg→Option ρ)→Option ρ
 | [],s,q=>q s
 |o::os,s,q=>match Ar3 s.rs o.guard,BW8 base.length o.dst with
  |some ch,true=>match BF5 Γ s.dead o.dst (M3 base s.rs ch o.op) o.op with
   |some r=>bif chainB s.rs ch then chk none r.c (Q6 Γ base os (s.next ⟨o.dst,ch,r.v⟩ none [] (r.us.map (· + AJ4)) r.ks r.up) q)
    else Q6 Γ base os (s.next ⟨o.dst,ch,r.v⟩ none [] [] [] []) q
   |none=>match isApp o.op with
   |some (x,y,t)=>chk none (chainB s.rs ch) (BE3 Γ s.dead o.dst (M3 base s.rs ch o.op x) (M3 base s.rs ch o.op y) t fun v k=>Q6 Γ base os (s.next ⟨o.dst,ch,v⟩ none [] [] [k] []) q)
   |none=>match BE6 Γ o.op with
   |some (t,x)=>chk none (chainB s.rs ch) (BE7 Γ s.dead t (M3 base s.rs ch o.op x) fun v k=>Q6 Γ base os (s.next ⟨o.dst,ch,v⟩ none [] [] [k] []) q)
   |none=>match BF6 Γ (M3 base s.rs ch o.op) o.op with
   |some (c,args)=>bif chainB s.rs ch then BE5 s.dead o.dst (A3 s.bx) c args fun v ws tr ks=>Q6 Γ base os (s.next ⟨o.dst,ch,v⟩ none ws tr ks []) q
    else Q6 Γ base os (s.next ⟨o.dst,ch,BX1 c.rs.length c.A2 c.outs⟩ none [] [] [] []) q
   |none=>match BF7 s.dead (M3 base s.rs ch o.op) o.op with
    |some ks=>chk none (chainB s.rs ch) (opE Γ s.bx.length (A3 s.bx) none (fun x=>Y9 ks (M3 base s.rs ch o.op x)) o.op fun v n ws tr=>
      Q6 Γ base os (s.next ⟨o.dst,ch,v⟩ n ws tr ks []) q)
    |none=>match BF8 s.dead (A3 s.bx) (M3 base s.rs ch o.op) o.op with
    |some (b,cs,ks)=>chk none (chainB s.rs ch) (opE Γ s.bx.length (Ag4 (A3 s.bx) b cs) none (M3 base s.rs ch o.op) o.op fun v n ws tr=>
      Q6 Γ base os (s.next ⟨o.dst,ch,v⟩ n (⟨b,0,cs⟩::ws) (b::tr) ks []) q)
    |none=>match CO1 ch (M3 base s.rs ch o.op) o.op with
    |true=>bif chainB s.rs ch then opE Γ s.bx.length (A3 s.bx) none (M3 base s.rs ch o.op) o.op fun v n ws tr=>
       Q6 Γ base os (s.next ⟨o.dst,ch,v⟩ n ws tr [] []) q
      else Q6 Γ base os (s.next ⟨o.dst,ch,CO2 Γ (M3 base s.rs ch o.op) o.op⟩ none [] [] [] []) q
    |false=>opE Γ s.bx.length (A3 s.bx) (guardOf s.rs ch) (M3 base s.rs ch o.op) o.op fun v n ws tr=>
      Q6 Γ base os (s.next ⟨o.dst,ch,v⟩ n ws tr [] []) q
  |_,_=>none
def meets:List Nat→List Nat→Bool
 | [],_=>false
 |x::r,l=>l.any (Ef8 x)||meets r l
def AB7 (ops:Array Oper)(x y:Oper)(tx ty:List Nat×List Nat):Bool:=
 x.apart ops y&& !meets tx.2 ty.1&& !meets tx.2 ty.2&& !meets tx.1 ty.2
def AX9 (ops:Array Oper)(i:Nat)(x:Oper)(tx:List Nat×List Nat):Nat→List Oper→List (List Nat×List Nat)→List Nat→Bool
 |j,y::ys,ty::tys,m::ms=>(m.testBit i||AB7 ops x y tx ty)&&AX9 ops i x tx (j+1) ys tys ms
 |_,[],_,_=>true
 |_,_,_,_=>false
def AJ6 (ops:Array Oper):Nat→List Oper→List (List Nat×List Nat)→List Nat→Bool
 |i,x::xs,tx::txs,_::ms=>AX9 ops i x tx (i+1) xs txs ms&&AJ6 ops (i+1) xs txs ms
 |_,[],_,_=>true
 |_,_,_,_=>false
def AY0 (ops:List Oper):Nat→Bool:=fun i=>match ops with
 | []=>true
 |o::r=>o.after.all (fun e=> !Region.binds .any e||decide (e.on<i))&&AY0 r (i+1)
def BF9:List Oper→Bool
 | []=>true
 |o::r=>(match o.op with | .select .. => false | _=>true)&&BF9 r
def BG0 (r:Rec):EV:=match r.ch with
 | []=>r.val
 |_=>.undef
def Ar8 (r:Rec)(sl:List EV):List EV:=match r.dst with
 |some d=>sl.set d (BG0 r)
 |none=>sl
def AQ1:List Rec→List EV→List EV
 | [],sl=>sl
 |r::rs,sl=>AQ1 rs (Ar8 r sl)
def AQ2:List Rec→List Pl
 | []=>[]
 |r::rs=>match r.dst with
  |some d=>(0,d)::AQ2 rs
  |none=>AQ2 rs
def AQ3 (dead:List Nat)(up:N9)(b:Nat):List EV→Nat→List Pl
 | [],_=>[]
 |e::es,i=>match steady dead up e with
  |true=>AQ3 dead up b es (i+1)
  |false=>(b,i)::AQ3 dead up b es (i+1)
def AQ4 (dead:List Nat)(up:N9):List (Option (List EV))→Nat→List Pl
 | [],_=>[]
 |none::r,b=>AQ4 dead up r (b+1)
 |some cs::r,b=>AQ3 dead up (b+1) cs 0++AQ4 dead up r (b+1)
def U9 (dead:List Nat)(up:N9)(σ:St):St:=match dead with
 | []=>σ
 |_=>⟨σ.C1.map (settle dead up),σ.boxes.map (Ej5 (List.map (settle dead up))),AQ3 dead up 0 σ.C1 0++AQ4 dead up σ.boxes 0++σ.jr⟩
def Rg.AB8 (s:Rg)(σ:St):St:=⟨AQ1 s.rs σ.C1,s.bx,AQ2 s.rs++s.jr⟩
def Rg.out (s:Rg)(σ:St):St:=U9 s.dead s.upd (s.AB8 σ)
inductive Ex where
 |normal
 |exit (id:Nat)
 |ret
 deriving DecidableEq
inductive At where
 |slot (i:Nat)
 |box (b:Nat)
 |cell (b i:Nat)
structure It where
 at_:At
 ty:Ty
 own:Option Nat
inductive Sp where
 |plain
 |join (drop:List Pl) (outs:List (Ex×List It))
 |loop (S:List It) (drop:List Pl) (outs:List (Ex×List It))
 |AY1 (n:Nat)
inductive Hint where
 |mk (sp:Sp) (kids:List Hint)
def Hint.sp:Hint→Sp
 | .mk s _=>s
def Hint.kid:Hint→Nat→Hint
 | .mk _ ks,i=>match ks[i]? with
  |some h=>h
  |none=>.mk .plain []
def Ar9 (k:Nat):EV→Option EV
 | .own k' t l=>match Ef8 k' k with
  |true=>some (.dat (.slice t) l)
  |false=>none
 | .nil=>match K4 k with
  |true=>none
  |false=>some .nil
 |_=>none
def Ag5 (o:Option Nat)(e:Option EV):Option EV:=match o with
 |none=>e
 |some k=>match e with
  |some e=>Ar9 k e
  |none=>none
def As0 (σ:St)(t:It):Option EV:=match t.at_ with
 | .slot i=>Ag5 t.own σ.C1[i]?
 | .box b=>match A3 σ.boxes b with
  |some cs=>match asm t.ty cs with
   |some (v,[])=>some (.dat t.ty v)
   |_=>none
  |none=>none
 | .cell b i=>match A3 σ.boxes b with
  |some cs=>Ag5 t.own cs[i]?
  |none=>none
def AB9 (σ:St):List It→Option (List EV)
 | []=>some []
 |t::r=>match As0 σ t with
  |some e=>match AB9 σ r with
   |some l=>some (e::l)
   |none=>none
  |none=>none
def G5:List It→Ty
 | []=>.unit
 | [t]=>t.ty
 |t::r=>.pair t.ty (G5 r)
def Ag6 (o:Option Nat)(v:EV):EV:=match o with
 |none=>v
 |some k=>match v with
  | .dat (.slice t) l=>.own k t l
  |v=>v
def Z0 (σ:St)(t:It)(v:EV):St:=match t.at_ with
 | .slot i=>{σ with C1:=σ.C1.set i (Ag6 t.own v)}
 | .box b=>match A3 σ.boxes b with
  |some _=>{σ with boxes:=σ.boxes.set b v.cells}
  |none=>σ
 | .cell b i=>match A3 σ.boxes b with
  |some cs=>{σ with boxes:=σ.boxes.set b (some (cs.set i (Ag6 t.own v)))}
  |none=>σ
def W9:List It→List EV→St→St
 |t::r,v::vs,σ=>W9 r vs (Z0 σ t v)
 |_,_,σ=>σ
def Z1 (σ:St)(p:Pl):St:=match p with
 | (0,i)=>{σ with C1:=σ.C1.set i .undef}
 | (b+1,i)=>match A3 σ.boxes b with
  |some cs=>{σ with boxes:=σ.boxes.set b (some (cs.set i .undef))}
  |none=>σ
def V0:List Pl→St→St
 | [],σ=>σ
 |p::r,σ=>V0 r (Z1 σ p)
def As1 (p:Pl)(t:It):Bool:=match t.at_ with
 | .slot i=>Ef8 p.1 0&&Ef8 p.2 i
 | .box b=>Ef8 p.1 (b+1)
 | .cell b i=>Ef8 p.1 (b+1)&&Ef8 p.2 i
def Ag7 (p:Pl):List Pl→Bool
 | []=>false
 |x::r=>(Ef8 x.1 p.1&&Ef8 x.2 p.2)||Ag7 p r
def AE6 (p:Pl):List It→Bool
 | []=>false
 |t::r=>As1 p t||AE6 p r
def covered (nb:Nat)(its:List It)(drop:List Pl):List Pl→Bool
 | []=>true
 |p::r=>(Eg2 (nb+1) p.1||AE6 p its||Ag7 p drop)&&covered nb its drop r
def pack (σ:St)(its:List It):Option (G5 its).den:=match AB9 σ its with
 |some l=>J2 (G5 its) l
 |none=>none
def unpack (base:St)(its:List It)(drop:List Pl)(v:(G5 its).den):St:=
 W9 its (A8 (G5 its) its.length v) (V0 drop base)
def AJ7:List (Ex×List It)→Type
 | []=>Empty
 | [(_,its)]=>(G5 its).den
 | (_,its)::r=>(G5 its).den ⊕ AJ7 r
def AJ8 (nb:Nat)(all:List Pl)(ex:Ex)(σ:St):(outs:List (Ex×List It))→Option (AJ7 outs)
 | []=>none
 | [(x,its)]=>match decide (x=ex)&&covered nb its all σ.jr with
  |true=>pack σ its
  |false=>none
 | (x,its)::y::r=>match decide (x=ex) with
  |true=>match covered nb its all σ.jr with
   |true=>match pack σ its with
    |some v=>some (.inl v)
    |none=>none
   |false=>none
  |false=>match AJ8 nb all ex σ (y::r) with
   |some v=>some (.inr v)
   |none=>none
def As2 {ρ:Type}(base:St)(all:List Pl)(k:Ex→St→Option ρ):(outs:List (Ex×List It))→AJ7 outs→Option ρ
 | [],v=>Empty.elim v
 | [(x,its)],v=>k x (unpack base its all v)
 | (x,its)::y::r,v=>match v with
  | .inl a=>k x (unpack base its all a)
  | .inr b=>As2 base all k (y::r) b
def D2 {S X:Type}(f:S→Option (S ⊕ X)):Nat→S→Option X
 |0,_=>none
 |n+1,s=>match f s with
  |some (.inl s')=>D2 f n s'
  |some (.inr x)=>some x
  |none=>none
open Classical in
noncomputable def AJ9 {S X:Type}(f:S→Option (S ⊕ X))(s:S):Option X:=
 if h:∃n,(D2 f n s).isSome=true then D2 f (Classical.choose h) s else none
def J4 (its:List It)(bx:List (Option (List EV))):List Pl:=match its with
 | []=>[]
 |t::r=>(match t.at_ with
  | .slot i=>[(0,i)]
  | .box b=>match A3 bx b with
   |some cs=>(Ej4 cs.length).map fun i=>(b+1,i)
   |none=>[]
  | .cell b i=>[(b+1,i)])++J4 r bx
def St.fresh (σ:St):St:={σ with jr:=[]}
def St.after (τ σ:St)(js:List Pl):St:={τ with jr:=js++σ.jr}
def As3 {ρ:Type}(body:St→(Ex→St→Option ρ)→Option ρ):Nat→St→(Ex→St→Option ρ)→Option ρ
 |0,_,_=>none
 |n+1,σ,k=>body σ fun ex σ'=>match ex with
  | .normal=>As3 body n σ' k
  |ex=>k ex σ'
def AQ5 {ρ:Type}(sp:Sp)(σ:St)(k:Ex→St→Option ρ)(core:(ρ':Type)→St→(Ex→St→Option ρ')→Option ρ'):Option ρ:=
 match sp with
 | .join drop outs=>
  (core (AJ7 outs) σ.fresh fun ex σ'=>AJ8 σ.boxes.length drop ex σ' outs).bind fun x=>
   As2 σ.fresh drop (fun ex τ=>k ex (τ.after σ (drop++outs.flatMap fun o=>J4 o.2 σ.boxes))) outs x
 |_=>core ρ σ k
noncomputable def As4 {ρ:Type}(sp:Sp)(σ:St)(k:Ex→St→Option ρ)(body:(ρ':Type)→St→(Ex→St→Option ρ')→Option ρ'):Option ρ:=
 match sp with
 | .loop S drop outs=>
  match pack σ S with
  |none=>none
  |some s₀=>
   (AJ9 (S:=(G5 S).den) (X:=AJ7 outs) (fun s=>body ((G5 S).den ⊕ AJ7 outs) (unpack σ.fresh S drop s) fun ex σ'=>match ex with
    | .normal=>match covered σ.boxes.length S drop σ'.jr with
     |true=>match pack σ' S with
      |some v=>some (.inl v)
      |none=>none
     |false=>none
    |ex=>match AJ8 σ.boxes.length (J4 S σ.boxes++drop) ex σ' outs with
     |some v=>some (.inr v)
     |none=>none) s₀).bind fun x=>
    As2 σ.fresh (J4 S σ.boxes++drop) (fun ex τ=>k ex (τ.after σ (J4 S σ.boxes++drop++outs.flatMap fun o=>J4 o.2 σ.boxes))) outs x
 | .AY1 n=>As3 (body ρ) n σ k
 |_=>none
noncomputable def I7 (Γ:Cx):Code→Hint→(ρ:Type)→St→(Ex→St→Option ρ)→Option ρ
 | .skip,_,_,σ,k=>k .normal σ
 | .ret,_,_,σ,k=>k .ret σ
 | .exit id,_,_,σ,k=>k (.exit id) σ
 | .region _ ops draw,h,ρ,σ,k=>AQ5 h.sp σ k fun _ σ k=>match draw with
  |false=>Q6 Γ σ.C1 ops.toList ⟨[],σ.boxes,σ.jr,[],[],[]⟩ fun s=>k .normal (s.out σ)
  |true=>match AY0 ops.toList 0&&BF9 ops.toList with
   |true=>Q6 Γ σ.C1 ops.toList ⟨[],σ.boxes,σ.jr,[],[],[]⟩ fun s=>match AJ6 ops 0 ops.toList s.tw (Region.before ops).toList with
    |true=>k .normal (s.out σ)
    |false=>none
   |false=>none
 | .seq a b,h,ρ,σ,k=>AQ5 h.sp σ k fun ρ' σ' k'=>I7 Γ a (h.kid 0) ρ' σ' fun ex σ''=>match ex with
  | .normal=>I7 Γ b (h.kid 1) ρ' σ'' k'
  |ex=>k' ex σ''
 | .cond c a b,h,ρ,σ,k=>AQ5 h.sp σ k fun ρ' σ' k'=>match W6 σ'.C1 [] [] c with
  | .dat .bool t=>bif t then I7 Γ a (h.kid 0) ρ' σ' k' else I7 Γ b (h.kid 1) ρ' σ' k'
  |_=>none
 | .block id c,h,ρ,σ,k=>AQ5 h.sp σ k fun ρ' σ' k'=>I7 Γ c (h.kid 0) ρ' σ' fun ex σ''=>match ex with
  | .exit id'=>match Ef8 id' id with
   |true=>k' .normal σ''
   |false=>k' ex σ''
  |ex=>k' ex σ''
 | .loop c,h,ρ,σ,k=>As4 h.sp σ k fun ρ' σ' k'=>I7 Γ c (h.kid 0) ρ' σ' k'
 | .scope c,h,ρ,σ,k=>I7 Γ c (h.kid 0) ρ σ k
 | .label _,_,_,σ,k=>k .normal σ
 |_,_,_,_,_=>none
def BG1 (c:Con)(n:Nat)(x:c.ins.den):St:=match D5 200 c.ps (A8 c.ins c.nin x) with
 | (l,d)=>⟨l++Eh9 (n-l.length) .undef,P0 c.boxes d,[]⟩
def AC0 (Γ:Cx)(σ:St):List ResultVar→Option (List EV)
 | []=>some []
 | .tmp t::r=>match σ.C1[t]? with
  |some e=>match AC0 Γ σ r with
   |some l=>some (e::l)
   |none=>none
  |none=>none
 | .cell a t::r=>match σ.C1[a]? with
  |some (.ptr b off)=>match A3 σ.boxes b with
   |some cs=>match Γ.td t with
    |some d=>match W1 d cs off with
     |some e=>match AC0 Γ σ r with
      |some l=>some (e::l)
      |none=>none
     |none=>none
    |none=>none
   |none=>none
  |_=>none
def AY2 (n:Nat):List (Nat×Nat):=(Ej4 n).map fun i=>(i,i)
def BX2 (c:Con)(A2 nl:Nat)(a:List (Nat×Nat)):Bool:=
 c.boxes.all (D8 false 200)&&c.boxes.all (fun p=>Eg2 (p.length+1) 200)&&O0 c.rs&&Ef8 A2 c.A2&&AE2 c.boxes.length a&&Ef8 nl c.rs.length
def BG2 (Γ:Cx)(c:Con)(rv:List ResultVar)(σ:St):Option c.outs.den:=match AC0 Γ σ rv with
 |some vs=>match B7 200 c.rs vs (AY2 c.boxes.length) with
  |some (l,_)=>match W3 (A3 σ.boxes) 0 c.boxes (AY2 c.boxes.length) with
   |some (l',a)=>match BX2 c (l++l').length l.length a with
    |true=>J2 c.outs (l++l')
    |false=>none
   |none=>none
  |none=>none
 |none=>none
def BX3 (c:J1)(A2:Nat)(a:List (Nat×Nat)):Bool:=
 D8 true 200 c.rs&&D8 false 200 c.new&&Ef8 A2 c.A2&&AE2 1 a
def BG3 (Γ:Cx)(c:J1)(rv:List ResultVar)(σ:St):Option c.outs.den:=match AC0 Γ σ rv with
 |some vs=>match B7 200 c.rs vs [] with
  |some (l,a)=>match J3 a 0 with
   |some b=>match A3 σ.boxes b with
    |some cs=>match B7 200 c.new cs a with
     |some (l',a')=>match BX3 c (l++l').length a' with
      |true=>J2 c.outs (l++l')
      |false=>none
     |none=>none
    |none=>none
   |none=>none
  |none=>none
 |none=>none
def BG4 (c:J1)(n:Nat)(x:c.ins.den):St:=match D5 200 c.ps (A8 c.ins c.nin x) with
 | (l,_)=>⟨l++Eh9 (n-l.length) .undef,[],[]⟩
def frz (e:EV):EV:=match e with
 | .own k t l=>match soft k with
  |true=>.dat (.slice t) l
  |false=>.own k t l
 |e=>match H9 20 e with
  |true=>.undef
  |false=>e
def u5 (σ:St):St:=⟨σ.C1.map frz,σ.boxes.map (Ej5 (List.map frz)),σ.jr⟩
noncomputable def runN (Γ:Cx)(c:J1)(fn:Func)(h:Hint)(x:c.ins.den):Option c.outs.den:=match fn.body with
 |some code=>I7 Γ code h c.outs.den (BG4 c fn.ntmps x) fun ex σ=>match ex with
  | .exit _=>none
  |_=>BG3 Γ c fn.results.toList (u5 σ)
 |none=>none
noncomputable def AC1 (Γ:Cx)(c:Con)(fn:Func)(h:Hint)(x:c.ins.den):Option c.outs.den:=match fn.body with
 |some code=>I7 Γ code h c.outs.den (BG1 c fn.ntmps x) fun ex σ=>match ex with
  | .exit _=>none
  |_=>BG2 Γ c fn.results.toList (u5 σ)
 |none=>none
def BG5 (c:F9)(n:Nat)(x:c.ins.den):St:=⟨c.G7 x++Eh9 (n-(c.G7 x).length) .undef,c.L0 x,[]⟩
def BG6 (Γ:Cx)(c:F9)(rv:List ResultVar)(σ:St):Option c.outs.den:=match AC0 Γ σ rv with
 |some vs=>match K5 [] c.rs vs (AY2 c.boxes.length) [] with
  |some (l,a,tk)=>match AP9 [] (A3 σ.boxes) 0 c.aft a tk with
   |some (l',a',_)=>match Ef8 (l++l').length c.A2&&AE2 c.boxes.length a'&&Ef8 c.aft.length c.boxes.length with
    |true=>J2 c.outs (l++l')
    |false=>none
   |none=>none
  |none=>none
 |none=>none
def u6:List OP→List EV→List Nat
 | .dat _::ps,e::es=>match e with
  | .own k _ _=>match soft k with
   |true=>k::u6 ps es
   |false=>u6 ps es
  |_=>u6 ps es
 |_::ps,_::es=>u6 ps es
 |_,_=>[]
def AK0 (ks:List Nat)(e:EV):EV:=match e with
 | .own k t l=>match E8 k ks with
  |true=>.dat (.slice t) l
  |false=>.own k t l
 |e=>match H9 20 e with
  |true=>.undef
  |false=>e
def BX4 (ks:List Nat)(σ:St):St:=match ks with
 | []=>σ
 |_=>⟨σ.C1.map (AK0 ks),σ.boxes.map (Ej5 (List.map (AK0 ks))),σ.jr⟩
def As5 (Γ:Cx)(c:F9)(rv:List ResultVar)(σ:St):St:=match AC0 Γ σ rv with
 |some vs=>BX4 (u6 c.rs vs) σ
 |none=>σ
noncomputable def Ag8 (Γ:Cx)(c:F9)(fn:Func)(h:Hint)(x:c.ins.den):Option c.outs.den:=match fn.body with
 |some code=>I7 Γ code h c.outs.den (BG5 c fn.ntmps x) fun ex σ=>match ex with
  | .exit _=>none
  |_=>BG6 Γ c fn.results.toList (As5 Γ c fn.results.toList σ)
 |none=>none

inductive A1 where
 |E4
 |box (b:Nat)
 |tok (k fr:Nat)
 |part (fr:Nat)
 |B8
 deriving DecidableEq
def A1.AY3:A1→Nat→Prop
 | .E4,_=>True
 | .tok _ fr,n=>n≤fr
 | .part fr,n=>n≤fr
 |_,_=>False
def A5 (ow:Nat→A1)(blk n:Nat):Prop:=(ow blk).AY3 n
theorem L3 {ow:Nat→A1}{blk n:Nat}(h:ow blk = .E4):A5 ow blk n:=by unfold A5;rw[h];trivial
theorem u7 {ow:Nat→A1}{blk n k fr:Nat}(h:ow blk = .tok k fr)(hn:n≤fr):A5 ow blk n:=by unfold A5;rw[h];exact hn
theorem X0 {ow:Nat→A1}{blk n fr:Nat}(h:ow blk = .part fr)(hn:n≤fr):A5 ow blk n:=by unfold A5;rw[h];exact hn
theorem L4 {ow:Nat→A1}{blk n:Nat}(h:A5 ow blk n):ow blk = .E4∨(∃k fr,ow blk = .tok k fr∧n≤fr)∨∃fr,ow blk = .part fr∧n≤fr:=by
 unfold A5 at h;cases hb:ow blk with
 |E4=>exact .inl rfl
 |tok k fr=>rw [hb] at h;exact .inr (.inl ⟨k,fr,rfl,h⟩)
 |part fr=>rw [hb] at h;exact .inr (.inr ⟨fr,rfl,h⟩)
 |box b=>rw [hb] at h;exact h.elim
 |B8=>rw [hb] at h;exact h.elim
theorem AK1 {ow:Nat→A1}{blk n:Nat}(h:A5 ow blk n):ow blk≠ .B8:=by intro e;unfold A5 at h;rw[e] at h;exact h.elim
theorem As6 {ow:Nat→A1}{blk n:Nat}(h:A5 ow blk n)(b:Nat):ow blk≠ .box b:=by intro e;unfold A5 at h;rw[e] at h;exact h.elim
theorem A1.CO3:∀{o:A1} {n m:Nat},o.AY3 n→m≤n→o.AY3 m
 | .E4,_,_,_,_=>trivial
 | .tok _ _,_,_,h,hm=>Nat.le_trans hm h
 | .part _,_,_,h,hm=>Nat.le_trans hm h
 | .box _,_,_,h,_=>h.elim
 | .B8,_,_,h,_=>h.elim
theorem BG7 {ow:Nat→A1}{blk n m:Nat}(h:A5 ow blk n)(hm:m≤n):A5 ow blk m:=A1.CO3 h hm
theorem Z2 {ow ow':Nat→A1}{blk n:Nat}(h:A5 ow blk n)(e:ow' blk=ow blk):A5 ow' blk n:=by unfold A5 at*;rw[e];exact h
structure Bx where
 f:Nat→Nat
 dead:Nat→Bool
 tb:Nat→Option (Nat×(Nat×Nat))
instance:CoeFun Bx (fun _=>Nat→Nat):=⟨Bx.f⟩
def Rep (ow:Nat→A1)(w:World):(t:Ty)→t.den→List Value→Prop
 | .int k,n,cs=>cs=[.int k n]∧fits k n=true
 | .bool,b,cs=>cs=[.bool b]
 | .str,s,cs=>cs=[.string s]∧s.size≤9223372036854775807
 | .unit,_,cs=>cs=[]
 | .pair a b,x,cs=>∃c₁ c₂,cs=c₁++c₂∧Rep ow w a x.1 c₁∧Rep ow w b x.2 c₂
 | .agg a,x,cs=>Rep ow w a x cs
 | .slice a,l,cs=>∃ad cap,cs=[.slice ad l.length cap]∧(l.length≤9223372036854775807∧l.length≤cap)∧
   (l≠[]→∃blk off c T fz,ad=some ⟨blk,off,none⟩∧A5 ow blk (off+l.length*a.size)∧w.heap[blk]? = some (.cells c T fz)∧
    ∀(i:Nat) x,l[i]? = some x→Rep ow w a x ((c.toList.drop (off+i*a.size)).take a.size))
def C7 (ow:Nat→A1)(w:World)(t:Ty)(x:t.den)(v:Value):Prop:=
 match t,x with
 | .agg a,x=>∃cs:Array Value,v = .agg cs∧Rep ow w a x cs.toList
 |t,x=>Rep ow w t x [v]
theorem As7 {ow:Nat→A1}{w:World}:∀(t:Ty) (x:t.den) (cs:List Value),Rep ow w t x cs→∀c∈cs,c.oneCell'=true:=by
 intro t
 induction t with
 |int k=>rintro x cs ⟨rfl,_⟩ c hc;simp at hc;subst hc;rfl
 |bool=>rintro x cs h c hc;simp only[Rep] at h;subst h;simp at hc;subst hc;rfl
 |str=>rintro x cs ⟨rfl,_⟩ c hc;simp at hc;subst hc;rfl
 |unit=>rintro x cs h c hc;simp only[Rep] at h;subst h;simp at hc
 |pair a b iha ihb=>
  rintro x cs ⟨c₁,c₂,rfl,h1,h2⟩ c hc
  rcases List.mem_append.1 hc with h | h
  ·exact iha _ _ h1 c h
  ·exact ihb _ _ h2 c h
 |slice a _=>rintro x cs ⟨ad,cap,rfl,_⟩ c hc;simp at hc;subst hc;rfl
 |agg a ih=>intro x cs h c hc;exact ih x cs h c hc
theorem V1 {ow:Nat→A1}{w:World}:∀(t:Ty) (x:t.den) (cs:List Value),Rep ow w t x cs→cs.length=t.size:=by
 intro t
 induction t with
 |int k=>rintro x cs ⟨rfl,_⟩;rfl
 |bool=>rintro x cs h;simp only[Rep] at h;subst h;rfl
 |str=>rintro x cs ⟨rfl,_⟩;rfl
 |unit=>rintro x cs h;simp only[Rep] at h;subst h;rfl
 |pair a b iha ihb=>rintro x cs ⟨c₁,c₂,rfl,h1,h2⟩;simp[Ty.size,iha _ _ h1,ihb _ _ h2]
 |slice a _=>rintro x cs ⟨ad,cap,rfl,_⟩;rfl
 |agg a ih=>intro x cs h;exact ih x cs h
theorem BG8 {v:Value}(h:v.oneCell'=true):v.cells=#[v]:=by cases v <;> first | rfl | cases h
theorem As8 {ow:Nat→A1}{w:World}{t:Ty}{x:t.den}{v:Value}(h:C7 ow w t x v):Rep ow w t x v.cells.toList:=by
 cases t <;> simp only[C7] at h
 case agg a=>obtain ⟨cs,rfl,h⟩:=h;exact h
 all_goals
  have h1:=As7 _ _ _ h v (by simp)
  rw[BG8 h1];exact h
def X1 (fz:Nat×Nat)(n:Nat):Prop:=fz.1=fz.2∨n≤fz.1
theorem AY4 (n:Nat):X1 (0,0) n:=.inl rfl
theorem X1.at {fz:Nat×Nat}{n i:Nat}(h:X1 fz n)(hi:i<n):¬(fz.1≤i∧i<fz.2):=by
 rcases h with h | h <;> omega
def H6 (k n:Nat):Nat:=bif soft k then 0 else n
def Own (ow:Nat→A1)(w:World)(k:Nat)(t:Ty)(l:List t.den)(v:Value):Prop:=
 (v = .slice none 0 0∧l=[])∨
 ∃blk cap c fz,v = .slice (some ⟨blk,0,none⟩) l.length cap∧ow blk = .tok k (H6 k (l.length*t.size))∧w.heap[blk]? = some (.cells c (k % 25000) fz)∧X1 fz c.size∧c.size=cap*t.size∧l.length≤cap∧
  (soft k=true→l.length≤9223372036854775807∧∀(i:Nat) x,l[i]? = some x→Rep ow w t x ((c.toList.drop (i*t.size)).take t.size))
def AY5 (ow:Nat→A1)(w:World)(k:Nat)(t:Ty)(l:List t.den)(blk cap:Nat):Prop:=
 ow blk = .tok k 0∧∃c fz,w.heap[blk]? = some (.cells c (k % 25000) fz)∧X1 fz c.size∧(c.size=cap*t.size∧l.length≤cap)∧∀(i:Nat) x,l[i]? = some x→Rep ow w t x ((c.toList.drop (i*t.size)).take t.size)
def Head (tb:Nat→Option (Nat×(Nat×Nat)))(k n:Nat)(v:Value):Prop:=
 (K4 k=false∧v = .slice none 0 0∧n=0)∨∃blk cap,tb k=some (blk,n,cap)∧v = .slice (some ⟨blk,0,none⟩) n cap∧n≤cap∧n≤9223372036854775807
inductive A0 (ow:Nat→A1)(bx:Bx)(w:World):EV→Value→Prop where
 |undef (v):A0 ow bx w .undef v
 |dat {t x v} (h:C7 ow w t x v):A0 ow bx w (.dat t x) v
 |nil:A0 ow bx w .nil (.slice none 0 0)
 |own {k t} {l:List t.den} {v} (h:soft k=false→C7 ow w (.slice t) l v) (h':bx.dead k=false→Own ow w k t l v) (hh:soft k=true→Head bx.tb k l.length v):A0 ow bx w (.own k t l) v
 |elo {k t} {l:List t.den} {i:Int} {o blk cap:Nat} (hb:bx.tb k=some (blk,l.length,cap)) (h0:0≤i) (h1:i<(l.length:Int)) (h':bx.dead k=false→AY5 ow w k t l blk cap):A0 ow bx w (.elo k t l i o) (.pointer (some ⟨blk,i.toNat*t.size+o,none⟩))
 |fre {k t} {l:List t.den} {blk cap:Nat} (v:Value) (hb:bx.tb k=some (blk,l.length,cap)) (hd:bx.dead k=true) (h:AY5 ow w k t l blk cap) (hn:K4 k=true∨l≠[]):A0 ow bx w (.fre k t l) v
 |ptr {b off} (h:ow (bx b) = .box b):A0 ow bx w (.ptr b off) (.pointer (some ⟨bx b,off,none⟩))
 |pix {b off s n:Nat} {i:Int} {o:Nat} (h:ow (bx b) = .box b) (h0:0≤i) (h1:i<(n:Int)):A0 ow bx w (.pix b off s n i o) (.pointer (some ⟨bx b,off+i.toNat*s+o,none⟩))
 |elt {t:Ty} {l:List t.den} {i:Int} {o blk off:Nat} {c T fz} (h0:0≤i) (h1:i<(l.length:Int)) (hs:A5 ow blk (off+l.length*t.size)) (hb:w.heap[blk]? = some (.cells c T fz))
   (hc:∀(j:Nat) x,l[j]? = some x→Rep ow w t x ((c.toList.drop (off+j*t.size)).take t.size)):
   A0 ow bx w (.elt t l i o) (.pointer (some ⟨blk,off+i.toNat*t.size+o,none⟩))
 |elx {t:Ty} {l:List t.den} {i:Int} {o s n:Nat} {m:Int} {o2 blk off:Nat} {c T fz} (h0:0≤i) (h1:i<(l.length:Int)) (hs:A5 ow blk (off+l.length*t.size)) (hb:w.heap[blk]? = some (.cells c T fz))
   (hc:∀(j:Nat) x,l[j]? = some x→Rep ow w t x ((c.toList.drop (off+j*t.size)).take t.size)) (m0:0≤m) (m1:m<(n:Int)):
   A0 ow bx w (.elx t l i o s n m o2) (.pointer (some ⟨blk,off+i.toNat*t.size+o+m.toNat*s+o2,none⟩))
 |clo {f fst caps} {fs cs:Array Value} (h1:fst.length=fs.size) (h2:caps.length=cs.size) (h3:∀(i:Nat) e v,fst[i]? = some e→fs[i]? = some v→A0 ow bx w e v)
   (h4:∀(i:Nat) e v,caps[i]? = some e→cs[i]? = some v→A0 ow bx w e v):A0 ow bx w (.clo f fst caps) (.func (.func f) fs cs)
 |sl {es:List EV} {blk cap:Nat} {c:Array Value} {T fz} (h0:es.length≤100000) (h1:es.length≤c.size) (hs:A5 ow blk es.length) (hb:w.heap[blk]? = some (.cells c T fz)) (h2:∀(i:Nat) e v,es[i]? = some e→c[i]? = some v→A0 ow bx w e v)
   (h3:∀(i:Nat) v,i<es.length→c[i]? = some v→v.oneCell'=true):A0 ow bx w (.sl es) (.slice (some ⟨blk,0,none⟩) es.length cap)
 |cp {e:EV} {blk off:Nat} {c:Array Value} {T fz} {v:Value} (hs:A5 ow blk (off+1)) (hb:w.heap[blk]? = some (.cells c T fz)) (hv:c[off]? = some v) (h1:v.oneCell'=true) (h:A0 ow bx w e v):
   A0 ow bx w (.cp e) (.pointer (some ⟨blk,off,none⟩))
 |rp {es:List EV} {off blk:Nat} {c:Array Value} {T fz} (h1:es.length≤c.size) (hs:A5 ow blk es.length) (hb:w.heap[blk]? = some (.cells c T fz)) (h2:∀(i:Nat) e v,es[i]? = some e→c[i]? = some v→A0 ow bx w e v)
   (h3:∀(i:Nat) v,i<es.length→c[i]? = some v→v.oneCell'=true):A0 ow bx w (.rp es off) (.pointer (some ⟨blk,off,none⟩))
 |tup {es} {vs:Array Value} (h1:es.length=vs.size) (h2:∀(i:Nat) e v,es[i]? = some e→vs[i]? = some v→A0 ow bx w e v):A0 ow bx w (.tup es) (.tuple vs)
 |row {es} {vs:Array Value} (h1:es.length=vs.size) (h2:∀(i:Nat) e v,es[i]? = some e→vs[i]? = some v→A0 ow bx w e v) (h3:∀v∈vs,v.oneCell'=true):
   A0 ow bx w (.row es) (.agg vs)
def C3 (ow:Nat→A1)(bx:Bx)(w:World)(es:List EV)(vs:List Value):Prop:=
 es.length=vs.length∧∀(i:Nat) e v,es[i]? = some e→vs[i]? = some v→A0 ow bx w e v∧v.oneCell'=true
def E9 (ow:Nat→A1)(w:World)(ow':Nat→A1)(w':World):Prop:=
 ∀blk n c T fz,A5 ow blk n→w.heap[blk]? = some (.cells c T fz)→A5 ow' blk n∧∃c' fz',w'.heap[blk]? = some (.cells c' T fz')∧c'.toList.take n=c.toList.take n
structure E0 (ow:Nat→A1)(bx:Bx)(w:World)(ow':Nat→A1)(bx':Bx)(w':World):Prop where
 st:E9 ow w ow' w'
 tk:∀blk k fr,ow blk = .tok k fr→bx'.dead k=bx.dead k→ow' blk = .tok k fr∧w'.heap[blk]? = w.heap[blk]?
 dd:∀k,bx'.dead k=false→bx.dead k=false
 bo:∀b,ow (bx b) = .box b→bx' b=bx b∧ow' (bx b) = .box b
 tb:∀k x,bx.tb k=some x→bx'.tb k=some x
theorem E9.of {ow ow':Nat→A1}{w w':World}(h:∀blk n,A5 ow blk n→A5 ow' blk n∧w'.heap[blk]? = w.heap[blk]?):E9 ow w ow' w':=
 fun blk n c T fz hr hb=>⟨(h blk n hr).1,c,fz,by rw[(h blk n hr).2,hb],rfl⟩
theorem E9.trans {ow ow' ow'':Nat→A1}{w w' w'':World}(h:E9 ow w ow' w')(k:E9 ow' w' ow'' w''):E9 ow w ow'' w'':=by intro blk n c T fz hs hb;obtain⟨h1,c1,fz1,h2,h3⟩:=h blk n c T fz hs hb;obtain⟨h4,c2,fz2,h5,h6⟩:=k blk n c1 T fz1 h1 h2;exact⟨h4,c2,fz2,h5,by rw[h6,h3]⟩
theorem E9.refl (ow:Nat→A1)(w:World):E9 ow w ow w:=.of fun _ _ h=>⟨h,rfl⟩
theorem E0.refl (ow:Nat→A1)(bx:Bx)(w:World):E0 ow bx w ow bx w:=
 ⟨.refl ow w,fun _ _ _ h _=>⟨h,rfl⟩,fun _ h=>h,fun _ h=>⟨rfl,h⟩,fun _ _ h=>h⟩
section
variable {ow ow' ow'':Nat→A1}{bx bx' bx'':Bx}{w w' w'':World}
theorem E0.trans (h:E0 ow bx w ow' bx' w')(k:E0 ow' bx' w' ow'' bx'' w''):E0 ow bx w ow'' bx'' w'':=by
 have mono:∀t,bx''.dead t=bx.dead t→bx''.dead t=bx'.dead t∧bx'.dead t=bx.dead t:=by
  intro t e;cases h1:bx.dead t with
  |true=>
   rw[h1] at e;cases h2:bx'.dead t with
   |true=>exact ⟨e,rfl⟩
   |false=>have:=h.dd t h2;rw[h1] at this;cases this
  |false=>
   rw[h1] at e;have:=k.dd t e;exact⟨by rw[this,e],this⟩
 refine⟨fun blk n c T fz hs hb=> ?_,fun blk t fr hs hd=> ?_,fun t hd=>h.dd t (k.dd t hd),fun b hs=> ?_,fun t x hx=>k.tb t x (h.tb t x hx)⟩
 ·obtain⟨h1,c1,fz1,h2,h3⟩:=h.st blk n c T fz hs hb
  obtain⟨h4,c2,fz2,h5,h6⟩:=k.st blk n c1 T fz1 h1 h2;exact⟨h4,c2,fz2,h5,by rw[h6,h3]⟩
 ·obtain⟨h1,h2⟩:=h.tk blk t fr hs (mono t hd).2
  obtain⟨h3,h4⟩:=k.tk blk t fr h1 (mono t hd).1;exact⟨h3,by rw[h4,h2]⟩
 ·obtain⟨h1,h2⟩:=h.bo b hs
  obtain⟨h3,h4⟩:=k.bo b (by rw[h1];exact h2)
  exact⟨by rw[h3,h1],by rw[← h1];exact h4⟩
theorem BG9 {α:Type}{c c':List α}{n off len:Nat}(h:c'.take n=c.take n)(hl:off+len≤n):(c'.drop off).take len=(c.drop off).take len:=by
 have e:∀l:List α,(l.drop off).take len=((l.take n).drop off).take len:=by intro l;rw[List.drop_take,List.take_take,Nat.min_eq_left (by omega)]
 rw[e c',e c,h]
theorem T4 {i n s off:Nat}(h:i<n):off+i*s+s≤off+n*s:=by have:(i+1)*s≤n*s:=Ei8 s h;rw[Nat.add_mul,Nat.one_mul] at this;omega
theorem Rep.keep (hst:E9 ow w ow' w'):∀(t:Ty) (x:t.den) (cs:List Value),Rep ow w t x cs→Rep ow' w' t x cs:=by
 intro t
 induction t with
 |int k=>exact fun x cs h=>h
 |bool=>exact fun x cs h=>h
 |str=>exact fun x cs h=>h
 |unit=>exact fun x cs h=>h
 |pair a b iha ihb=>
  rintro x cs ⟨c₁,c₂,rfl,h1,h2⟩
  exact⟨c₁,c₂,rfl,iha _ _ h1,ihb _ _ h2⟩
 |slice a ih=>
  rintro x cs ⟨ad,cap,rfl,hl,h⟩
  refine⟨ad,cap,rfl,hl,fun hne=> ?_⟩
  obtain⟨blk,off,c,T,fz,h1,h2,h3,h4⟩:=h hne;obtain⟨g1,c',fz',g2,g3⟩:=hst blk _ c T fz h2 h3;refine⟨blk,off,c',T,fz',h1,g1,g2,fun i y hy=> ?_⟩
  rw[BG9 g3 (T4 (Ef9.1 hy).1)];exact ih _ _ (h4 i y hy)
 |agg a ih=>exact fun x cs h=>ih x cs h
theorem C7.keep (hst:E9 ow w ow' w'){t:Ty}{x:t.den}{v:Value}(h:C7 ow w t x v):C7 ow' w' t x v:=by
 cases t <;> simp only[C7] at h ⊢
 case agg a=>obtain ⟨cs,rfl,h⟩:=h;exact⟨cs,rfl,Rep.keep hst _ _ _ h⟩
 all_goals exact Rep.keep hst _ _ _ h
theorem Own.keep {k:Nat}(hst:E9 ow w ow' w')(htk:∀blk fr,ow blk = .tok k fr→ow' blk = .tok k fr∧w'.heap[blk]? = w.heap[blk]?){t:Ty}{l:List t.den}{v:Value}
  (h:Own ow w k t l v):Own ow' w' k t l v:=by
 rcases h with h |⟨blk,cap,c,fz,h1,h3,h4,h4',h5,h6,h7⟩
 ·exact .inl h
 ·obtain⟨g1,g2⟩:=htk blk _ h3
  exact .inr ⟨blk,cap,c,fz,h1,g1,by rw[g2,h4],h4',h5,h6,fun hs=>⟨(h7 hs).1,fun i x hx=>Rep.keep hst _ _ _ ((h7 hs).2 i x hx)⟩⟩
theorem AY5.keep {k:Nat}(hst:E9 ow w ow' w')(htk:∀blk fr,ow blk = .tok k fr→ow' blk = .tok k fr∧w'.heap[blk]? = w.heap[blk]?){t:Ty}{l:List t.den}{blk cap:Nat}
  (h:AY5 ow w k t l blk cap):AY5 ow' w' k t l blk cap:=by
 obtain⟨h1,c,fz,h2,h3,h4,h5⟩:=h;obtain⟨g1,g2⟩:=htk blk _ h1;exact⟨g1,c,fz,by rw[g2,h2],h3,h4,fun i x hx=>Rep.keep hst _ _ _ (h5 i x hx)⟩
theorem Head.keep {tb tb':Nat→Option (Nat×(Nat×Nat))}{k n:Nat}{v:Value}(htb:∀x,tb k=some x→tb' k=some x)(h:Head tb k n v):Head tb' k n v:=by
 rcases h with h |⟨blk,cap,h1,h2⟩
 ·exact .inl h
 ·exact .inr ⟨blk,cap,htb _ h1,h2⟩
theorem Ag9 {a b:Array Value}{n i:Nat}(h:a.toList.take n=b.toList.take n)(hi:i<n):a[i]? = b[i]? := by
 have:=congrArg (·[i]?) h;simpa[Eg1,hi] using this
theorem BX5 {a b:Array Value}{n:Nat}(h:a.toList.take n=b.toList.take n)(hb:n≤b.size):n≤a.size:=by have:=congrArg List.length h;simp at this;omega
theorem A0.keep (K:E0 ow bx w ow' bx' w'){e:EV}{v:Value}(h:A0 ow bx w e v):A0 ow' bx' w' e v:=by
 induction h with
 |undef v=>exact .undef v
 |dat h=>exact .dat (h.keep K.st)
 |nil=>exact .nil
 |own h h' hh=>exact .own (fun hs=>(h hs).keep K.st) (fun hd=>(h' (K.dd _ hd)).keep K.st fun blk fr hs=>K.tk blk _ fr hs (by rw[hd,K.dd _ hd])) fun hs=>(hh hs).keep (K.tb _)
 |elo hb h0 h1 h'=>exact .elo (K.tb _ _ hb) h0 h1 fun hd=>(h' (K.dd _ hd)).keep K.st fun blk fr hs=>K.tk blk _ fr hs (by rw[hd,K.dd _ hd])
 |fre v hb hd h hn=>
  rename_i k t l blk cap;have hd':bx'.dead k=true:=by
   cases hx:bx'.dead k with
   |true=>rfl
   |false=>rw [K.dd _ hx] at hd;cases hd
  exact .fre v (K.tb _ _ hb) hd' (h.keep K.st fun blk fr hs=>K.tk blk _ fr hs (by rw[hd,hd'])) hn
 |ptr h=>
  obtain⟨h1,h2⟩:=K.bo _ h;rw[← h1];exact .ptr (by rw[h1];exact h2)
 |pix h h0 hn=>
  obtain⟨h1,h2⟩:=K.bo _ h;rw[← h1];exact .pix (by rw[h1];exact h2) h0 hn
 |elt h0 h1 hs hb hc=>
  obtain⟨g1,c',fz',g2,g3⟩:=K.st _ _ _ _ _ hs hb;refine .elt h0 h1 g1 g2 fun j x hx=> ?_
  rw[BG9 g3 (T4 (Ef9.1 hx).1)];exact Rep.keep K.st _ _ _ (hc j x hx)
 |elx h0 h1 hs hb hc m0 m1=>
  obtain⟨g1,c',fz',g2,g3⟩:=K.st _ _ _ _ _ hs hb;refine .elx h0 h1 g1 g2 (fun j x hx=> ?_) m0 m1
  rw[BG9 g3 (T4 (Ef9.1 hx).1)];exact Rep.keep K.st _ _ _ (hc j x hx)
 |clo h1 h2 h3 h4 ih3 ih4=>exact .clo h1 h2 ih3 ih4
 |sl h0 h1 hs hb h2 h3 ih=>
  obtain⟨g1,c',fz',g2,g3⟩:=K.st _ _ _ _ _ hs hb;have hl:=BX5 (a:=c') (b:=_) g3 h1;exact .sl h0 hl g1 g2 (fun i e v he hv=>ih i e v he (by rw[← hv];exact (Ag9 g3 (Ef9.1 he).1).symm)) (fun i v hi hv=>h3 i v hi (by rw[← hv];exact (Ag9 g3 hi).symm))
 |cp hs hb hv h1 h ih=>
  obtain⟨g1,c',fz',g2,g3⟩:=K.st _ _ _ _ _ hs hb;exact .cp g1 g2 (by rw[← hv];exact Ag9 g3 (by omega)) h1 ih
 |rp h1 hs hb h2 h3 ih=>
  obtain⟨g1,c',fz',g2,g3⟩:=K.st _ _ _ _ _ hs hb;have hl:=BX5 (a:=c') (b:=_) g3 h1;exact .rp hl g1 g2 (fun i e v he hv=>ih i e v he (by rw[← hv];exact (Ag9 g3 (Ef9.1 he).1).symm)) (fun i v hi hv=>h3 i v hi (by rw[← hv];exact (Ag9 g3 hi).symm))
 |tup h1 h2 ih=>exact .tup h1 ih
 |row h1 h2 h3 ih=>exact .row h1 ih h3
theorem C3.keep (K:E0 ow bx w ow' bx' w'){es:List EV}{vs:List Value}(h:C3 ow bx w es vs):C3 ow' bx' w' es vs:=
 ⟨h.1,fun i e v he hv=>⟨(h.2 i e v he hv).1.keep K,(h.2 i e v he hv).2⟩⟩
end
def O1 (ow:Nat→A1)(w:World):Prop:=∀g d,Aq4 BD5 g=some d→A5 ow g d.1.size∧∃c T fz,w.heap[g]? = some (.cells c T fz)∧Rep ow w d.1 d.2 (c.toList.take d.1.size)
theorem O1.keep {ow ow':Nat→A1}{w w':World}(h:O1 ow w)(k:E9 ow w ow' w'):O1 ow' w':=by intro g d hd;obtain⟨h1,c,T,fz,h2,h3⟩:=h g d hd;obtain⟨g1,c',fz',g2,g3⟩:=k g _ c T fz h1 h2;exact⟨g1,c',T,fz',g2,by rw[g3];exact Rep.keep k _ _ _ h3⟩
theorem BH0 {ow:Nat→A1}{bx:Bx}{w:World}(h:O1 ow w)(g:Nat):A0 ow bx w (BD6 g) (.pointer (some ⟨g,0,none⟩)):=by
 unfold BD6;split
 ·rename_i d hd
  obtain⟨h1,c,T,fz,h2,h3⟩:=h g d hd;have:=A0.elt (ow:=ow) (bx:=bx) (w:=w) (t:=d.1) (l:=[d.2]) (i:=0) (o:=0) (blk:=g) (off:=0) (c:=c) (T:=T) (fz:=fz) (by omega) (by simp) (by simpa using h1) h2 (fun j x hx=>by
   cases j with
   |zero=>simp only[List.getElem?_cons_zero,Option.some.injEq] at hx;subst hx;simpa using h3
   |succ j=>simp at hx)
  simpa using this
 ·exact .undef _
structure E5 where
 w:World
 M:Nat→Prop
 ow:Nat→A1
 n:Nat
 bx:Bx
 gl:O1 ow w
structure Inv (B:E5)(ow:Nat→A1)(bx:Bx)(nb:Nat)(bg:Nat→Option (List EV))(w:World):Prop where
 box:∀b cs,bg b=some cs→ow (bx b) = .box b∧∃c T,w.heap[bx b]? = some (.cells c T (0,0))∧C3 ow bx w cs c.toList
 back:∀blk b,ow blk = .box b→blk=bx b∧(bg b).isSome=true∧b<nb
 here:∀blk,ow blk≠ .B8→blk<w.heap.size
 old:∀blk,blk<B.w.heap.size→¬B.M blk→w.heap[blk]? = B.w.heap[blk]? ∧ow blk=B.ow blk∧(∀b,ow blk≠ .box b)∧∀k fr,ow blk≠ .tok k fr
 size:B.w.heap.size≤w.heap.size
 env:w.tape=B.w.tape∧w.os=B.w.os∧w.output=B.w.output
 kept:∀b,b<B.n→bx b=B.bx b∧(bg b).isSome=true
 st:E9 B.ow B.w ow w
 born:∀j,(bx.tb j).isSome=true→j<BIG∨(bx.dead (j-BIG)=true∧j<2*BIG)
theorem Inv.AQ6 {B:E5}{ow:Nat→A1}{bx:Bx}{nb:Nat}{bg:Nat→Option (List EV)}{w:World}(h:Inv B ow bx nb bg w):O1 ow w:=B.gl.keep h.st
def S2 (ow:Nat→A1)(bx:Bx)(w:World)(es:List EV)(vs:Array Value):Prop:=
 es.length=vs.size∧∀(i:Nat) e v,es[i]? = some e→vs[i]? = some v→A0 ow bx w e v
def Con.G7 (c:Con)(x:c.ins.den):List EV:=(D5 200 c.ps (A8 c.ins c.nin x)).1
def Con.L0 (c:Con)(x:c.ins.den):List (Option (List EV)):=P0 c.boxes (D5 200 c.ps (A8 c.ins c.nin x)).2
def Con.res (c:Con)(y:c.outs.den):EV:=H2 ((A8 c.outs c.A2 y).take c.rs.length)
def Con.S1 (c:Con)(y:c.outs.den):List (Option (List EV)):=P0 c.boxes ((A8 c.outs c.A2 y).drop c.rs.length)
structure M4 (P:Program)(c:Con):Prop where
 fn:∃fn,P.funcs[c.f]? = some fn∧fn.body.isSome=true∧(fn.name == "runtime.NumGoroutine")=false
 go:∀(x:c.ins.den) (y:c.outs.den),c.F x=some y→∀(w:World) (ow:Nat→A1) (bx:Bx) (args:Array Value) (hg:O1 ow w),(∀k,bx.dead k=false)→
  Inv ⟨w,fun blk=>∃b,ow blk = .box b,ow,c.boxes.length,bx,hg⟩ ow bx c.boxes.length (A3 (c.L0 x)) w→S2 ow bx w (c.G7 x) args→
  Calls P c.f args w fun e w'=>∃v ow',e = .returned v∧Inv ⟨w,fun blk=>∃b,ow blk = .box b,ow,c.boxes.length,bx,hg⟩ ow' bx c.boxes.length (A3 (c.S1 y)) w'∧A0 ow' bx w' (c.res y) v
def J1.G7 (c:J1)(x:c.ins.den):List EV:=(D5 200 c.ps (A8 c.ins c.nin x)).1
structure NOK (P:Program)(c:J1):Prop where
 fn:∃fn,P.funcs[c.f]? = some fn∧fn.body.isSome=true∧(fn.name == "runtime.NumGoroutine")=false
 go:∀(x:c.ins.den) (y:c.outs.den),c.F x=some y→∀(w:World) (ow:Nat→A1) (bx:Bx) (args:Array Value) (hg:O1 ow w),(∀k,bx.dead k=false)→
  Inv ⟨w,fun _=>False,ow,0,bx,hg⟩ ow bx 0 (A3 []) w→S2 ow bx w (c.G7 x) args→
  Calls P c.f args w fun e w'=>∃v ow' bx',e = .returned v∧(∀k,bx'.dead k=false)∧Inv ⟨w,fun _=>False,ow,0,bx,hg⟩ ow' bx' 1 (A3 [some (c.AB5 y)]) w'∧A0 ow' bx' w' (c.res y) v
structure Ah0 (P:Program)(c:F9):Prop where
 fn:∃fn,P.funcs[c.f]? = some fn∧fn.body.isSome=true∧(fn.name == "runtime.NumGoroutine")=false
 go:∀(x:c.ins.den) (y:c.outs.den),c.F x=some y→∀(w:World) (ow:Nat→A1) (bx:Bx) (args:Array Value) (hg:O1 ow w),(∀k,bx.dead k=false)→
  Inv ⟨w,fun blk=>(∃b,ow blk = .box b)∨∃k fr,ow blk = .tok k fr,ow,c.boxes.length,bx,hg⟩ ow bx c.boxes.length (A3 (c.L0 x)) w→S2 ow bx w (c.G7 x) args→
  Calls P c.f args w fun e w'=>∃v ow' tb',e = .returned v∧Inv ⟨w,fun blk=>(∃b,ow blk = .box b)∨∃k fr,ow blk = .tok k fr,ow,c.boxes.length,bx,hg⟩ ow' ⟨bx.f,bx.dead,tb'⟩ c.boxes.length (A3 (c.S1 y)) w'∧A0 ow' ⟨bx.f,bx.dead,tb'⟩ w' (c.res y) v

section
variable {ow:Nat→A1}{bx:Bx}{w:World}
theorem C3.nil:C3 ow bx w [] []:=⟨rfl,fun i e v h=>by simp at h⟩
theorem C3.one {e:EV}{v:Value}(h:A0 ow bx w e v)(h1:v.oneCell'=true):C3 ow bx w [e] [v]:=
 ⟨rfl,fun i e' v' he hv=>by cases i <;> simp at he hv;subst he;subst hv;exact⟨h,h1⟩⟩
theorem C3.append {es es':List EV}{vs vs':List Value}(h:C3 ow bx w es vs)(h':C3 ow bx w es' vs'):C3 ow bx w (es++es') (vs++vs'):=by
 refine⟨by simp[h.1,h'.1],fun i e v he hv=> ?_⟩
 rw[List.getElem?_append] at he hv;rw[h.1] at he;split at he
 ·rename_i hi
  rw[if_pos hi] at hv;exact h.2 i e v he hv
 ·rename_i hi
  rw[if_neg hi] at hv;exact h'.2 _ e v he hv
theorem C3.drop {es:List EV}{vs:List Value}(h:C3 ow bx w es vs)(n:Nat):C3 ow bx w (es.drop n) (vs.drop n):=
 ⟨by simp[h.1],fun i e v he hv=>by rw[Eg8] at he hv;exact h.2 _ e v he hv⟩
theorem C3.take {es:List EV}{vs:List Value}(h:C3 ow bx w es vs)(n:Nat):C3 ow bx w (es.take n) (vs.take n):=by
 refine⟨by simp[h.1],fun i e v he hv=> ?_⟩
 rw[Eg1] at he hv;split at he
 ·rename_i hi
  rw[if_pos hi] at hv;exact h.2 _ e v he hv
 ·cases he
theorem C3.cons_inv {e:EV}{es:List EV}{vs:List Value}(h:C3 ow bx w (e::es) vs):∃v vs',vs=v::vs'∧A0 ow bx w e v∧v.oneCell'=true∧C3 ow bx w es vs':=by
 cases vs with
 |nil=>have:=h.1;simp at this
 |cons v vs'=>
  refine⟨v,vs',rfl,(h.2 0 e v rfl rfl).1,(h.2 0 e v rfl rfl).2,⟨by have:=h.1;simpa using this,fun i e' v' he hv=>h.2 (i+1) e' v' (by simpa using he) (by simpa using hv)⟩⟩
theorem C3.M1 {es new:List EV}{vs nvs:List Value}(h:C3 ow bx w es vs)(hn:C3 ow bx w new nvs)(off:Nat):
  C3 ow bx w (M1 es off new) (vs.take off++nvs++vs.drop (off+nvs.length)):=by
 unfold Go.Proofs.YthfjpkdadjemcaaGreat.M1;rw[hn.1];exact ((h.take off).append hn).append (h.drop _)
theorem C3.set {es:List EV}{vs:List Value}(h:C3 ow bx w es vs)(i:Nat){e:EV}(he:∀v,vs[i]? = some v→A0 ow bx w e v):C3 ow bx w (es.set i e) vs:=by
 refine⟨by simp[h.1],fun j e' v hj hv=> ?_⟩
 rw[List.getElem?_set] at hj;split at hj
 ·rename_i hij
  subst hij;split at hj
  ·cases hj
   have hlt:i<vs.length:=(Ef9.1 hv).1;obtain⟨e0,he0⟩:∃e0,es[i]? = some e0:=⟨_,Eg5 (by rw[h.1];exact hlt)⟩
   exact⟨he v hv,(h.2 i e0 v he0 hv).2⟩
  ·cases hj
 ·exact h.2 j e' v hj hv
theorem BX6 {v:Value}(h:v.oneCell'=true):v.cells=#[v]:=by cases v <;> first | rfl | cases h
theorem AE7:∀(t:Ty) (x:t.den) (vs:List Value),Rep ow w t x vs→C3 ow bx w (flat t x) vs:=by
 intro t
 induction t with
 |int k=>rintro x vs ⟨rfl,h⟩;exact .one (.dat ⟨rfl,h⟩) rfl
 |bool=>rintro x vs h;simp only[Rep] at h;subst h;exact .one (.dat rfl) rfl
 |str=>rintro x vs ⟨rfl,h⟩;exact .one (.dat ⟨rfl,h⟩) rfl
 |unit=>rintro x vs h;simp only[Rep] at h;subst h;exact .nil
 |pair a b iha ihb=>rintro x vs ⟨c₁,c₂,rfl,h1,h2⟩;exact (iha _ _ h1).append (ihb _ _ h2)
 |slice a _=>rintro x vs ⟨ad,cap,rfl,h⟩;exact .one (.dat ⟨ad,cap,rfl,h⟩) rfl
 |agg a ih=>exact fun x vs h=>ih x vs h
theorem Ah1 {e:EV}{t:Ty}{v:t.den}(h:e.to t=some v):e = .dat t v∨(e = .nil∧∃a:Ty,t = .slice a∧HEq v ([]:List a.den))∨∃(k:Nat) (a:Ty) (l:List a.den),e = .own k a l∧t = .slice a∧HEq v l∧soft k=false:=by
 cases e with
 |dat t' v'=>
  simp only[EV.to] at h;split at h
  ·rename_i ht
   subst ht;cases h;exact .inl rfl
  ·cases h
 |nil=>
  cases t with
  |slice a=>
   simp only[EV.to] at h;cases h;exact .inr (.inl ⟨rfl,a,rfl,HEq.rfl⟩)
  |_=>simp [EV.to] at h
 |own k a l=>
  cases t with
  |slice b=>
   simp only[EV.to] at h;split at h
   ·cases h
   ·rename_i hsf
    split at h
    ·rename_i hab
     subst hab;cases h;exact .inr (.inr ⟨k,a,_,rfl,rfl,HEq.rfl,hsf⟩)
    ·cases h
  |_=>simp [EV.to] at h
 |_=>simp [EV.to] at h
theorem AK2 (a:Ty):Rep ow w (.slice a) [] [.slice none 0 0]:=⟨none,0,rfl,⟨Ei4 _,Ei4 _⟩,fun h=>absurd rfl h⟩
theorem w9 {e:EV}{t:Ty}{x:t.den}{v:Value}(h:e.to t=some x)(hv:A0 ow bx w e v):C7 ow w t x v:=by
 rcases Ah1 h with rfl |⟨rfl,a,ht,hx⟩|⟨k,a,l,rfl,ht,hx,hsf⟩
 ·cases hv with
  |dat h=>exact h
 ·subst ht
  cases eq_of_heq hx;cases hv;exact AK2 a
 ·subst ht
  cases eq_of_heq hx;cases hv with
  |own h h' hh=>exact h hsf
theorem AY6 {e:EV}{v:Value}(hv:A0 ow bx w e v):A0 ow bx w e.raw v:=by
 cases hv with
 |own h h' hh=>
  unfold EV.raw;simp only;split
  ·exact .own h h' hh
  ·rename_i hsf;exact .dat (h hsf)
 |undef=>exact .undef _
 |dat h=>exact .dat h
 |nil=>exact .nil
 |ptr h=>exact .ptr h
 |pix h h0 h1=>exact .pix h h0 h1
 |elt h0 h1 hs hb hc=>exact .elt h0 h1 hs hb hc
 |elx h0 h1 hs hb hc m0 m1=>exact .elx h0 h1 hs hb hc m0 m1
 |elo hb h0 h1 h'=>exact .elo hb h0 h1 h'
 |fre v hb hd h hn=>exact .fre v hb hd h hn
 |clo h1 h2 h3 h4=>exact .clo h1 h2 h3 h4
 |sl h0 h1 hs hb h2 h3=>exact .sl h0 h1 hs hb h2 h3
 |cp hs hb hv h1 h=>exact .cp hs hb hv h1 h
 |rp h1 hs hb h2 h3=>exact .rp h1 hs hb h2 h3
 |tup h1 h2=>exact .tup h1 h2
 |row h1 h2 h3=>exact .row h1 h2 h3
theorem CO4 {e:EV}{t:Ty}{x:t.den}{v:Value}(h:e.to t=some x)(hv:A0 ow bx w e v)(h1:v.oneCell'=true):Rep ow w t x [v]:=by
 have:=As8 (w9 h hv)
 rwa [BX6 h1] at this
theorem AQ7:∀(t:Ty) (es r:List EV) (x:t.den) (vs:List Value),asm t es=some (x,r)→C3 ow bx w es vs→
  Rep ow w t x (vs.take t.size)∧r=es.drop t.size∧t.size≤es.length:=by
 have cell:∀(t:Ty) (es r':List EV) (x:t.den) (vs:List Value) (c:EV),t.size=1→es=c::r'→c.to t=some x→C3 ow bx w es vs→
   Rep ow w t x (vs.take t.size)∧r'=es.drop t.size∧t.size≤es.length:=by
  intro t es r' x vs c hs he hto hc;subst he;obtain⟨v,vs',rfl,hv,h1,hr⟩:=hc.cons_inv;rw[hs];exact⟨by simpa using CO4 hto hv h1,rfl,by simp⟩
 intro t
 induction t with
 |int k=>
  intro es r x vs h hc;cases es with
  |nil=>simp [asm] at h
  |cons c r'=>
   simp only[asm] at h;split at h
   ·rename_i v hv
    cases h;exact cell _ _ _ _ _ _ rfl rfl hv hc
   ·cases h
 |bool=>
  intro es r x vs h hc;cases es with
  |nil=>simp [asm] at h
  |cons c r'=>
   simp only[asm] at h;split at h
   ·rename_i v hv
    cases h;exact cell _ _ _ _ _ _ rfl rfl hv hc
   ·cases h
 |str=>
  intro es r x vs h hc;cases es with
  |nil=>simp [asm] at h
  |cons c r'=>
   simp only[asm] at h;split at h
   ·rename_i v hv
    cases h;exact cell _ _ _ _ _ _ rfl rfl hv hc
   ·cases h
 |slice a _=>
  intro es r x vs h hc;cases es with
  |nil=>simp [asm] at h
  |cons c r'=>
   simp only[asm] at h;split at h
   ·rename_i v hv
    cases h;exact cell _ _ _ _ _ _ rfl rfl hv hc
   ·cases h
 |unit=>
  intro es r x vs h _;cases h;exact⟨by simp[Ty.size,Rep],by simp[Ty.size],by simp[Ty.size]⟩
 |pair a b iha ihb=>
  intro es r x vs h hc;simp only[asm] at h;split at h
  ·rename_i x1 r1 h1
   split at h
   ·rename_i x2 r2 h2
    cases h;obtain⟨g1,rfl,g3⟩:=iha _ _ _ _ h1 hc;obtain⟨k1,rfl,k3⟩:=ihb _ _ _ _ h2 (hc.drop _);refine⟨⟨_,_,?_,g1,k1⟩,by simp[Ty.size],by simp[Ty.size] at *;omega⟩
    simp only[Ty.size];rw[List.take_add]
   ·cases h
  ·cases h
 |agg a ih=>exact fun es r x vs h hc=>ih es r x vs h hc
theorem As9 {e:EV}{t:Ty}{x:t.den}{v:Value}(h:e.toA t=some x)(hv:A0 ow bx w e v):C7 ow w t x v:=by
 unfold EV.toA at h;split at h
 ·rename_i a cs
  split at h
  ·rename_i v' hv'
   cases h;cases hv with
   |row h1 h2 h3=>
    rename_i vs;have hc:C3 ow bx w cs vs.toList:=⟨by simpa using h1,fun i e v he hv=>⟨h2 i e v he (by simpa using hv),h3 v (by simpa using Ei9 hv)⟩⟩
    obtain⟨p1,p2,p3⟩:=AQ7 (.agg a) _ _ _ _ hv' hc;have hle:vs.toList.length≤(Ty.agg a).size:=by have:=congrArg List.length p2;have h3:=hc.1;simp at this h3 ⊢;omega
    rw[List.take_of_length_le hle] at p1;exact⟨vs,rfl,p1⟩
  ·cases h
 ·exact w9 h hv
theorem Ah2 {e:EV}{es:List EV}{v:Value}(h:e.cells=some es)(hv:A0 ow bx w e v):C3 ow bx w es v.cells.toList:=by
 cases hv <;> simp only[EV.cells] at h
 case undef=>cases h
 case dat h'=>cases h;exact AE7 _ _ _ (As8 h')
 case nil=>cases h;exact .one .nil rfl
 case elo hb h0 h1 h'=>cases h
 case fre hb hd h' hn=>cases h
 case own k t l h0 h' hh=>
  cases h;have h1:v.oneCell'=true:=by
   cases hsf:soft k with
   |false=>exact As7 _ _ _ (h0 hsf) v (by simp)
   |true=>
    rcases hh hsf with⟨_,h1,_⟩|⟨blk,cap,_,h1,_⟩ <;> rw[h1] <;> rfl
  rw[BX6 h1];exact .one (.own h0 h' hh) h1
 case ptr h'=>cases h;exact .one (.ptr h') rfl
 case pix h' h0 h1=>cases h;exact .one (.pix h' h0 h1) rfl
 case elt h0 h1 hs hb hc=>cases h;exact .one (.elt h0 h1 hs hb hc) rfl
 case elx h0 h1 hs hb hc m0 m1=>cases h;exact .one (.elx h0 h1 hs hb hc m0 m1) rfl
 case clo h1 h2 h3 h4=>cases h;exact .one (.clo h1 h2 h3 h4) rfl
 case sl h0 h1 hs hb h2 h3=>cases h;exact .one (.sl h0 h1 hs hb h2 h3) rfl
 case cp hs hb hv h1 h'=>cases h;exact .one (.cp hs hb hv h1 h') rfl
 case rp h1 hs hb h2 h3=>cases h;exact .one (.rp h1 hs hb h2 h3) rfl
 case tup=>cases h
 case row h1 h2 h3=>
  cases h;exact⟨by simpa[Value.cells] using h1,fun i e v' he hv'=>⟨h2 i e v' he (by simpa[Value.cells] using hv'),h3 v' (by simpa[Value.cells] using Ei9 hv')⟩⟩
end
theorem Z3 (b o n:Nat):(⟨b,o,none⟩:Addr).add n=⟨b,o+n,none⟩:=by unfold Addr.add;split <;> simp_all
theorem AE8 {w:World}{b:Nat}{c:Array Value}{T:TypeId}{fz:Nat×Nat}(h:w.heap[b]? = some (.cells c T fz))(o:Nat):w.cell? ⟨b,o,none⟩=c[o]? := by simp[World.cell?,h]
structure AC2 (P:Program)(T:Nat)(d:TD):Prop where
 zero:∃i z,P.info? T=some i∧i.zero=some z∧i.size=d.zero.length∧z.cells.size=d.zero.length∧
  ∀ow bx w,C3 ow bx w d.zero z.cells.toList
 how:match d.how with
  | .scalar=>d.zero.length=1∧∃u,P.underlying T=some u∧(∀f,u≠ .struct f)∧(∀n e,u≠ .array n e)∧(∀k,d.ty=some (.int k)→u = .int k)∧(d.ty=some .str→u = .string)∧(d.ty=some .bool→u = .bool)
  | .struct fs=>∃gs,P.underlying T=some (.struct gs)∧gs.toList.mapM (fun f=>(P.info? f.type).map fun i=>(f.offset,i.size))=some (fs.map (·.2))∧gs.toList.map (·.type)=fs.map (·.1)
  | .array n e s=>P.underlying T=some (.array n e)∧∃i,P.info? e=some i∧i.size=s
  | .slice e s b=>d.zero.length=1∧P.underlying T=some (.slice e)∧(∃i z,P.info? e=some i∧i.size=s∧i.bytes=b∧i.zero=some z)∧d.ty≠some .bool∧(∀k,d.ty≠some (.int k))∧d.ty≠some .str
 eq:∀t,d.ty=some t→t.isAgg=true→t.plain=true→P.eqGuardType P.depth T=false∧
  ∀ow w (x y:t.den) vx vy,C7 ow w t x vx→C7 ow w t y vy→(Op.equalIn 10000 T vx vy).run P w = .ok (eqT t x y) w
 agg:∀t,d.ty=some t→t.size=d.zero.length∧(t.isAgg=true↔(match d.how with | .struct _ | .array _ _ _=>true | _=>false)=true)
theorem mapM_at {α β:Type}{f:α→Option β}:∀(l:List α) (m:List β),l.mapM f=some m→∀(i:Nat) b,m[i]? = some b→∃a,l[i]? = some a∧f a=some b
 | [],m,h,i,b,hb=>by simp at h;subst h;simp at hb
 |a::l,m,h,i,b,hb=>by
  simp only[List.mapM_cons,Option.bind_eq_bind,Option.pure_def] at h;cases ha:f a with
  |none=>simp [ha] at h
  |some b0=>
   cases hl:l.mapM f with
   |none=>simp [ha,hl] at h
   |some m0=>
    simp[ha,hl] at h;subst h;cases i with
    |zero=>simp at hb;subst hb;exact⟨a,rfl,ha⟩
    |succ i=>
     obtain⟨a',h1,h2⟩:=mapM_at l m0 hl i b (by simpa using hb)
     exact⟨a',by simpa using h1,h2⟩
theorem BX7 {P:Program}{gs:Array Field}{fs:List (Nat×Nat×Nat)}(h1:gs.toList.mapM (fun f=>(P.info? f.type).map fun i=>(f.offset,i.size))=some (fs.map (·.2)))(h2:gs.toList.map (·.type)=fs.map (·.1))
  {i ft off size:Nat} (h:fs[i]? = some (ft,off,size)):∃(g:Field) (gi:TypeInfo),gs[i]? = some g∧g.type=ft∧g.offset=off∧P.info? ft=some gi∧gi.size=size:=by
 obtain⟨g,g1,g2⟩:=mapM_at _ _ h1 i (off,size) (by simp[h])
 have g3:g.type=ft:=by
  have:=congrArg (·[i]?) h2;simp only[Ei1,g1,h,Ej6,Option.some.injEq] at this;exact this
 rw[g3] at g2;cases hi:P.info? ft with
 |none=>simp [hi] at g2
 |some gi=>
  simp[hi] at g2;exact⟨g,gi,by simpa using g1,g3,g2.1,rfl,g2.2⟩
section
variable {P:Program}{T:Nat}{d:TD}{ow:Nat→A1}{bx:Bx}{w:World}
theorem AC2.isAgg (h:AC2 P T d):(isAgg T).run P w = .ok (I6 d) w:=by
 have hh:=h.how;unfold Go.isAgg I6 underlying;cases hd:d.how <;> simp only[hd] at hh
 case scalar=>
  obtain⟨_,u,hu,h1,h2,_,_,_⟩:=hh;cases u <;> first | exact absurd rfl (h1 _) | exact absurd rfl (h2 _ _) | simp[hu]
 case struct fs=>
  obtain⟨gs,hu,_⟩:=hh;simp[hu]
 case array n e s=>simp [hh.1]
 case slice e s b=>simp [hh.2.1]
theorem AC2.sizeOf (h:AC2 P T d):(sizeOf T).run P w = .ok d.zero.length w:=by obtain⟨i,z,h1,h2,h3,_⟩:=h.zero;simp[Go.sizeOf,typeInfo,h1,h3]
theorem BX8 {b o n:Nat}{c:Array Value}{U:TypeId}{fz:Nat×Nat}{vs:List Value}(hb:w.heap[b]? = some (.cells c U fz))(hv:∀(i:Nat) v,vs[i]? = some v→c[o+i]? = some v)(hn:n=vs.length):
  (loadCells ⟨b,o,none⟩ n).run P w = .ok vs.toArray w:=by
 subst hn;exact run_loadCells_list (P:=P) w ⟨b,o,none⟩ vs (fun j v hj=>by rw[Z3,AE8 hb];exact hv j v hj)
theorem AK3 (h:AC2 P T d){cs:List EV}{off:Nat}{e:EV}{b:Nat}{c:Array Value}{U:TypeId}{fz:Nat×Nat}{base:Nat}{vs:List Value}(hr:W1 d cs off=some e)
  (hb:w.heap[b]? = some (.cells c U fz)) (hvs:∀(i:Nat) v,vs[i]? = some v→c[base+i]? = some v) (hc:C3 ow bx w cs vs):
  ∃v,(loadVar T ⟨b,base+off,none⟩).run P w = .ok v w∧A0 ow bx w e v∧(I6 d=false→v.oneCell'=true):=by
 have hlen:cs.length=vs.length:=hc.1;have hag:=h.isAgg (w:=w);have hsz:=h.sizeOf (w:=w);have single:I6 d=false→cs[off]? = some e→∃v,(loadVar T ⟨b,base+off,none⟩).run P w = .ok v w∧A0 ow bx w e v∧(I6 d=false→v.oneCell'=true):=by
  intro ha he;have hlt:off<cs.length:=(Ef9.1 he).1;obtain⟨v,hv⟩:∃v,vs[off]? = some v:=⟨_,Eg5 (by omega)⟩
  obtain⟨h1,h2⟩:=hc.2 off e v he hv;refine⟨v,?_,h1,fun _=>h2⟩
  unfold loadVar;rw[Eg3,hag,ha];simp[AE8 hb,hvs off v hv]
 have rowed:I6 d=true→∀n,n=d.zero.length→off+n≤cs.length→∃us:List Value,(loadVar T ⟨b,base+off,none⟩).run P w = .ok (.agg us.toArray) w∧us=(vs.drop off).take n:=by
  intro ha n hn hle;refine⟨_,?_,rfl⟩;have hl:=BX8 (P:=P) (w:=w) (o:=base+off) (n:=n) (vs:=(vs.drop off).take n) hb (fun i v hv=>by
   rw[Eg1] at hv;split at hv
   ·rw[Eg8] at hv
    rw[Eh3];exact hvs _ v hv
   ·cases hv) (by simp;omega)
  unfold loadVar;rw[Eg3,hag,ha];simp only[Eh0,if_true,Eg3,hsz,← hn,hl,Ei2]
 unfold W1 at hr;cases hd:d.how with
 |scalar=>simp only[hd] at hr;exact single (by unfold I6;rw[hd]) hr
 |slice e' s b'=>simp only[hd] at hr;exact single (by unfold I6;rw[hd]) hr
 |_=>
  simp only[hd] at hr;have ha:I6 d=true:=by unfold I6;rw[hd]
  split at hr
  ·cases hr
  ·rename_i hble
   have hle:=Eg4 hble;obtain⟨vs,h1,h2⟩:=rowed ha _ rfl hle;have rowcase:∃v,(loadVar T ⟨b,base+off,none⟩).run P w = .ok v w∧A0 ow bx w (EV.row ((cs.drop off).take d.zero.length)) v∧(I6 d=false→v.oneCell'=true):=by
    have hcs:=(hc.drop off).take d.zero.length;rw[← h2] at hcs;refine⟨_,h1,.row (by simpa using hcs.1) (fun i e v he hv=>(hcs.2 i e v he (by simpa using hv)).1) (fun v hv=> ?_),fun h=>by rw[ha] at h;cases h⟩
    obtain⟨i,hi⟩:=Ej0 (show v∈vs by simpa using hv)
    have hlt:i<vs.length:=(Ef9.1 hi).1;obtain⟨e,he⟩:∃e,((cs.drop off).take d.zero.length)[i]? = some e:=⟨_,Eg5 (by rw[hcs.1];exact hlt)⟩
    exact (hcs.2 i e v he hi).2
   split at hr
   ·rename_i t ht
    split at hr
    ·rename_i x r hx
     cases hr;obtain⟨g1,g2,g3⟩:=AQ7 t _ _ _ _ hx (hc.drop off);obtain⟨e1,e2⟩:=h.agg t ht;refine⟨_,h1,.dat ?_,fun h=>by rw[ha] at h;cases h⟩
     have hta:t.isAgg=true:=e2.2 (by rw[hd])
     cases t <;> simp only[Ty.isAgg] at hta <;> try cases hta
     all_goals exact⟨_,rfl,by rw[← e1] at h2;simpa[h2,Rep] using g1⟩
    ·cases hr;exact rowcase
   ·cases hr;exact rowcase
end

def K6 (bg:Nat→Option (List EV))(x:Wr):Nat→Option (List EV):=fun b=>if b=x.b then (bg b).map (M1 · x.off x.new) else bg b
def P2 (bg:Nat→Option (List EV))(nb:Nat)(n:Option (List EV)):Nat→Option (List EV):=match n with
 |some cs=>fun b=>if b=nb then some cs else bg b
 |none=>bg
def upd (bg:Nat→Option (List EV))(nb:Nat)(n:Option (List EV))(ws:List Wr):Nat→Option (List EV):=P2 (ws.foldl K6 bg) nb n
section
variable {P:Program}{B:E5}{ow:Nat→A1}{bx:Bx}{nb:Nat}{bg:Nat→Option (List EV)}{w:World}
theorem CO5 (g:Nat)(b:Nat)(c:Array Value)(hg:ow g = .box b):E0 ow bx w ow bx (w.setRow g c):=by
 have hne:∀blk,ow blk≠ .box b→(w.setRow g c).heap[blk]? = w.heap[blk]? := fun blk h=>setRow_other w g blk c (fun e=>h (by rw[e];exact hg))
 exact⟨.of fun blk n h=>⟨h,hne blk (As6 h b)⟩,fun blk k fr h _=>⟨h,hne blk (by rw[h];intro e;cases e)⟩,fun _ h=>h,fun b h=>⟨rfl,h⟩,fun _ _ h=>h⟩
theorem Inv.write (hi:Inv B ow bx nb bg w){b:Nat}{cs new:List EV}{off:Nat}{nvs:List Value}(hb:bg b=some cs)(hn:C3 ow bx w new nvs)(hle:off+new.length≤cs.length):
  ∃c T,w.heap[bx b]? = some (.cells c T (0,0))∧c.size=cs.length∧C3 ow bx w cs c.toList∧
   E0 ow bx w ow bx (w.setRow (bx b) (c.toList.take off++nvs++c.toList.drop (off+nvs.length)).toArray)∧
   Inv B ow bx nb (K6 bg ⟨b,off,new⟩) (w.setRow (bx b) (c.toList.take off++nvs++c.toList.drop (off+nvs.length)).toArray):=by
 obtain⟨ho,c,T,hc,hr⟩:=hi.box b cs hb;have hk:=CO5 (bx:=bx) (w:=w) (bx b) b (c.toList.take off++nvs++c.toList.drop (off+nvs.length)).toArray ho;refine⟨c,T,hc,by have:=hr.1;simpa using this.symm,hr,hk,?_⟩
 have hne:∀blk,ow blk≠ .box b→(w.setRow (bx b) (c.toList.take off++nvs++c.toList.drop (off+nvs.length)).toArray).heap[blk]? = w.heap[blk]? :=
  fun blk h=>setRow_other w (bx b) blk _ (fun e=>h (by rw[e];exact ho))
 constructor
 ·intro b' cs' hb'
  unfold K6 at hb';simp only at hb';split at hb'
  ·rename_i e
   subst e;rw[hb] at hb';simp only[Ej6,Option.some.injEq] at hb';subst hb';exact⟨ho,_,T,setRow_heap w (bx b') c _ T (0,0) hc,by simpa using (hr.M1 hn off).keep hk⟩
  ·rename_i e
   obtain⟨ho',c',T',hc',hr'⟩:=hi.box b' cs' hb';refine⟨ho',c',T',?_,hr'.keep hk⟩;rw[hne _ (by rw[ho'];intro h;cases h;exact e rfl)]
   exact hc'
 ·intro blk b' h
  obtain⟨h1,h2,h3⟩:=hi.back blk b' h;refine⟨h1,?_,h3⟩;unfold K6;simp only;split
  ·rename_i e;subst e;rw[hb];rfl
  ·exact h2
 ·intro blk h;rw[setRow_size];exact hi.here blk h
 ·intro blk h1 h2
  obtain⟨g1,g3,g2⟩:=hi.old blk h1 h2;refine⟨?_,g3,g2⟩;rw[hne blk (g2.1 b)];exact g1
 ·rw[setRow_size];exact hi.size
 ·exact hi.env
 ·intro b' hb'
  obtain⟨h1,h2⟩:=hi.kept b' hb';refine⟨h1,?_⟩;unfold K6;simp only;split
  ·rename_i e;subst e;rw[hb];rfl
  ·exact h2
 ·exact hi.st.trans hk.st
 ·exact hi.born
theorem CO6 (x:Obj)(own:A1)(b:Nat)(hh:∀blk,ow blk≠ .B8→blk<w.heap.size)(hb:∀b',ow (bx b') = .box b'→b'≠b):
  E0 ow bx w (fun blk=>if blk=w.heap.size then own else ow blk) ⟨fun b'=>if b'=b then w.heap.size else bx b',bx.dead,bx.tb⟩ {w with heap:=w.heap.push x}:=by
 have hne:∀blk,ow blk≠ .B8→blk≠w.heap.size:=fun blk h e=>by have:=hh blk h;omega
 have hget:∀blk,ow blk≠ .B8→(w.heap.push x)[blk]? = w.heap[blk]? := fun blk h=>by have:=hh blk h;rw[Eh2];simp[show blk≠w.heap.size by omega]
 refine⟨.of fun blk n h=> ?_,fun blk k fr h _=> ?_,fun _ h=>h,fun b' h=> ?_,fun _ _ h=>h⟩
 ·have hj:=AK1 h
  exact⟨Z2 h (by simp only[if_neg (hne blk hj)]),hget blk hj⟩
 ·have hj:ow blk≠ .B8:=by rw[h];intro e;cases e
  exact⟨by simp only[if_neg (hne blk hj)];exact h,hget blk hj⟩
 ·have hj:ow (bx b')≠ .B8:=by rw[h];intro e;cases e
  exact⟨by simp only[if_neg (hb b' h)],by simp only[if_neg (hne _ hj)];exact h⟩
theorem Inv.push (hi:Inv B ow bx nb bg w){b:Nat}{cs:List EV}{c:Array Value}(T:TypeId)(hb:bg b=none)(hlt:b<nb)(hc:C3 ow bx w cs c.toList):
  E0 ow bx w (fun blk=>if blk=w.heap.size then .box b else ow blk) ⟨fun b'=>if b'=b then w.heap.size else bx b',bx.dead,bx.tb⟩ {w with heap:=w.heap.push (.cells c T)}∧
  Inv B (fun blk=>if blk=w.heap.size then .box b else ow blk) ⟨fun b'=>if b'=b then w.heap.size else bx b',bx.dead,bx.tb⟩ nb (P2 bg b (some cs)) {w with heap:=w.heap.push (.cells c T)}:=by
 have hbne:∀b',ow (bx b') = .box b'→b'≠b:=fun b' h e=>by subst e;have:=(hi.back _ _ h).2.1;rw[hb] at this;cases this
 have hk:=CO6 (bx:=bx) (.cells c T) (.box b) b hi.here hbne;refine⟨hk,?_⟩;have hne:∀blk,ow blk≠ .B8→blk≠w.heap.size:=fun blk h e=>by have:=hi.here blk h;omega
 constructor
 ·intro b' cs' hb'
  simp only[P2] at hb';split at hb'
  ·rename_i e
   subst e;cases hb';refine⟨by simp,c,T,by simp,hc.keep hk⟩
  ·rename_i e
   obtain⟨ho',c',T',hc',hr'⟩:=hi.box b' cs' hb';have hj:ow (bx b')≠ .B8:=by rw[ho'];intro e;cases e
   refine⟨?_,c',T',?_,hr'.keep hk⟩
   ·simp only[if_neg e,if_neg (hne _ hj)];exact ho'
   ·simp only[if_neg e]
    rw[Eh2];simp only[if_neg (hne _ hj)];exact hc'
 ·intro blk b' h
  split at h
  ·rename_i e
   cases h;exact⟨by simp[e],by simp[P2],hlt⟩
  ·obtain⟨h1,h2,h3⟩:=hi.back blk b' h
   have:b'≠b:=hbne b' (by rw[← h1];exact h)
   exact⟨by simp only[if_neg this];exact h1,by simp only[P2,if_neg this];exact h2,h3⟩
 ·intro blk h
  split at h
  ·rename_i e;simp[e]
  ·have:=hi.here blk h;simp;omega
 ·intro blk h1 h2
  obtain⟨g1,g3,g2⟩:=hi.old blk h1 h2;have hs:=hi.size;have:blk≠w.heap.size:=by omega
  refine⟨?_,by simp only[if_neg this];exact g3,by simp only[if_neg this];exact g2⟩
  rw[Eh2];simp only[if_neg this];exact g1
 ·have:=hi.size;simp;omega
 ·exact hi.env
 ·intro b' hb'
  obtain⟨h1,h2⟩:=hi.kept b' hb';have:b'≠b:=fun e=>by subst e;rw[hb] at h2;cases h2
  exact⟨by simp only[if_neg this];exact h1,by simp only[P2,if_neg this];exact h2⟩
 ·exact hi.st.trans hk.st
 ·exact hi.born
theorem Inv.At0 (hi:Inv B ow bx nb bg w)(own:A1)(x:Obj)(hown:own = .E4∨own = .B8∨∃k fr,own = .tok k fr):
  E0 ow bx w (fun blk=>if blk=w.heap.size then own else ow blk) bx {w with heap:=w.heap.push x}∧
  Inv B (fun blk=>if blk=w.heap.size then own else ow blk) bx nb bg {w with heap:=w.heap.push x}:=by
 have hne:∀blk,ow blk≠ .B8→blk≠w.heap.size:=fun blk h e=>by have:=hi.here blk h;omega
 have hget:∀blk,ow blk≠ .B8→(w.heap.push x)[blk]? = w.heap[blk]? := fun blk h=>by have:=hi.here blk h;rw[Eh2];simp[show blk≠w.heap.size by omega]
 have hk:E0 ow bx w (fun blk=>if blk=w.heap.size then own else ow blk) bx {w with heap:=w.heap.push x}:=by
  refine⟨.of fun blk n h=> ?_,fun blk k fr h _=> ?_,fun _ h=>h,fun b' h=> ?_,fun _ _ h=>h⟩
  ·have hj:=AK1 h
   exact⟨Z2 h (by simp only[if_neg (hne blk hj)]),hget blk hj⟩
  ·have hj:ow blk≠ .B8:=by rw[h];intro e;cases e
   exact⟨by simp only[if_neg (hne blk hj)];exact h,hget blk hj⟩
  ·have hj:ow (bx b')≠ .B8:=by rw[h];intro e;cases e
   exact⟨rfl,by simp only[if_neg (hne _ hj)];exact h⟩
 refine⟨hk,?_⟩;constructor
 ·intro b' cs' hb'
  obtain⟨ho',c',T',hc',hr'⟩:=hi.box b' cs' hb';have hj:ow (bx b')≠ .B8:=by rw[ho'];intro e;cases e
  exact⟨by simp only[if_neg (hne _ hj)];exact ho',c',T',by rw[hget _ hj];exact hc',hr'.keep hk⟩
 ·intro blk b' h
  split at h
  ·rcases hown with e | e |⟨k,fr,e⟩ <;> rw[e] at h <;> cases h
  ·exact hi.back blk b' h
 ·intro blk h
  split at h
  ·rename_i e;simp[e]
  ·have:=hi.here blk h;simp;omega
 ·intro blk h1 h2
  obtain⟨g1,g3,g2⟩:=hi.old blk h1 h2;have hs:=hi.size;have:blk≠w.heap.size:=by omega
  refine⟨?_,by simp only[if_neg this];exact g3,by simp only[if_neg this];exact g2⟩
  rw[Eh2];simp only[if_neg this];exact g1
 ·have:=hi.size;simp;omega
 ·exact hi.env
 ·exact hi.kept
 ·exact hi.st.trans hk.st
 ·exact hi.born
end

def AC3 (P:Program)(B:E5)(ow:Nat→A1)(bx:Bx)(nb:Nat)(bg:Nat→Option (List EV))(w:World)(a:Act)(o:Oper)(id:Nat)(v:EV)(n:Option (List EV))(ws:List Wr):Prop:=
 ∀(K:Act→World→Prop) (Q:Exit→Act→World→Prop),(∀u ow' bx' w',E0 ow bx w ow' bx' w'→A0 ow' bx' w' v u→Inv B ow' bx' nb (upd bg id n ws) w'→bx'.dead=bx.dead→K (a.put o.dst u) w')→o.wp P a w K Q
def F4 (k:List Nat)(j:Nat):Bool:=k.any fun x=>Ef8 x j
def AC4 (P:Program)(B:E5)(ow:Nat→A1)(bx:Bx)(nb:Nat)(bg:Nat→Option (List EV))(w:World)(a:Act)(o:Oper)(id:Nat)(v:EV)(n:Option (List EV))(ws:List Wr)(k:List Nat)(up:N9):Prop:=
 ∀(K:Act→World→Prop) (Q:Exit→Act→World→Prop),(∀u ow' bx' w',E0 ow bx w ow' bx' w'→A0 ow' bx' w' v u→Inv B ow' bx' nb (upd bg id n ws) w'→(∀j,bx'.dead j=(bx.dead j||F4 k j))→(∀p∈up,∃v,A0 ow' bx' w' (.fre p.1 p.2.1 p.2.2) v)→K (a.put o.dst u) w')→o.wp P a w K Q
theorem AC3.BH1 {P:Program}{B:E5}{ow:Nat→A1}{bx:Bx}{nb:Nat}{bg:Nat→Option (List EV)}{w:World}{a:Act}{o:Oper}{id:Nat}{v:EV}{n:Option (List EV)}{ws:List Wr}(h:AC3 P B ow bx nb bg w a o id v n ws):AC4 P B ow bx nb bg w a o id v n ws [] []:=
 fun K Q hK=>h K Q fun u ow' bx' w' h1 h2 h3 h4=>hK u ow' bx' w' h1 h2 h3 (fun j=>by rw[h4];simp[F4]) fun p hp=>by simp at hp
def F5 (ow:Nat→A1)(bx:Bx)(w:World)(A:Operand→EV)(ev:Operand→Value)(o:Op):Prop:=match o with
 | .pick c x y=>A0 ow bx w (A c) (ev c)∧∀t,A c = .dat .bool t→(t=true→A0 ow bx w (A x) (ev x))∧(t=false→A0 ow bx w (A y) (ev y))
 |o=>∀x∈o.operands,A0 ow bx w (A x) (ev x)
def Sound {ρ:Type}(P:Program)(id:Nat)(rd:Nat→Option (List EV))(g:Option Bool)(A:Operand→EV)(o:Oper)(q:EV→Option (List EV)→List Wr→List Nat→Option ρ)(r:ρ):Prop:=
 ∃v n ws tr,q v n ws tr=some r∧(g.isSome=true→n=none∧ws=[])∧(∀x∈ws,x.b∈tr∧∃cs,rd x.b=some cs∧x.off+x.new.length≤cs.length)∧
  (g≠some false→∀B ow bx nb bg w (a:Act),Inv B ow bx nb bg w→F5 ow bx w A a.eval o.op→(∀b∈tr,bg b=rd b)→(n.isSome=true→bg id=none∧id<nb)→
   AC3 P B ow bx nb bg w a o id v n ws)
section
variable {ρ:Type}{P:Program}{id:Nat}{rd:Nat→Option (List EV)}{g:Option Bool}{A:Operand→EV}{o:Oper}{q:EV→Option (List EV)→List Wr→List Nat→Option ρ}{r:ρ}
theorem BX9 {B:E5}{ow:Nat→A1}{bx:Bx}{nb:Nat}{bg:Nat→Option (List EV)}{w:World}{a:Act}{v:EV}{u:Value}(hi:Inv B ow bx nb bg w)
  (h:(execOp a.eval o).run P w = .ok (.value u) w) (hv:A0 ow bx w v u):AC3 P B ow bx nb bg w a o id v none []:=by
 intro K Q hK;unfold Oper.wp;rw[h];exact hK u ow bx w (E0.refl _ _ _) hv hi rfl
theorem C5 {v:EV}{tr:List Nat}(hq:q v none [] tr=some r)
  (h:g≠some false→∀B ow bx nb bg w (a:Act),Inv B ow bx nb bg w→F5 ow bx w A a.eval o.op→(∀b∈tr,bg b=rd b)→∃u,(execOp a.eval o).run P w = .ok (.value u) w∧A0 ow bx w v u):
  Sound P id rd g A o q r:=
 ⟨v,none,[],tr,hq,fun _=>⟨rfl,rfl⟩,fun x hx=>(by cases hx),fun hg B ow bx nb bg w a hi hA hb _=>by obtain⟨u,h1,h2⟩:=h hg B ow bx nb bg w a hi hA hb;exact BX9 hi h1 h2⟩
theorem O2 {c:Bool}{k:Option ρ}(h:chk g c k=some r):k=some r∧(g≠some false→c=true):=by
 unfold chk at h;cases g with
 |none=>cases c <;> simp at h;exact⟨h,fun _=>rfl⟩
 |some b=>cases c <;> cases b <;> simp at h <;> first | exact⟨h,fun _=>rfl⟩ | exact⟨h,fun h=>absurd rfl h⟩
theorem BH2 {k:Option ρ}(h:AP7 g k=some r):g=none∧k=some r:=by
 unfold AP7 at h;cases g with
 |none=>exact ⟨rfl,h⟩
 |some b=>cases h
theorem I1 {ow:Nat→A1}{bx:Bx}{w:World}{ev:Operand→Value}{p:Op}(h:F5 ow bx w A ev p)(hp:∀c x y,p≠ .pick c x y):∀x∈p.operands,A0 ow bx w (A x) (ev x):=by
 unfold F5 at h;cases p <;> first | exact h | exact absurd rfl (hp _ _ _)
theorem AY7 (k:IntKind)(n:Int):fits k n=true↔k.min≤n∧n≤k.max:=by cases k <;> simp[fits,Ei0,Eh7,Eg7,Eh1]
theorem BY0 (k:IntKind)(n:Int):k.min≤k.wrap n∧k.wrap n≤k.max:=by cases k <;> simp only[Ei0,Eh7,Eg7,Eh1,IntKind.wrap,Bool.true_and,Bool.false_and,if_true,Eh6,if_false,decide_eq_true_eq,ge_iff_le] <;> (try split) <;> omega
theorem X2 (k:IntKind)(n:Int):fits k (k.wrap n)=true:=(AY7 k _).2 (BY0 k n)
theorem P7 {ow:Nat→A1}{bx:Bx}{w:World}{k:IntKind}{n:Int}{v:Value}(h:A0 ow bx w (.dat (.int k) n) v):v = .int k n∧fits k n=true:=by
 cases h with
 |dat h=>obtain ⟨h1,h2⟩:=h;simp at h1;exact⟨h1,h2⟩
theorem AY8 {ow:Nat→A1}{bx:Bx}{w:World}{n:Bool}{v:Value}(h:A0 ow bx w (.dat .bool n) v):v = .bool n:=by
 cases h with
 |dat h=>simp only[C7,Rep] at h;simpa using h
theorem AE9 {ow:Nat→A1}{bx:Bx}{w:World}{n:ByteArray}{v:Value}(h:A0 ow bx w (.dat .str n) v):v = .string n∧n.size≤9223372036854775807:=by
 cases h with
 |dat h=>obtain ⟨h1,h2⟩:=h;simp at h1;exact⟨h1,h2⟩
theorem P8 {ow:Nat→A1}{bx:Bx}{w:World}{k:IntKind}{n:Int}(h:fits k n=true):A0 ow bx w (.dat (.int k) n) (.int k n):=.dat ⟨rfl,h⟩
theorem V2 {ow:Nat→A1}{bx:Bx}{w:World}{n:Bool}:A0 ow bx w (.dat .bool n) (.bool n):=.dat rfl
theorem AY9 {ow:Nat→A1}{bx:Bx}{w:World}{n:Nat}(h:n≤9223372036854775807):A0 ow bx w (.dat (.int .i64) (n:Int)) (goInt n):=
 P8 ((AY7 _ _).2 (by simp[Ei0,Eh7,Eg7,Eh1];omega))
theorem CO7 (k:IntKind)(x y:Int)(hx:fits k x=true):fits k (x.tmod y)=true:=by
 rw[AY7] at*;have hmin:k.min≤0:=by cases k <;> simp[Ei0,Eg7,Eh1]
 have hmax:0≤k.max:=by cases k <;> simp[Eh7,Eg7,Eh1]
 by_cases h:0≤x
 ·have h1:=Int.tmod_nonneg y h
  have h2:x.tmod y≤x:=by
   have:=Int.natAbs_tmod x y;have h3:(x.tmod y).natAbs≤x.natAbs:=by rw[this];exact Nat.mod_le _ _
   omega
  omega
 ·have h1:x.tmod y≤0:=by
   have:=Int.tmod_nonneg y (show 0≤ -x by omega)
   rw[Int.neg_tmod] at this;omega
  have h2:x≤x.tmod y:=by
   have:=Int.natAbs_tmod x y;have h3:(x.tmod y).natAbs≤x.natAbs:=by rw[this];exact Nat.mod_le _ _
   omega
  omega
theorem CO8 (k:IntKind)(x:Int)(n:Nat)(hx:fits k x=true):fits k (x.fdiv (2 ^ n))=true:=by
 rw[AY7] at*;have hmin:k.min≤0:=by cases k <;> simp[Ei0,Eg7,Eh1]
 have hmax:0≤k.max:=by cases k <;> simp[Eh7,Eg7,Eh1]
 have hp:(0:Int)<2 ^ n:=Int.pow_pos (by omega)
 rw[Int.fdiv_eq_ediv_of_nonneg _ (by omega)]
 have h1:k.min≤x/2 ^ n:=by
  rw[Int.le_ediv_iff_mul_le hp];have:k.min*2 ^ n≤k.min*1:=Int.mul_le_mul_of_nonpos_left hmin (by omega)
  omega
 have h2:x/2 ^ n≤k.max:=by
  by_cases h:0≤x
  ·have:=Int.ediv_le_self (2 ^ n) h;omega
  ·have:=Int.ediv_neg_of_neg_of_pos (show x<0 by omega) hp;omega
 exact⟨h1,h2⟩
theorem CO9 {q':EV→Option ρ}{op:BinOp}{k k':IntKind}{x y:Int}(hk:k=k'∨BD8 op=true)(h:BD7 g op k x y q'=some r):
  ∃v,q' v=some r∧(g≠some false→∀ow bx w,fits k x=true→fits k' y=true→∃u,(binOp op 0 (.int k x) (.int k' y)).run P w = .ok u w∧A0 ow bx w v u):=by
 cases op <;> simp only[BD8,or_false,Eh6] at hk <;> (try subst hk) <;> simp only[BD7] at h
 case add=>exact ⟨_,h,fun _ ow bx w _ _=>⟨_,by simp[Go.binOp,Op.intArith],P8 (X2 _ _)⟩⟩
 case sub=>exact ⟨_,h,fun _ ow bx w _ _=>⟨_,by simp[Go.binOp,Op.intArith],P8 (X2 _ _)⟩⟩
 case mul=>exact ⟨_,h,fun _ ow bx w _ _=>⟨_,by simp[Go.binOp,Op.intArith],P8 (X2 _ _)⟩⟩
 case quo=>
  obtain⟨h1,h2⟩:=O2 h;refine⟨_,h1,fun hg ow bx w _ _=>⟨_,?_,P8 (X2 _ _)⟩⟩
  have:=h2 hg;have hy:y≠0:=by simpa using this
  simp[Go.binOp,Op.intDiv,hy]
 case rem=>
  obtain⟨h1,h2⟩:=O2 h;refine⟨_,h1,fun hg ow bx w hx _=>⟨_,?_,P8 (CO7 _ _ _ hx)⟩⟩
  have:=h2 hg;have hy:y≠0:=by simpa using this
  simp[Go.binOp,Op.intDiv,hy]
 case and=>exact ⟨_,h,fun _ ow bx w _ _=>⟨_,by simp[Go.binOp,Op.intBits,bits],P8 (X2 _ _)⟩⟩
 case or=>exact ⟨_,h,fun _ ow bx w _ _=>⟨_,by simp[Go.binOp,Op.intBits,bits],P8 (X2 _ _)⟩⟩
 case xor=>exact ⟨_,h,fun _ ow bx w _ _=>⟨_,by simp[Go.binOp,Op.intBits,bits],P8 (X2 _ _)⟩⟩
 case andNot=>exact ⟨_,h,fun _ ow bx w _ _=>⟨_,by simp[Go.binOp,Op.intBits,bits],P8 (X2 _ _)⟩⟩
 case eql=>exact ⟨_,h,fun _ ow bx w _ _=>⟨_,by simp[Go.binOp,Op.intCmp],V2⟩⟩
 case neq=>exact ⟨_,h,fun _ ow bx w _ _=>⟨_,by simp[Go.binOp,Op.intCmp],V2⟩⟩
 case lss=>exact ⟨_,h,fun _ ow bx w _ _=>⟨_,by simp[Go.binOp,Op.intCmp],V2⟩⟩
 case leq=>exact ⟨_,h,fun _ ow bx w _ _=>⟨_,by simp[Go.binOp,Op.intCmp],V2⟩⟩
 case gtr=>exact ⟨_,h,fun _ ow bx w _ _=>⟨_,by simp[Go.binOp,Op.intCmp],V2⟩⟩
 case geq=>exact ⟨_,h,fun _ ow bx w _ _=>⟨_,by simp[Go.binOp,Op.intCmp],V2⟩⟩
 case shl=>
  obtain⟨h1,h2⟩:=O2 h;refine⟨_,h1,fun hg ow bx w _ _=>⟨_,?_,P8 (X2 _ _)⟩⟩
  have:=h2 hg;have hy:¬y<0:=by
              have:0≤y:=by simpa using this
              omega
  simp[Go.binOp,Op.shift,hy]
 case shr=>
  obtain⟨h1,h2⟩:=O2 h;refine⟨_,h1,fun hg ow bx w hx _=>⟨_,?_,P8 (CO8 _ _ _ hx)⟩⟩
  have:=h2 hg;have hy:¬y<0:=by
              have:0≤y:=by simpa using this
              omega
  simp[Go.binOp,Op.shift,hy]
end

structure E3 (P:Program)(Γ:Cx):Prop where
 td:∀T d,Γ.td T=some d→AC2 P T d
 cons:∀c∈Γ.cons,M4 P c
 news:∀c∈Γ.news,NOK P c
 owns:∀c∈Γ.owns,Ah0 P c
 AJ2:∀t∈Γ.AJ2,t<100000000→∃e,P.underlying t=some (.pointer e)
def CP0 (P:Program)(l:List Nat):Bool:=l.all fun t=>Eg2 100000000 t||match P.underlying t with
 |some (.pointer _)=>true
 |_=>false
theorem AK4 (P:Program)(l:List Nat)(h:CP0 P l=true):∀t∈l,t<100000000→∃e,P.underlying t=some (.pointer e):=by
 intro t ht hlt;have:=List.all_eq_true.1 h t ht;rw[Bool.or_eq_true] at this
 replace this:=this.resolve_left fun h=>by have:=Eg4 h;omega
 split at this
 ·rename_i e he;exact⟨e,he⟩
 ·cases this
section
variable {ρ:Type}{P:Program}{Γ:Cx}{id:Nat}{rd:Nat→Option (List EV)}{g:Option Bool}{A:Operand→EV}{o:Oper}{q:EV→Option (List EV)→List Wr→List Nat→Option ρ}{r:ρ}
theorem At1 {d:Option TD}{t:Ty}(h:R9 d t=true):∃td,d=some td∧td.ty=some t:=by
 unfold R9 at h;split at h
 ·rename_i td
  split at h
  ·rename_i t' ht
   have:t'=t:=by simpa using h
   exact⟨td,rfl,by rw[ht,this]⟩
  ·cases h
 ·cases h
theorem BY1 {x:Operand}(ho:o.op = .move x∨o.op = .assign x)(h:q (A x) none [] []=some r):Sound P id rd g A o q r:=by
 refine C5 h fun _ B ow bx nb bg w a hi hA _=>⟨a.eval x,?_,?_⟩
 ·unfold execOp;rcases ho with ho | ho <;> rw[ho] <;> rfl
 ·rcases ho with ho | ho <;> rw[ho] at hA <;> exact I1 hA (by intros;simp) x (by simp[Op.operands])
theorem CP1 {c x y:Operand}(ho:o.op = .pick c x y)(h:q (Aq8 (A c) (A x) (A y)) none [] []=some r)(hc:∃b,A c = .dat .bool b):Sound P id rd g A o q r:=by
 obtain⟨b,hb⟩:=hc;refine C5 h fun _ B ow bx nb bg w a hi hA _=> ?_
 rw[ho] at hA;obtain⟨h1,h2⟩:=hA;rw[hb] at h1;have h3:=h2 b hb;have hcv:=AY8 h1;cases b with
 |true=>
  have h4:=h3.1 rfl;refine⟨a.eval x,?_,?_⟩
  ·unfold execOp;rw[ho];simp[hcv,asBool]
  ·unfold Aq8
   rw[hb];split
   ·rename_i c' a' b' e1 e2 e3
    cases e1;rw[e2] at h4;exact h4
   ·exact .undef _
 |false=>
  have h4:=h3.2 rfl;refine⟨a.eval y,?_,?_⟩
  ·unfold execOp;rw[ho];simp[hcv,asBool]
  ·unfold Aq8
   rw[hb];split
   ·rename_i c' a' b' e1 e2 e3
    cases e1;rw[e3] at h4;exact h4
   ·exact .undef _
theorem CP2 {op:BinOp}{T:TypeId}{x y:Operand}{yT:TypeId}(hΓ:E3 P Γ)(ho:o.op = .binOp op T x y yT)(h:BD9 g (Γ.td T) op (A x) (A y) (fun v=>q v none [] [])=some r):Sound P id rd g A o q r:=by
 have hx:∀{ow bx w ev},F5 ow bx w A ev o.op→A0 ow bx w (A x) (ev x)∧A0 ow bx w (A y) (ev y):=by intro ow bx w ev hA;rw[ho] at hA;exact⟨I1 hA (by intros;simp) x (by simp[Op.operands]),I1 hA (by intros;simp) y (by simp[Op.operands])⟩
 unfold BD9 at h;split at h
 ·rename_i k a k' b e1 e2
  split at h
  ·rename_i hk
   obtain⟨v,h1,h2⟩:=CO9 (P:=P) hk h;refine C5 h1 fun hg B ow bx nb bg w act hi hA _=> ?_
   obtain⟨hvx,hvy⟩:=hx hA;rw[e1] at hvx;rw[e2] at hvy;obtain⟨hvx,fx⟩:=P7 hvx;obtain⟨hvy,fy⟩:=P7 hvy;obtain⟨u,hu,hr⟩:=h2 hg ow bx w fx fy;refine⟨u,?_,hr⟩;have hbT:∀T',Go.binOp op T' (.int k a) (.int k' b)=Go.binOp op 0 (.int k a) (.int k' b):=fun T'=>by cases op <;> rfl
   unfold execOp;rw[ho];simp only[hvx,hvy,hbT T];have hge:(eqGuard op T x y (.int k a) (.int k' b)).run P w = .ok () w:=by cases op <;> rfl
   simp[hge,hu]
  ·cases h
 ·rename_i a b e1 e2
  split at h
  ·obtain⟨h1,h2⟩:=O2 h
   refine C5 h1 fun hg B ow bx nb bg w act hi hA _=> ?_
   obtain⟨hvx,hvy⟩:=hx hA;rw[e1] at hvx;rw[e2] at hvy;obtain⟨hvx,fx⟩:=AE9 hvx;obtain⟨hvy,fy⟩:=AE9 hvy;have hs:a.size+b.size≤9223372036854775807:=by simpa using h2 hg
   refine⟨.string (a++b),?_,.dat ⟨rfl,by simpa using hs⟩⟩
   unfold execOp;rw[ho];have hn:¬(((a.size+b.size:Nat):Int)>IntKind.i64.max):=by simp[Eh7,Eg7,Eh1];omega
   have hso:Op.stringOp .add a b=pure (.string (a++b)):=by unfold Op.stringOp;simp only;rw[if_neg hn]
   simp only[hvx,hvy];simp[eqGuard,Go.binOp,hso]
  ·refine C5 h fun hg B ow bx nb bg w act hi hA _=> ?_
   obtain⟨hvx,hvy⟩:=hx hA;rw[e1] at hvx;rw[e2] at hvy;exact⟨.bool (a.toList==b.toList),by unfold execOp;rw[ho];simp[(AE9 hvx).1,(AE9 hvy).1,eqGuard,Go.binOp,Op.stringOp],V2⟩
  ·refine C5 h fun hg B ow bx nb bg w act hi hA _=> ?_
   obtain⟨hvx,hvy⟩:=hx hA;rw[e1] at hvx;rw[e2] at hvy;exact⟨.bool (!(a.toList==b.toList)),by unfold execOp;rw[ho];simp[(AE9 hvx).1,(AE9 hvy).1,eqGuard,Go.binOp,Op.stringOp],V2⟩
  ·cases h
 ·rename_i t a t' b hn1 hn2 e1 e2
  split at h
  ·rename_i ht
   subst ht;split at h
   ·rename_i hp
    simp only[Eg0] at hp;obtain⟨hp,htd⟩:=hp;obtain⟨td,htd,hty⟩:=At1 htd;have hOK:=hΓ.td T td htd;have key:∀{ow bx w} {ev:Operand→Value},A0 ow bx w (.dat t' a) (ev x)→A0 ow bx w (.dat t' b) (ev y)→
      ((do eqGuard op T x y (ev x) (ev y);Go.binOp .eql T (ev x) (ev y)):Sem Value).run P w = .ok (.bool (eqT t' a b)) w∧
      ((do eqGuard op T x y (ev x) (ev y);Go.binOp .neq T (ev x) (ev y)):Sem Value).run P w = .ok (.bool (!(eqT t' a b))) w:=by
     intro ow bx w ev hvx hvy;cases hvx with
     |dat hvx=>
      cases hvy with
      |dat hvy=>
       cases t' with
       |agg c=>
        obtain⟨g1,g2⟩:=hOK.eq _ hty rfl hp;have ge:=g2 ow w a b _ _ hvx hvy;obtain⟨xs,hxs,_⟩:=hvx;obtain⟨ys,hys,_⟩:=hvy;rw[hxs,hys] at ge ⊢;simp only[Eg3,run_eqGuard_agg w op T x y xs ys g1,Eh0,run_eql_struct,run_neq_struct,ge];exact⟨trivial,trivial⟩
       |bool=>
        simp only[C7,Rep,List.cons.injEq,and_true] at hvx hvy;rw[hvx,hvy];have hu:P.underlying T=some .bool:=by
         have hh:=hOK.how;have hag:=(hOK.agg _ hty).2;cases hd:td.how with
         |scalar=>
          simp only[hd] at hh;obtain⟨_,u,hu,_,_,_,_,hb⟩:=hh;rw[hu,hb hty]
         |struct fs=>rw [hd] at hag;simp[Ty.isAgg] at hag
         |array n e s=>rw [hd] at hag;simp[Ty.isAgg] at hag
         |slice e s b'=>
          simp only[hd] at hh;exact absurd hty hh.2.2.2.1
        have hge:(eqGuard op T x y (.bool a) (.bool b)).run P w = .ok () w:=by cases op <;> rfl
        have hq:=run_equalIn_bool' (P:=P) w 9999 T a b hu;simp[hge,Go.binOp,Op.equal,Op.maxDepth,hq,eqT]
       |int k=>simp [Ty.cmp] at hp
       |str=>simp [Ty.cmp] at hp
       |unit=>simp [Ty.cmp] at hp
       |pair c d=>simp [Ty.cmp] at hp
       |slice c=>simp [Ty.cmp] at hp
    split at h
    ·refine C5 h fun hg B ow bx nb bg w act hi hA _=> ?_
     obtain⟨hvx,hvy⟩:=hx hA;rw[e1] at hvx;rw[e2] at hvy;refine⟨.bool (eqT t' a b),?_,V2⟩;unfold execOp;rw[ho];have:=(key hvx hvy).1;simp only[Eg3] at this ⊢;rw[this];rfl
    ·refine C5 h fun hg B ow bx nb bg w act hi hA _=> ?_
     obtain⟨hvx,hvy⟩:=hx hA;rw[e1] at hvx;rw[e2] at hvy;refine⟨.bool (!(eqT t' a b)),?_,V2⟩;unfold execOp;rw[ho];have:=(key hvx hvy).2;simp only[Eg3] at this ⊢;rw[this];rfl
    ·cases h
   ·cases h
  ·cases h
 ·cases h
end

section
variable {ρ:Type}{P:Program}{Γ:Cx}{id:Nat}{rd:Nat→Option (List EV)}{g:Option Bool}{A:Operand→EV}{o:Oper}{q:EV→Option (List EV)→List Wr→List Nat→Option ρ}{r:ρ}
theorem BY2 {B:E5}{ow:Nat→A1}{bx:Bx}{nb:Nat}{bg:Nat→Option (List EV)}{w:World}{a:Act}{cs:List EV}{c:Array Value}{T:TypeId}(hi:Inv B ow bx nb bg w)
  (h:(execOp a.eval o).run P w = .ok (.value (.pointer (some ⟨w.heap.size,0,none⟩))) {w with heap:=w.heap.push (.cells c T)}) (hc:C3 ow bx w cs c.toList) (hb:bg id=none) (hlt:id<nb):
  AC3 P B ow bx nb bg w a o id (.ptr id 0) (some cs) []:=by
 intro K Q hK;unfold Oper.wp;rw[h];obtain⟨h1,h2⟩:=hi.push T hb hlt hc;refine hK _ _ _ _ h1 ?_ h2 rfl;have hp:=A0.ptr (ow:=fun blk=>if blk=w.heap.size then A1.box id else ow blk) (bx:=⟨fun b'=>if b'=id then w.heap.size else bx b',bx.dead,bx.tb⟩) (w:={w with heap:=w.heap.push (.cells c T)}) (b:=id) (off:=0) (by simp)
 simp only[if_true] at hp;exact hp
theorem CP3 {T:TypeId}(hΓ:E3 P Γ)(ho:o.op = .alloc T)
  (h:AP7 g (match Γ.td T with | some d=>q (.ptr id 0) (some d.zero) [] [] | none=>none)=some r):Sound P id rd g A o q r:=by
 obtain⟨rfl,h⟩:=BH2 h;split at h
 ·rename_i d hd
  refine⟨_,_,_,_,h,fun h=>(by cases h),fun x hx=>(by cases hx),fun _ B ow bx nb bg w a hi hA hb hn=> ?_⟩
  obtain⟨hn1,hn2⟩:=hn rfl;obtain⟨i,z,h1,h2,h3,h4,h5⟩:=(hΓ.td T d hd).zero;refine BY2 hi (c:=z.cells) (T:=T) ?_ (h5 ow bx w) hn1 hn2;unfold execOp;rw[ho];simp[Instr.alloc,zeroValue,typeInfo,h1,h2,newVar,newRow]
 ·cases h
theorem CP4 {T:TypeId}{x:Operand}(ho:o.op = .box T x)
  (h:AP7 g (match Γ.td T with
   |some d=>match (A x).cells with
    |some cs=>match Ef8 cs.length d.zero.length with
     |true=>q (.ptr id 0) (some cs) [] []
     |false=>none
    |none=>none
   |none=>none)=some r):Sound P id rd g A o q r:=by
 obtain⟨rfl,h⟩:=BH2 h;split at h
 ·rename_i d hd
  split at h
  ·rename_i cs hcs
   split at h
   ·refine⟨_,_,_,_,h,fun h=>(by cases h),fun x hx=>(by cases hx),fun _ B ow bx nb bg w a hi hA hb hn=> ?_⟩
    obtain⟨hn1,hn2⟩:=hn rfl;rw[ho] at hA;have hv:=I1 hA (by intros;simp) x (by simp[Op.operands])
    refine BY2 hi (c:=(a.eval x).cells) (T:=T) ?_ (Ah2 hcs hv) hn1 hn2;unfold execOp;rw[ho];simp[Instr.box,newVar,newRow]
   ·cases h
  ·cases h
 ·cases h
theorem BH3 {ty:Ty}{d:TD}{cs:List EV}{s:Nat}:∀(n off:Nat) (l:List ty.den),AX3 ty d cs off s n=some l→
  l.length=n∧∀(j:Nat) (hj:j<l.length),∃e,W1 d cs (off+j*s)=some e∧e.to ty=some (l[j]'hj):=by
 intro n
 induction n with
 |zero=>intro off l h;cases h;exact⟨rfl,fun j hj=>absurd hj (by simp)⟩
 |succ n ih=>
  intro off l h;simp only[AX3] at h;split at h
  ·rename_i e he
   split at h
   ·rename_i v hv
    split at h
    ·rename_i l' hl'
     cases h;obtain⟨h1,h2⟩:=ih _ _ hl';refine⟨by simp[h1],fun j hj=> ?_⟩
     cases j with
     |zero=>exact ⟨e,by simpa using he,hv⟩
     |succ j=>
      obtain⟨e',g1,g2⟩:=h2 j (by simpa using hj)
      exact⟨e',by rw[← g1];congr 1;rw[Eh8];omega,g2⟩
    ·cases h
   ·cases h
  ·cases h
theorem AF0 {T:TypeId}{x:Operand}{a:Act}{w:World}{ad:Addr}{v:Value}(ho:o.op = .load T x)(hx:a.eval x = .pointer (some ad))(h:(loadVar T ad).run P w = .ok v w):
  (execOp a.eval o).run P w = .ok (.value v) w:=by
 unfold execOp;rw[ho];simp[hx,Instr.loadAt,Instr.sureAddr,h]
theorem z6 {c:Array Value}{i:Nat}{v:Value}(h:c.toList[i]? = some v):c[i]? = some v:=by simpa using h
theorem CP5 {T:TypeId}{x:Operand}(hΓ:E3 P Γ)(ho:o.op = .load T x)(h:opE Γ id rd g A (.load T x) q=some r):Sound P id rd g A o q r:=by
 have hx:∀{ow bx w ev},F5 ow bx w A ev o.op→A0 ow bx w (A x) (ev x):=by intro ow bx w ev hA;rw[ho] at hA;exact I1 hA (by intros;simp) x (by simp[Op.operands])
 simp only[opE] at h;split at h
 ·rename_i d hd
  have hOK:=hΓ.td T d hd;split at h
  ·rename_i b off he
   split at h
   ·rename_i cs hcs
    split at h
    ·rename_i v hv
     refine C5 h fun _ B ow bx nb bg w a hi hA hb=> ?_
     have hp:=hx hA;rw[he] at hp;obtain⟨w1,c,U,hc,hr⟩:=hi.box b cs (by rw[hb b (by simp)];exact hcs)
     obtain⟨u,h1,h2,_⟩:=AK3 (P:=P) hOK (base:=0) hv hc (vs:=c.toList) (fun i v h=>by rw[Eh4];exact z6 h) hr
     rw[Eh4] at h1;cases hpe:a.eval x with
     |pointer ad=>
      rw[hpe] at hp;cases hp with
      |ptr hq=>exact ⟨u,AF0 ho hpe h1,h2⟩
     |_=>rw [hpe] at hp;cases hp
    ·cases h
   ·cases h
  ·rename_i b off s n i o' he
   split at h
   ·rename_i cs hcs
    split at h
    ·rename_i ty hty
     split at h
     ·rename_i l hl
      refine C5 h fun _ B ow bx nb bg w a hi hA hb=> ?_
      have hp:=hx hA;rw[he] at hp;obtain⟨w1,c,U,hc,hr⟩:=hi.box b cs (by rw[hb b (by simp)];exact hcs)
      obtain⟨hln,hall⟩:=BH3 _ _ _ hl;cases hpe:a.eval x with
      |pointer ad=>
       rw[hpe] at hp;cases hp with
       |pix hq h0 h1=>
        have hlt:i.toNat<l.length:=by omega
        obtain⟨e,g1,g2⟩:=hall i.toNat hlt;obtain⟨u,h1,h2,_⟩:=AK3 (P:=P) hOK (base:=0) g1 hc (vs:=c.toList) (fun i v h=>by rw[Eh4];exact z6 h) hr
        refine⟨u,AF0 ho hpe ?_,.dat ?_⟩
        ·rw[← h1];congr 2;(try simp);(try omega)
        ·have:l.getD i.toNat ty.J7=l[i.toNat]'hlt:=by simp[Ej1,hlt]
         rw[this];exact w9 g2 h2
      |_=>rw [hpe] at hp;cases hp
     ·cases h
    ·cases h
   ·cases h
  ·rename_i ty l i o' he
   split at h
   ·rename_i v hv
    have main:∀{ow bx w} {a:Act},A0 ow bx w (.elt ty l i o') (a.eval x)→∃u,(execOp a.eval o).run P w = .ok (.value u) w∧A0 ow bx w v u∧
      ∃blk off c U fz,a.eval x = .pointer (some ⟨blk,off+i.toNat*ty.size+o',none⟩)∧w.heap[blk]? = some (.cells c U fz)∧
       Rep ow w ty (l.getD i.toNat ty.J7) ((c.toList.drop (off+i.toNat*ty.size)).take ty.size):=by
     intro ow bx w a hp;cases hpe:a.eval x with
     |pointer ad=>
      rw[hpe] at hp;cases hp with
      |elt h0 h1 hs hbk hc=>
       rename_i blk off c U fz;have hlt:i.toNat<l.length:=by omega
       have hgx:l.getD i.toNat ty.J7=l[i.toNat]'hlt:=by simp[Ej1,hlt]
       have hrep:=hc i.toNat _ (Eg5 hlt);rw[← hgx] at hrep;obtain⟨u,g1,g2,_⟩:=AK3 (P:=P) hOK (base:=off+i.toNat*ty.size) hv hbk (vs:=(c.toList.drop (off+i.toNat*ty.size)).take ty.size) (fun j v hj=>by
        rw[Eg1] at hj;split at hj
        ·rw[Eg8] at hj;exact z6 hj
        ·cases hj) (AE7 _ _ _ hrep)
       exact⟨u,AF0 ho hpe g1,g2,blk,off,c,U,fz,rfl,hbk,hrep⟩
     |_=>rw [hpe] at hp;cases hp
    have usual:q v none [] []=some r→Sound P id rd g A o q r:=fun h=>C5 h fun _ B ow bx nb bg w a hi hA hb=>by have hp:=hx hA;rw[he] at hp;obtain⟨u,h1,h2,_⟩:=main hp;exact⟨u,h1,h2⟩
    split at h
    ·rename_i t' ho' ht'
     split at h
     ·rename_i hteq
      subst hteq;refine C5 h fun _ B ow bx nb bg w a hi hA hb=> ?_
      have hp:=hx hA;rw[he] at hp;obtain⟨u,h1,h2,blk,off,c,U,fz,h3,h4,h5⟩:=main hp;refine⟨u,h1,?_⟩;have hz:o'=0:=Eg9 ho';subst hz;obtain⟨z1,z2⟩:=hOK.agg _ ht';have hlen:=V1 _ _ _ h5;by_cases hag:I6 d=true
      ·have hcs:=AE7 (bx:=bx) _ _ _ h5
       have hld:=BX8 (P:=P) (w:=w) (o:=off+i.toNat*ty.size) (n:=ty.size) (vs:=(c.toList.drop (off+i.toNat*ty.size)).take ty.size) h4 (fun j v hj=>by
        rw[Eg1] at hj;split at hj
        ·rw[Eg8] at hj;exact z6 hj
        ·cases hj) hlen.symm
       have hlv:(loadVar T ⟨blk,off+i.toNat*ty.size,none⟩).run P w = .ok (.agg ((c.toList.drop (off+i.toNat*ty.size)).take ty.size).toArray) w:=by unfold loadVar;rw[Eg3,hOK.isAgg,hag];simp only[Eh0,if_true,Eg3,hOK.sizeOf,← z1,hld,Ei2]
       have:=AF0 (o:=o) ho h3 hlv;rw[h1] at this;cases this;have hta:ty.isAgg=true:=z2.2 hag;refine .dat ?_;cases ty <;> simp only[Ty.isAgg] at hta <;> try cases hta
       all_goals exact⟨_,rfl,by simpa[Rep] using h5⟩
      ·have hna:ty.isAgg=false:=by
        cases hta:ty.isAgg with
        |false=>rfl
        |true=>exact absurd (z2.1 hta) hag
       have h1':ty.size=1:=by
        rw[z1];have hh:=hOK.how;unfold I6 at hag;cases hw:d.how with
        |scalar=>simp only[hw] at hh;exact hh.1
        |slice e s b=>simp only[hw] at hh;exact hh.1
        |struct fs=>simp [hw] at hag
        |array n e s=>simp [hw] at hag
       have hll:((c.toList.drop (off+i.toNat*ty.size)).take ty.size).length=1:=by rw[hlen,h1']
       obtain⟨u0,hu0⟩:=List.length_eq_one_iff.1 hll;rw[hu0] at h5;have hcell:c[off+i.toNat*ty.size]? = some u0:=by
        have:((c.toList.drop (off+i.toNat*ty.size)).take ty.size)[0]? = some u0:=by rw[hu0];rfl
        rw[Eg1] at this;split at this
        ·rw[Eg8] at this;exact z6 this
        ·cases this
       have hlv:(loadVar T ⟨blk,off+i.toNat*ty.size,none⟩).run P w = .ok u0 w:=by
        unfold loadVar;rw[Eg3,hOK.isAgg,show I6 d=false by simpa using hag]
        simp[AE8 h4,hcell]
       have:=AF0 (o:=o) ho h3 hlv;rw[h1] at this;cases this;refine .dat ?_;cases ty <;> simp only[Ty.isAgg] at hna <;> first | exact h5 | cases hna
     ·exact usual h
    ·exact usual h
   ·cases h
  ·rename_i ty l i o' s n m o2 he
   split at h
   ·rename_i dt hdt
    split at h
    ·rename_i ls hls
     refine C5 h fun _ B ow bx nb bg w a hi hA hb=> ?_
     have hp:=hx hA;rw[he] at hp;obtain⟨hln,hall⟩:=BH3 _ _ _ hls;cases hpe:a.eval x with
     |pointer ad=>
      rw[hpe] at hp;cases hp with
      |elx h0 h1 hs hbk hc m0 m1=>
       rename_i blk off c U fz;have hlt:i.toNat<l.length:=by omega
       have hgx:l.getD i.toNat ty.J7=l[i.toNat]'hlt:=by simp[Ej1,hlt]
       have hrep:=hc i.toNat _ (Eg5 hlt);rw[← hgx] at hrep;have hml:m.toNat<ls.length:=by omega
       obtain⟨e,k1,k2⟩:=hall m.toNat hml;obtain⟨u,g1,g2,_⟩:=AK3 (P:=P) hOK (base:=off+i.toNat*ty.size) k1 hbk (vs:=(c.toList.drop (off+i.toNat*ty.size)).take ty.size) (fun j v hj=>by
        rw[Eg1] at hj;split at hj
        ·rw[Eg8] at hj;exact z6 hj
        ·cases hj) (AE7 (bx:=bx) _ _ _ hrep)
       refine⟨u,AF0 ho hpe ?_,.dat ?_⟩
       ·have e:off+i.toNat*ty.size+o'+m.toNat*s+o2=off+i.toNat*ty.size+(o'+o2+m.toNat*s):=by
         generalize i.toNat*ty.size=p;generalize m.toNat*s=q;omega
        rw[e];exact g1
       ·have:ls.getD m.toNat dt.J7=ls[m.toNat]'hml:=by simp[Ej1,hml]
        rw[this];exact w9 k2 g2
     |_=>rw [hpe] at hp;cases hp
    ·cases h
   ·cases h
  ·rename_i e he
   split at h
   ·rename_i v hv
    refine C5 h fun _ B ow bx nb bg w a hi hA hb=> ?_
    have hp:=hx hA;rw[he] at hp;cases hpe:a.eval x with
    |pointer ad=>
     rw[hpe] at hp;cases hp with
     |cp hs hbk hcv h1 hq=>
      rename_i blk off c U fz u0;obtain⟨u,g1,g2,_⟩:=AK3 (P:=P) hOK (base:=off) hv hbk (vs:=[u0]) (fun i v h=>by
       cases i with
       |zero=>simp at h;subst h;exact hcv
       |succ i=>simp at h) (C3.one hq h1)
      rw[Ei3] at g1;exact⟨u,AF0 ho hpe g1,g2⟩
    |_=>rw [hpe] at hp;cases hp
   ·cases h
  ·unfold BW5 at h
   split at h
   ·rename_i es off he
    split at h
    ·rename_i v hv
     refine C5 h fun _ B ow bx nb bg w a hi hA hb=> ?_
     have hp:=hx hA;rw[he] at hp;cases hpe:a.eval x with
     |pointer ad=>
      rw[hpe] at hp;cases hp with
      |rp q1 hs hbk q2 q3=>
       rename_i blk c U fz;obtain⟨u,g1,g2,_⟩:=AK3 (P:=P) hOK (base:=0) hv hbk (vs:=c.toList.take es.length) (fun i v h=>by
        rw[Eh4];rw[Eg1] at h;split at h
        ·exact z6 h
        ·cases h) ⟨by simp;omega,fun i e v he hv=>by
        rw[Eg1] at hv;split at hv
        ·rename_i hlt
         exact⟨q2 i e v he (z6 hv),q3 i v hlt (z6 hv)⟩
        ·cases hv⟩
       rw[Eh4] at g1;exact⟨u,AF0 ho hpe g1,g2⟩
     |_=>rw [hpe] at hp;cases hp
    ·cases h
   ·cases h
 ·cases h
end

section
variable {ρ:Type}{P:Program}{Γ:Cx}{id:Nat}{rd:Nat→Option (List EV)}{g:Option Bool}{A:Operand→EV}{o:Oper}{q:EV→Option (List EV)→List Wr→List Nat→Option ρ}{r:ρ}
theorem BY3 {B:E5}{ow:Nat→A1}{bx:Bx}{nb:Nat}{bg:Nat→Option (List EV)}{w:World}{a:Act}{b off:Nat}{cs new:List EV}{nvs:List Value}(hi:Inv B ow bx nb bg w)
  (hb:bg b=some cs) (hn:C3 ow bx w new nvs) (hle:off+new.length≤cs.length)
  (h:∀c T,w.heap[bx b]? = some (.cells c T (0,0))→c.size=cs.length→C3 ow bx w cs c.toList→
   (execOp a.eval o).run P w = .ok .skip (w.setRow (bx b) (c.toList.take off++nvs++c.toList.drop (off+nvs.length)).toArray)):
  AC3 P B ow bx nb bg w a o id .undef none [⟨b,off,new⟩]:=by
 intro K Q hK;obtain⟨c,T,h1,h2,h3,h4,h5⟩:=hi.write hb hn hle;unfold Oper.wp;rw[h c T h1 h2 h3];exact hK _ _ _ _ h4 (.undef _) h5 rfl
theorem CP6 {c:Bool}:∀(xs ys zs:List EV),W2 c xs ys=some zs→zs.length=xs.length:=by
 intro xs
 induction xs with
 |nil=>intro ys zs h;simp only[W2] at h;cases h;rfl
 |cons x xs ih=>
  intro ys zs h;cases ys with
  |nil=>simp only[W2] at h;cases h
  |cons y ys=>
   simp only[W2] at h;split at h
   ·split at h
    ·rename_i hz
     cases h;simp[ih _ _ hz]
    ·cases h
   ·cases h
theorem CP7 {c:Bool}:∀(xs ys zs:List EV),W2 c xs ys=some zs→zs.length=xs.length∧xs.length≤ys.length:=by
 intro xs
 induction xs with
 |nil=>intro ys zs h;simp only[W2] at h;cases h;exact⟨rfl,Ei4 _⟩
 |cons x xs ih=>
  intro ys zs h;cases ys with
  |nil=>simp only[W2] at h;cases h
  |cons y ys=>
   simp only[W2] at h;split at h
   ·split at h
    ·rename_i hz
     cases h;have:=ih _ _ hz;simp[this]
    ·cases h
   ·cases h
theorem CP8 {ow:Nat→A1}{bx:Bx}{w:World}{c:Bool}:∀(xs ys zs:List EV) (us vs:List Value),W2 c xs ys=some zs→C3 ow bx w xs us→C3 ow bx w ys vs→xs.length=ys.length→
  C3 ow bx w zs (if c then us else vs):=by
 intro xs
 induction xs with
 |nil=>
  intro ys zs us vs h hx hy hl;simp only[W2] at h;cases h;have h1:us=[]:=by have:=hx.1;simpa using this.symm
  have h2:vs=[]:=by have:=hy.1;rw[← hl] at this;simpa using this.symm
  subst h1 h2;simp[C3.nil]
 |cons x xs ih=>
  intro ys zs us vs h hx hy hl;cases ys with
  |nil=>simp at hl
  |cons y ys=>
   simp only[W2] at h;split at h
   ·rename_i z hz
    split at h
    ·rename_i zs' hzs
     cases h;obtain⟨u,us',rfl,hu,hu1,hxs⟩:=hx.cons_inv;obtain⟨v,vs',rfl,hv,hv1,hys⟩:=hy.cons_inv;have hr:=ih _ _ _ _ hzs hxs hys (by simpa using hl)
     unfold BV7 at hz;split at hz
     ·split at hz
      ·rename_i t x' t' y' ht
       subst ht;cases hz;cases c with
       |true=>simp only[if_true,cond_true] at hr ⊢;exact (C3.one hu hu1).append hr
       |false=>simp only[Eh6,if_false,cond_false] at hr ⊢;exact (C3.one hv hv1).append hr
      ·cases hz
     ·cases hz
    ·cases h
   ·cases h
theorem CP9 {α:Type}{l new:List α}{off:Nat}(h:off+new.length≤l.length):(l.take off++new++l.drop (off+new.length)).length=l.length:=by simp;omega
theorem CQ0 {s:Nat}{i:Int}{new:List EV}:∀(n off j:Nat) (cs cs':List EV),AX4 cs off s i new j n=some cs'→cs'.length=cs.length:=by
 intro n
 induction n with
 |zero=>intro off j cs cs' h;cases h;rfl
 |succ n ih=>
  intro off j cs cs' h;simp only[AX4] at h;split at h
  ·rename_i m hm
   rw[ih _ _ _ _ h];have hml:=CP7 _ _ _ hm;simp only[M1,List.length_append,List.length_take,List.length_drop];simp at hml;omega
  ·cases h
theorem CQ1 {ow:Nat→A1}{bx:Bx}{w:World}{s:Nat}{i:Int}{new:List EV}{nvs:List Value}(hn:C3 ow bx w new nvs):∀(n off j:Nat) (cs cs':List EV) (vs:List Value),
  AX4 cs off s i new j n=some cs'→C3 ow bx w cs vs→(n=0∨off+(n-1)*s+new.length≤cs.length)→
  cs'.length=cs.length∧((j:Int)≤i→i<(j+n:Nat)→C3 ow bx w cs' (vs.take (off+(i.toNat-j)*s)++nvs++vs.drop (off+(i.toNat-j)*s+nvs.length)))∧
   (¬((j:Int)≤i∧i<(j+n:Nat))→C3 ow bx w cs' vs):=by
 intro n
 induction n with
 |zero=>intro off j cs cs' vs h hc _;cases h;exact⟨rfl,fun h1 h2=>absurd h1 (by omega),fun _=>hc⟩
 |succ n ih=>
  intro off j cs cs' vs h hc hle;have hle':off+n*s+new.length≤cs.length:=by simpa using hle
  have hoff:off+new.length≤cs.length:=by have:0≤n*s:=Ei4 _;omega
  simp only[AX4] at h;split at h
  ·rename_i m hm
   have hml:=CP6 _ _ _ hm;have hlen:(M1 cs off m).length=cs.length:=by
    have:=CP9 (l:=cs) (new:=m) (off:=off) (by rw[hml];exact hoff)
    simpa[M1] using this
   have hlv:cs.length=vs.length:=hc.1;have hln:new.length=nvs.length:=hn.1;have hseg:=(hc.drop off).take new.length;have hmr:=CP8 (c:=(i==(j:Int))) _ _ _ _ _ hm hn hseg (by simp;omega)
   have hnext:n=0∨off+s+(n-1)*s+new.length≤(M1 cs off m).length:=by
    cases n with
    |zero=>exact .inl rfl
    |succ k=>
     refine .inr ?_;rw[hlen];have:(k+1)*s=k*s+s:=Eh8 _ _;simp only[Nat.add_sub_cancel];omega
   by_cases hij:i=(j:Int)
   ·have hb:(i==(j:Int))=true:=by simp[hij]
    rw[hb] at hmr;simp only[if_true] at hmr;have hcs:=hc.M1 hmr off;obtain⟨g1,g2,g3⟩:=ih _ _ _ _ _ h hcs hnext;refine⟨by rw[g1,hlen],fun _ _=> ?_,fun hneg=>absurd ⟨by omega,by omega⟩ hneg⟩
    have:=g3 (by omega)
    rw[show i.toNat-j=0 by omega]
    simpa using this
   ·have hb:(i==(j:Int))=false:=by simp[hij]
    rw[hb] at hmr;simp only[Eh6,if_false] at hmr;have hcs:=hc.M1 hmr off;have hsame:vs.take off++(vs.drop off).take new.length++vs.drop (off+((vs.drop off).take new.length).length)=vs:=by
     have:((vs.drop off).take new.length).length=new.length:=by simp;omega
     rw[this,List.append_assoc];have e:(vs.drop off).take new.length++vs.drop (off+new.length)=vs.drop off:=by rw[← List.drop_drop];exact Ei6 _ _
     rw[e,Ei6]
    rw[hsame] at hcs;obtain⟨g1,g2,g3⟩:=ih _ _ _ _ _ h hcs hnext;refine⟨by rw[g1,hlen],fun h1 h2=> ?_,fun hneg=>g3 (by omega)⟩
    have:=g2 (by omega) (by omega)
    have e:off+s+(i.toNat-(j+1))*s=off+(i.toNat-j)*s:=by
     have:i.toNat-j=(i.toNat-(j+1))+1:=by omega
     rw[this,Eh8];omega
    rw[e] at this;exact this
  ·cases h
theorem BY4 {T:TypeId}{w:World}{b off n:Nat}{c:Array Value}{U:TypeId}{u:Value}(hs:(sizeOf T).run P w = .ok n w)(hn:u.cells.size=n)(hb:w.heap[b]? = some (.cells c U (0,0)))
  (hle:off+u.cells.size≤c.size) (h1:∀v∈u.cells.toList,v.oneCell'=true):
  (storeVar T ⟨b,off,none⟩ u).run P w = .ok () (w.setRow b (c.toList.take off++u.cells.toList++c.toList.drop (off+u.cells.toList.length)).toArray):=by
 have:=run_storeCells_at P b off U u.cells.toList 0 c w hb (by simpa using hle) h1
 unfold storeVar;simp only[Eg3,hs,Eh0,hn,ne_eq,not_true_eq_false,if_false];simpa using this
theorem C3.AZ0 {ow:Nat→A1}{bx:Bx}{w:World}{es:List EV}{vs:List Value}(h:C3 ow bx w es vs):∀v∈vs,v.oneCell'=true:=by intro v hv;obtain⟨i,hi⟩:=Ej0 hv;have hlt:i<vs.length:=(Ef9.1 hi).1;exact (h.2 i _ v (Eg5 (by rw[h.1];exact hlt)) hi).2
theorem CQ2 {T:TypeId}{x y:Operand}(hΓ:E3 P Γ)(ho:o.op = .store T x y)(h:opE Γ id rd g A (.store T x y) q=some r):Sound P id rd g A o q r:=by
 have hx:∀{ow bx w ev},F5 ow bx w A ev o.op→A0 ow bx w (A x) (ev x)∧A0 ow bx w (A y) (ev y):=by intro ow bx w ev hA;rw[ho] at hA;exact⟨I1 hA (by intros;simp) x (by simp[Op.operands]),I1 hA (by intros;simp) y (by simp[Op.operands])⟩
 simp only[opE] at h;obtain⟨rfl,h⟩:=BH2 h;split at h
 ·rename_i d hd
  have hOK:=hΓ.td T d hd;split at h
  ·rename_i new hnew
   split at h
   ·rename_i b off he
    split at h
    ·rename_i cs hcs
     split at h
     ·rename_i hck
      simp only[Eg0] at hck;have hl1:=Eg9 hck.1;have hl2:=Eg4 hck.2;refine⟨_,_,_,_,h,fun h=>(by cases h),fun x hx=>(by simp at hx;subst hx;exact⟨by simp,cs,hcs,by simp only;omega⟩),fun _ B ow bx nb bg w a hi hA hb hn=> ?_⟩
      obtain⟨hp,hv⟩:=hx hA;rw[he] at hp;have hnv:=Ah2 hnew hv;refine BY3 hi (by rw[hb b (by simp)];exact hcs) hnv (by omega) fun c U hc hcl hcr=> ?_
      cases hpe:a.eval x with
      |pointer ad=>
       rw[hpe] at hp;cases hp with
       |ptr hq=>
        have hsz:(a.eval y).cells.size=d.zero.length:=by have:=hnv.1;simp at this;omega
        have:=BY4 (P:=P) (T:=T) (hOK.sizeOf (w:=w)) hsz hc (off:=off) (by omega) hnv.AZ0
        unfold execOp;rw[ho];simp only[hpe,Instr.storeAt,Instr.sureAddr,Eg3,Ei2,Eh0,this]
      |_=>rw [hpe] at hp;cases hp
     ·cases h
    ·cases h
   ·rename_i b off s n i o' he
    split at h
    ·rename_i cs hcs
     split at h
     ·rename_i hck
      simp only[Eg0] at hck;have hl1:=Eg9 hck.1.1;have hl2:=Eg4 hck.1.2;have hl3:=Eg4 hck.2;split at h
      ·rename_i cs' hcs'
       refine⟨_,_,_,_,h,fun h=>(by cases h),fun x hx=>(by simp at hx;subst hx;exact⟨by simp,cs,hcs,by simp only[Eh4];rw[CQ0 _ _ _ _ _ hcs'];exact Nat.le_refl _⟩),fun _ B ow bx nb bg w a hi hA hb hn=> ?_⟩
       obtain⟨hp,hv⟩:=hx hA;rw[he] at hp;have hnv:=Ah2 hnew hv;have hbg:bg b=some cs:=by rw[hb b (by simp)];exact hcs
       obtain⟨hown,c,U,hc,hcr⟩:=hi.box b cs hbg;cases hpe:a.eval x with
       |pointer ad=>
        rw[hpe] at hp;cases hp with
        |pix hq h0 h1=>
         have hn0:0<n:=by omega
         have hns:(n-1)*s+s=n*s:=by
          have:n=(n-1)+1:=by omega
          rw[this,Eh8];simp
         have hix:=CQ1 hnv n (off+o') 0 cs cs' c.toList hcs' hcr (.inr (by omega))
         obtain⟨g1,g2,_⟩:=hix;have g2':=g2 (by omega) (by omega)
         have hiN:i.toNat*s+s≤n*s:=by
          have:i.toNat+1≤n:=by omega
          have:=Ei8 s this;rw[Eh8] at this;exact this
         have hsz:(a.eval y).cells.size=d.zero.length:=by have:=hnv.1;simp at this;omega
         have hcl:c.size=cs.length:=by have:=hcr.1;simpa using this.symm
         refine BY3 hi hbg g2' (by omega) fun c' U' hc' hcl' hcr'=> ?_
         rw[hc] at hc';cases hc';have:=BY4 (P:=P) (T:=T) (hOK.sizeOf (w:=w)) hsz hc (off:=off+i.toNat*s+o') (by omega) hnv.AZ0
         unfold execOp;rw[ho];simp only[hpe,Instr.storeAt,Instr.sureAddr,Eg3,Ei2,Eh0,this];congr 3;simp only[Nat.sub_zero];have e:off+o'+i.toNat*s=off+i.toNat*s+o':=by omega
         rw[e];simp
         omega
       |_=>rw [hpe] at hp;cases hp
      ·cases h
     ·cases h
    ·cases h
   ·cases h
  ·cases h
 ·cases h
theorem CQ3 {x:Operand}(ho:o.op = .nilCheck x)(h:opE Γ id rd g A (.nilCheck x) q=some r):Sound P id rd g A o q r:=by
 have hx:∀{ow bx w ev},F5 ow bx w A ev o.op→A0 ow bx w (A x) (ev x):=by intro ow bx w ev hA;rw[ho] at hA;exact I1 hA (by intros;simp) x (by simp[Op.operands])
 have run:∀{a:Act} {w:World} {ad:Addr},a.eval x = .pointer (some ad)→(execOp a.eval o).run P w = .ok (.value (.pointer (some ad))) w:=by intro a w ad he;unfold execOp;rw[ho];simp[he]
 simp only[opE] at h;split at h
 ·rename_i b off he
  refine C5 h fun _ B ow bx nb bg w a hi hA hb=> ?_
  have hp:=hx hA;rw[he] at hp;cases hpe:a.eval x with
  |pointer ad=>
   rw[hpe] at hp;cases hp with
   |ptr hq=>exact ⟨_,run hpe,.ptr hq⟩
  |_=>rw [hpe] at hp;cases hp
 ·rename_i b off s n i o' he
  refine C5 h fun _ B ow bx nb bg w a hi hA hb=> ?_
  have hp:=hx hA;rw[he] at hp;cases hpe:a.eval x with
  |pointer ad=>
   rw[hpe] at hp;cases hp with
   |pix hq h0 h1=>exact ⟨_,run hpe,.pix hq h0 h1⟩
  |_=>rw [hpe] at hp;cases hp
 ·rename_i t l i o' he
  refine C5 h fun _ B ow bx nb bg w a hi hA hb=> ?_
  have hp:=hx hA;rw[he] at hp;cases hpe:a.eval x with
  |pointer ad=>
   rw[hpe] at hp;cases hp with
   |elt h0 h1 hs hbk hc=>exact ⟨_,run hpe,.elt h0 h1 hs hbk hc⟩
  |_=>rw [hpe] at hp;cases hp
 ·rename_i t l i o' s n m o2 he
  refine C5 h fun _ B ow bx nb bg w a hi hA hb=> ?_
  have hp:=hx hA;rw[he] at hp;cases hpe:a.eval x with
  |pointer ad=>
   rw[hpe] at hp;cases hp with
   |elx h0 h1 hs hbk hc m0 m1=>exact ⟨_,run hpe,.elx h0 h1 hs hbk hc m0 m1⟩
  |_=>rw [hpe] at hp;cases hp
 ·rename_i k t l i o' he
  refine C5 h fun _ B ow bx nb bg w a hi hA hb=> ?_
  have hp:=hx hA;rw[he] at hp;cases hpe:a.eval x with
  |pointer ad=>
   rw[hpe] at hp;cases hp with
   |elo hbk h0 h1 h'=>exact ⟨_,run hpe,.elo hbk h0 h1 h'⟩
  |_=>rw [hpe] at hp;cases hp
 ·unfold BW4 at h
  split at h
  ·rename_i es off he
   refine C5 h fun _ B ow bx nb bg w a hi hA hb=> ?_
   have hp:=hx hA;rw[he] at hp;cases hpe:a.eval x with
   |pointer ad=>
    rw[hpe] at hp;cases hp with
    |rp q1 hs hbk q2 q3=>exact ⟨_,run hpe,.rp q1 hs hbk q2 q3⟩
   |_=>rw [hpe] at hp;cases hp
  ·cases h
theorem CQ4 {op:UnOp}{T:TypeId}{x:Operand}(ho:o.op = .unOp op T x)(h:opE Γ id rd g A (.unOp op T x) q=some r):Sound P id rd g A o q r:=by
 have hx:∀{ow bx w ev},F5 ow bx w A ev o.op→A0 ow bx w (A x) (ev x):=by intro ow bx w ev hA;rw[ho] at hA;exact I1 hA (by intros;simp) x (by simp[Op.operands])
 simp only[opE] at h;split at h
 ·rename_i b he
  refine C5 h fun _ B ow bx nb bg w a hi hA hb=> ?_
  have hp:=hx hA;rw[he] at hp;exact⟨.bool !b,by unfold execOp;rw[ho];simp[AY8 hp,Op.unary],V2⟩
 ·rename_i k n he
  refine C5 h fun _ B ow bx nb bg w a hi hA hb=> ?_
  have hp:=hx hA;rw[he] at hp;exact⟨_,by unfold execOp;rw[ho];simp[(P7 hp).1,Op.unary,Op.intArith];try rfl,P8 (X2 _ _)⟩
 ·rename_i k n he
  refine C5 h fun _ B ow bx nb bg w a hi hA hb=> ?_
  have hp:=hx hA;rw[he] at hp;exact⟨_,by unfold execOp;rw[ho];simp[(P7 hp).1,Op.unary,Op.intBits];try rfl,P8 (X2 _ _)⟩
 ·cases h
theorem CQ5 {x:Operand}{i:Nat}(ho:o.op = .extract x i)(h:opE Γ id rd g A (.extract x i) q=some r):Sound P id rd g A o q r:=by
 have hx:∀{ow bx w ev},F5 ow bx w A ev o.op→A0 ow bx w (A x) (ev x):=by intro ow bx w ev hA;rw[ho] at hA;exact I1 hA (by intros;simp) x (by simp[Op.operands])
 simp only[opE] at h;split at h
 ·rename_i vs he
  split at h
  ·rename_i v hv
   refine C5 h fun _ B ow bx nb bg w a hi hA hb=> ?_
   have hp:=hx hA;rw[he] at hp;generalize hpe:a.eval x=u at hp;cases hp with
   |tup h1 h2=>
    rename_i us;have hlt:i<us.size:=by rw[← h1];exact (Ef9.1 hv).1
    refine⟨us[i],?_,h2 i v _ hv (Eh5 hlt)⟩;unfold execOp;rw[ho];simp[hpe,Instr.extract,hlt]
  ·cases h
 ·cases h
end

section
variable {ρ:Type}{P:Program}{Γ:Cx}{id:Nat}{rd:Nat→Option (List EV)}{g:Option Bool}{A:Operand→EV}{o:Oper}{q:EV→Option (List EV)→List Wr→List Nat→Option ρ}{r:ρ}
theorem CQ6 {T:Nat}{d:TD}{i off size:Nat}{w:World}(hOK:AC2 P T d)(h:AJ3 d i=some (off,size)):
  (∃gs g gi,P.underlying T=some (.struct gs)∧gs[i]? = some g∧g.offset=off∧P.info? g.type=some gi∧gi.size=size)∨
  (∃n e gi,P.underlying T=some (.array n e)∧P.info? e=some gi∧gi.size=size∧off=i*size):=by
 have hh:=hOK.how;unfold AJ3 at h;cases hw:d.how with
 |struct fs=>
  simp only[hw] at hh h;obtain⟨gs,hu,hf1,hf2⟩:=hh;split at h
  ·rename_i ft off' size' hfs
   cases h;obtain⟨g,gi,g1,g2,g3,g4,g5⟩:=BX7 hf1 hf2 hfs;exact .inl ⟨gs,g,gi,hu,g1,g3,by rw[g2];exact g4,g5⟩
  ·cases h
 |array n e s=>
  simp only[hw] at hh h;cases h;obtain⟨hu,gi,g1,g2⟩:=hh;exact .inr ⟨n,e,gi,hu,g1,g2,rfl⟩
 |scalar=>simp [hw] at h
 |slice e s b=>simp [hw] at h
theorem CQ7 {T:TypeId}{x:Operand}{i:Nat}(hΓ:E3 P Γ)(ho:o.op = .fieldAddr T x i)(h:opE Γ id rd g A (.fieldAddr T x i) q=some r):Sound P id rd g A o q r:=by
 have hx:∀{ow bx w ev},F5 ow bx w A ev o.op→A0 ow bx w (A x) (ev x):=by intro ow bx w ev hA;rw[ho] at hA;exact I1 hA (by intros;simp) x (by simp[Op.operands])
 simp only[opE] at h;split at h
 ·rename_i d hd
  have hOK:=hΓ.td T d hd;split at h
  ·rename_i off size hpl
   split at h
   ·rename_i hsz
    have h1:=Eg4 hsz;have run:∀{a:Act} {w:World} {b n:Nat},(∃fs,d.how = .struct fs)→a.eval x = .pointer (some ⟨b,n,none⟩)→(execOp a.eval o).run P w = .ok (.value (.pointer (some ⟨b,n+off,none⟩))) w:=by
     intro a w b n hst he;rcases CQ6 (w:=w) hOK hpl with⟨gs,gg,gi,h2,h3,h4,h5,h6⟩|⟨n',e,gi,h2,_⟩
     ·unfold execOp
      rw[ho];have:¬gi.size=0:=by omega
      simp[he,Instr.fieldAt,underlying,h2,h3,Instr.sureAddr,fieldPlace,sizeOf,typeInfo,h5,this,Z3,h4]
     ·obtain⟨fs,hfs⟩:=hst
      have hh:=hOK.how;simp only[hfs] at hh;obtain⟨gs,hu,_⟩:=hh;rw[hu] at h2;cases h2
    have hst:(∃fs,d.how = .struct fs)∨(∃n e s,d.how = .array n e s):=by
     unfold AJ3 at hpl;cases hw:d.how with
     |struct fs=>exact .inl ⟨fs,rfl⟩
     |array n e s=>exact .inr ⟨n,e,s,rfl⟩
     |scalar=>simp [hw] at hpl
     |slice e s b=>simp [hw] at hpl
    have noarr:∀(a:Act) (w:World) (v:Value),True:=fun _ _ _=>trivial
    split at h
    ·rename_i hstr'
     have hstr:∃fs,d.how = .struct fs:=by
      unfold BW2 at hstr';split at hstr'
      ·rename_i fs hfs;exact⟨fs,hfs⟩
      ·cases hstr'
     split at h
     ·rename_i b n he
      refine C5 h fun _ B ow bx nb bg w a hi hA hb=> ?_
      have hp:=hx hA;rw[he] at hp;cases hpe:a.eval x with
      |pointer ad=>
       rw[hpe] at hp;cases hp with
       |ptr hq=>exact ⟨_,run hstr hpe,.ptr hq⟩
      |_=>rw [hpe] at hp;cases hp
     ·rename_i b o1 s n ix o' he
      refine C5 h fun _ B ow bx nb bg w a hi hA hb=> ?_
      have hp:=hx hA;rw[he] at hp;cases hpe:a.eval x with
      |pointer ad=>
       rw[hpe] at hp;cases hp with
       |pix hq h0 h1=>
        refine⟨_,run hstr hpe,?_⟩;rw[Eh3];exact .pix hq h0 h1
      |_=>rw [hpe] at hp;cases hp
     ·rename_i ty l ix o' he
      refine C5 h fun _ B ow bx nb bg w a hi hA hb=> ?_
      have hp:=hx hA;rw[he] at hp;cases hpe:a.eval x with
      |pointer ad=>
       rw[hpe] at hp;cases hp with
       |elt h0 h1 hs hbk hc=>
        refine⟨_,run hstr hpe,?_⟩;rw[Eh3];exact .elt h0 h1 hs hbk hc
      |_=>rw [hpe] at hp;cases hp
     ·rename_i ty l ix o' s n m o2 he
      refine C5 h fun _ B ow bx nb bg w a hi hA hb=> ?_
      have hp:=hx hA;rw[he] at hp;cases hpe:a.eval x with
      |pointer ad=>
       rw[hpe] at hp;cases hp with
       |elx h0 h1 hs hbk hc m0 m1=>
        refine⟨_,run hstr hpe,?_⟩;rw[Eh3];exact .elx h0 h1 hs hbk hc m0 m1
      |_=>rw [hpe] at hp;cases hp
     ·unfold BW3 at h
      split at h
      ·rename_i k ty l ix o' he
       refine C5 h fun _ B ow bx nb bg w a hi hA hb=> ?_
       have hp:=hx hA;rw[he] at hp;cases hpe:a.eval x with
       |pointer ad=>
        rw[hpe] at hp;cases hp with
        |elo hbk h0 h1 h'=>
         refine⟨_,run hstr hpe,?_⟩;rw[Eh3];exact .elo hbk h0 h1 h'
       |_=>rw [hpe] at hp;cases hp
      ·rename_i es o' he
       refine C5 h fun _ B ow bx nb bg w a hi hA hb=> ?_
       have hp:=hx hA;rw[he] at hp;cases hpe:a.eval x with
       |pointer ad=>
        rw[hpe] at hp;cases hp with
        |rp q1 hs hbk q2 q3=>exact ⟨_,run hstr hpe,.rp q1 hs hbk q2 q3⟩
       |_=>rw [hpe] at hp;cases hp
      ·cases h
    ·cases h
   ·cases h
  ·cases h
 ·cases h
theorem BY5 {T:Nat}{d:TD}{ow:Nat→A1}{bx:Bx}{w:World}(hOK:AC2 P T d){cs:List EV}{vs:Array Value}{off:Nat}{e:EV}(hr:W1 d cs off=some e)(hc:C3 ow bx w cs vs.toList):
  ∃u,(part T vs off).run P w = .ok u w∧A0 ow bx w e u:=by
 let w':World:={w with heap:=w.heap.push (.cells vs 0)}
 have hb:w'.heap[w.heap.size]? = some (.cells vs 0 (0,0)):=by simp[w']
 have hag:=hOK.isAgg (w:=w);have hsz:=hOK.sizeOf (w:=w);have hlen:cs.length=vs.size:=by have:=hc.1;simpa using this
 unfold W1 at hr;have single:I6 d=false→cs[off]? = some e→∃u,(part T vs off).run P w = .ok u w∧A0 ow bx w e u:=by
  intro ha he;have hlt:off<cs.length:=(Ef9.1 he).1;obtain⟨v,hv⟩:∃v,vs[off]? = some v:=⟨_,Eh5 (by omega)⟩
  refine⟨v,?_,(hc.2 off e v he (by simpa using hv)).1⟩
  unfold part;rw[Eg3,hag,ha];simp[hv]
 cases hd:d.how with
 |scalar=>simp only[hd] at hr;exact single (by unfold I6;rw[hd]) hr
 |slice e' s b'=>simp only[hd] at hr;exact single (by unfold I6;rw[hd]) hr
 |_=>
  simp only[hd] at hr;have ha:I6 d=true:=by unfold I6;rw[hd]
  split at hr
  ·cases hr
  ·rename_i hble
   have hle:=Eg4 hble;have hrun:(part T vs off).run P w = .ok (.agg (vs.extract off (off+d.zero.length))) w:=by unfold part;rw[Eg3,hag,ha];simp[hsz]
   have hex:(vs.extract off (off+d.zero.length)).toList=(vs.toList.drop off).take d.zero.length:=by simp
   have rowcase:∃u,(part T vs off).run P w = .ok u w∧A0 ow bx w (EV.row ((cs.drop off).take d.zero.length)) u:=by have hcs:=(hc.drop off).take d.zero.length;rw[← hex] at hcs;exact⟨_,hrun,.row (by have:=hcs.1;rwa [Array.length_toList] at this) (fun i e v he hv=>(hcs.2 i e v he (by rw[Array.getElem?_toList];exact hv)).1) (fun v hv=>hcs.AZ0 v (Array.mem_toList_iff.2 hv))⟩
   split at hr
   ·rename_i t ht
    split at hr
    ·rename_i x r hx
     cases hr;obtain⟨g1,g2,g3⟩:=AQ7 t _ _ _ _ hx (hc.drop off);obtain⟨e1,e2⟩:=hOK.agg t ht;refine⟨_,hrun,.dat ?_⟩;have hta:t.isAgg=true:=e2.2 (by rw[hd])
     rw[e1,← hex] at g1;cases t <;> simp only[Ty.isAgg] at hta <;> try cases hta
     all_goals exact⟨_,rfl,g1⟩
    ·cases hr;exact rowcase
   ·cases hr;exact rowcase
theorem CQ8 {T:TypeId}{x:Operand}{i:Nat}(hΓ:E3 P Γ)(ho:o.op = .field T x i)(h:opE Γ id rd g A (.field T x i) q=some r):Sound P id rd g A o q r:=by
 have hx:∀{ow bx w ev},F5 ow bx w A ev o.op→A0 ow bx w (A x) (ev x):=by intro ow bx w ev hA;rw[ho] at hA;exact I1 hA (by intros;simp) x (by simp[Op.operands])
 simp only[opE] at h;split at h
 ·rename_i c v he
  split at h
  ·rename_i d htd hd
   split at h
   ·rename_i fs hfs
    split at h
    ·rename_i ft off size hf
     split at h
     ·rename_i fd hfd
      split at h
      ·rename_i e hre
       refine C5 h fun _ B ow bx nb bg w a hi hA hb=> ?_
       have hp:=hx hA;rw[he] at hp;have hOK:=hΓ.td T d hd;have hh:=hOK.how;simp only[hfs] at hh;obtain⟨gs,hu,hgs1,hgs2⟩:=hh;obtain⟨gg,gi,g1,g2,g3,g4,g5⟩:=BX7 hgs1 hgs2 hf;generalize hpe:a.eval x=u at hp;cases hp with
       |dat hp=>
        obtain⟨cells,hcells,hrep⟩:=hp;obtain⟨u',h1,h2⟩:=BY5 (hΓ.td ft fd hfd) hre (AE7 (bx:=bx) _ _ _ hrep);refine⟨u',?_,h2⟩;unfold execOp;rw[ho];simp[hpe,hcells,Instr.field,underlying,hu,g1,asAgg,g2,g3,h1]
      ·cases h
     ·cases h
    ·cases h
   ·cases h
  ·cases h
 ·cases h
theorem CQ9 {fn:Fn}{fst cap:Array Operand}(ho:o.op = .makeFunc fn fst cap)(h:opE Γ id rd g A (.makeFunc fn fst cap) q=some r):Sound P id rd g A o q r:=by
 simp only[opE] at h;split at h
 ·rename_i f
  refine C5 h fun _ B ow bx nb bg w a hi hA hb=> ?_
  rw[ho] at hA;have hall:=I1 hA (by intros;simp)
  refine⟨.func (.func f) (fst.map a.eval) (cap.map a.eval),?_,.clo (by simp) (by simp) (fun i e v he hv=> ?_) (fun i e v he hv=> ?_)⟩
  ·unfold execOp;rw[ho];simp[Instr.makeFunc]
  ·simp only[Ei1,Ej2,Ei5] at he hv
   obtain⟨y,hy,rfl⟩:=he;obtain⟨y',hy',rfl⟩:=hv;have:y'=y:=by
             have:fst.toList[i]? = some y':=by simpa using hy'
             rw[hy] at this;cases this;rfl
   subst this;exact hall y' (by simp only[Op.operands];exact Ej3.2 (.inl (Ei7 hy')))
  ·simp only[Ei1,Ej2,Ei5] at he hv
   obtain⟨y,hy,rfl⟩:=he;obtain⟨y',hy',rfl⟩:=hv;have:y'=y:=by
             have:cap.toList[i]? = some y':=by simpa using hy'
             rw[hy] at this;cases this;rfl
   subst this;exact hall y' (by simp only[Op.operands];exact Ej3.2 (.inr (Ei7 hy')))
 ·cases h
theorem AF1 {e:EV}{m:Int}(h:intOf e=some m):∃k,e = .dat (.int k) m:=by
 unfold intOf at h;split at h
 ·cases h;exact⟨_,rfl⟩
 ·cases h
theorem AZ1 {t:Nat}{ty:Ty}(hΓ:E3 P Γ)(h:W4 Γ t ty=true):∃d e s b gi,Γ.td t=some d∧d.how = .slice e s b∧P.underlying t=some (.slice e)∧P.info? e=some gi∧gi.size=ty.size:=by
 unfold W4 at h;split at h
 ·rename_i d hd
  split at h
  ·rename_i e s b hw
   obtain⟨ed,hed,hety⟩:=At1 h;have hh:=(hΓ.td t d hd).how;simp only[hw] at hh;obtain⟨_,hu,⟨gi,z,g1,g2,g3,g4⟩,_⟩:=hh;obtain⟨i,z',h1,h2,h3,_⟩:=(hΓ.td e ed hed).zero;rw[g1] at h1;cases h1;exact⟨d,e,s,b,gi,hd,hw,hu,g1,by rw[h3,((hΓ.td e ed hed).agg _ hety).1]⟩
  ·cases h
 ·cases h
theorem CR0 {e:EV}{k:Nat}{t:Ty}{l:List t.den}(h:e.raw = .own k t l):soft k=true:=by
 unfold EV.raw at h;split at h
 ·split at h
  ·rename_i hs;cases h;exact hs
  ·cases h
 ·rename_i hn;subst h;exact absurd rfl (hn _ _ _)
theorem BY6 {ow:Nat→A1}{w:World}{k:Nat}{t:Ty}{l:List t.den}{blk n cap:Nat}(hs:soft k=true)(h:Own ow w k t l (.slice (some ⟨blk,0,none⟩) n cap)):AY5 ow w k t l blk cap:=by
 rcases h with⟨h,_⟩|⟨blk',cap',c,fz,h1,h2,h3,h4,h5,h6,h7⟩
 ·cases h
 ·cases h1
  exact⟨by rw[h2];simp[H6,hs],c,fz,h3,h4,⟨h5,h6⟩,(h7 hs).2⟩
theorem BY7 {ow:Nat→A1}{bx:Bx}{w:World}{t:Ty}{es:List EV}{vs:List Value}(h:C3 ow bx w es vs):∀(n off:Nat) (l:List t.den),Ag1 t es off n=some l→
  l.length=n∧∀(j:Nat) x,l[j]? = some x→Rep ow w t x ((vs.drop (off+j*t.size)).take t.size)
 |0,off,l,hl=>by simp only[Ag1] at hl;cases hl;exact⟨rfl,fun j x hx=>by simp at hx⟩
 |n+1,off,l,hl=>by
  simp only[Ag1] at hl;split at hl
  ·rename_i v r hv
   split at hl
   ·rename_i l' hl'
    cases hl;obtain⟨g1,g2⟩:=BY7 h n _ l' hl';refine⟨by simp[g1],fun j x hx=> ?_⟩
    cases j with
    |zero=>
     simp at hx;subst hx;rw[Nat.zero_mul,Ei3];exact (AQ7 t _ _ _ _ hv (h.drop off)).1
    |succ j=>
     have:=g2 j x (by simpa using hx)
     rwa [show off+(j+1)*t.size=off+t.size+j*t.size by rw[Nat.add_mul,Nat.one_mul];omega]
   ·cases hl
  ·cases hl
theorem CR1 {T:TypeId}{x i:Operand}(hΓ:E3 P Γ)(ho:o.op = .indexAddr T x i)(h:opE Γ id rd g A (.indexAddr T x i) q=some r):Sound P id rd g A o q r:=by
 have hx:∀{ow bx w ev},F5 ow bx w A ev o.op→A0 ow bx w (A x) (ev x)∧A0 ow bx w (A i) (ev i):=by intro ow bx w ev hA;rw[ho] at hA;exact⟨I1 hA (by intros;simp) x (by simp[Op.operands]),I1 hA (by intros;simp) i (by simp[Op.operands])⟩
 simp only[opE] at h;split at h
 ·rename_i d hd
  have hOK:=hΓ.td T d hd;split at h
  ·rename_i n e s hw
   have hh:=hOK.how;simp only[hw] at hh;obtain⟨hu,gi,g1,g2⟩:=hh;have run:∀{a:Act} {w:World} {b off:Nat} {k:IntKind} {m:Int},a.eval x = .pointer (some ⟨b,off,none⟩)→a.eval i = .int k m→0≤m→m<(n:Int)→
     (execOp a.eval o).run P w = .ok (.value (.pointer (some ⟨b,off+m.toNat*s,none⟩))) w:=by
    intro a w b off k m he hei h0 h1;unfold execOp;rw[ho];simp[he,hei,Instr.indexAt,asIntOf,underlying,hu,Instr.sureAddr,h0,h1,sizeOf,typeInfo,g1,g2,Z3]
   split at h
   ·rename_i b off he
    split at h
    ·rename_i k m
     split at h
     ·rename_i hck
      simp only[Eg0,decide_eq_true_eq] at hck;refine C5 h fun _ B ow bx nb bg w a hi hA hb=> ?_
      have hp:=(hx hA).1;rw[he] at hp;cases hpe:a.eval x with
      |pointer ad=>
       rw[hpe] at hp;cases hp with
       |ptr hq=>exact ⟨_,run hpe rfl hck.1 hck.2,.ptr hq⟩
      |_=>rw [hpe] at hp;cases hp
     ·cases h
    ·split at h
     ·rename_i m hm
      obtain⟨h1,h2⟩:=O2 h;obtain⟨k,hk⟩:=AF1 hm;refine C5 h1 fun hg B ow bx nb bg w a hi hA hb=> ?_
      obtain⟨hp,hpi⟩:=hx hA;rw[he] at hp;rw[hk] at hpi;have hck:=h2 hg;simp only[Eg0,decide_eq_true_eq] at hck;cases hpe:a.eval x with
      |pointer ad=>
       rw[hpe] at hp;cases hp with
       |ptr hq=>exact ⟨_,run hpe (P7 hpi).1 hck.1 hck.2,.pix hq hck.1 hck.2⟩
      |_=>rw [hpe] at hp;cases hp
     ·cases h
   ·rename_i ty l ix o' he
    split at h
    ·rename_i k m
     split at h
     ·rename_i hck
      simp only[Eg0,decide_eq_true_eq] at hck;refine C5 h fun _ B ow bx nb bg w a hi hA hb=> ?_
      have hp:=(hx hA).1;rw[he] at hp;cases hpe:a.eval x with
      |pointer ad=>
       rw[hpe] at hp;cases hp with
       |elt h0 h1 hs hbk hc=>
        refine⟨_,run hpe rfl hck.1 hck.2,?_⟩;rw[Eh3];exact .elt h0 h1 hs hbk hc
      |_=>rw [hpe] at hp;cases hp
     ·cases h
    ·split at h
     ·rename_i m hm
      obtain⟨h1,h2⟩:=O2 h;obtain⟨k,hk⟩:=AF1 hm;refine C5 h1 fun hg B ow bx nb bg w a hi hA hb=> ?_
      obtain⟨hp,hpi⟩:=hx hA;rw[he] at hp;rw[hk] at hpi;have hck:=h2 hg;simp only[Eg0,decide_eq_true_eq] at hck;cases hpe:a.eval x with
      |pointer ad=>
       rw[hpe] at hp;cases hp with
       |elt h0 h1 hs hbk hc=>exact ⟨_,run hpe (P7 hpi).1 hck.1 hck.2,.elx h0 h1 hs hbk hc hck.1 hck.2⟩
      |_=>rw [hpe] at hp;cases hp
     ·cases h
   ·unfold BW6 at h
    split at h
    ·rename_i es off he
     split at h
     ·rename_i k m
      split at h
      ·rename_i hck
       simp only[Eg0,decide_eq_true_eq] at hck;refine C5 h fun _ B ow bx nb bg w a hi hA hb=> ?_
       have hp:=(hx hA).1;rw[he] at hp;cases hpe:a.eval x with
       |pointer ad=>
        rw[hpe] at hp;cases hp with
        |rp q1 hs hbk q2 q3=>exact ⟨_,run hpe rfl hck.1 hck.2,.rp q1 hs hbk q2 q3⟩
       |_=>rw [hpe] at hp;cases hp
      ·cases h
     ·split at h
      ·rename_i m hm
       split at h
       ·rename_i ed hed
        split at h
        ·rename_i ty hty
         split at h
         ·rename_i l hl hsz
          obtain⟨h1,h2⟩:=O2 h;obtain⟨k,hk⟩:=AF1 hm;refine C5 h1 fun hg B ow bx nb bg w a hi hA hb=> ?_
          obtain⟨hp,hpi⟩:=hx hA;rw[he] at hp;rw[hk] at hpi;have hck:=h2 hg;simp only[Eg0,decide_eq_true_eq] at hck;rw[Eg0] at hsz;have hs1:=Eg9 hsz.1;have hs2:=Eg4 hsz.2;cases hpe:a.eval x with
          |pointer ad=>
           rw[hpe] at hp;cases hp with
           |rp q1 hs hbk q2 q3=>
            rename_i blk c U fz;have hrc:C3 ow bx w es (c.toList.take es.length):=⟨by simp;omega,fun i e v he hv=>by
             rw[Eg1] at hv;split at hv
             ·rename_i hlt
              have hv':c[i]? = some v:=by simpa using hv
              exact⟨q2 i e v he hv',q3 i v hlt hv'⟩
             ·cases hv⟩
            obtain⟨hln,hel⟩:=BY7 hrc _ _ _ hl;have:=A0.elt (ow:=ow) (bx:=bx) (w:=w) (t:=ty) (l:=l) (i:=m) (o:=0) (blk:=blk) (off:=off) hck.1 (by rw[hln];exact hck.2) (BG7 hs (by rw[hln,hs1];exact hs2)) hbk (fun j y hy=>by
             have hj:j<l.length:=(Ef9.1 hy).1;have:=hel j y hy
             rwa [List.drop_take,List.take_take,Nat.min_eq_left (by
              have:=T4 (s:=ty.size) (off:=off) (show j<n by omega)
              rw[hs1] at this ⊢;omega)] at this)
            refine⟨_,run hpe (P7 hpi).1 hck.1 hck.2,?_⟩
            rwa [hs1,Ei3] at this
          |_=>rw [hpe] at hp;cases hp
         ·cases h
        ·cases h
       ·cases h
      ·cases h
    ·rename_i k0 ty l ix o' he
     split at h
     ·rename_i k m
      split at h
      ·rename_i hck
       simp only[Eg0,decide_eq_true_eq] at hck;refine C5 h fun _ B ow bx nb bg w a hi hA hb=> ?_
       have hp:=(hx hA).1;rw[he] at hp;cases hpe:a.eval x with
       |pointer ad=>
        rw[hpe] at hp;cases hp with
        |elo hbk h0 h1 h'=>
         refine⟨_,run hpe rfl hck.1 hck.2,?_⟩;rw[Eh3];exact .elo hbk h0 h1 h'
       |_=>rw [hpe] at hp;cases hp
      ·cases h
     ·cases h
    ·cases h
  ·rename_i e s b hw
   have main:∀{ty:Ty} {a:Act} {w:World} {len cap:Nat} {ad:Option Addr} {k:IntKind} {m:Int} {blk off:Nat},W4 Γ T ty=true→a.eval x = .slice ad len cap→a.eval i = .int k m→0≤m→m<(len:Int)→ad=some ⟨blk,off,none⟩→
     (execOp a.eval o).run P w = .ok (.value (.pointer (some ⟨blk,off+m.toNat*ty.size,none⟩))) w:=by
    intro ty a w len cap ad k m blk off hs he hei h0 h1 had;obtain⟨d',e',s',b',gi,hd',hw',hu,g1,g2⟩:=AZ1 hΓ hs;unfold execOp;rw[ho];simp[he,hei,Instr.indexAt,asIntOf,underlying,hu,had,h0,h1,sizeOf,typeInfo,g1,g2,Z3]
   split at h
   ·rename_i ty l he
    split at h
    ·rename_i m hm hs
     obtain⟨h1,h2⟩:=O2 h;obtain⟨k,hk⟩:=AF1 hm;refine C5 h1 fun hg B ow bx nb bg w a hi hA hb=> ?_
     obtain⟨hp,hpi⟩:=hx hA
     replace hp:=AY6 hp
     rw[he] at hp;rw[hk] at hpi;have hck:=h2 hg;simp only[Eg0,decide_eq_true_eq] at hck;generalize hpe:a.eval x=u at hp;cases hp with
     |dat hp=>
      obtain⟨ad,cap,h3,h4,h5⟩:=hp;have hne:l≠[]:=by intro e;subst e;simp at hck;omega
      obtain⟨blk,off,c,U,fz,k1,k2,k3,k4⟩:=h5 hne;simp only[List.cons.injEq,and_true] at h3;refine⟨_,main hs (by rw[hpe,h3]) (P7 hpi).1 hck.1 hck.2 k1,?_⟩
      have:=A0.elt (ow:=ow) (bx:=bx) (w:=w) (t:=ty) (l:=l) (i:=m) (o:=0) hck.1 hck.2 k2 k3 k4
      rwa [Ei3] at this
    ·cases h
   ·rename_i k0 ty l he
    have hsf:=CR0 he;split at h
    ·rename_i m hm hs
     obtain⟨h1,h2⟩:=O2 h;obtain⟨k,hk⟩:=AF1 hm;refine C5 h1 fun hg B ow bx nb bg w a hi hA hb=> ?_
     obtain⟨hp,hpi⟩:=hx hA
     replace hp:=AY6 hp
     rw[he] at hp;rw[hk] at hpi;have hck:=h2 hg;simp only[Eg0,decide_eq_true_eq] at hck;generalize hpe:a.eval x=u at hp;cases hp with
     |own _ h' hh=>
      rcases hh hsf with⟨_,_,h0⟩|⟨blk,cap,q1,q2,q3,q4⟩
      ·omega
      ·subst q2
       refine⟨_,main hs hpe (P7 hpi).1 hck.1 hck.2 rfl,?_⟩;have:=A0.elo (ow:=ow) (bx:=bx) (w:=w) (t:=ty) (l:=l) (i:=m) (o:=0) q1 hck.1 hck.2 fun hd=>BY6 hsf (h' hd)
       rwa [Eh4]
    ·cases h
   ·rename_i es he
    split at h
    ·rename_i m hm
     split at h
     ·rename_i hck
      split at h
      ·rename_i e0 he0
       simp only[Eg0,decide_eq_true_eq] at hck;have hs1:=Eg9 hck.2;subst hs1;obtain⟨k,hk⟩:=AF1 hm;refine C5 h fun hg B ow bx nb bg w a hi hA hb=> ?_
       obtain⟨hp,hpi⟩:=hx hA
       replace hp:=AY6 hp
       rw[he] at hp;rw[hk] at hpi;generalize hpe:a.eval x=u at hp;cases hp with
       |sl q0 q1 qs qb q2 q3=>
        rename_i blk cap c U fz;have hh:=hOK.how;simp only[hw] at hh;obtain⟨_,hu,⟨gi,z,g1,g2,g3,g4⟩,_⟩:=hh;have hlt:m.toNat<es.length:=by omega
        refine⟨.pointer (some ⟨blk,m.toNat,none⟩),?_,?_⟩
        ·unfold execOp
         rw[ho];simp[hpe,(P7 hpi).1,Instr.indexAt,asIntOf,underlying,hu,hck.1.1,hck.1.2,sizeOf,typeInfo,g1,g2,Z3]
        ·obtain⟨v,hv⟩:∃v,c[m.toNat]? = some v:=⟨_,Eh5 (by omega)⟩
         exact .cp (BG7 qs (by omega)) qb hv (q3 _ v hlt hv) (q2 _ _ _ he0 hv)
      ·cases h
     ·cases h
    ·cases h
   ·cases h
  ·cases h
 ·cases h
end
end Go.Proofs.YthfjpkdadjemcaaGreat
