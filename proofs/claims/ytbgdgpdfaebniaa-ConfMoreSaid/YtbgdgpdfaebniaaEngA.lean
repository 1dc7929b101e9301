/- A functional reading of the code: types, abstract values, and the reading itself. No program in sight. -/
import Derived.Calls
import Derived.Orders
import Derived.KernelRfl
set_option linter.unusedSimpArgs false
set_option linter.unusedVariables false
namespace Go.Proofs.Ytbgdgpdfaebniaa
/-- The shapes of plain data. 'agg' is a struct or an array; its content is a row of pairs. -/
inductive Ty where
  | int (k : IntKind)
  | bool
  | str
  | unit
  | pair (a b : Ty)
  | slice (a : Ty)
  | agg (a : Ty)
  deriving DecidableEq
@[reducible] def Ty.den : Ty → Type
  | .int _ => Int
  | .bool => Bool
  | .str => ByteArray
  | .unit => Unit
  | .pair a b => a.den × b.den
  | .slice a => List a.den
  | .agg a => a.den
def Ty.dflt : (t : Ty) → t.den
  | .int _ => (0 : Int)
  | .bool => false
  | .str => ByteArray.empty
  | .unit => ()
  | .pair a b => (a.dflt, b.dflt)
  | .slice _ => []
  | .agg a => a.dflt
/-- How many cells. -/
def Ty.size : Ty → Nat
  | .unit => 0
  | .pair a b => a.size + b.size
  | .agg a => a.size
  | _ => 1
def Ty.isAgg : Ty → Bool
  | .agg _ => true
  | _ => false
/-- Abstract values. -/
inductive EV where
  | undef
  | dat (t : Ty) (v : t.den)
  | nil
  | own (k : Nat) (t : Ty) (l : List t.den)
  | ptr (b off : Nat)
  | pix (b off s n : Nat) (i : Int) (o : Nat)
  | elt (t : Ty) (l : List t.den) (i : Int) (o : Nat)
  | clo (f : Nat) (fst caps : List EV)
  /-- a slice of what is no data; a pointer to such a cell -/
  | sl (es : List EV)
  | cp (e : EV)
  | tup (vs : List EV)
  | row (cs : List EV)
def EV.to (t : Ty) : EV → Option t.den
  | .dat t' v => if h : t' = t then some (h ▸ v) else none
  | .nil => match t with
    | .slice _ => some []
    | _ => none
  | .own _ a l => match t with
    | .slice b => if h : a = b then some (h ▸ l) else none
    | _ => none
  | _ => none
/-- The cells of data. -/
def flat : (t : Ty) → t.den → List EV
  | .int k, n => [.dat (.int k) n]
  | .bool, b => [.dat .bool b]
  | .str, s => [.dat .str s]
  | .slice a, l => [.dat (.slice a) l]
  | .unit, _ => []
  | .pair a b, x => flat a x.1 ++ flat b x.2
  | .agg a, x => flat a x
/-- Data out of cells; what is left. -/
def asm : (t : Ty) → List EV → Option (t.den × List EV)
  | .int k, cs => match cs with
    | c :: r => match c.to (.int k) with
      | some v => some (v, r)
      | none => none
    | [] => none
  | .bool, cs => match cs with
    | c :: r => match c.to .bool with
      | some v => some (v, r)
      | none => none
    | [] => none
  | .str, cs => match cs with
    | c :: r => match c.to .str with
      | some v => some (v, r)
      | none => none
    | [] => none
  | .slice a, cs => match cs with
    | c :: r => match c.to (.slice a) with
      | some v => some (v, r)
      | none => none
    | [] => none
  | .unit, cs => some ((), cs)
  | .pair a b, cs => match asm a cs with
    | some (x, r) => match asm b r with
      | some (y, r') => some ((x, y), r')
      | none => none
    | none => none
  | .agg a, cs => asm a cs
/-- Data out of a value; a struct's may lie in its cells. -/
def EV.toA (t : Ty) (e : EV) : Option t.den := match t, e with
  | .agg a, .row cs => match asm (.agg a) cs with
    | some (v, []) => some v
    | _ => none
  | t, e => e.to t
/-- A cell that a struct's data would forget: a slice that may be appended to. -/
def EV.loose : EV → Bool
  | .nil => true
  | .own _ _ _ => true
  | _ => false
/-- The cells of a value that can be stored. -/
def EV.cells : EV → Option (List EV)
  | .dat t v => some (flat t v)
  | .row cs => some cs
  | .undef => none
  | .tup _ => none
  | x => some [x]
/-- A place of the state: (0, slot) or (box + 1, cell). -/
abbrev Pl := Nat × Nat
structure St where
  slots : List EV
  boxes : List (Option (List EV))
  jr : List Pl
/-- What is known of a type of the program: its data's shape, the cells of its zero value, how it is made. -/
inductive Mk where
  | scalar
  | struct (fs : List (Nat × Nat × Nat))
  | array (n e s : Nat)
  | slice (e s bytes : Nat)
structure TD where
  ty : Option Ty
  zero : List EV
  how : Mk
def aggD (d : TD) : Bool := match d.how with
  | .struct _ | .array _ _ _ => true
  | _ => false
/-- The pattern of a parameter, or of a cell that it points to. -/
inductive PT where
  | dat (t : Ty)
  | own (t : Ty)
  | ref (i off : Nat)
  | clo (f : Nat) (fst caps : List PT)
  | sl (ps : List PT)
/-- What is promised of a function: 'ins' are all data that it is given (its parameters', then its boxes'), 'outs' what it gives back. -/
structure Con where
  f : Nat
  ps : List PT
  boxes : List (List PT)
  ins : Ty
  nin : Nat
  outs : Ty
  /-- the results: data, or a slice that is the caller's own -/
  rs : List PT
  nout : Nat
  F : ins.den → Option outs.den
/-- What is promised of a function that makes one variable and hands out where it is: its data, and the new variable's. -/
structure NCon where
  f : Nat
  ps : List PT
  ins : Ty
  nin : Nat
  outs : Ty
  /-- the results: data, functions, places in the new variable (its number is 0) -/
  rs : List PT
  new : List PT
  nout : Nat
  F : ins.den → Option outs.den
structure Cx where
  td : Nat → Option TD
  cons : List Con
  news : List NCon
def tdGet (l : List (Nat × TD)) (t : Nat) : Option TD :=
  match l with
  | [] => none
  | (k, d) :: r => match Nat.beq k t with
    | true => some d
    | false => tdGet r t
def fits (k : IntKind) (n : Int) : Bool := match k with
  | .i8 => decide (-128 ≤ n) && decide (n ≤ 127)
  | .i16 => decide (-32768 ≤ n) && decide (n ≤ 32767)
  | .i32 => decide (-2147483648 ≤ n) && decide (n ≤ 2147483647)
  | .i64 => decide (-9223372036854775808 ≤ n) && decide (n ≤ 9223372036854775807)
  | .u8 => decide (0 ≤ n) && decide (n ≤ 255)
  | .u16 => decide (0 ≤ n) && decide (n ≤ 65535)
  | .u32 => decide (0 ≤ n) && decide (n ≤ 4294967295)
  | .u64 => decide (0 ≤ n) && decide (n ≤ 18446744073709551615)
def ofConst : Value → EV
  | .int k n => match fits k n with
    | true => .dat (.int k) n
    | false => .undef
  | .bool b => .dat .bool b
  | .string s => match Nat.ble s.size 1000000 with
    | true => .dat .str s
    | false => .undef
  | .slice none 0 0 => .nil
  | _ => .undef
/-- A check that is asked where it is needed. -/
def chk {ρ : Type} (g : Option Bool) (c : Bool) (k : Option ρ) : Option ρ :=
  match g with
  | none => bif c then k else none
  | some g => bif c || !g then k else none
def eqT : (t : Ty) → t.den → t.den → Bool
  | .int _, a, b => (a : Int) == b
  | .bool, a, b => (a : Bool) == b
  | .str, a, b => a.toList == b.toList
  | .unit, _, _ => true
  | .pair a b, x, y => eqT a x.1 y.1 && eqT b x.2 y.2
  | .slice _, _, _ => false
  | .agg a, x, y => eqT a x y
/-- Can two values be held against each other? (No slices, no two interface values.) -/
def Ty.plain : Ty → Bool
  | .slice _ => false
  | .pair a b => a.plain && b.plain
  | .agg a => a.plain
  | _ => true
def Ty.cmp : Ty → Bool
  | .bool => true
  | .agg a => a.plain
  | _ => false
def bits (k : IntKind) (op : BinOp) (x y : Int) : Int :=
  let a := BitVec.ofInt k.bits x
  let b := BitVec.ofInt k.bits y
  match op with
  | .and => k.wrap (a &&& b).toNat
  | .or => k.wrap (a ||| b).toNat
  | .xor => k.wrap (a ^^^ b).toNat
  | _ => k.wrap (a &&& ~~~b).toNat
/-- Two integers of one kind. -/
def intE {ρ : Type} (g : Option Bool) (op : BinOp) (k : IntKind) (x y : Int) (q : EV → Option ρ) : Option ρ :=
  match op with
  | .add => q (.dat (.int k) (k.wrap (x + y)))
  | .sub => q (.dat (.int k) (k.wrap (x - y)))
  | .mul => q (.dat (.int k) (k.wrap (x * y)))
  | .quo => chk g (!(y == 0)) (q (.dat (.int k) (k.wrap (x.tdiv y))))
  | .rem => chk g (!(y == 0)) (q (.dat (.int k) (x.tmod y)))
  | .and | .or | .xor | .andNot => q (.dat (.int k) (bits k op x y))
  | .eql => q (.dat .bool (x == y))
  | .neq => q (.dat .bool (x != y))
  | .lss => q (.dat .bool (decide (x < y)))
  | .leq => q (.dat .bool (decide (x ≤ y)))
  | .gtr => q (.dat .bool (decide (y < x)))
  | .geq => q (.dat .bool (decide (y ≤ x)))
  | .shl => chk g (decide (0 ≤ y)) (q (.dat (.int k) (k.wrap (x * 2 ^ (min y.toNat k.bits)))))
  | .shr => chk g (decide (0 ≤ y)) (q (.dat (.int k) (x.fdiv (2 ^ (min y.toNat k.bits)))))
def isShift : BinOp → Bool
  | .shl | .shr => true
  | _ => false
def tyIs (d : Option TD) (t : Ty) : Bool := match d with
  | some d => match d.ty with
    | some t' => decide (t' = t)
    | none => false
  | none => false
def binE {ρ : Type} (g : Option Bool) (d : Option TD) (op : BinOp) (x y : EV) (q : EV → Option ρ) : Option ρ :=
  match x, y with
  | .dat (.int k) a, .dat (.int k') b => if k = k' ∨ isShift op = true then intE g op k a b q else none
  | .dat .str a, .dat .str b => match op with
    | .add => chk g (decide (a.size + b.size ≤ 9223372036854775807)) (q (.dat .str (a ++ b)))
    | .eql => q (.dat .bool (a.toList == b.toList))
    | .neq => q (.dat .bool !(a.toList == b.toList))
    | _ => none
  | .dat t a, .dat t' b => if h : t' = t then (match t.cmp && tyIs d t with
    | true => match op with
      | .eql => q (.dat .bool (eqT t a (h ▸ b)))
      | .neq => q (.dat .bool !(eqT t a (h ▸ b)))
      | _ => none
    | false => none) else none
  | _, _ => none
/-- Data read at a cell of a row of cells. -/
def readAt (d : TD) (cs : List EV) (off : Nat) : Option EV :=
  match d.how with
  | .scalar | .slice .. => cs[off]?
  | _ => match Nat.ble (off + d.zero.length) cs.length with
    | false => none
    | true => match d.ty with
      | some t => match asm t (cs.drop off) with
        | some (v, _) => some (.dat t v)
        | none => some (.row ((cs.drop off).take d.zero.length))
      | none => some (.row ((cs.drop off).take d.zero.length))
def splice (cs : List EV) (off : Nat) (new : List EV) : List EV := cs.take off ++ new ++ cs.drop (off + new.length)
/-- The cells of the same place in each of n elements. -/
def sames (t : Ty) (d : TD) (cs : List EV) (off s : Nat) : Nat → Option (List t.den)
  | 0 => some []
  | n + 1 => match readAt d cs off with
    | some e => match e.to t with
      | some v => match sames t d cs (off + s) s n with
        | some l => some (v :: l)
        | none => none
      | none => none
    | none => none
def mergeEV (c : Bool) : EV → EV → Option EV
  | .dat t v, .dat t' v' => if h : t' = t then some (.dat t (bif c then v else h ▸ v')) else none
  | _, _ => none
def mergeRow (c : Bool) : List EV → List EV → Option (List EV)
  | [], _ => some []
  | x :: xs, y :: ys => match mergeEV c x y with
    | some z => match mergeRow c xs ys with
      | some zs => some (z :: zs)
      | none => none
    | none => none
  | _ :: _, [] => none
/-- A store at one of n elements, by a number that need not be known. -/
def storeIx (cs : List EV) (off s : Nat) (i : Int) (new : List EV) (j : Nat) : Nat → Option (List EV)
  | 0 => some cs
  | n + 1 => match mergeRow (i == (j : Int)) new ((cs.drop off).take new.length) with
    | some m => storeIx (splice cs off m) (off + s) s i new (j + 1) n
    | none => none
def packL : (t : Ty) → List EV → Option t.den
  | .unit, es => match es with
    | [] => some ()
    | _ => none
  | .pair a b, es => match es with
    | [] => none
    | [e] => e.to (.pair a b)
    | e :: r => match e.to a with
      | some x => match packL b r with
        | some y => some (x, y)
        | none => none
      | none => none
  | t, es => match es with
    | [e] => e.to t
    | _ => none
/-- A row of data, as so many pieces. -/
def unpackL : (t : Ty) → Nat → t.den → List EV
  | .pair a b, n + 2, x => .dat a x.1 :: unpackL b (n + 1) x.2
  | _, 0, _ => []
  | t, _ + 1, x => [.dat t x]
/-- Does a value mention a slice of the call's own? -/
def ownB : Nat → EV → Bool
  | 0, _ => true
  | n + 1, e => match e with
    | .own _ _ _ => true
    | .clo _ fst caps => fst.any (ownB n) || caps.any (ownB n)
    | .sl es => es.any (ownB n)
    | .cp e => ownB n e
    | .tup vs => vs.any (ownB n)
    | .row cs => cs.any (ownB n)
    | _ => false
def natIn (k : Nat) (l : List Nat) : Bool := l.any (Nat.beq k)
def BIG : Nat := 1000000000000
/-- Behind a region that appended: slices whose token was taken are data; new tokens get their old numbers. -/
def settle (dead : List Nat) (e : EV) : EV := match e with
  | .own k t l => match natIn k dead with
    | true => .dat (.slice t) l
    | false => .own (k % BIG) t l
  | e => match ownB 20 e with
    | true => .undef
    | false => e
def steady (dead : List Nat) (e : EV) : Bool := match e with
  | .own k _ _ => !natIn k dead && Nat.blt k BIG
  | e => !ownB 20 e
/-- Variable 0 under another number. -/
def ren : Nat → Nat → EV → EV
  | 0, _, _ => .undef
  | n + 1, k, e => match e with
    | .dat t v => .dat t v
    | .ptr b off => match b with
      | 0 => .ptr k off
      | _ + 1 => .undef
    | .clo f fst caps => .clo f (fst.map (ren n k)) (caps.map (ren n k))
    | .sl es => .sl (es.map (ren n k))
    | .tup es => .tup (es.map (ren n k))
    | _ => .undef
def EV.raw : EV → EV
  | .own _ t l => .dat (.slice t) l
  | x => x
end Go.Proofs.Ytbgdgpdfaebniaa
