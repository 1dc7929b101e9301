/- A functional reading of the code, second part: operations, regions, code. No program in sight. -/
import Derived.Test.YtbgdgpdfaebniaaEngA
set_option linter.unusedSimpArgs false
set_option linter.unusedVariables false
namespace Go.Proofs.Ytbgdgpdfaebniaa
def asgGet (l : List (Nat × Nat)) (i : Nat) : Option Nat :=
  match l with
  | [] => none
  | (k, b) :: r => match Nat.beq k i with
    | true => some b
    | false => asgGet r i
def hasB (l : List (Nat × Nat)) (b : Nat) : Bool :=
  match l with
  | [] => false
  | (_, c) :: r => Nat.beq c b || hasB r b
/-- Arguments (or a box's cells) against their patterns: the data among them, and which box is meant by which number. -/
def matchP : Nat → List PT → List EV → List (Nat × Nat) → Option (List EV × List (Nat × Nat))
  | 0, _, _, _ => none
  | _ + 1, [], [], asg => some ([], asg)
  | n + 1, .dat t :: ps, e :: es, asg => match e.toA t with
    | some v => match matchP n ps es asg with
      | some (l, a) => some (.dat t v :: l, a)
      | none => none
    | none => none
  | n + 1, .own t :: ps, e :: es, asg => match e.raw.to (.slice t) with
    | some v => match matchP n ps es asg with
      | some (l, a) => some (.dat (.slice t) v :: l, a)
      | none => none
    | none => none
  | n + 1, .ref i off :: ps, .ptr b off' :: es, asg => match Nat.beq off off' with
    | true => match asgGet asg i with
      | some b' => match Nat.beq b b' with
        | true => matchP n ps es asg
        | false => none
      | none => match hasB asg b with
        | true => none
        | false => matchP n ps es ((i, b) :: asg)
    | false => none
  | n + 1, .clo f pf pc :: ps, .clo f' fst caps :: es, asg => match Nat.beq f f' with
    | true => match matchP n pf fst asg with
      | some (l, a) => match matchP n pc caps a with
        | some (l', a') => match matchP n ps es a' with
          | some (l'', a'') => some (l ++ (l' ++ l''), a'')
          | none => none
        | none => none
      | none => none
    | false => none
  | n + 1, .sl pp :: ps, .sl es' :: es, asg => match matchP n pp es' asg with
    | some (l, a) => match matchP n ps es a with
      | some (l', a') => some (l ++ l', a')
      | none => none
    | none => none
  | _ + 1, _, _, _ => none
/-- The boxes, one behind the other: the data in their cells. -/
def matchB (rd : Nat → Option (List EV)) : Nat → List (List PT) → List (Nat × Nat) → Option (List EV × List (Nat × Nat))
  | _, [], asg => some ([], asg)
  | i, pts :: r, asg => match asgGet asg i with
    | some b => match rd b with
      | some cs => match matchP 200 pts cs asg with
        | some (l, a) => match matchB rd (i + 1) r a with
          | some (l', a') => some (l ++ l', a')
          | none => none
        | none => none
      | none => none
    | none => none
/-- A box's cells with new data. -/
def refill : List PT → List EV → List EV → Option (List EV × List EV)
  | [], [], new => some ([], new)
  | .dat _ :: ps, _ :: cs, n :: new => match refill ps cs new with
    | some (l, r) => some (n :: l, r)
    | none => none
  | .ref _ _ :: ps, c :: cs, new => match refill ps cs new with
    | some (l, r) => some (c :: l, r)
    | none => none
  | .clo _ _ _ :: ps, c :: cs, new => match refill ps cs new with
    | some (l, r) => some (c :: l, r)
    | none => none
  | _, _, _ => none
/-- What is written: into a box, from a cell on. -/
structure Wr where
  b : Nat
  off : Nat
  new : List EV
def refillB (rd : Nat → Option (List EV)) (asg : List (Nat × Nat)) : Nat → List (List PT) → List EV → Option (List Wr)
  | _, [], _ => some []
  | i, pts :: r, new => match asgGet asg i with
    | some b => match rd b with
      | some cs => match refill pts cs new with
        | some (l, rest) => match refillB rd asg (i + 1) r rest with
          | some ws => some (⟨b, 0, l⟩ :: ws)
          | none => none
        | none => none
      | none => none
    | none => none
def resEV (vs : List EV) : EV := match vs with
  | [v] => v
  | _ => .tup vs
/-- A pattern without slices of the call's own; 'deep': closures may be in it. -/
def ptPlain (deep : Bool) : Nat → List PT → Bool
  | 0, _ => false
  | _ + 1, [] => true
  | n + 1, .dat _ :: ps => ptPlain deep n ps
  | _ + 1, .own _ :: _ => false
  | n + 1, .ref _ _ :: ps => ptPlain deep n ps
  | n + 1, .clo _ a b :: ps => deep && ptPlain deep n a && ptPlain deep n b && ptPlain deep n ps
  | n + 1, .sl a :: ps => deep && ptPlain deep n a && ptPlain deep n ps
def ptDat : List PT → Bool
  | [] => true
  | .dat _ :: r => ptDat r
  | _ :: _ => false
def asgBelow (n : Nat) : List (Nat × Nat) → Bool
  | [] => true
  | (k, _) :: r => Nat.ble (k + 1) n && asgBelow n r
def conPlain (c : Con) (nin : Nat) (a : List (Nat × Nat)) : Bool :=
  ptPlain true 200 c.ps && c.boxes.all (ptPlain false 200) && c.boxes.all (fun p => Nat.ble (p.length + 1) 200) && ptDat c.rs && Nat.beq nin c.nin && asgBelow c.boxes.length a && Nat.ble c.rs.length c.nout
def conE {ρ : Type} (rd : Nat → Option (List EV)) (g : Option Bool) (c : Con) (args : List EV) (q : EV → Option (List EV) → List Wr → List Nat → Option ρ) : Option ρ :=
  match matchP 200 c.ps args [] with
  | none => none
  | some (l, a) => match matchB rd 0 c.boxes a with
    | none => none
    | some (l', a') => match conPlain c (l ++ l').length a', packL c.ins (l ++ l') with
      | false, _ => none
      | true, none => none
      | true, some x => match g with
        | none => (c.F x).bind fun y => match refillB rd a' 0 c.boxes ((unpackL c.outs c.nout y).drop c.rs.length) with
          | some ws => q (resEV ((unpackL c.outs c.nout y).take c.rs.length)) none ws (a'.map (·.2))
          | none => none
        | some b => match c.boxes with
          | [] => (bif b then c.F x else some c.outs.dflt).bind fun y => q (resEV ((unpackL c.outs c.nout y).take c.rs.length)) none [] []
          | _ => none
/-- The values that a call begins with: parameters (or a box's cells) out of the data that it is given. -/
def fillP : Nat → List PT → List EV → List EV × List EV
  | 0, _, d => ([], d)
  | _ + 1, [], d => ([], d)
  | n + 1, .dat _ :: ps, d => match d with
    | e :: d' => match fillP n ps d' with
      | (l, r) => (e :: l, r)
    | [] => ([], [])
  | n + 1, .own t :: ps, d => match d with
    | e :: d' => match fillP n ps d' with
      | (l, r) => ((match e with
        | .dat (.slice a) v => .own (1000 + d'.length) a v
        | _ => .undef) :: l, r)
    | [] => ([], [])
  | n + 1, .ref i off :: ps, d => match fillP n ps d with
    | (l, r) => (.ptr i off :: l, r)
  | n + 1, .clo f pf pc :: ps, d => match fillP n pf d with
    | (c, r) => match fillP n pc r with
      | (c', r') => match fillP n ps r' with
        | (l, r'') => (.clo f c c' :: l, r'')
  | n + 1, .sl pp :: ps, d => match fillP n pp d with
    | (c, r) => match fillP n ps r with
      | (l, r') => (.sl c :: l, r')
def fillB : List (List PT) → List EV → List (Option (List EV))
  | [], _ => []
  | pts :: r, d => match fillP 200 pts d with
    | (l, d') => some l :: fillB r d'
def NCon.res (c : NCon) (y : c.outs.den) : EV := resEV (fillP 200 c.rs (unpackL c.outs c.nout y)).1
def NCon.new1 (c : NCon) (y : c.outs.den) : List EV := (fillP 200 c.new (fillP 200 c.rs (unpackL c.outs c.nout y)).2).1
def nconPlain (c : NCon) (nin : Nat) (a : List (Nat × Nat)) : Bool := ptPlain true 200 c.ps && ptDat c.new && Nat.beq nin c.nin && (match a with
  | [] => true
  | _ => false)
def newE {ρ : Type} (nb : Nat) (g : Option Bool) (c : NCon) (args : List EV) (q : EV → Option (List EV) → List Wr → List Nat → Option ρ) : Option ρ :=
  match g with
  | some _ => none
  | none => match matchP 200 c.ps args [] with
    | some (l, a) => match nconPlain c l.length a, packL c.ins l with
      | true, some x => (c.F x).bind fun y => q (ren 20 nb (c.res y)) (some (c.new1 y)) [] []
      | _, _ => none
    | none => none
def newFind (f : Nat) : List NCon → Option NCon
  | [] => none
  | c :: r => match Nat.beq c.f f with
    | true => some c
    | false => newFind f r
def conFind (f : Nat) (ok : Con → Bool) : List Con → Option Con
  | [] => none
  | c :: r => match Nat.beq c.f f && ok c with
    | true => some c
    | false => conFind f ok r
def callE {ρ : Type} (Γ : Cx) (nb : Nat) (rd : Nat → Option (List EV)) (g : Option Bool) (f : Nat) (args : List EV) (q : EV → Option (List EV) → List Wr → List Nat → Option ρ) : Option ρ :=
  match conFind f (fun c => match matchP 200 c.ps args [] with | some _ => true | none => false) Γ.cons with
  | some c => conE rd g c args q
  | none => match newFind f Γ.news with
    | some c => newE nb g c args q
    | none => none
/-- The operand of a 'pick' that is taken. -/
def pickE (c a b : EV) : EV := match c, a, b with
  | .dat .bool c, .dat .bool a, .dat .bool b => .dat .bool (bif c then a else b)
  | _, _, _ => .undef
def intOf : EV → Option Int
  | .dat (.int _) n => some n
  | _ => none
def partsE (t : Ty) : List (Nat × EV) → Nat → Option (List t.den)
  | [], _ => some []
  | (i, e) :: r, k => match Nat.beq i k with
    | true => match e.toA t with
      | some v => match partsE t r (k + 1) with
        | some l => some (v :: l)
        | none => none
      | none => none
    | false => none
/-- Functions, one behind the other. -/
def closE : List (Nat × EV) → Nat → Option (List EV)
  | [], _ => some []
  | (i, e) :: r, k => match Nat.beq i k with
    | true => match e with
      | .clo f a b => match closE r (k + 1) with
        | some l => some (.clo f a b :: l)
        | none => none
      | _ => none
    | false => none
def fillE (place : Nat → Option (Nat × Nat)) (cs : List EV) : List (Nat × EV) → Option (List EV)
  | [] => some cs
  | (i, e) :: r => match place i with
    | some (off, size) => match e.cells with
      | some new => match Nat.beq new.length size && Nat.ble (off + size) cs.length with
        | true => fillE place (splice cs off new) r
        | false => none
      | none => none
    | none => none
def fieldPl (d : TD) (i : Nat) : Option (Nat × Nat) := match d.how with
  | .struct fs => match fs[i]? with
    | some (_, off, size) => some (off, size)
    | none => none
  | .array _ _ s => some (i * s, s)
  | _ => none
def minMax (mx : Bool) (k : IntKind) : Int → List EV → Option Int
  | x, [] => some x
  | x, .dat (.int k') y :: r => if k = k' then minMax mx k (match mx with | true => if y > x then y else x | false => if y < x then y else x) r else none
  | _, _ :: _ => none
def bytesOf (l : List Int) : ByteArray := ⟨(l.map fun n => UInt8.ofNat n.toNat).toArray⟩
def noGuard {ρ : Type} (g : Option Bool) (k : Option ρ) : Option ρ := match g with
  | none => k
  | some _ => none
def isStruct (d : TD) : Bool := match d.how with
  | .struct _ => true
  | _ => false
/-- Is it a type of slices, of such elements? -/
def sliceOf (Γ : Cx) (t : Nat) (ty : Ty) : Bool := match Γ.td t with
  | some d => match d.how with
    | .slice e _ _ => tyIs (Γ.td e) ty
    | _ => false
  | none => false
def isSliceT (Γ : Cx) (t : Nat) : Bool := match Γ.td t with
  | some d => match d.how with
    | .slice _ _ _ => true
    | _ => false
  | none => false
/-- One operation that touches no slice of its own. 'nb': the number that a new box gets; 'rd': the boxes; 'A': the operands; 'q' goes on with the value, a new box's cells, and what is written. -/
def opE {ρ : Type} (Γ : Cx) (nb : Nat) (rd : Nat → Option (List EV)) (g : Option Bool) (A : Operand → EV) (o : Op) (q : EV → Option (List EV) → List Wr → List Nat → Option ρ) : Option ρ :=
  match o with
  | .move x => q (A x) none [] []
  | .assign x => q (A x) none [] []
  | .pick c a b => match A c with
    | .dat .bool _ => q (pickE (A c) (A a) (A b)) none [] []
    | _ => none
  | .alloc t => noGuard g (match Γ.td t with
    | some d => q (.ptr nb 0) (some d.zero) [] []
    | none => none)
  | .box t x => noGuard g (match Γ.td t with
    | some d => match (A x).cells with
      | some cs => match Nat.beq cs.length d.zero.length with
        | true => q (.ptr nb 0) (some cs) [] []
        | false => none
      | none => none
    | none => none)
  | .build t ps => match Γ.td t with
    | some d => match aggD d with
      | true => match fillE (fieldPl d) d.zero (ps.toList.map fun p => (p.1, A p.2)) with
        | some cs => match cs.any EV.loose with
          | true => q (.row cs) none [] []
          | false => match d.ty with
            | some ty => match asm ty cs with
              | some (v, []) => q (.dat ty v) none [] []
              | _ => q (.row cs) none [] []
            | none => q (.row cs) none [] []
        | none => none
      | false => none
    | none => none
  | .buildSlice t n ps => match Γ.td t with
    | some d => match d.how with
      | .slice e _ _ => match Γ.td e with
        | some de => match de.ty with
          | some ty => match partsE ty (ps.toList.map fun p => (p.1, A p.2)) 0 with
            | some l => match Nat.beq l.length n && Nat.ble (n * de.zero.length) 100000 && Nat.ble n 100000 with
              | true => q (.dat (.slice ty) l) none [] []
              | false => none
            | none => none
          | none => match closE (ps.toList.map fun p => (p.1, A p.2)) 0 with
            | some l => match Nat.beq l.length n && Nat.beq de.zero.length 1 && Nat.ble n 100000 with
              | true => q (.sl l) none [] []
              | false => none
            | none => none
        | none => none
      | _ => none
    | none => none
  | .load t a => match Γ.td t with
    | some d => match A a with
      | .ptr b off => match rd b with
        | some cs => match readAt d cs off with
          | some v => q v none [] [b]
          | none => none
        | none => none
      | .pix b off s n i o => match rd b with
        | some cs => match d.ty with
          | some ty => match sames ty d cs (off + o) s n with
            | some l => q (.dat ty (l.getD i.toNat ty.dflt)) none [] [b]
            | none => none
          | none => none
        | none => none
      | .elt ty l i o => match readAt d (flat ty (l.getD i.toNat ty.dflt)) o with
        | some v => match Nat.beq o 0, d.ty with
          | true, some t' => if h : ty = t' then q (.dat ty (l.getD i.toNat ty.dflt)) none [] [] else q v none [] []
          | _, _ => q v none [] []
        | none => none
      | .cp e => match readAt d [e] 0 with
        | some v => q v none [] []
        | none => none
      | _ => none
    | none => none
  | .store t a x => noGuard g (match Γ.td t with
    | some d => match (A x).cells with
      | some new => match A a with
        | .ptr b off => match rd b with
          | some cs => match Nat.beq new.length d.zero.length && Nat.ble (off + d.zero.length) cs.length with
            | true => q .undef none [⟨b, off, new⟩] [b]
            | false => none
          | none => none
        | .pix b off s n i o => match rd b with
          | some cs => match Nat.beq new.length d.zero.length && Nat.ble (off + n * s) cs.length && Nat.ble (o + d.zero.length) s with
            | true => match storeIx cs (off + o) s i new 0 n with
              | some cs' => q .undef none [⟨b, 0, cs'⟩] [b]
              | none => none
            | false => none
          | none => none
        | _ => none
      | none => none
    | none => none)
  | .nilCheck x => match A x with
    | .ptr b off => q (.ptr b off) none [] []
    | .pix b off s n i o => q (.pix b off s n i o) none [] []
    | .elt t l i o => q (.elt t l i o) none [] []
    | _ => none
  | .binOp op T x y _ => binE g (Γ.td T) op (A x) (A y) fun v => q v none [] []
  | .unOp op _ x => match op, A x with
    | .not, .dat .bool b => q (.dat .bool !b) none [] []
    | .neg, .dat (.int k) n => q (.dat (.int k) (k.wrap (0 - n))) none [] []
    | .xor, .dat (.int k) n => q (.dat (.int k) (bits k .xor (if k.signed then -1 else k.max) n)) none [] []
    | _, _ => none
  | .convert s d x => match A x with
    | .dat (.int k) n => match Γ.td d, tyIs (Γ.td s) (.int k) with
      | some dd, true => match dd.ty with
        | some (.int k') => q (.dat (.int k') (k'.wrap n)) none [] []
        | _ => none
      | _, _ => none
    | _ => none
  | .makeFunc fn first captured => match fn with
    | .func f => q (.clo f (first.toList.map A) (captured.toList.map A)) none [] []
    | _ => none
  | .slice t x lo hi mx => match mx with
    | some _ => none
    | none => match (A x).raw with
      | .dat (.slice ty) l => match sliceOf Γ t ty with
        | false => none
        | true => match (match lo with | some y => intOf (A y) | none => some 0), (match hi with | some y => intOf (A y) | none => some (l.length : Int)) with
        | some a, some b => chk g (decide (0 ≤ a) && decide (a ≤ b) && decide (b ≤ (l.length : Int))) (q (.dat (.slice ty) ((l.take b.toNat).drop a.toNat)) none [] [])
        | _, _ => none
      | .dat .str s => match tyIs (Γ.td t) .str with
        | false => none
        | true => match (match lo with | some y => intOf (A y) | none => some 0), (match hi with | some y => intOf (A y) | none => some (s.size : Int)) with
        | some a, some b => chk g (decide (0 ≤ a) && decide (a ≤ b) && decide (b ≤ (s.size : Int))) (q (.dat .str (s.extract a.toNat b.toNat)) none [] [])
        | _, _ => none
      | _ => none
  | .fieldAddr t x i => match Γ.td t with
    | some d => match fieldPl d i with
      | some (off, size) => match Nat.ble 1 size with
        | true => match isStruct d with
          | true => match A x with
            | .ptr b o => q (.ptr b (o + off)) none [] []
            | .pix b o1 s n ix o => q (.pix b o1 s n ix (o + off)) none [] []
            | .elt ty l ix o => q (.elt ty l ix (o + off)) none [] []
            | _ => none
          | false => none
        | false => none
      | none => none
    | none => none
  | .field t x i => match A x with
    | .dat (.agg c) v => match tyIs (Γ.td t) (.agg c), Γ.td t with
      | true, some d => match d.how with
        | .struct fs => match fs[i]? with
          | some (ft, off, _) => match Γ.td ft with
            | some fd => match readAt fd (flat c v) off with
              | some e => q e none [] []
              | none => none
            | none => none
          | none => none
        | _ => none
      | _, _ => none
    | _ => none
  | .indexAddr t x i => match Γ.td t with
    | some d => match d.how with
      | .array n _ s => match A x with
        | .ptr b off => match i with
          | .const (.int _ m) => match decide (0 ≤ m) && decide (m < (n : Int)) with
            | true => q (.ptr b (off + m.toNat * s)) none [] []
            | false => none
          | _ => match intOf (A i) with
            | some m => chk g (decide (0 ≤ m) && decide (m < (n : Int))) (q (.pix b off s n m 0) none [] [])
            | none => none
        | _ => none
      | .slice _ es1 _ => match (A x).raw with
        | .dat (.slice ty) l => match intOf (A i), sliceOf Γ t ty with
          | some m, true => chk g (decide (0 ≤ m) && decide (m < (l.length : Int))) (q (.elt ty l m 0) none [] [])
          | _, _ => none
        | .sl es => match intOf (A i) with
          | some m => match decide (0 ≤ m) && decide (m < (es.length : Int)) && Nat.beq es1 1 with
            | true => match es[m.toNat]? with
              | some e => q (.cp e) none [] []
              | none => none
            | false => none
          | none => none
        | _ => none
      | _ => none
    | none => none
  | .index t x i => match A x with
    | .dat .str s => match intOf (A i), tyIs (Γ.td t) .str with
      | some m, true => chk g (decide (0 ≤ m) && decide (m < (s.size : Int))) (q (.dat (.int .u8) ((s[m.toNat]?.getD 0).toNat : Int)) none [] [])
      | _, _ => none
    | .dat (.agg c) v => match intOf (A i), Γ.td t with
      | some m, some d => match d.how with
        | .array n e s => match Γ.td e with
          | some ed => match ed.ty with
            | some ty => match sames ty ed (flat c v) 0 s n with
              | some l => chk g (decide (0 ≤ m) && decide (m < (n : Int))) (q (.dat ty (l.getD m.toNat ty.dflt)) none [] [])
              | none => none
            | none => none
          | none => none
        | _ => none
      | _, _ => none
    | _ => none
  | .extract x i => match A x with
    | .tup vs => match vs[i]? with
      | some v => q v none [] []
      | none => none
    | _ => none
  | .call c => match c.callee with
    | .builtin b => match b with
      | .len => match c.argTypes[0]? with
        | some at_ => match c.args.toList.map A with
          | [.dat .str s] => match tyIs (Γ.td at_) .str with
            | true => q (.dat (.int .i64) (s.size : Int)) none [] []
            | false => none
          | [.dat (.slice _) l] => match isSliceT Γ at_ with
            | true => q (.dat (.int .i64) (l.length : Int)) none [] []
            | false => none
          | [.own _ _ l] => match isSliceT Γ at_ with
            | true => q (.dat (.int .i64) (l.length : Int)) none [] []
            | false => none
          | [.nil] => match isSliceT Γ at_ with
            | true => q (.dat (.int .i64) (0 : Int)) none [] []
            | false => none
          | [.sl es] => match isSliceT Γ at_ with
            | true => q (.dat (.int .i64) (es.length : Int)) none [] []
            | false => none
          | _ => none
        | none => none
      | .max => match (c.args.toList.map A) with
        | .dat (.int k) x :: r => match minMax true k x r with
          | some m => q (.dat (.int k) m) none [] []
          | none => none
        | _ => none
      | .min => match (c.args.toList.map A) with
        | .dat (.int k) x :: r => match minMax false k x r with
          | some m => q (.dat (.int k) m) none [] []
          | none => none
        | _ => none
      | _ => none
    | .value f => match A f with
      | .clo f fst caps => callE Γ nb rd g f (fst ++ c.args.toList.map A ++ caps) q
      | _ => none
    | .invoke _ _ => none
  | _ => none
/-- What an operation of a region left: where, under which guards, what. -/
structure Rec where
  dst : Option Nat
  ch : List (Nat × Bool)
  val : EV
def recAt (rs : List Rec) (j : Nat) : EV := match rs[j]? with
  | some r => r.val
  | none => .undef
def boolAt (rs : List Rec) (j : Nat) : Bool := match recAt rs j with
  | .dat .bool b => b
  | _ => false
def chainB (rs : List Rec) : List (Nat × Bool) → Bool
  | [] => true
  | [(j, w)] => match w with
    | true => boolAt rs j
    | false => !boolAt rs j
  | (j, w) :: r => (match w with
    | true => boolAt rs j
    | false => !boolAt rs j) && chainB rs r
def inCh (p : Nat × Bool) : List (Nat × Bool) → Bool
  | [] => false
  | (j, w) :: r => (Nat.beq j p.1 && (w == p.2)) || inCh p r
def subCh : List (Nat × Bool) → List (Nat × Bool) → Bool
  | [], _ => true
  | p :: r, l => inCh p l && subCh r l
/-- The record that wrote a slot last, and its number. -/
def lastRec (rs : List Rec) (t : Nat) : Nat → Option (Nat × Rec)
  | 0 => none
  | n + 1 => match rs[n]? with
    | some r => match r.dst with
      | some d => match Nat.beq d t with
        | true => some (n, r)
        | false => lastRec rs t n
      | none => lastRec rs t n
    | none => lastRec rs t n
def lookE (base : List EV) (rs : List Rec) (ch : List (Nat × Bool)) (t : Nat) : EV := match lastRec rs t rs.length with
  | some (_, r) => match subCh r.ch ch with
    | true => r.val
    | false => .undef
  | none => match base[t]? with
    | some e => e
    | none => .undef
def opdE (base : List EV) (rs : List Rec) (ch : List (Nat × Bool)) : Operand → EV
  | .tmp t => lookE base rs ch t
  | .const v => ofConst v
  | .func f => .clo f [] []
  | .global _ => .undef
/-- The operands of an operation; those of a 'pick' hold only where they are taken. -/
def argE (base : List EV) (rs : List Rec) (ch : List (Nat × Bool)) (o : Op) : Operand → EV := match o with
  | .pick (.tmp c) a b => match lastRec rs c rs.length with
    | some (j, _) => fun x => match x with
      | .tmp t => match Nat.beq t c with
        | true => lookE base rs ch t
        | false => match a, b with
          | .tmp t', .const _ => match Nat.beq t t' with
            | true => lookE base rs ((j, true) :: ch) t
            | false => .undef
          | .const _, .tmp t' => match Nat.beq t t' with
            | true => lookE base rs ((j, false) :: ch) t
            | false => .undef
          | _, _ => .undef
      | x => opdE base rs ch x
    | none => opdE base rs ch
  | _ => opdE base rs ch
/-- The guards under which an operation comes; its guard's slot must still hold what that operation left. -/
def chainOf (rs : List Rec) (g : Option (Nat × Bool)) : Option (List (Nat × Bool)) := match g with
  | none => some []
  | some (j, w) => match rs[j]? with
    | some r => match r.dst, r.val with
      | some d, .dat .bool _ => match lastRec rs d rs.length with
        | some (j', _) => match Nat.beq j j' with
          | true => some ((j, w) :: r.ch)
          | false => none
        | none => none
      | _, _ => none
    | none => none
def dstOK (n : Nat) (d : Option Nat) : Bool := match d with
  | some d => Nat.ble (d + 1) n
  | none => true
def guardOf (rs : List Rec) (ch : List (Nat × Bool)) : Option Bool := match ch with
  | [] => none
  | _ => some (chainB rs ch)
def boxGet (bx : List (Option (List EV))) (b : Nat) : Option (List EV) := match bx[b]? with
  | some (some cs) => some cs
  | _ => none
def applyW (bx : List (Option (List EV))) (w : Wr) : List (Option (List EV)) := match boxGet bx w.b with
  | some cs => bx.set w.b (some (splice cs w.off w.new))
  | none => bx
def newB (bx : List (Option (List EV))) (n : Option (List EV)) : List (Option (List EV)) := match n with
  | some cs => bx ++ [some cs]
  | none => bx
def jrOf (w : Wr) : List Pl := (List.range w.new.length).map fun i => (w.b + 1, w.off + i)
structure Rg where
  rs : List Rec
  bx : List (Option (List EV))
  jr : List Pl
  /-- the tokens of the slices that were appended to -/
  dead : List Nat
  /-- for each operation: which boxes it looked into, or wrote; which it wrote -/
  tw : List (List Nat × List Nat)
def Rg.next (s : Rg) (r : Rec) (n : Option (List EV)) (ws : List Wr) (tr : List Nat) (k : Option Nat) : Rg :=
  ⟨s.rs ++ [r], newB (ws.foldl applyW s.bx) n, ws.foldl (fun j w => jrOf w ++ j) s.jr, (match k with
      | some k => k :: s.dead
      | none => s.dead),
    s.tw ++ [(tr, match n with
      | some _ => s.bx.length :: ws.map (·.b)
      | none => ws.map (·.b))]⟩
/-- Is an operation 'append' of two slices? -/
def isApp (o : Op) : Option (Operand × Operand × Nat) := match o with
  | .call c => match c.callee with
    | .builtin .append => match c.args.toList, c.argTypes.toList with
      | [x, y], [t, t'] => match Nat.beq t t' with
        | true => some (x, y, t)
        | false => none
      | _, _ => none
    | _ => none
  | _ => none
/-- What an 'append' reads: the elements' type, how many bytes one takes, its type's number. -/
def appT (Γ : Cx) (t : Nat) : Option (Ty × Nat × Nat) := match Γ.td t with
  | some d => match d.how with
    | .slice e _ bytes => match Γ.td e with
      | some de => match de.ty with
        | some ty => match Nat.ble 1 ty.size && Nat.ble 1 bytes with
          | true => some (ty, bytes, e)
          | false => none
        | none => none
      | none => none
    | _ => none
  | none => none
/-- The slice that is appended to: its token, what it holds. -/
def appO (ty : Ty) (e : Nat) (dst : Option Nat) (x : EV) : Option (Nat × List ty.den) := match x with
  | .nil => match dst with
    | some d => some (d * 100000 + e, [])
    | none => none
  | .own k ty' l => if h : ty' = ty then some (k, h ▸ l) else none
  | _ => none
def appOK (dead : List Nat) (k e : Nat) : Bool := Nat.beq (k % 100000) e && !natIn k dead
def appE {ρ : Type} (Γ : Cx) (dead : List Nat) (dst : Option Nat) (x y : EV) (t : Nat) (q : EV → Nat → Option ρ) : Option ρ :=
  match appT Γ t with
  | some (ty, bytes, e) => match appO ty e dst x, y.to (.slice ty) with
    | some (k, l), some l' => match appOK dead k e && Nat.blt e 100000 with
      | true => chk none (decide ((l.length + l'.length) * bytes ≤ 140737488355328)) (q (.own (k + BIG) ty (l ++ l')) k)
      | false => none
    | _, _ => none
  | none => none
/-- The operations of a region, in the order of the text. -/
def regE {ρ : Type} (Γ : Cx) (base : List EV) : List Oper → Rg → (Rg → Option ρ) → Option ρ
  | [], s, q => q s
  | o :: os, s, q => match chainOf s.rs o.guard, dstOK base.length o.dst with
    | some ch, true => match isApp o.op with
     | some (x, y, t) => match ch with
      | [] => appE Γ s.dead o.dst (argE base s.rs [] o.op x) (argE base s.rs [] o.op y) t fun v k => regE Γ base os (s.next ⟨o.dst, [], v⟩ none [] [] (some k)) q
      | _ => none
     | none =>
      opE Γ s.bx.length (boxGet s.bx) (guardOf s.rs ch) (argE base s.rs ch o.op) o.op fun v n ws tr =>
        regE Γ base os (s.next ⟨o.dst, ch, v⟩ n ws tr none) q
    | _, _ => none
def meets : List Nat → List Nat → Bool
  | [], _ => false
  | x :: r, l => l.any (Nat.beq x) || meets r l
/-- Two operations, the first one ahead in the text, that may come in either order. -/
def apartE (ops : Array Oper) (x y : Oper) (tx ty : List Nat × List Nat) : Bool :=
  x.apart ops y && !meets tx.2 ty.1 && !meets tx.2 ty.2 && !meets tx.1 ty.2
def drawRow (ops : Array Oper) (i : Nat) (x : Oper) (tx : List Nat × List Nat) : Nat → List Oper → List (List Nat × List Nat) → List Nat → Bool
  | j, y :: ys, ty :: tys, m :: ms => (m.testBit i || apartE ops x y tx ty) && drawRow ops i x tx (j + 1) ys tys ms
  | _, [], _, _ => true
  | _, _, _, _ => false
/-- May the operations come in any order that their edges allow? -/
def drawOK (ops : Array Oper) : Nat → List Oper → List (List Nat × List Nat) → List Nat → Bool
  | i, x :: xs, tx :: txs, _ :: ms => drawRow ops i x tx (i + 1) xs txs ms && drawOK ops (i + 1) xs txs ms
  | _, [], _, _ => true
  | _, _, _, _ => false
def backEdges (ops : List Oper) : Nat → Bool := fun i => match ops with
  | [] => true
  | o :: r => o.after.all (fun e => !Region.binds .any e || decide (e.on < i)) && backEdges r (i + 1)
def noSel : List Oper → Bool
  | [] => true
  | o :: r => (match o.op with | .select .. => false | _ => true) && noSel r
def recOut (r : Rec) : EV := match r.ch with
  | [] => r.val
  | _ => .undef
def setOut (r : Rec) (sl : List EV) : List EV := match r.dst with
  | some d => sl.set d (recOut r)
  | none => sl
def slotsOut : List Rec → List EV → List EV
  | [], sl => sl
  | r :: rs, sl => slotsOut rs (setOut r sl)
def slotJr : List Rec → List Pl
  | [] => []
  | r :: rs => match r.dst with
    | some d => (0, d) :: slotJr rs
    | none => slotJr rs
/-- Places of a row that do not stay as they are. -/
def unsteady (dead : List Nat) (b : Nat) : List EV → Nat → List Pl
  | [], _ => []
  | e :: es, i => match steady dead e with
    | true => unsteady dead b es (i + 1)
    | false => (b, i) :: unsteady dead b es (i + 1)
def unsteadyB (dead : List Nat) : List (Option (List EV)) → Nat → List Pl
  | [], _ => []
  | none :: r, b => unsteadyB dead r (b + 1)
  | some cs :: r, b => unsteady dead (b + 1) cs 0 ++ unsteadyB dead r (b + 1)
def settleS (dead : List Nat) (σ : St) : St := match dead with
  | [] => σ
  | _ => ⟨σ.slots.map (settle dead), σ.boxes.map (Option.map (List.map (settle dead))), unsteady dead 0 σ.slots 0 ++ unsteadyB dead σ.boxes 0 ++ σ.jr⟩
def Rg.out0 (s : Rg) (σ : St) : St := ⟨slotsOut s.rs σ.slots, s.bx, slotJr s.rs ++ s.jr⟩
def Rg.out (s : Rg) (σ : St) : St := settleS s.dead (s.out0 σ)
/-- How a piece of code is left. -/
inductive Ex where
  | normal
  | exit (id : Nat)
  | ret
  deriving DecidableEq
/-- A place with data (a slot, a whole box, a cell); 'own': its slice is the call's own, under that number. -/
inductive At where
  | slot (i : Nat)
  | box (b : Nat)
  | cell (b i : Nat)
structure It where
  at_ : At
  ty : Ty
  own : Option Nat
inductive Sp where
  | plain
  | join (drop : List Pl) (outs : List (Ex × List It))
  | loop (S : List It) (drop : List Pl) (outs : List (Ex × List It))
  | unroll (n : Nat)
inductive Hint where
  | mk (sp : Sp) (kids : List Hint)
def Hint.sp : Hint → Sp
  | .mk s _ => s
def Hint.kid : Hint → Nat → Hint
  | .mk _ ks, i => match ks[i]? with
    | some h => h
    | none => .mk .plain []
/-- A slice of the call's own, under a token (or nil): its data. -/
def ownGet (k : Nat) : EV → Option EV
  | .own k' t l => match Nat.beq k' k with
    | true => some (.dat (.slice t) l)
    | false => none
  | .nil => some .nil
  | _ => none
def viaOwn (o : Option Nat) (e : Option EV) : Option EV := match o with
  | none => e
  | some k => match e with
    | some e => ownGet k e
    | none => none
def itGet (σ : St) (t : It) : Option EV := match t.at_ with
  | .slot i => viaOwn t.own σ.slots[i]?
  | .box b => match boxGet σ.boxes b with
    | some cs => match asm t.ty cs with
      | some (v, []) => some (.dat t.ty v)
      | _ => none
    | none => none
  | .cell b i => match boxGet σ.boxes b with
    | some cs => viaOwn t.own cs[i]?
    | none => none
def itsGet (σ : St) : List It → Option (List EV)
  | [] => some []
  | t :: r => match itGet σ t with
    | some e => match itsGet σ r with
      | some l => some (e :: l)
      | none => none
    | none => none
def itsTy : List It → Ty
  | [] => .unit
  | [t] => t.ty
  | t :: r => .pair t.ty (itsTy r)
def reown (o : Option Nat) (v : EV) : EV := match o with
  | none => v
  | some k => match v with
    | .dat (.slice t) l => .own k t l
    | v => v
def itSet (σ : St) (t : It) (v : EV) : St := match t.at_ with
  | .slot i => { σ with slots := σ.slots.set i (reown t.own v) }
  | .box b => match boxGet σ.boxes b with
    | some _ => { σ with boxes := σ.boxes.set b v.cells }
    | none => σ
  | .cell b i => match boxGet σ.boxes b with
    | some cs => { σ with boxes := σ.boxes.set b (some (cs.set i (reown t.own v))) }
    | none => σ
def itsSet : List It → List EV → St → St
  | t :: r, v :: vs, σ => itsSet r vs (itSet σ t v)
  | _, _, σ => σ
def unset (σ : St) (p : Pl) : St := match p with
  | (0, i) => { σ with slots := σ.slots.set i .undef }
  | (b + 1, i) => match boxGet σ.boxes b with
    | some cs => { σ with boxes := σ.boxes.set b (some (cs.set i .undef)) }
    | none => σ
def unsets : List Pl → St → St
  | [], σ => σ
  | p :: r, σ => unsets r (unset σ p)
def itHas (p : Pl) (t : It) : Bool := match t.at_ with
  | .slot i => Nat.beq p.1 0 && Nat.beq p.2 i
  | .box b => Nat.beq p.1 (b + 1)
  | .cell b i => Nat.beq p.1 (b + 1) && Nat.beq p.2 i
def plIn (p : Pl) : List Pl → Bool
  | [] => false
  | x :: r => (Nat.beq x.1 p.1 && Nat.beq x.2 p.2) || plIn p r
def itsHas (p : Pl) : List It → Bool
  | [] => false
  | t :: r => itHas p t || itsHas p r
/-- Is all that was written among the places that are handed on, or dropped, or new? -/
def covered (nb : Nat) (its : List It) (drop : List Pl) : List Pl → Bool
  | [] => true
  | p :: r => (Nat.ble (nb + 1) p.1 || itsHas p its || plIn p drop) && covered nb its drop r
/-- The data of some places. -/
def pack (σ : St) (its : List It) : Option (itsTy its).den := match itsGet σ its with
  | some l => packL (itsTy its) l
  | none => none
def unpack (base : St) (its : List It) (drop : List Pl) (v : (itsTy its).den) : St :=
  itsSet its (unpackL (itsTy its) its.length v) (unsets drop base)
def outTy : List (Ex × List It) → Type
  | [] => Empty
  | [(_, its)] => (itsTy its).den
  | (_, its) :: r => (itsTy its).den ⊕ outTy r
def outPack (nb : Nat) (all : List Pl) (ex : Ex) (σ : St) : (outs : List (Ex × List It)) → Option (outTy outs)
  | [] => none
  | [(x, its)] => match decide (x = ex) && covered nb its all σ.jr with
    | true => pack σ its
    | false => none
  | (x, its) :: y :: r => match decide (x = ex) with
    | true => match covered nb its all σ.jr with
      | true => match pack σ its with
        | some v => some (.inl v)
        | none => none
      | false => none
    | false => match outPack nb all ex σ (y :: r) with
      | some v => some (.inr v)
      | none => none
def outUnpack {ρ : Type} (base : St) (all : List Pl) (k : Ex → St → Option ρ) : (outs : List (Ex × List It)) → outTy outs → Option ρ
  | [], v => Empty.elim v
  | [(x, its)], v => k x (unpack base its all v)
  | (x, its) :: y :: r, v => match v with
    | .inl a => k x (unpack base its all a)
    | .inr b => outUnpack base all k (y :: r) b
/-- A loop: rounds till one leaves. -/
def loopN {S X : Type} (f : S → Option (S ⊕ X)) : Nat → S → Option X
  | 0, _ => none
  | n + 1, s => match f s with
    | some (.inl s') => loopN f n s'
    | some (.inr x) => some x
    | none => none
open Classical in
noncomputable def loopO {S X : Type} (f : S → Option (S ⊕ X)) (s : S) : Option X :=
  if h : ∃ n, (loopN f n s).isSome = true then loopN f (Classical.choose h) s else none
def plsOf (its : List It) (bx : List (Option (List EV))) : List Pl := match its with
  | [] => []
  | t :: r => (match t.at_ with
    | .slot i => [(0, i)]
    | .box b => match boxGet bx b with
      | some cs => (List.range cs.length).map fun i => (b + 1, i)
      | none => []
    | .cell b i => [(b + 1, i)]) ++ plsOf r bx
def St.fresh (σ : St) : St := { σ with jr := [] }
/-- What is handed on of a state after a joined piece: its journal is that of the pieces handed on and dropped. -/
def St.after (τ σ : St) (js : List Pl) : St := { τ with jr := js ++ σ.jr }
/-- Rounds that are gone through one by one. -/
def unrollE {ρ : Type} (body : St → (Ex → St → Option ρ) → Option ρ) : Nat → St → (Ex → St → Option ρ) → Option ρ
  | 0, _, _ => none
  | n + 1, σ, k => body σ fun ex σ' => match ex with
    | .normal => unrollE body n σ' k
    | ex => k ex σ'
/-- A piece of code whose ways meet again behind it. -/
def joinE {ρ : Type} (sp : Sp) (σ : St) (k : Ex → St → Option ρ) (core : (ρ' : Type) → St → (Ex → St → Option ρ') → Option ρ') : Option ρ :=
  match sp with
  | .join drop outs =>
    (core (outTy outs) σ.fresh fun ex σ' => outPack σ.boxes.length drop ex σ' outs).bind fun x =>
      outUnpack σ.fresh drop (fun ex τ => k ex (τ.after σ (drop ++ outs.flatMap fun o => plsOf o.2 σ.boxes))) outs x
  | _ => core ρ σ k
noncomputable def loopE {ρ : Type} (sp : Sp) (σ : St) (k : Ex → St → Option ρ) (body : (ρ' : Type) → St → (Ex → St → Option ρ') → Option ρ') : Option ρ :=
  match sp with
  | .loop S drop outs =>
    match pack σ S with
    | none => none
    | some s₀ =>
      (loopO (S := (itsTy S).den) (X := outTy outs) (fun s => body ((itsTy S).den ⊕ outTy outs) (unpack σ.fresh S drop s) fun ex σ' => match ex with
        | .normal => match covered σ.boxes.length S drop σ'.jr with
          | true => match pack σ' S with
            | some v => some (.inl v)
            | none => none
          | false => none
        | ex => match outPack σ.boxes.length (plsOf S σ.boxes ++ drop) ex σ' outs with
          | some v => some (.inr v)
          | none => none) s₀).bind fun x =>
        outUnpack σ.fresh (plsOf S σ.boxes ++ drop) (fun ex τ => k ex (τ.after σ (plsOf S σ.boxes ++ drop ++ outs.flatMap fun o => plsOf o.2 σ.boxes))) outs x
  | .unroll n => unrollE (body ρ) n σ k
  | _ => none
/-- Code. -/
noncomputable def codeE (Γ : Cx) : Code → Hint → (ρ : Type) → St → (Ex → St → Option ρ) → Option ρ
  | .skip, _, _, σ, k => k .normal σ
  | .ret, _, _, σ, k => k .ret σ
  | .exit id, _, _, σ, k => k (.exit id) σ
  | .region _ ops draw, h, _, σ, k => match draw with
    | false => regE Γ σ.slots ops.toList ⟨[], σ.boxes, σ.jr, [], []⟩ fun s => k .normal (s.out σ)
    | true => match backEdges ops.toList 0 && noSel ops.toList with
      | true => regE Γ σ.slots ops.toList ⟨[], σ.boxes, σ.jr, [], []⟩ fun s => match drawOK ops 0 ops.toList s.tw (Region.before ops).toList with
        | true => k .normal (s.out σ)
        | false => none
      | false => none
  | .seq a b, h, ρ, σ, k => joinE h.sp σ k fun ρ' σ' k' => codeE Γ a (h.kid 0) ρ' σ' fun ex σ'' => match ex with
    | .normal => codeE Γ b (h.kid 1) ρ' σ'' k'
    | ex => k' ex σ''
  | .cond c a b, h, ρ, σ, k => joinE h.sp σ k fun ρ' σ' k' => match opdE σ'.slots [] [] c with
    | .dat .bool t => bif t then codeE Γ a (h.kid 0) ρ' σ' k' else codeE Γ b (h.kid 1) ρ' σ' k'
    | _ => none
  | .block id c, h, ρ, σ, k => joinE h.sp σ k fun ρ' σ' k' => codeE Γ c (h.kid 0) ρ' σ' fun ex σ'' => match ex with
    | .exit id' => match Nat.beq id' id with
      | true => k' .normal σ''
      | false => k' ex σ''
    | ex => k' ex σ''
  | .loop c, h, ρ, σ, k => loopE h.sp σ k fun ρ' σ' k' => codeE Γ c (h.kid 0) ρ' σ' k'
  | _, _, _, _, _ => none
def initE (c : Con) (n : Nat) (x : c.ins.den) : St := match fillP 200 c.ps (unpackL c.ins c.nin x) with
  | (l, d) => ⟨l ++ List.replicate (n - l.length) .undef, fillB c.boxes d, []⟩
def resE (Γ : Cx) (σ : St) : List ResultVar → Option (List EV)
  | [] => some []
  | .tmp t :: r => match σ.slots[t]? with
    | some e => match resE Γ σ r with
      | some l => some (e :: l)
      | none => none
    | none => none
  | .cell a t :: r => match σ.slots[a]? with
    | some (.ptr b off) => match boxGet σ.boxes b with
      | some cs => match Γ.td t with
        | some d => match readAt d cs off with
          | some e => match resE Γ σ r with
            | some l => some (e :: l)
            | none => none
          | none => none
        | none => none
      | none => none
    | _ => none
def sameAsg (n : Nat) : List (Nat × Nat) := (List.range n).map fun i => (i, i)
/-- May a function be promised by this pattern? -/
def conFin (c : Con) (nout nl : Nat) (a : List (Nat × Nat)) : Bool :=
  c.boxes.all (ptPlain false 200) && c.boxes.all (fun p => Nat.ble (p.length + 1) 200) && ptDat c.rs && Nat.beq nout c.nout && asgBelow c.boxes.length a && Nat.beq nl c.rs.length
def finE (Γ : Cx) (c : Con) (rv : List ResultVar) (σ : St) : Option c.outs.den := match resE Γ σ rv with
  | some vs => match matchP 200 c.rs vs (sameAsg c.boxes.length) with
    | some (l, _) => match matchB (boxGet σ.boxes) 0 c.boxes (sameAsg c.boxes.length) with
      | some (l', a) => match conFin c (l ++ l').length l.length a with
        | true => packL c.outs (l ++ l')
        | false => none
      | none => none
    | none => none
  | none => none
def nconFin (c : NCon) (nout : Nat) (a : List (Nat × Nat)) : Bool :=
  ptPlain true 200 c.rs && ptPlain false 200 c.new && Nat.beq nout c.nout && asgBelow 1 a
def finN (Γ : Cx) (c : NCon) (rv : List ResultVar) (σ : St) : Option c.outs.den := match resE Γ σ rv with
  | some vs => match matchP 200 c.rs vs [] with
    | some (l, a) => match asgGet a 0 with
      | some b => match boxGet σ.boxes b with
        | some cs => match matchP 200 c.new cs a with
          | some (l', a') => match nconFin c (l ++ l').length a' with
            | true => packL c.outs (l ++ l')
            | false => none
          | none => none
        | none => none
      | none => none
    | none => none
  | none => none
def initN (c : NCon) (n : Nat) (x : c.ins.den) : St := match fillP 200 c.ps (unpackL c.ins c.nin x) with
  | (l, _) => ⟨l ++ List.replicate (n - l.length) .undef, [], []⟩
noncomputable def runN (Γ : Cx) (c : NCon) (fn : Func) (h : Hint) (x : c.ins.den) : Option c.outs.den := match fn.body with
  | some code => codeE Γ code h c.outs.den (initN c fn.ntmps x) fun ex σ => match ex with
    | .exit _ => none
    | _ => finN Γ c fn.results.toList σ
  | none => none
/-- What a function gives back, read off its code. -/
noncomputable def runE (Γ : Cx) (c : Con) (fn : Func) (h : Hint) (x : c.ins.den) : Option c.outs.den := match fn.body with
  | some code => codeE Γ code h c.outs.den (initE c fn.ntmps x) fun ex σ => match ex with
    | .exit _ => none
    | _ => finE Γ c fn.results.toList σ
  | none => none
end Go.Proofs.Ytbgdgpdfaebniaa
