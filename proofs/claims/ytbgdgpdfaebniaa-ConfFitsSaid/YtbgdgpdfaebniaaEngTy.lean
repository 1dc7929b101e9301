/- The types' tables, by a check. No program in sight. -/
import Derived.Test.YtbgdgpdfaebniaaEngZ
set_option linter.unusedSimpArgs false
set_option linter.unusedVariables false
namespace Go.Proofs.Ytbgdgpdfaebniaa
def zero1 (e : EV) (v : Value) : Bool := match e with
  | .undef => v.oneCell'
  | .nil => match v with
    | .slice none 0 0 => true
    | _ => false
  | .dat (.int k) n => match v with
    | .int k' m => decide (k = k') && decide ((n : Int) = m) && fits k n
    | _ => false
  | .dat .bool b => match v with
    | .bool b' => (b : Bool) == b'
    | _ => false
  | .dat .str s => match v with
    | .string s' => Nat.beq s.size 0 && Nat.beq s'.size 0
    | _ => false
  | .dat (.slice _) l => match v with
    | .slice none 0 0 => l.isEmpty
    | _ => false
  | _ => false
def zeroB : List EV → List Value → Bool
  | [], [] => true
  | e :: es, v :: vs => zero1 e v && zeroB es vs
  | _, _ => false
def fsB (P : Program) : List Field → List (Nat × Nat × Nat) → Bool
  | [], [] => true
  | g :: gs, (ft, off, size) :: fs => Nat.beq g.type ft && Nat.beq g.offset off && (match P.info? g.type with
    | some i => Nat.beq i.size size
    | none => false) && fsB P gs fs
  | _, _ => false
def scalarB (u : TypeDesc) (ty : Option Ty) : Bool := match u with
  | .struct _ => false
  | .array _ _ => false
  | .int k => match ty with
    | some (.int k') => decide (k' = k)
    | some .str => false
    | some .bool => false
    | _ => true
  | .string => match ty with
    | some (.int _) => false
    | some .bool => false
    | _ => true
  | .bool => match ty with
    | some (.int _) => false
    | some .str => false
    | _ => true
  | _ => match ty with
    | some (.int _) => false
    | some .str => false
    | some .bool => false
    | _ => true
def notOne (ty : Option Ty) : Bool := match ty with
  | some (.int _) => false
  | some .str => false
  | some .bool => false
  | _ => true
def howB (P : Program) (T : Nat) (d : TD) : Bool := match d.how with
  | .scalar => Nat.beq d.zero.length 1 && (match P.underlying T with
    | some u => scalarB u d.ty
    | none => false)
  | .struct fs => match P.underlying T with
    | some (.struct gs) => fsB P gs.toList fs
    | _ => false
  | .array n e s => match P.underlying T with
    | some (.array n' e') => Nat.beq n n' && Nat.beq e e' && (match P.info? e with
      | some i => Nat.beq i.size s
      | none => false)
    | _ => false
  | .slice e s b => Nat.beq d.zero.length 1 && (match P.underlying T with
    | some (.slice e') => Nat.beq e e'
    | _ => false) && (match P.info? e with
    | some i => Nat.beq i.size s && Nat.beq i.bytes b && i.zero.isSome
    | none => false) && notOne d.ty
def isAggB (P : Program) (T : Nat) : Option Bool := match P.underlying T with
  | some (.struct _) => some true
  | some (.array _ _) => some true
  | some _ => some false
  | none => none
/-- Is a part of this type read as data of this shape? -/
def partB (P : Program) (T : Nat) (t : Ty) : Bool := (match isAggB P T with
  | some b => b == t.isAgg
  | none => false) && (match P.info? T with
  | some i => Nat.beq i.size t.size
  | none => false) && (match t with
  | .pair _ _ => false
  | .unit => false
  | _ => true)
def eqFs (P : Program) (ok : Nat → Ty → Bool) : List Field → Ty → Nat → Bool
  | [], .unit, _ => true
  | [f], t, off => (f.name != "_") && Nat.beq f.offset off && partB P f.type t && ok f.type t
  | f :: r, .pair a b, off => (f.name != "_") && Nat.beq f.offset off && partB P f.type a && ok f.type a && eqFs P ok r b (off + a.size)
  | _, _, _ => false
def eqIs (P : Program) (ok : Nat → Ty → Bool) (e s : Nat) : Nat → Ty → Bool
  | 0, .unit => true
  | 1, t => Nat.beq t.size s && partB P e t && ok e t
  | m + 2, .pair a b => Nat.beq a.size s && partB P e a && ok e a && eqIs P ok e s (m + 1) b
  | _, _ => false
def eqB (P : Program) : Nat → Nat → Ty → Bool
  | 0, _, _ => false
  | n + 1, T, t => match t with
    | .int k => match P.underlying T with
      | some (.int k') => decide (k = k')
      | _ => false
    | .bool => match P.underlying T with
      | some .bool => true
      | _ => false
    | .str => match P.underlying T with
      | some .string => true
      | _ => false
    | .agg t' => match P.underlying T with
      | some (.struct gs) => !P.stoodInHeld T && eqFs P (eqB P n) gs.toList t' 0
      | some (.array m e) => match P.info? e with
        | some i => eqIs P (eqB P n) e i.size m t'
        | none => false
      | _ => false
    | _ => false
def tyB (P : Program) (T : Nat) (d : TD) : Bool :=
  (match P.info? T with
    | some i => match i.zero with
      | some z => Nat.beq i.size d.zero.length && zeroB d.zero z.cells.toList
      | none => false
    | none => false) && howB P T d && (match d.ty with
    | some t => Nat.beq t.size d.zero.length && (t.isAgg == aggD d) && (match t.isAgg && t.plain with
      | true => !P.eqGuardType P.depth T && eqB P 20 T t
      | false => true)
    | none => true)
theorem zero1_rep {e : EV} {v : Value} (h : zero1 e v = true) {ow : Nat → Owner} {bx : Bx} {w : World} : RepEV ow bx w e v ∧ v.oneCell' = true := by
  cases e with
  | undef => exact ⟨.undef _, h⟩
  | nil =>
    simp only [zero1] at h
    split at h
    · exact ⟨.nil, rfl⟩
    · cases h
  | dat t x =>
    cases t with
    | int k =>
      simp only [zero1] at h
      split at h
      · simp only [Bool.and_eq_true, decide_eq_true_eq] at h
        obtain ⟨⟨rfl, h1⟩, h2⟩ := h
        subst h1
        exact ⟨.dat ⟨rfl, h2⟩, rfl⟩
      · cases h
    | bool =>
      simp only [zero1] at h
      split at h
      · rename_i b'
        have : x = b' := by simpa using h
        subst this
        exact ⟨.dat rfl, rfl⟩
      · cases h
    | str =>
      simp only [zero1] at h
      split at h
      · rename_i s'
        simp only [Bool.and_eq_true] at h
        have h1 := Nat.eq_of_beq_eq_true h.1
        have h2 := Nat.eq_of_beq_eq_true h.2
        have : x = s' := by
          obtain ⟨a⟩ := x
          obtain ⟨b⟩ := s'
          have ha : a = #[] := Array.eq_empty_of_size_eq_zero h1
          have hb : b = #[] := Array.eq_empty_of_size_eq_zero h2
          rw [ha, hb]
        subst this
        exact ⟨.dat ⟨rfl, by rw [h1]; omega⟩, rfl⟩
      · cases h
    | slice a =>
      simp only [zero1] at h
      split at h
      · have : x = [] := by simpa using h
        subst this
        exact ⟨.dat ⟨none, 0, rfl, ⟨by simp, by simp⟩, fun h => absurd rfl h⟩, rfl⟩
      · cases h
    | _ => simp [zero1] at h
  | _ => simp [zero1] at h
theorem zeroB_rep {ow : Nat → Owner} {bx : Bx} {w : World} : ∀ (es : List EV) (vs : List Value), zeroB es vs = true → RepCs ow bx w es vs
  | [], [], _ => ⟨rfl, fun i e v he => by simp at he⟩
  | e :: es, v :: vs, h => by
    simp only [zeroB, Bool.and_eq_true] at h
    obtain ⟨h1, h2⟩ := zeroB_rep (ow := ow) (bx := bx) (w := w) es vs h.2
    refine ⟨by simp [h1], fun i e' v' he hv => ?_⟩
    cases i with
    | zero => simp at he hv; subst he hv; exact zero1_rep h.1
    | succ i => exact h2 i e' v' (by simpa using he) (by simpa using hv)
  | [], v :: vs, h => by cases h
  | e :: es, [], h => by cases h
theorem fsB_spec {P : Program} : ∀ (gs : List Field) (fs : List (Nat × Nat × Nat)), fsB P gs fs = true →
    gs.mapM (fun f => (P.info? f.type).map fun i => (f.offset, i.size)) = some (fs.map (·.2)) ∧ gs.map (·.type) = fs.map (·.1)
  | [], [], _ => ⟨by simp, rfl⟩
  | g :: gs, (ft, off, size) :: fs, h => by
    simp only [fsB, Bool.and_eq_true] at h
    obtain ⟨⟨⟨h1, h2⟩, h3⟩, h4⟩ := h
    have h1 := Nat.eq_of_beq_eq_true h1
    have h2 := Nat.eq_of_beq_eq_true h2
    obtain ⟨k1, k2⟩ := fsB_spec gs fs h4
    split at h3
    · rename_i i hi
      have h3 := Nat.eq_of_beq_eq_true h3
      refine ⟨?_, by simp [h1, k2]⟩
      rw [List.mapM_cons]
      simp only [hi, Option.map_some, Option.bind_eq_bind, Option.bind_some]
      rw [k1]
      simp [h2, h3]
    · cases h3
  | [], _ :: _, h => by cases h
  | _ :: _, [], h => by cases h
section
variable {P : Program} {ow : Nat → Owner} {w : World}
theorem isAggB_run {T : Nat} {b : Bool} (h : isAggB P T = some b) : (isAgg T).run P w = .ok b w := by
  unfold isAggB at h
  unfold Go.isAgg underlying
  cases hu : P.underlying T with
  | none => rw [hu] at h; cases h
  | some u =>
    rw [hu] at h
    cases u <;> simp only [Option.some.injEq] at h <;> subst h <;> simp [hu]
/-- A part of a row, read. -/
theorem part_run {T : Nat} {t : Ty} {x : t.den} {xs : Array Value} {off : Nat} (hp : partB P T t = true) (h : Rep ow w t x ((xs.toList.drop off).take t.size)) : ∃ v, (part T xs off).run P w = .ok v w ∧ RepV ow w t x v := by
  simp only [partB, Bool.and_eq_true] at hp
  obtain ⟨⟨h1, h2⟩, h3⟩ := hp
  split at h1
  · rename_i b hb
    have hag := isAggB_run (w := w) hb
    have hbt : b = t.isAgg := by simpa using h1
    split at h2
    · rename_i i hi
      have h2 := Nat.eq_of_beq_eq_true h2
      have hlen := rep_length _ _ _ h
      unfold part
      rw [Sem.run_bind, hag]
      simp only [Result.andThen_ok]
      cases t with
      | agg a =>
        rw [hbt]
        simp only [Ty.isAgg, if_true, Sem.run_bind]
        have : (sizeOf T).run P w = .ok i.size w := by simp [Go.sizeOf, typeInfo, hi]
        rw [this]
        simp only [Result.andThen_ok, Sem.run_pure]
        refine ⟨_, rfl, _, rfl, ?_⟩
        rw [h2]
        have e : (xs.extract off (off + (Ty.agg a).size)).toList = (xs.toList.drop off).take (Ty.agg a).size := by
          simp [List.take_drop]
        rw [e]
        exact h
      | pair a b => cases h3
      | unit => cases h3
      | int k | bool | str | slice a =>
        rw [hbt]
        simp only [Ty.isAgg, Bool.false_eq_true, if_false]
        simp only [Ty.size] at h hlen
        have hl : off < xs.size := by simp at hlen; omega
        have e : (xs.toList.drop off).take 1 = [xs[off]] := by
          rw [List.drop_eq_getElem_cons (by simpa using hl)]
          simp
        rw [e] at h
        rw [Array.getElem?_eq_getElem hl]
        exact ⟨_, rfl, h⟩
    · cases h2
  · cases h1
theorem take_off {xs : List Value} {off n : Nat} {c₁ c₂ : List Value} (h : (xs.drop off).take n = c₁ ++ c₂) (hl : n = c₁.length + c₂.length) : (xs.drop off).take c₁.length = c₁ ∧ (xs.drop (off + c₁.length)).take c₂.length = c₂ := by
  constructor
  · have := congrArg (List.take c₁.length) h
    rw [List.take_take, List.take_left, Nat.min_eq_left (by omega)] at this
    exact this
  · have := congrArg (List.drop c₁.length) h
    rw [List.drop_left, List.drop_take, List.drop_drop] at this
    rw [show n - c₁.length = c₂.length by omega] at this
    exact this
theorem eqFs_run {ok : Nat → Ty → Bool} {d : Nat} (hok : ∀ T t, ok T t = true → ∀ (x y : t.den) vx vy, RepV ow w t x vx → RepV ow w t y vy → (Op.equalIn d T vx vy).run P w = .ok (eqT t x y) w) :
    ∀ (gs : List Field) (t : Ty) (off : Nat), eqFs P ok gs t off = true → ∀ (x y : t.den) (xs ys : Array Value), Rep ow w t x ((xs.toList.drop off).take t.size) → Rep ow w t y ((ys.toList.drop off).take t.size) →
      (Op.eqFields d xs ys gs).run P w = .ok (eqT t x y) w := by
  have one : ∀ (f : Field) (t : Ty) (off : Nat), f.name ≠ "_" → f.offset = off → partB P f.type t = true → ok f.type t = true → ∀ (gs : List Field) (x y : t.den) (xs ys : Array Value) (b : Bool), Rep ow w t x ((xs.toList.drop off).take t.size) → Rep ow w t y ((ys.toList.drop off).take t.size) →
      (Op.eqFields d xs ys gs).run P w = .ok b w → (Op.eqFields d xs ys (f :: gs)).run P w = .ok (eqT t x y && b) w := by
    intro f t off h1 h2 h3 h4 gs x y xs ys b hx hy hgs
    subst h2
    obtain ⟨vx, p1, p2⟩ := part_run h3 hx
    obtain ⟨vy, q1, q2⟩ := part_run h3 hy
    have := hok _ _ h4 x y vx vy p2 q2
    simp only [Op.eqFields, Sem.run_ite, if_pos h1, Sem.run_bind, p1, q1, this, Result.andThen_ok]
    cases eqT t x y with
    | false => simp
    | true => simp [hgs]
  intro gs
  induction gs with
  | nil =>
    intro t off h x y xs ys hx hy
    cases t with
    | unit => simp [Op.eqFields, eqT]
    | _ => simp [eqFs] at h
  | cons f r ih =>
    intro t off h x y xs ys hx hy
    cases r with
    | nil =>
      have h' : (f.name != "_") = true ∧ Nat.beq f.offset off = true ∧ partB P f.type t = true ∧ ok f.type t = true := by
        cases t <;> simpa [eqFs, Bool.and_eq_true, and_assoc] using h
      obtain ⟨h1, h2, h3, h4⟩ := h'
      have := one f t off (by simpa using h1) (Nat.eq_of_beq_eq_true h2) h3 h4 [] x y xs ys true hx hy (by simp [Op.eqFields])
      simpa using this
    | cons f2 r2 =>
      cases t with
      | pair a b =>
        simp only [eqFs, Bool.and_eq_true] at h
        obtain ⟨⟨⟨⟨h1, h2⟩, h3⟩, h4⟩, h5⟩ := h
        obtain ⟨c₁, c₂, e1, e2, e3⟩ := hx
        obtain ⟨d₁, d₂, g1, g2, g3⟩ := hy
        have l1 := rep_length _ _ _ e2
        have l2 := rep_length _ _ _ e3
        have m1 := rep_length _ _ _ g2
        have m2 := rep_length _ _ _ g3
        obtain ⟨k1, k2⟩ := take_off e1 (by simp [Ty.size, l1, l2])
        obtain ⟨k3, k4⟩ := take_off g1 (by simp [Ty.size, m1, m2])
        rw [l1] at k1 k2
        rw [l2] at k2
        rw [m1] at k3 k4
        rw [m2] at k4
        refine one f a off (by simpa using h1) (Nat.eq_of_beq_eq_true h2) h3 h4 (f2 :: r2) x.1 y.1 xs ys _ (by rw [k1]; exact e2) (by rw [k3]; exact g2) ?_
        exact ih b (off + a.size) h5 x.2 y.2 xs ys (by rw [k2]; exact e3) (by rw [k4]; exact g3)
      | _ => simp [eqFs] at h
theorem eqIs_run {ok : Nat → Ty → Bool} {d e s : Nat} (hok : ∀ T t, ok T t = true → ∀ (x y : t.den) vx vy, RepV ow w t x vx → RepV ow w t y vy → (Op.equalIn d T vx vy).run P w = .ok (eqT t x y) w) :
    ∀ (m : Nat) (t : Ty) (i : Nat), eqIs P ok e s m t = true → ∀ (x y : t.den) (xs ys : Array Value), Rep ow w t x ((xs.toList.drop (i * s)).take t.size) → Rep ow w t y ((ys.toList.drop (i * s)).take t.size) →
      (Op.eqItems d e s xs ys (List.range' i m)).run P w = .ok (eqT t x y) w := by
  have one : ∀ (t : Ty) (i : Nat), partB P e t = true → ok e t = true → ∀ (is : List Nat) (x y : t.den) (xs ys : Array Value) (b : Bool), Rep ow w t x ((xs.toList.drop (i * s)).take t.size) → Rep ow w t y ((ys.toList.drop (i * s)).take t.size) →
      (Op.eqItems d e s xs ys is).run P w = .ok b w → (Op.eqItems d e s xs ys (i :: is)).run P w = .ok (eqT t x y && b) w := by
    intro t i h3 h4 is x y xs ys b hx hy hgs
    obtain ⟨vx, p1, p2⟩ := part_run h3 hx
    obtain ⟨vy, q1, q2⟩ := part_run h3 hy
    have := hok _ _ h4 x y vx vy p2 q2
    simp only [Op.eqItems, Sem.run_bind, p1, q1, this, Result.andThen_ok]
    cases eqT t x y with
    | false => simp
    | true => simp [hgs]
  intro m
  induction m with
  | zero =>
    intro t i h x y xs ys hx hy
    cases t with
    | unit => simp [Op.eqItems, eqT]
    | _ => simp [eqIs] at h
  | succ m ih =>
    intro t i h x y xs ys hx hy
    cases m with
    | zero =>
      have h' : Nat.beq t.size s = true ∧ partB P e t = true ∧ ok e t = true := by
        cases t <;> simpa [eqIs, Bool.and_eq_true, and_assoc] using h
      obtain ⟨h1, h3, h4⟩ := h'
      have := one t i h3 h4 [] x y xs ys true hx hy (by simp [Op.eqItems])
      simpa using this
    | succ m =>
      cases t with
      | pair a b =>
        simp only [eqIs, Bool.and_eq_true] at h
        obtain ⟨⟨⟨h1, h3⟩, h4⟩, h5⟩ := h
        have h1 := Nat.eq_of_beq_eq_true h1
        obtain ⟨c₁, c₂, e1, e2, e3⟩ := hx
        obtain ⟨d₁, d₂, g1, g2, g3⟩ := hy
        have l1 := rep_length _ _ _ e2
        have l2 := rep_length _ _ _ e3
        have m1 := rep_length _ _ _ g2
        have m2 := rep_length _ _ _ g3
        obtain ⟨k1, k2⟩ := take_off e1 (by simp [Ty.size, l1, l2])
        obtain ⟨k3, k4⟩ := take_off g1 (by simp [Ty.size, m1, m2])
        rw [l1] at k1 k2
        rw [l2] at k2
        rw [m1] at k3 k4
        rw [m2] at k4
        rw [List.range'_succ]
        have ho : i * s + a.size = (i + 1) * s := by rw [h1, Nat.succ_mul]
        refine one a i h3 h4 _ x.1 y.1 xs ys _ (by rw [k1]; exact e2) (by rw [k3]; exact g2) ?_
        exact ih b (i + 1) h5 x.2 y.2 xs ys (by rw [← ho, k2]; exact e3) (by rw [← ho, k4]; exact g3)
      | _ => simp [eqIs] at h
theorem eqB_run : ∀ (n T : Nat) (t : Ty), eqB P n T t = true → ∀ (k : Nat) (x y : t.den) vx vy, RepV ow w t x vx → RepV ow w t y vy → (Op.equalIn (n + k) T vx vy).run P w = .ok (eqT t x y) w := by
  intro n
  induction n with
  | zero => intro T t h; simp [eqB] at h
  | succ n ih =>
    intro T t h k x y vx vy hx hy
    rw [show n + 1 + k = (n + k) + 1 by omega]
    have hok := fun T t h (x y : t.den) vx vy => ih T t h k x y vx vy
    cases t with
    | int kk =>
      simp only [eqB] at h
      split at h
      · rename_i k' hu
        simp only [RepV, Rep, List.cons.injEq, and_true] at hx hy
        rw [hx.1, hy.1]
        exact run_equalIn_int w _ T kk k' x y hu
      · cases h
    | bool =>
      simp only [eqB] at h
      split at h
      · rename_i hu
        simp only [RepV, Rep, List.cons.injEq, and_true] at hx hy
        rw [hx, hy]
        exact run_equalIn_bool' w _ T x y hu
      · cases h
    | str =>
      simp only [eqB] at h
      split at h
      · rename_i hu
        simp only [RepV, Rep, List.cons.injEq, and_true] at hx hy
        rw [hx.1, hy.1]
        exact run_equalIn_string w _ T x y hu
      · cases h
    | agg t' =>
      obtain ⟨xs, rfl, hx⟩ := hx
      obtain ⟨ys, rfl, hy⟩ := hy
      have l1 := rep_length _ _ _ hx
      have l2 := rep_length _ _ _ hy
      have hx0 : Rep ow w t' x ((xs.toList.drop 0).take t'.size) := by rw [List.drop_zero, List.take_of_length_le (by omega)]; exact hx
      have hy0 : Rep ow w t' y ((ys.toList.drop 0).take t'.size) := by rw [List.drop_zero, List.take_of_length_le (by omega)]; exact hy
      simp only [eqB] at h
      split at h
      · rename_i gs hu
        simp only [Bool.and_eq_true, Bool.not_eq_true'] at h
        have hf : P.fieldsOf T = gs := by simp [Program.fieldsOf, hu]
        rw [run_equalIn_struct w _ T xs ys (by rw [hf]; exact hu) h.1, hf]
        exact eqFs_run hok gs.toList t' 0 h.2 x y xs ys hx0 hy0
      · rename_i m e hu
        split at h
        · rename_i i hi
          rw [run_equalIn_array w _ xs ys hu hi, List.range_eq_range']
          have hc : P.cellsOf e = i.size := by simp [Program.cellsOf, hi]
          rw [hc]
          exact eqIs_run hok m t' 0 h x y xs ys (by rw [Nat.zero_mul]; exact hx0) (by rw [Nat.zero_mul]; exact hy0)
        · cases h
      · cases h
    | _ => simp [eqB] at h
end
theorem tyB_ok {P : Program} {T : Nat} {d : TD} (h : tyB P T d = true) : TdOK P T d := by
  simp only [tyB, Bool.and_eq_true] at h
  obtain ⟨⟨h1, h2⟩, h3⟩ := h
  constructor
  · split at h1
    · rename_i i hi
      split at h1
      · rename_i z hz
        rw [Bool.and_eq_true] at h1
        have hs := Nat.eq_of_beq_eq_true h1.1
        have hr : ∀ (ow : Nat → Owner) (bx : Bx) (w : World), RepCs ow bx w d.zero z.cells.toList := fun ow bx w => zeroB_rep _ _ h1.2
        have hl := (hr (fun _ => .junk) ⟨id, fun _ => false⟩ default).1
        exact ⟨i, z, hi, hz, hs, by simpa using hl.symm, hr⟩
      · cases h1
    · cases h1
  · unfold howB at h2
    cases hd : d.how with
    | scalar =>
      rw [hd] at h2
      simp only [Bool.and_eq_true] at h2 ⊢
      refine ⟨Nat.eq_of_beq_eq_true h2.1, ?_⟩
      have h2 := h2.2
      split at h2
      · rename_i u hu
        refine ⟨u, hu, ?_⟩
        cases u <;> simp only [scalarB] at h2 <;> (first | cases h2 | skip) <;>
          refine ⟨by intros; simp, by intros; simp, fun k e => ?_, fun e => ?_, fun e => ?_⟩ <;> rw [e] at h2 <;> simp at h2 <;> (first | rfl | (subst h2; rfl) | cases h2)
      · cases h2
    | struct fs =>
      rw [hd] at h2
      simp only at h2 ⊢
      split at h2
      · rename_i gs hu
        exact ⟨gs, hu, fsB_spec _ _ h2⟩
      · cases h2
    | array n e s =>
      rw [hd] at h2
      simp only at h2 ⊢
      split at h2
      · rename_i n' e' hu
        simp only [Bool.and_eq_true] at h2
        obtain ⟨⟨g1, g2⟩, g3⟩ := h2
        have g1 := Nat.eq_of_beq_eq_true g1
        have g2 := Nat.eq_of_beq_eq_true g2
        subst g1 g2
        split at g3
        · rename_i i hi
          exact ⟨hu, i, hi, Nat.eq_of_beq_eq_true g3⟩
        · cases g3
      · cases h2
    | slice e s b =>
      rw [hd] at h2
      simp only [Bool.and_eq_true] at h2 ⊢
      obtain ⟨⟨⟨g1, g2⟩, g3⟩, g4⟩ := h2
      refine ⟨Nat.eq_of_beq_eq_true g1, ?_, ?_, ?_⟩
      · split at g2
        · rename_i e' hu
          have := Nat.eq_of_beq_eq_true g2
          subst this
          exact hu
        · cases g2
      · split at g3
        · rename_i i hi
          simp only [Bool.and_eq_true] at g3
          obtain ⟨z, hz⟩ := Option.isSome_iff_exists.1 g3.2
          exact ⟨i, z, hi, Nat.eq_of_beq_eq_true g3.1.1, Nat.eq_of_beq_eq_true g3.1.2, hz⟩
        · cases g3
      · unfold notOne at g4
        refine ⟨fun e => ?_, fun k e => ?_, fun e => ?_⟩ <;> rw [e] at g4 <;> cases g4
  · intro t ht ha hp
    rw [ht] at h3
    simp only [ha, hp, Bool.and_true, Bool.and_eq_true, Bool.not_eq_true'] at h3
    refine ⟨h3.2.1, fun ow w x y vx vy hx hy => eqB_run 20 T t h3.2.2 9980 x y vx vy hx hy⟩
  · intro t ht
    rw [ht] at h3
    simp only [Bool.and_eq_true] at h3
    refine ⟨Nat.eq_of_beq_eq_true h3.1.1, ?_⟩
    have : t.isAgg = aggD d := by simpa using h3.1.2
    rw [this]
    exact Iff.rfl
def tysB (P : Program) : List (Nat × TD) → Bool
  | [] => true
  | (T, d) :: r => tyB P T d && tysB P r
theorem tysB_ok {P : Program} : ∀ (l : List (Nat × TD)), tysB P l = true → ∀ T d, tdGet l T = some d → TdOK P T d
  | [], _, T, d, h => by cases h
  | (k, d0) :: r, h, T, d, hg => by
    simp only [tysB, Bool.and_eq_true] at h
    simp only [tdGet] at hg
    split at hg
    · rename_i hb
      have := Nat.eq_of_beq_eq_true hb
      subst this
      cases hg
      exact tyB_ok h.1
    · exact tysB_ok r h.2 T d hg
end Go.Proofs.Ytbgdgpdfaebniaa
