/- Each operation does what the reading says. No program in sight. -/
import Derived.Test.YtbgdgpdfaebniaaEngE
set_option linter.unusedSimpArgs false
set_option linter.unusedVariables false
namespace Go.Proofs.Ytbgdgpdfaebniaa
/-- The operation goes through, and leaves what is said. -/
def Goes (P : Program) (B : Base) (ow : Nat → Owner) (bx : Bx) (nb : Nat) (bg : Nat → Option (List EV)) (w : World) (a : Act) (o : Oper) (id : Nat) (v : EV) (n : Option (List EV)) (ws : List Wr) : Prop :=
  ∀ (K : Act → World → Prop) (Q : Exit → Act → World → Prop), (∀ u ow' bx' w', Keeps ow bx w ow' bx' w' → RepEV ow' bx' w' v u → Inv B ow' bx' nb (upd bg id n ws) w' → bx'.dead = bx.dead → K (a.put o.dst u) w') → o.wp P a w K Q
def killB (k : Option Nat) (j : Nat) : Bool := match k with
  | some k => Nat.beq k j
  | none => false
/-- The same, where a token may be spent. -/
def GoesK (P : Program) (B : Base) (ow : Nat → Owner) (bx : Bx) (nb : Nat) (bg : Nat → Option (List EV)) (w : World) (a : Act) (o : Oper) (id : Nat) (v : EV) (n : Option (List EV)) (ws : List Wr) (k : Option Nat) : Prop :=
  ∀ (K : Act → World → Prop) (Q : Exit → Act → World → Prop), (∀ u ow' bx' w', Keeps ow bx w ow' bx' w' → RepEV ow' bx' w' v u → Inv B ow' bx' nb (upd bg id n ws) w' → (∀ j, bx'.dead j = (bx.dead j || killB k j)) → K (a.put o.dst u) w') → o.wp P a w K Q
theorem Goes.goesK {P : Program} {B : Base} {ow : Nat → Owner} {bx : Bx} {nb : Nat} {bg : Nat → Option (List EV)} {w : World} {a : Act} {o : Oper} {id : Nat} {v : EV} {n : Option (List EV)} {ws : List Wr} (h : Goes P B ow bx nb bg w a o id v n ws) : GoesK P B ow bx nb bg w a o id v n ws none :=
  fun K Q hK => h K Q fun u ow' bx' w' h1 h2 h3 h4 => hK u ow' bx' w' h1 h2 h3 fun j => by rw [h4]; simp [killB]
def Args (ow : Nat → Owner) (bx : Bx) (w : World) (A : Operand → EV) (ev : Operand → Value) (o : Op) : Prop := match o with
  | .pick c x y => RepEV ow bx w (A c) (ev c) ∧ ∀ t, A c = .dat .bool t → (t = true → RepEV ow bx w (A x) (ev x)) ∧ (t = false → RepEV ow bx w (A y) (ev y))
  | o => ∀ x ∈ o.operands, RepEV ow bx w (A x) (ev x)
def Sound {ρ : Type} (P : Program) (id : Nat) (rd : Nat → Option (List EV)) (g : Option Bool) (A : Operand → EV) (o : Oper) (q : EV → Option (List EV) → List Wr → List Nat → Option ρ) (r : ρ) : Prop :=
  ∃ v n ws tr, q v n ws tr = some r ∧ (g.isSome = true → n = none ∧ ws = []) ∧ (∀ x ∈ ws, x.b ∈ tr ∧ ∃ cs, rd x.b = some cs ∧ x.off + x.new.length ≤ cs.length) ∧
    (g ≠ some false → ∀ B ow bx nb bg w (a : Act), Inv B ow bx nb bg w → Args ow bx w A a.eval o.op → (∀ b ∈ tr, bg b = rd b) → (n.isSome = true → bg id = none ∧ id < nb) →
      Goes P B ow bx nb bg w a o id v n ws)
section
variable {ρ : Type} {P : Program} {id : Nat} {rd : Nat → Option (List EV)} {g : Option Bool} {A : Operand → EV} {o : Oper} {q : EV → Option (List EV) → List Wr → List Nat → Option ρ} {r : ρ}
theorem goes_value {B : Base} {ow : Nat → Owner} {bx : Bx} {nb : Nat} {bg : Nat → Option (List EV)} {w : World} {a : Act} {v : EV} {u : Value} (hi : Inv B ow bx nb bg w)
    (h : (execOp a.eval o).run P w = .ok (.value u) w) (hv : RepEV ow bx w v u) : Goes P B ow bx nb bg w a o id v none [] := by
  intro K Q hK
  unfold Oper.wp
  rw [h]
  exact hK u ow bx w (Keeps.refl _ _ _) hv hi rfl
theorem sound_pure {v : EV} {tr : List Nat} (hq : q v none [] tr = some r)
    (h : g ≠ some false → ∀ B ow bx nb bg w (a : Act), Inv B ow bx nb bg w → Args ow bx w A a.eval o.op → (∀ b ∈ tr, bg b = rd b) → ∃ u, (execOp a.eval o).run P w = .ok (.value u) w ∧ RepEV ow bx w v u) :
    Sound P id rd g A o q r :=
  ⟨v, none, [], tr, hq, fun _ => ⟨rfl, rfl⟩, fun x hx => (by cases hx), fun hg B ow bx nb bg w a hi hA hb _ => by
    obtain ⟨u, h1, h2⟩ := h hg B ow bx nb bg w a hi hA hb
    exact goes_value hi h1 h2⟩
theorem chk_spec {c : Bool} {k : Option ρ} (h : chk g c k = some r) : k = some r ∧ (g ≠ some false → c = true) := by
  unfold chk at h
  cases g with
  | none => cases c <;> simp at h; exact ⟨h, fun _ => rfl⟩
  | some b => cases c <;> cases b <;> simp at h <;> first | exact ⟨h, fun _ => rfl⟩ | exact ⟨h, fun h => absurd rfl h⟩
theorem noGuard_spec {k : Option ρ} (h : noGuard g k = some r) : g = none ∧ k = some r := by
  unfold noGuard at h
  cases g with
  | none => exact ⟨rfl, h⟩
  | some b => cases h
theorem args_of {ow : Nat → Owner} {bx : Bx} {w : World} {ev : Operand → Value} {p : Op} (h : Args ow bx w A ev p) (hp : ∀ c x y, p ≠ .pick c x y) : ∀ x ∈ p.operands, RepEV ow bx w (A x) (ev x) := by
  unfold Args at h
  cases p <;> first | exact h | exact absurd rfl (hp _ _ _)
theorem fits_iff (k : IntKind) (n : Int) : fits k n = true ↔ k.min ≤ n ∧ n ≤ k.max := by
  cases k <;> simp [fits, IntKind.min, IntKind.max, IntKind.signed, IntKind.bits]
theorem wrap_range (k : IntKind) (n : Int) : k.min ≤ k.wrap n ∧ k.wrap n ≤ k.max := by
  cases k <;> simp only [IntKind.min, IntKind.max, IntKind.signed, IntKind.bits, IntKind.wrap, Bool.true_and, Bool.false_and, if_true, Bool.false_eq_true, if_false, decide_eq_true_eq, ge_iff_le] <;> (try split) <;> omega
theorem fits_wrap (k : IntKind) (n : Int) : fits k (k.wrap n) = true := (fits_iff k _).2 (wrap_range k n)
theorem repInt {ow : Nat → Owner} {bx : Bx} {w : World} {k : IntKind} {n : Int} {v : Value} (h : RepEV ow bx w (.dat (.int k) n) v) : v = .int k n ∧ fits k n = true := by
  cases h with
  | dat h => obtain ⟨h1, h2⟩ := h; simp at h1; exact ⟨h1, h2⟩
theorem repBool {ow : Nat → Owner} {bx : Bx} {w : World} {n : Bool} {v : Value} (h : RepEV ow bx w (.dat .bool n) v) : v = .bool n := by
  cases h with
  | dat h => simp only [RepV, Rep] at h; simpa using h
theorem repStr {ow : Nat → Owner} {bx : Bx} {w : World} {n : ByteArray} {v : Value} (h : RepEV ow bx w (.dat .str n) v) : v = .string n ∧ n.size ≤ 9223372036854775807 := by
  cases h with
  | dat h => obtain ⟨h1, h2⟩ := h; simp at h1; exact ⟨h1, h2⟩
theorem repInt_mk {ow : Nat → Owner} {bx : Bx} {w : World} {k : IntKind} {n : Int} (h : fits k n = true) : RepEV ow bx w (.dat (.int k) n) (.int k n) := .dat ⟨rfl, h⟩
theorem repBool_mk {ow : Nat → Owner} {bx : Bx} {w : World} {n : Bool} : RepEV ow bx w (.dat .bool n) (.bool n) := .dat rfl
theorem goInt_rep {ow : Nat → Owner} {bx : Bx} {w : World} {n : Nat} (h : n ≤ 9223372036854775807) : RepEV ow bx w (.dat (.int .i64) (n : Int)) (goInt n) :=
  repInt_mk ((fits_iff _ _).2 (by simp [IntKind.min, IntKind.max, IntKind.signed, IntKind.bits]; omega))
theorem tmod_fits (k : IntKind) (x y : Int) (hx : fits k x = true) : fits k (x.tmod y) = true := by
  rw [fits_iff] at *
  have hmin : k.min ≤ 0 := by cases k <;> simp [IntKind.min, IntKind.signed, IntKind.bits]
  have hmax : 0 ≤ k.max := by cases k <;> simp [IntKind.max, IntKind.signed, IntKind.bits]
  by_cases h : 0 ≤ x
  · have h1 := Int.tmod_nonneg y h
    have h2 : x.tmod y ≤ x := by
      have := Int.natAbs_tmod x y
      have h3 : (x.tmod y).natAbs ≤ x.natAbs := by rw [this]; exact Nat.mod_le _ _
      omega
    omega
  · have h1 : x.tmod y ≤ 0 := by
      have := Int.tmod_nonneg y (show 0 ≤ -x by omega)
      rw [Int.neg_tmod] at this
      omega
    have h2 : x ≤ x.tmod y := by
      have := Int.natAbs_tmod x y
      have h3 : (x.tmod y).natAbs ≤ x.natAbs := by rw [this]; exact Nat.mod_le _ _
      omega
    omega
theorem fdiv_fits (k : IntKind) (x : Int) (n : Nat) (hx : fits k x = true) : fits k (x.fdiv (2 ^ n)) = true := by
  rw [fits_iff] at *
  have hmin : k.min ≤ 0 := by cases k <;> simp [IntKind.min, IntKind.signed, IntKind.bits]
  have hmax : 0 ≤ k.max := by cases k <;> simp [IntKind.max, IntKind.signed, IntKind.bits]
  have hp : (0 : Int) < 2 ^ n := Int.pow_pos (by omega)
  rw [Int.fdiv_eq_ediv_of_nonneg _ (by omega)]
  have h1 : k.min ≤ x / 2 ^ n := by
    rw [Int.le_ediv_iff_mul_le hp]
    have : k.min * 2 ^ n ≤ k.min * 1 := Int.mul_le_mul_of_nonpos_left hmin (by omega)
    omega
  have h2 : x / 2 ^ n ≤ k.max := by
    by_cases h : 0 ≤ x
    · have := Int.ediv_le_self (2 ^ n) h; omega
    · have := Int.ediv_neg_of_neg_of_pos (show x < 0 by omega) hp; omega
  exact ⟨h1, h2⟩
/-- Two integers. -/
theorem int_sound {q' : EV → Option ρ} {op : BinOp} {k k' : IntKind} {x y : Int} (hk : k = k' ∨ isShift op = true) (h : intE g op k x y q' = some r) :
    ∃ v, q' v = some r ∧ (g ≠ some false → ∀ ow bx w, fits k x = true → fits k' y = true → ∃ u, (binOp op 0 (.int k x) (.int k' y)).run P w = .ok u w ∧ RepEV ow bx w v u) := by
  cases op <;> simp only [isShift, or_false, Bool.false_eq_true] at hk <;> (try subst hk) <;> simp only [intE] at h
  case add => exact ⟨_, h, fun _ ow bx w _ _ => ⟨_, by simp [Go.binOp, Op.intArith], repInt_mk (fits_wrap _ _)⟩⟩
  case sub => exact ⟨_, h, fun _ ow bx w _ _ => ⟨_, by simp [Go.binOp, Op.intArith], repInt_mk (fits_wrap _ _)⟩⟩
  case mul => exact ⟨_, h, fun _ ow bx w _ _ => ⟨_, by simp [Go.binOp, Op.intArith], repInt_mk (fits_wrap _ _)⟩⟩
  case quo =>
    obtain ⟨h1, h2⟩ := chk_spec h
    refine ⟨_, h1, fun hg ow bx w _ _ => ⟨_, ?_, repInt_mk (fits_wrap _ _)⟩⟩
    have := h2 hg
    have hy : y ≠ 0 := by simpa using this
    simp [Go.binOp, Op.intDiv, hy]
  case rem =>
    obtain ⟨h1, h2⟩ := chk_spec h
    refine ⟨_, h1, fun hg ow bx w hx _ => ⟨_, ?_, repInt_mk (tmod_fits _ _ _ hx)⟩⟩
    have := h2 hg
    have hy : y ≠ 0 := by simpa using this
    simp [Go.binOp, Op.intDiv, hy]
  case and => exact ⟨_, h, fun _ ow bx w _ _ => ⟨_, by simp [Go.binOp, Op.intBits, bits], repInt_mk (fits_wrap _ _)⟩⟩
  case or => exact ⟨_, h, fun _ ow bx w _ _ => ⟨_, by simp [Go.binOp, Op.intBits, bits], repInt_mk (fits_wrap _ _)⟩⟩
  case xor => exact ⟨_, h, fun _ ow bx w _ _ => ⟨_, by simp [Go.binOp, Op.intBits, bits], repInt_mk (fits_wrap _ _)⟩⟩
  case andNot => exact ⟨_, h, fun _ ow bx w _ _ => ⟨_, by simp [Go.binOp, Op.intBits, bits], repInt_mk (fits_wrap _ _)⟩⟩
  case eql => exact ⟨_, h, fun _ ow bx w _ _ => ⟨_, by simp [Go.binOp, Op.intCmp], repBool_mk⟩⟩
  case neq => exact ⟨_, h, fun _ ow bx w _ _ => ⟨_, by simp [Go.binOp, Op.intCmp], repBool_mk⟩⟩
  case lss => exact ⟨_, h, fun _ ow bx w _ _ => ⟨_, by simp [Go.binOp, Op.intCmp], repBool_mk⟩⟩
  case leq => exact ⟨_, h, fun _ ow bx w _ _ => ⟨_, by simp [Go.binOp, Op.intCmp], repBool_mk⟩⟩
  case gtr => exact ⟨_, h, fun _ ow bx w _ _ => ⟨_, by simp [Go.binOp, Op.intCmp], repBool_mk⟩⟩
  case geq => exact ⟨_, h, fun _ ow bx w _ _ => ⟨_, by simp [Go.binOp, Op.intCmp], repBool_mk⟩⟩
  case shl =>
    obtain ⟨h1, h2⟩ := chk_spec h
    refine ⟨_, h1, fun hg ow bx w _ _ => ⟨_, ?_, repInt_mk (fits_wrap _ _)⟩⟩
    have := h2 hg
    have hy : ¬ y < 0 := by have : 0 ≤ y := by simpa using this
                            omega
    simp [Go.binOp, Op.shift, hy]
  case shr =>
    obtain ⟨h1, h2⟩ := chk_spec h
    refine ⟨_, h1, fun hg ow bx w hx _ => ⟨_, ?_, repInt_mk (fdiv_fits _ _ _ hx)⟩⟩
    have := h2 hg
    have hy : ¬ y < 0 := by have : 0 ≤ y := by simpa using this
                            omega
    simp [Go.binOp, Op.shift, hy]
end
end Go.Proofs.Ytbgdgpdfaebniaa
