/- Arrays of numbers: '==' and what they hold. No program in sight. -/
import Derived.Test.YtbpadfmdjgjjlaaPlain
import Derived.ChangeKeysEq
import Derived.Laws.StructEq
set_option linter.unusedSimpArgs false
set_option linter.unusedVariables false
namespace Go.Proofs.Ytbpadfmdjgjjlaa
section
variable {P : Program} (w : World)
theorem run_part_int {e : TypeId} {k : IntKind} (he : P.underlying e = some (.int k)) (l : List Int) (i : Nat) (hi : i < l.length) :
    (part e (l.map (Value.int k)).toArray (i * 1)).run P w = .ok (.int k (l[i]'hi)) w := by
  simp [part, isAgg, run_underlying he, hi]
theorem run_eqItems_ints (d : Nat) {e : TypeId} {k : IntKind} (he : P.underlying e = some (.int k)) (l m : List Int) (h : l.length = m.length) : ∀ (c s : Nat), s + c = l.length →
    (Op.eqItems (d + 1) e 1 (l.map (Value.int k)).toArray (m.map (Value.int k)).toArray (List.range' s c)).run P w = .ok (eqs (l.drop s) (m.drop s)) w := by
  intro c
  induction c with
  | zero =>
    intro s hs
    rw [List.drop_eq_nil_of_le (by omega), List.drop_eq_nil_of_le (by omega)]
    rfl
  | succ c ih =>
    intro s hs
    have h1 : s < l.length := by omega
    have h2 : s < m.length := by omega
    rw [List.range'_succ, Op.eqItems]
    simp only [Sem.run_bind, run_part_int w he l s h1, run_part_int w he m s h2, Result.andThen_ok]
    have pe : (Op.equalIn (d + 1) e (.int k (l[s]'h1)) (.int k (m[s]'h2))).run P w = .ok (l[s]'h1 == m[s]'h2) w := by
      simp [Op.equalIn, run_underlying he]
    rw [pe, List.drop_eq_getElem_cons h1, List.drop_eq_getElem_cons h2, eqs]
    simp only [Result.andThen_ok]
    cases hb : (l[s]'h1 == m[s]'h2)
    · simp
    · simp only [Bool.not_true, Bool.false_eq_true, if_false, Bool.true_and]
      exact ih (s + 1) (by omega)
theorem run_equalIn_ints (d : Nat) {t e : TypeId} {n : Nat} {k : IntKind} {i : TypeInfo} (ht : P.underlying t = some (.array n e)) (he : P.underlying e = some (.int k)) (hi : P.info? e = some i) (h1 : P.cellsOf e = 1)
    (l m : List Int) (hl : l.length = n) (hm : m.length = n) :
    (Op.equalIn (d + 2) t (.agg (l.map (Value.int k)).toArray) (.agg (m.map (Value.int k)).toArray)).run P w = .ok (eqs l m) w := by
  rw [run_equalIn_array w (d + 1) _ _ ht hi, h1, List.range_eq_range', run_eqItems_ints w d he l m (by omega) n 0 (by omega)]
  rfl
theorem run_eql_ints {t e : TypeId} {n : Nat} {k : IntKind} {i : TypeInfo} (ht : P.underlying t = some (.array n e)) (he : P.underlying e = some (.int k)) (hi : P.info? e = some i) (h1 : P.cellsOf e = 1)
    (l m : List Int) (hl : l.length = n) (hm : m.length = n) :
    (binOp .eql t (.agg (l.map (Value.int k)).toArray) (.agg (m.map (Value.int k)).toArray)).run P w = .ok (.bool (eqs l m)) w := by
  rw [run_eql_struct, run_equalIn_ints w 9998 ht he hi h1 l m hl hm]
  rfl
theorem run_neq_ints {t e : TypeId} {n : Nat} {k : IntKind} {i : TypeInfo} (ht : P.underlying t = some (.array n e)) (he : P.underlying e = some (.int k)) (hi : P.info? e = some i) (h1 : P.cellsOf e = 1)
    (l m : List Int) (hl : l.length = n) (hm : m.length = n) :
    (binOp .neq t (.agg (l.map (Value.int k)).toArray) (.agg (m.map (Value.int k)).toArray)).run P w = .ok (.bool (!eqs l m)) w := by
  rw [run_neq_struct, run_equalIn_ints w 9998 ht he hi h1 l m hl hm]
  rfl
end
end Go.Proofs.Ytbpadfmdjgjjlaa
