/- 'field' on written-out struct values, by program (wip/fields.py). -/
import Derived.Test.YtbpadfmdjgjjlaaRows
import Derived.Test.YtbpadfmdjgjjlaaRow
import Derived.KernelRfl
import Derived.WalkKit
set_option linter.unusedSimpArgs false
set_option linter.unusedVariables false
namespace Go.Proofs.Ytbpadfmdjgjjlaa
/-- Hi of odograph/wide.U -/
@[go_sem] theorem field_28_0 (c0 c1 : Value) (w : World) : (Instr.field 28 (.agg #[c0, c1]) 0).run Try.prog w = .ok c0 w := by kernel_rfl
/-- Lo of odograph/wide.U -/
@[go_sem] theorem field_28_1 (c0 c1 : Value) (w : World) : (Instr.field 28 (.agg #[c0, c1]) 1).run Try.prog w = .ok c1 w := by kernel_rfl
/-- Sign of odograph/odographref01.N -/
@[go_sem] theorem field_56_0 (c0 c1 c2 c3 c4 : Value) (w : World) : (Instr.field 56 (.agg #[c0, c1, c2, c3, c4]) 0).run Try.prog w = .ok c0 w := by kernel_rfl
/-- D of odograph/odographref01.N -/
@[go_sem] theorem field_56_1 (c0 c1 c2 c3 c4 : Value) (w : World) : (Instr.field 56 (.agg #[c0, c1, c2, c3, c4]) 1).run Try.prog w = .ok (.agg #[c1, c2, c3, c4]) w := by kernel_rfl
/-- Lo of odograph/span.Span -/
@[go_sem] theorem field_66_0 (c0 c1 : Value) (w : World) : (Instr.field 66 (.agg #[c0, c1]) 0).run Try.prog w = .ok c0 w := by kernel_rfl
/-- Hi of odograph/span.Span -/
@[go_sem] theorem field_66_1 (c0 c1 : Value) (w : World) : (Instr.field 66 (.agg #[c0, c1]) 1).run Try.prog w = .ok c1 w := by kernel_rfl
@[go_sem ↓] theorem eql_28 (a0 a1 b0 b1 : Int) (w : World) : (binOp .eql 28 (.agg #[.int .u64 a0, .int .u64 a1]) (.agg #[.int .u64 b0, .int .u64 b1])).run Try.prog w = .ok (.bool (eqs [a0, a1] [b0, b1])) w := by
  by_cases h0 : a0 = b0 <;> by_cases h1 : a1 = b1 <;> simp [go_sem, eqs, h0, h1]
@[go_sem ↓] theorem neq_28 (a0 a1 b0 b1 : Int) (w : World) : (binOp .neq 28 (.agg #[.int .u64 a0, .int .u64 a1]) (.agg #[.int .u64 b0, .int .u64 b1])).run Try.prog w = .ok (.bool (!eqs [a0, a1] [b0, b1])) w := by
  by_cases h0 : a0 = b0 <;> by_cases h1 : a1 = b1 <;> simp [go_sem, eqs, h0, h1]
@[go_sem ↓] theorem eql_54 (a0 a1 a2 a3 b0 b1 b2 b3 : Int) (w : World) : (binOp .eql 54 (.agg #[.int .u64 a0, .int .u64 a1, .int .u64 a2, .int .u64 a3]) (.agg #[.int .u64 b0, .int .u64 b1, .int .u64 b2, .int .u64 b3])).run Try.prog w = .ok (.bool (eqs [a0, a1, a2, a3] [b0, b1, b2, b3])) w := by
  cases hi : Try.prog.info? 22 with
  | none => exact absurd (show (Try.prog.info? 22).isSome = true by kernel_rfl) (by rw [hi]; simp)
  | some i => exact run_eql_ints w (k := .u64) Try.underlying54 Try.underlying22 hi (by kernel_rfl) [a0, a1, a2, a3] [b0, b1, b2, b3] rfl rfl
@[go_sem ↓] theorem neq_54 (a0 a1 a2 a3 b0 b1 b2 b3 : Int) (w : World) : (binOp .neq 54 (.agg #[.int .u64 a0, .int .u64 a1, .int .u64 a2, .int .u64 a3]) (.agg #[.int .u64 b0, .int .u64 b1, .int .u64 b2, .int .u64 b3])).run Try.prog w = .ok (.bool (!eqs [a0, a1, a2, a3] [b0, b1, b2, b3])) w := by
  cases hi : Try.prog.info? 22 with
  | none => exact absurd (show (Try.prog.info? 22).isSome = true by kernel_rfl) (by rw [hi]; simp)
  | some i => exact run_neq_ints w (k := .u64) Try.underlying54 Try.underlying22 hi (by kernel_rfl) [a0, a1, a2, a3] [b0, b1, b2, b3] rfl rfl
@[go_sem ↓] theorem eql_66 (a0 a1 b0 b1 : Int) (w : World) : (binOp .eql 66 (.agg #[.int .i64 a0, .int .i64 a1]) (.agg #[.int .i64 b0, .int .i64 b1])).run Try.prog w = .ok (.bool (eqs [a0, a1] [b0, b1])) w := by
  by_cases h0 : a0 = b0 <;> by_cases h1 : a1 = b1 <;> simp [go_sem, eqs, h0, h1]
@[go_sem ↓] theorem neq_66 (a0 a1 b0 b1 : Int) (w : World) : (binOp .neq 66 (.agg #[.int .i64 a0, .int .i64 a1]) (.agg #[.int .i64 b0, .int .i64 b1])).run Try.prog w = .ok (.bool (!eqs [a0, a1] [b0, b1])) w := by
  by_cases h0 : a0 = b0 <;> by_cases h1 : a1 = b1 <;> simp [go_sem, eqs, h0, h1]
@[go_sem ↓] theorem execLoad_24 (ρ : Operand → Value) (dst : Option Tmp) (type : TypeId) (pos : String) (after : Array Edge) (guard : Option (Nat × Bool)) (x : Operand) (w : World) : (execOp ρ { dst := dst, op := .load 24 x, type := type, pos := pos, after := after, guard := guard }).run Try.prog w = loadRow Try.prog 24 (ρ x) w := rfl
@[go_sem ↓] theorem execStore_24 (ρ : Operand → Value) (dst : Option Tmp) (type : TypeId) (pos : String) (after : Array Edge) (guard : Option (Nat × Bool)) (x y : Operand) (w : World) : (execOp ρ { dst := dst, op := .store 24 x y, type := type, pos := pos, after := after, guard := guard }).run Try.prog w = storeRow Try.prog 24 (ρ x) (ρ y) w := rfl
open Classical in
@[go_sem] theorem loadRow_24 (g : Nat) (w : World) : loadRow Try.prog 24 (.pointer (some ⟨g, 0, none⟩)) w = if hasRow w g 128 then .ok (.value (.agg (rowOf w g))) w else slowLoadN Try.prog 24 g w := loadRow_if w g Try.underlying24 rfl (by kernel_rfl)
open Classical in
@[go_sem] theorem storeRow_24 (g : Nat) (w : World) (c : Array Value) : storeRow Try.prog 24 (.pointer (some ⟨g, 0, none⟩)) (.agg c) w = if hasRow w g 128 ∧ c.size = 128 ∧ oneCells c then .ok .skip (w.setRow g c) else slowStoreN Try.prog 24 g c w := storeRow_if w g (by kernel_rfl) c
@[go_sem] theorem zero_24 : Try.zeroCells24 = Row .i64 128 (fun _ => 0) := by kernel_rfl
@[go_sem ↓] theorem eql_same_24 (f : Nat → Int) (w : World) : (binOp .eql 24 (.agg (Row .i64 128 f)) (.agg (Row .i64 128 f))).run Try.prog w = .ok (.bool true) w := by
  have h : eqs ((List.range 128).map f) ((List.range 128).map f) = true := eqs_yes rfl
  rw [row_list]
  cases hi : Try.prog.info? 3 with
  | none => exact absurd (show (Try.prog.info? 3).isSome = true by kernel_rfl) (by rw [hi]; simp)
  | some i => rw [run_eql_ints w (k := .i64) Try.underlying24 Try.underlying3 hi (by kernel_rfl) _ _ (by simp) (by simp), h]
theorem eql_24 (f g : Nat → Int) (w : World) : (binOp .eql 24 (.agg (Row .i64 128 f)) (.agg (Row .i64 128 g))).run Try.prog w = .ok (.bool (eqs ((List.range 128).map f) ((List.range 128).map g))) w := by
  rw [row_list, row_list]
  cases hi : Try.prog.info? 3 with
  | none => exact absurd (show (Try.prog.info? 3).isSome = true by kernel_rfl) (by rw [hi]; simp)
  | some i => exact run_eql_ints w (k := .i64) Try.underlying24 Try.underlying3 hi (by kernel_rfl) _ _ (by simp) (by simp)
@[go_sem ↓] theorem neq_same_24 (f : Nat → Int) (w : World) : (binOp .neq 24 (.agg (Row .i64 128 f)) (.agg (Row .i64 128 f))).run Try.prog w = .ok (.bool false) w := by
  have h : eqs ((List.range 128).map f) ((List.range 128).map f) = true := eqs_yes rfl
  rw [row_list]
  cases hi : Try.prog.info? 3 with
  | none => exact absurd (show (Try.prog.info? 3).isSome = true by kernel_rfl) (by rw [hi]; simp)
  | some i => rw [run_neq_ints w (k := .i64) Try.underlying24 Try.underlying3 hi (by kernel_rfl) _ _ (by simp) (by simp), h]; rfl
theorem neq_24 (f g : Nat → Int) (w : World) : (binOp .neq 24 (.agg (Row .i64 128 f)) (.agg (Row .i64 128 g))).run Try.prog w = .ok (.bool (!eqs ((List.range 128).map f) ((List.range 128).map g))) w := by
  rw [row_list, row_list]
  cases hi : Try.prog.info? 3 with
  | none => exact absurd (show (Try.prog.info? 3).isSome = true by kernel_rfl) (by rw [hi]; simp)
  | some i => exact run_neq_ints w (k := .i64) Try.underlying24 Try.underlying3 hi (by kernel_rfl) _ _ (by simp) (by simp)
@[go_sem ↓] theorem execLoad_25 (ρ : Operand → Value) (dst : Option Tmp) (type : TypeId) (pos : String) (after : Array Edge) (guard : Option (Nat × Bool)) (x : Operand) (w : World) : (execOp ρ { dst := dst, op := .load 25 x, type := type, pos := pos, after := after, guard := guard }).run Try.prog w = loadRow Try.prog 25 (ρ x) w := rfl
@[go_sem ↓] theorem execStore_25 (ρ : Operand → Value) (dst : Option Tmp) (type : TypeId) (pos : String) (after : Array Edge) (guard : Option (Nat × Bool)) (x y : Operand) (w : World) : (execOp ρ { dst := dst, op := .store 25 x y, type := type, pos := pos, after := after, guard := guard }).run Try.prog w = storeRow Try.prog 25 (ρ x) (ρ y) w := rfl
open Classical in
@[go_sem] theorem loadRow_25 (g : Nat) (w : World) : loadRow Try.prog 25 (.pointer (some ⟨g, 0, none⟩)) w = if hasRow w g 128 then .ok (.value (.agg (rowOf w g))) w else slowLoadN Try.prog 25 g w := loadRow_if w g Try.underlying25 rfl (by kernel_rfl)
open Classical in
@[go_sem] theorem storeRow_25 (g : Nat) (w : World) (c : Array Value) : storeRow Try.prog 25 (.pointer (some ⟨g, 0, none⟩)) (.agg c) w = if hasRow w g 128 ∧ c.size = 128 ∧ oneCells c then .ok .skip (w.setRow g c) else slowStoreN Try.prog 25 g c w := storeRow_if w g (by kernel_rfl) c
@[go_sem] theorem zero_25 : Try.zeroCells25 = Row .i64 128 (fun _ => 0) := by kernel_rfl
@[go_sem ↓] theorem eql_same_25 (f : Nat → Int) (w : World) : (binOp .eql 25 (.agg (Row .i64 128 f)) (.agg (Row .i64 128 f))).run Try.prog w = .ok (.bool true) w := by
  have h : eqs ((List.range 128).map f) ((List.range 128).map f) = true := eqs_yes rfl
  rw [row_list]
  cases hi : Try.prog.info? 3 with
  | none => exact absurd (show (Try.prog.info? 3).isSome = true by kernel_rfl) (by rw [hi]; simp)
  | some i => rw [run_eql_ints w (k := .i64) Try.underlying25 Try.underlying3 hi (by kernel_rfl) _ _ (by simp) (by simp), h]
theorem eql_25 (f g : Nat → Int) (w : World) : (binOp .eql 25 (.agg (Row .i64 128 f)) (.agg (Row .i64 128 g))).run Try.prog w = .ok (.bool (eqs ((List.range 128).map f) ((List.range 128).map g))) w := by
  rw [row_list, row_list]
  cases hi : Try.prog.info? 3 with
  | none => exact absurd (show (Try.prog.info? 3).isSome = true by kernel_rfl) (by rw [hi]; simp)
  | some i => exact run_eql_ints w (k := .i64) Try.underlying25 Try.underlying3 hi (by kernel_rfl) _ _ (by simp) (by simp)
@[go_sem ↓] theorem neq_same_25 (f : Nat → Int) (w : World) : (binOp .neq 25 (.agg (Row .i64 128 f)) (.agg (Row .i64 128 f))).run Try.prog w = .ok (.bool false) w := by
  have h : eqs ((List.range 128).map f) ((List.range 128).map f) = true := eqs_yes rfl
  rw [row_list]
  cases hi : Try.prog.info? 3 with
  | none => exact absurd (show (Try.prog.info? 3).isSome = true by kernel_rfl) (by rw [hi]; simp)
  | some i => rw [run_neq_ints w (k := .i64) Try.underlying25 Try.underlying3 hi (by kernel_rfl) _ _ (by simp) (by simp), h]; rfl
theorem neq_25 (f g : Nat → Int) (w : World) : (binOp .neq 25 (.agg (Row .i64 128 f)) (.agg (Row .i64 128 g))).run Try.prog w = .ok (.bool (!eqs ((List.range 128).map f) ((List.range 128).map g))) w := by
  rw [row_list, row_list]
  cases hi : Try.prog.info? 3 with
  | none => exact absurd (show (Try.prog.info? 3).isSome = true by kernel_rfl) (by rw [hi]; simp)
  | some i => exact run_neq_ints w (k := .i64) Try.underlying25 Try.underlying3 hi (by kernel_rfl) _ _ (by simp) (by simp)
end Go.Proofs.Ytbpadfmdjgjjlaa
