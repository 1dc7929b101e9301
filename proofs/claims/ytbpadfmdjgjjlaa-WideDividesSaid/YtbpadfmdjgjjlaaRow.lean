/- Rows of numbers that are not written out: arrays in variables. No program in sight. -/
import Derived.Test.YtbpadfmdjgjjlaaArr
import Derived.Test.YtbpadfmdjgjjlaaLate
import Derived.Laws.Rows
set_option linter.unusedSimpArgs false
set_option linter.unusedVariables false
namespace Go.Proofs.Ytbpadfmdjgjjlaa
open Go.RowKit
/-- A row of n numbers of one kind. -/
def Row (k : IntKind) (n : Nat) (f : Nat → Int) : Array Value := ((List.range n).map fun j => Value.int k (f j)).toArray
section
variable {k : IntKind} {n : Nat} {f g : Nat → Int}
@[go_sem] theorem row_size : (Row k n f).size = n := by simp [Row]
@[go_sem] theorem row_get (i : Nat) (h : i < n) : (Row k n f)[i]? = some (.int k (f i)) := by simp [Row, h]
@[go_sem] theorem row_getElem (i : Nat) (h : i < (Row k n f).size) : (Row k n f)[i]'h = .int k (f i) := by simp [Row]
@[go_sem] theorem row_set (i : Nat) (v : Int) : (Row k n f).setIfInBounds i (.int k v) = Row k n (fun j => if j = i then v else f j) := by
  apply Array.ext_getElem?
  intro j
  rw [Array.getElem?_setIfInBounds]
  by_cases hj : j < n
  · rw [row_get j hj]
    by_cases hij : i = j
    · subst hij; rw [if_pos rfl, if_pos (by rw [row_size]; exact hj), row_get i hj, if_pos rfl]
    · rw [if_neg hij, row_get j hj, if_neg (fun h => hij h.symm)]
  · rw [Array.getElem?_eq_none (xs := Row k n fun j => if j = i then v else f j) (by rw [row_size]; omega)]
    split
    · rw [if_neg (by rw [row_size]; omega)]
    · rw [Array.getElem?_eq_none (by rw [row_size]; omega)]
theorem row_ext (h : ∀ j, j < n → f j = g j) : Row k n f = Row k n g := by
  unfold Row
  congr 1
  exact List.map_congr_left fun j hj => by rw [h j (List.mem_range.1 hj)]
theorem row_one : (Row k n f).all (·.oneCell') = true := by
  rw [Array.all_eq_true]
  intro i hi
  have : i < n := by simpa [Row] using hi
  simp [Row, Value.oneCell']
theorem row_list : Row k n f = (((List.range n).map f).map (Value.int k)).toArray := by simp [Row, List.map_map]
end
/-- Each is the value of one cell. -/
def oneCells (c : Array Value) : Prop := c.all (·.oneCell') = true
@[go_sem] theorem oneCells_row {k : IntKind} {n : Nat} {f : Nat → Int} : oneCells (Row k n f) := row_one
@[go_sem] theorem oneCells_nil : oneCells #[] := by simp [oneCells]
@[go_sem] theorem oneCells_cons (v : Value) (l : List Value) : oneCells (List.toArray (v :: l)) = (v.oneCell' = true ∧ oneCells (List.toArray l)) := by
  simp [oneCells]
@[go_sem] theorem one_int (k : IntKind) (n : Int) : (Value.int k n).oneCell' = true := rfl
@[go_sem] theorem one_bool (b : Bool) : (Value.bool b).oneCell' = true := rfl
@[go_sem] theorem one_slice (a : Option Addr) (n c : Nat) : (Value.slice a n c).oneCell' = true := rfl
@[go_sem] theorem one_pointer (a : Option Addr) : (Value.pointer a).oneCell' = true := rfl
/-- The cells of a block. -/
def rowOf (w : World) (g : Nat) : Array Value := match w.heap[g]? with | some (.cells c _ _) => c | _ => #[]
/-- Is it a block of so many cells, none of them frozen? -/
def hasRow (w : World) (g n : Nat) : Prop := ∃ c t, w.heap[g]? = some (.cells c t (0, 0)) ∧ c.size = n
section
variable (w : World) (x : More)
@[go_sem] theorem rowOf_alloc_at (c : Array Value) (t : TypeId) (n : Nat) (hn : n = w.heap.size) : rowOf (w.alloc (.cells c t)) n = c := by
  unfold rowOf; rw [heap_alloc_at w _ n hn]
@[go_sem] theorem rowOf_alloc_past (o : Obj) (n : Nat) (hn : ltS n w.heap.size) : rowOf (w.alloc o) n = rowOf w n := by
  unfold rowOf; rw [heap_alloc_past w o n hn]
@[go_sem] theorem rowOf_more (n : Nat) (hn : ltS n w.heap.size) : rowOf (more w x) n = rowOf w n := by
  unfold rowOf; rw [heap_more hn]
@[go_sem] theorem rowOf_drew (n : Nat) : rowOf w.drew n = rowOf w n := rfl
@[go_sem] theorem rowOf_setRow_ne (g n : Nat) (c : Array Value) (hn : neS n g) : rowOf (w.setRow g c) n = rowOf w n := by
  unfold rowOf; rw [setRow_other w g n c hn]
@[go_sem] theorem hasRow_alloc_at (c : Array Value) (t : TypeId) (n m : Nat) (hn : n = w.heap.size) : hasRow (w.alloc (.cells c t)) n m = (c.size = m) := by
  unfold hasRow
  rw [heap_alloc_at w _ n hn]
  exact propext ⟨fun ⟨c', t', h, hs⟩ => by cases h; exact hs, fun h => ⟨c, t, rfl, h⟩⟩
@[go_sem] theorem hasRow_alloc_past (o : Obj) (n m : Nat) (hn : ltS n w.heap.size) : hasRow (w.alloc o) n m = hasRow w n m := by
  unfold hasRow; rw [heap_alloc_past w o n hn]
@[go_sem] theorem hasRow_more (n m : Nat) (hn : ltS n w.heap.size) : hasRow (more w x) n m = hasRow w n m := by
  unfold hasRow; rw [heap_more hn]
@[go_sem] theorem hasRow_drew (n m : Nat) : hasRow w.drew n m = hasRow w n m := rfl
@[go_sem] theorem hasRow_setRow_ne (g n m : Nat) (c : Array Value) (hn : neS n g) : hasRow (w.setRow g c) n m = hasRow w n m := by
  unfold hasRow; rw [setRow_other w g n c hn]
theorem load_row_run {P : Program} {ty : TypeId} {d : TypeDesc} {n g : Nat} (hu : P.underlying ty = some d) (hd : (match d with | .struct _ | .array _ _ => true | _ => false) = true) (hi : (P.info? ty).map (·.size) = some n) (h : hasRow w g n) :
    (loadVar ty ⟨g, 0, none⟩).run P w = .ok (.agg (rowOf w g)) w := by
  obtain ⟨c, t, hg, hc⟩ := h
  have hr : rowOf w g = c := by unfold rowOf; rw [hg]
  rw [hr]
  exact run_loadVar_row w g t ty c (0, 0) d hg hu hd (by rw [hi, hc])
theorem store_row_run {P : Program} {ty : TypeId} {n g : Nat} (hi : (P.info? ty).map (·.size) = some n) (h : hasRow w g n) (c : Array Value) (hc : c.size = n) (h1 : oneCells c) :
    (storeVar ty ⟨g, 0, none⟩ (.agg c)).run P w = .ok () (w.setRow g c) := by
  obtain ⟨c0, t, hg, hc0⟩ := h
  exact run_storeVar_row w g t ty c0 c hg (by rw [hi, hc]) (by rw [hc0, hc]) h1
/-- What stands if it is no such block. -/
def slowLoad (P : Program) (ty : TypeId) (g : Nat) (w : World) : Result Value := (loadVar ty ⟨g, 0, none⟩).run P w
def slowStore (P : Program) (ty : TypeId) (g : Nat) (c : Array Value) (w : World) : Result Unit := (storeVar ty ⟨g, 0, none⟩ (.agg c)).run P w
open Classical in
theorem load_row_if {P : Program} {ty : TypeId} {d : TypeDesc} {n : Nat} (g : Nat) (hu : P.underlying ty = some d) (hd : (match d with | .struct _ | .array _ _ => true | _ => false) = true) (hi : (P.info? ty).map (·.size) = some n) :
    (loadVar ty ⟨g, 0, none⟩).run P w = if hasRow w g n then .ok (.agg (rowOf w g)) w else slowLoad P ty g w := by
  by_cases h : hasRow w g n
  · rw [if_pos h]; exact load_row_run w hu hd hi h
  · rw [if_neg h]; rfl
open Classical in
theorem store_row_if {P : Program} {ty : TypeId} {n : Nat} (g : Nat) (hi : (P.info? ty).map (·.size) = some n) (c : Array Value) :
    (storeVar ty ⟨g, 0, none⟩ (.agg c)).run P w = if hasRow w g n ∧ c.size = n ∧ oneCells c then .ok () (w.setRow g c) else slowStore P ty g c w := by
  by_cases h : hasRow w g n ∧ c.size = n ∧ oneCells c
  · rw [if_pos h]; exact store_row_run w hi h.1 c h.2.1 h.2.2
  · rw [if_neg h]; rfl
/-- A load and a store of a whole row, behind names that are not laid open ahead of their operands. -/
def loadRow (P : Program) (ty : TypeId) (v : Value) (w : World) : Result Next := (do pure (.value (← Instr.loadAt ty v)) : Sem Next).run P w
def storeRow (P : Program) (ty : TypeId) (x y : Value) (w : World) : Result Next := (do Instr.storeAt ty x y; pure .skip : Sem Next).run P w
def slowLoadN (P : Program) (ty : TypeId) (g : Nat) (w : World) : Result Next := loadRow P ty (.pointer (some ⟨g, 0, none⟩)) w
def slowStoreN (P : Program) (ty : TypeId) (g : Nat) (c : Array Value) (w : World) : Result Next := storeRow P ty (.pointer (some ⟨g, 0, none⟩)) (.agg c) w
open Classical in
theorem loadRow_if {P : Program} {ty : TypeId} {d : TypeDesc} {n : Nat} (g : Nat) (hu : P.underlying ty = some d) (hd : (match d with | .struct _ | .array _ _ => true | _ => false) = true) (hi : (P.info? ty).map (·.size) = some n) :
    loadRow P ty (.pointer (some ⟨g, 0, none⟩)) w = if hasRow w g n then .ok (.value (.agg (rowOf w g))) w else slowLoadN P ty g w := by
  by_cases h : hasRow w g n
  · rw [if_pos h]
    simp only [loadRow, Instr.loadAt, Instr.sureAddr, Sem.run_bind, Sem.run_pure, Result.andThen_ok, load_row_run w hu hd hi h]
  · rw [if_neg h]; rfl
open Classical in
theorem storeRow_if {P : Program} {ty : TypeId} {n : Nat} (g : Nat) (hi : (P.info? ty).map (·.size) = some n) (c : Array Value) :
    storeRow P ty (.pointer (some ⟨g, 0, none⟩)) (.agg c) w = if hasRow w g n ∧ c.size = n ∧ oneCells c then .ok .skip (w.setRow g c) else slowStoreN P ty g c w := by
  by_cases h : hasRow w g n ∧ c.size = n ∧ oneCells c
  · rw [if_pos h]
    simp only [storeRow, Instr.storeAt, Instr.sureAddr, Sem.run_bind, Sem.run_pure, Result.andThen_ok, store_row_run w hi h.1 c h.2.1 h.2.2]
  · rw [if_neg h]; rfl
theorem results_row {P : Program} {fn : Func} {p : Tmp} {ty : TypeId} {d : TypeDesc} {n g : Nat} (h : fn.results = #[.cell p ty]) (tmps : Array Value) (hp : tmps.getD p undef = .pointer (some ⟨g, 0, none⟩))
    (hu : P.underlying ty = some d) (hd : (match d with | .struct _ | .array _ _ => true | _ => false) = true) (hi : (P.info? ty).map (·.size) = some n) (hr : hasRow w g n) :
    (results fn tmps).run P w = .ok (.agg (rowOf w g)) w := by
  have hp' : tmps[p]?.getD undef = .pointer (some ⟨g, 0, none⟩) := by simpa using hp
  simp [results, h, hp', asAddr, load_row_run w hu hd hi hr]
theorem results_row_tmp {P : Program} {fn : Func} {p q : Tmp} {ty : TypeId} {d : TypeDesc} {n g : Nat} (h : fn.results = #[.cell p ty, .tmp q]) (tmps : Array Value) (hp : tmps.getD p undef = .pointer (some ⟨g, 0, none⟩))
    (hu : P.underlying ty = some d) (hd : (match d with | .struct _ | .array _ _ => true | _ => false) = true) (hi : (P.info? ty).map (·.size) = some n) (hr : hasRow w g n) :
    (results fn tmps).run P w = .ok (.tuple #[.agg (rowOf w g), tmps.getD q undef]) w := by
  have hp' : tmps[p]?.getD undef = .pointer (some ⟨g, 0, none⟩) := by simpa using hp
  simp [results, h, hp', asAddr, load_row_run w hu hd hi hr]
theorem ret_row {P : Program} {fn : Func} {R : Ending → World → Prop} {a : Act} {p : Tmp} {ty : TypeId} {d : TypeDesc} (g n : Nat) (V : Array Value) (h : fn.results = #[.cell p ty]) (hdef : a.defers = []) (hp : a.tmps.getD p undef = .pointer (some ⟨g, 0, none⟩))
    (hu : P.underlying ty = some d) (hd : (match d with | .struct _ | .array _ _ => true | _ => false) = true) (hi : (P.info? ty).map (·.size) = some n) (hr : hasRow w g n) (hv : rowOf w g = V)
    (hR : R (.returned (.agg V)) w) : bodyPost P fn R .ret a w :=
  bodyPost_ret (results_row w h a.tmps hp hu hd hi hr) hdef (by rw [hv]; exact hR)
theorem ret_row_tmp {P : Program} {fn : Func} {R : Ending → World → Prop} {a : Act} {p q : Tmp} {ty : TypeId} {d : TypeDesc} (g n : Nat) (V : Array Value) (h : fn.results = #[.cell p ty, .tmp q]) (hdef : a.defers = []) (hp : a.tmps.getD p undef = .pointer (some ⟨g, 0, none⟩))
    (hu : P.underlying ty = some d) (hd : (match d with | .struct _ | .array _ _ => true | _ => false) = true) (hi : (P.info? ty).map (·.size) = some n) (hr : hasRow w g n) (hv : rowOf w g = V)
    (hR : R (.returned (.tuple #[.agg V, a.tmps.getD q undef])) w) : bodyPost P fn R .ret a w :=
  bodyPost_ret (results_row_tmp w h a.tmps hp hu hd hi hr) hdef (by rw [hv]; exact hR)
end
end Go.Proofs.Ytbpadfmdjgjjlaa
