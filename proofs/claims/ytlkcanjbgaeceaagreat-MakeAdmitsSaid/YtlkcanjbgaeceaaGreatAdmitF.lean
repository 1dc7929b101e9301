/- What the readings of the judge of scripts say: the route, the way, speeds, wheels, numbers. -/
import Derived.Test.YtlkcanjbgaeceaaGreatSearchF
import Derived.Test.YtlkcanjbgaeceaaGreatRefTrackF
import Derived.Test.YtlkcanjbgaeceaaGreatSpanF
set_option linter.unusedSimpArgs false
set_option linter.unusedVariables false
namespace Go.Proofs.YtlkcanjbgaeceaaGreat
open Go.RowKit
abbrev Tick := Int × ((Int × Int) × (Int × (Int × ((Bool × (Bool × (Bool × Bool))) × (List (List Int) × Bool)))))
abbrev Rd := Int × (Int × (Int × Int))
abbrev Scr := List Int × (Int × (Int × ((Int × Int) × ((Int × Int) × (List Tick × List Rd)))))
def tk0 : Tick := (0, (0, 0), 0, 0, (false, false, false, false), [], false)
def rd0 : Rd := (0, 0, 0, 0)
theorem tk_def (l : List Tick) : ∀ i, l.getD i ((0 : Int), (((0 : Int), (0 : Int)), ((0 : Int), ((0 : Int), ((false, (false, (false, false))), ([], false)))))) = l.getD i tk0 := fun _ => rfl
theorem rd_def (l : List Rd) : ∀ i, l.getD i ((0 : Int), ((0 : Int), ((0 : Int), (0 : Int)))) = l.getD i rd0 := fun _ => rfl
theorem sg_def (l : List Sg) : ∀ i, l.getD i ((0 : Int), ([], [])) = l.getD i sg0 := fun _ => rfl
theorem gp_def (l : List Gp) : ∀ i, l.getD i ((0 : Int), ((0 : Int), ((0 : Int), ((0 : Int), (0 : Int))))) = l.getD i gp0 := fun _ => rfl
def withB (x far : Int) : Bool := decide (-far ≤ x) && decide (x ≤ far)
theorem with_iff {x far : Int} : withB x far = true ↔ -far ≤ x ∧ x ≤ far := by
  unfold withB
  rw [Bool.and_eq_true, decide_eq_true_eq, decide_eq_true_eq]
theorem f_within28 (x far : Int) (h : -4611686018427387904 ≤ far ∧ far ≤ 4611686018427387904) : F_admit_within x far = some (withB x far) := by
  unfold F_admit_within withB
  rw [wrap_ok (n := 0 - far) (by omega), Int.zero_sub]
  simp only []
  cases decide (-far ≤ x) <;> rfl
def anyB (n : Nat) (b : Nat → Bool) : Bool := (List.range n).any b
theorem any_find {X : Type} (n : Nat) (b : Nat → Bool) (x : Nat → X) : ((List.range n).findSome? fun i => bif b i then some (x i) else none) = none ∧ anyB n b = false ∨ ∃ i, ((List.range n).findSome? fun i => bif b i then some (x i) else none) = some (x i) ∧ anyB n b = true := by
  unfold anyB
  generalize List.range n = l
  induction l with
  | nil => exact .inl ⟨rfl, rfl⟩
  | cons a l ih =>
    rw [List.findSome?_cons, List.any_cons]
    cases h : b a with
    | true => exact .inr ⟨a, rfl, rfl⟩
    | false => simpa using ih
def followsB (t : Tk) (a b : Int) : Bool := decide (0 ≤ a) && decide (a < t.1.length) && anyB (t.1.getD a.toNat sg0).2.2.length fun i => (t.1.getD a.toNat sg0).2.2.getD i 0 == b
theorem getD_mem {α : Type} {l : List α} {i : Nat} {d : α} (h : i < l.length) : l.getD i d ∈ l := by rw [getD_lt h]; exact List.getElem_mem h
def stepB (t : Tk) (l : List Int) (i : Nat) : Bool := decide (0 ≤ l.getD i 0) && decide (l.getD i 0 < t.1.length) && (decide (i = 0) || followsB t (l.getD (i - 1) 0) (l.getD i 0))
def routeB (t : Tk) (l : List Int) : Bool := decide (1 ≤ l.length) && decide (l.length ≤ 400) && (List.range l.length).all (stepB t l)
theorem route_in {t : Tk} {l : List Int} (h : routeB t l = true) : 1 ≤ l.length ∧ l.length ≤ 400 ∧ ∀ i, i < l.length → 0 ≤ l.getD i 0 ∧ l.getD i 0 < t.1.length := by
  unfold routeB at h
  simp only [Bool.and_eq_true, decide_eq_true_eq, List.all_eq_true, List.mem_range] at h
  refine ⟨h.1.1, h.1.2, fun i hi => ?_⟩
  have := h.2 i hi
  unfold stepB at this
  simp only [Bool.and_eq_true, decide_eq_true_eq] at this
  exact this.1
def startI (t : Tk) (l : List Int) : Nat → Int
  | 0 => 0
  | n + 1 => startI t l n + (t.1.getD (l.getD n 0).toNat sg0).1
def LensOK (t : Tk) : Prop := ∀ i, i < t.1.length → 1 ≤ (t.1.getD i sg0).1 ∧ (t.1.getD i sg0).1 ≤ 1099511627776
theorem start_bound {t : Tk} {l : List Int} (hL : LensOK t) (hr : ∀ i, i < l.length → 0 ≤ l.getD i 0 ∧ l.getD i 0 < t.1.length) : ∀ n, n ≤ l.length → 0 ≤ startI t l n ∧ startI t l n ≤ n * 1099511627776 := by
  intro n
  induction n with
  | zero => intro _; simp [startI]
  | succ n ih =>
    intro hn
    have h1 := ih (by omega)
    have h2 := hr n (by omega)
    have h3 := hL (l.getD n 0).toNat (by omega)
    simp only [startI]
    rw [Int.natCast_add]
    omega
theorem f_Start (t : Tk) (l : List Int) (n : Nat) (hn : n ≤ l.length) (hl : l.length ≤ 400) (hL : LensOK t) (hr : ∀ i, i < l.length → 0 ≤ l.getD i 0 ∧ l.getD i 0 < t.1.length) : F_world_Start t l (n : Int) = some (startI t l n) := by
  unfold F_world_Start
  rw [chk_yes (by simp; omega)]
  have hlen : ((l.take (n : Int).toNat).drop (0 : Int).toNat).length = n := by simp; omega
  have hget : ∀ i, i < n → ((l.take (n : Int).toNat).drop (0 : Int).toNat).getD i 0 = l.getD i 0 := by
    intro i hi
    rw [getD_lt (by omega), getD_lt (by omega)]
    simp
  generalize (l.take (n : Int).toNat).drop (0 : Int).toNat = m at hlen hget ⊢
  simp only []
  rw [hlen, show ((0 : Int), (0 : Int)) = (startI t l 0, ((0 : Nat) : Int)) from rfl]
  rw [loop_run (n := n) (st := fun i => (startI t l i, (i : Int))) (x := startI t l n)]
  · rfl
  · intro i hi
    simp only []
    obtain ⟨r1, r2⟩ := hr i (by omega)
    have hb := start_bound hL hr i (by omega)
    have hb2 := hL (l.getD i 0).toNat (by omega)
    rw [decide_eq_true (show (i : Int) < n by omega), decide_eq_true (show (0 : Int) ≤ i by omega), Int.toNat_natCast, hget i hi, decide_eq_true r1, decide_eq_true r2, sg_def, wrap_ok (n := (i : Int) + 1) (by omega), wrap_ok (n := startI t l i + (t.1.getD (l.getD i 0).toNat sg0).1) (by omega)]
    rfl
  · simp
def posI (st : Int) (tk : List Tick) : Nat → Int
  | 0 => st
  | n + 1 => posI st tk n + (tk.getD n tk0).1
def onAt (L st : Int) (tk : List Tick) (i : Nat) : Bool := withB (tk.getD i tk0).1 L && (decide (0 ≤ posI st tk (i + 1)) && decide (posI st tk (i + 1) ≤ L))
def onB (L st : Int) (tk : List Tick) : Bool := decide (tk.length ≤ 4096) && decide (0 ≤ st) && decide (st ≤ L) && (List.range tk.length).all (onAt L st tk)
theorem all_none {n : Nat} {b : Nat → Bool} {X : Type} {x : X} {i : Nat} (h : ∀ j, j < i → (bif b j then none else some x) = (none : Option X)) : ∀ j, j < i → b j = true := by
  intro j hj
  have := h j hj
  cases hb : b j with
  | true => rfl
  | false => rw [hb] at this; cases this
end Go.Proofs.YtlkcanjbgaeceaaGreat
