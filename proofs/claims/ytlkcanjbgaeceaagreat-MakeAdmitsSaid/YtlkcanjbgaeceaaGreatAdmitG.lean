/- What the readings of the judge of scripts say: speeds, wheels, numbers, places, counts, sensors. -/
import Derived.Test.YtlkcanjbgaeceaaGreatAdmitF
set_option linter.unusedSimpArgs false
set_option linter.unusedVariables false
namespace Go.Proofs.YtlkcanjbgaeceaaGreat
open Go.RowKit
theorem bind_inv {S X Y : Type} {f : S → Option (S ⊕ X)} {k : X → Option Y} {P : Y → Prop} {s : S} (I : S → Prop) (μ : S → Nat) (Q : X → Prop) (hI : I s)
    (h : ∀ s, I s → (∃ x, f s = some (.inr x) ∧ Q x) ∨ (∃ s', f s = some (.inl s') ∧ I s' ∧ μ s' < μ s)) (hk : ∀ x, Q x → ∃ y, k x = some y ∧ P y) : ∃ y, Option.bind (loopO f s) k = some y ∧ P y := by
  obtain ⟨x, h1, h2⟩ := loopO_inv I μ Q h s hI
  rw [h1]
  exact hk x h2
theorem wrap_i64 (x : Int) : I64 (IntKind.i64.wrap x) := by
  rw [IntKind.wrap_i64]
  exact ⟨by omega, by omega⟩
def prevI (v0 : Int) (tk : List Tick) (i : Nat) : Int := if i = 0 then v0 else (tk.getD (i - 1) tk0).1
def speedAt (ms ma v0 : Int) (tk : List Tick) (i : Nat) : Bool := withB (tk.getD i tk0).1 ms && withB ((tk.getD i tk0).1 - prevI v0 tk i) ma
def speedsB (ms ma v0 : Int) (tk : List Tick) : Bool := withB v0 ms && (List.range tk.length).all (speedAt ms ma v0 tk)
def wheelB (lo hi c p : Int) : Bool := decide (lo ≤ c) && decide (c ≤ hi) && decide (0 ≤ p) && decide (p < c)
def numAt (ae : Int) (t : Tick) : Bool := withB t.2.1.1 1099511627776 && withB t.2.1.2 1099511627776 && withB t.2.2.1 1073741824 && withB t.2.2.2.1 ae
def numbersB (ae : Int) (tk : List Tick) : Bool := (List.range tk.length).all fun i => numAt ae (tk.getD i tk0)
def placesL (st : Int) (tk : List Tick) : List Int := (List.range tk.length).map fun i => posI st tk (i + 1)
def turnI (p ph : Int) (slip : Tick → Int) (tk : List Tick) : Nat → Int
  | 0 => ph
  | n + 1 => IntKind.i64.wrap (turnI p ph slip tk n + IntKind.i64.wrap (IntKind.i64.wrap (p * (tk.getD n tk0).1) + slip (tk.getD n tk0)))
noncomputable def floorV (x c : Int) : Int := ((F_ratio_Floor x 1 c).getD (0, 0)).1
noncomputable def countsL (p c ph : Int) (slip : Tick → Int) (tk : List Tick) : List Int := (List.range tk.length).map fun i => floorV (turnI p ph slip tk (i + 1)) c
theorem f_FloorV (x c : Int) (hx : I64 x) (hc : I64 c) : ∃ e, F_ratio_Floor x 1 c = some (floorV x c, e) := by
  have := f_Floor x 1 c hx ⟨by omega, by omega⟩ hc
  unfold floorV
  rw [this]
  exact ⟨_, rfl⟩
end Go.Proofs.YtlkcanjbgaeceaaGreat
