/- Images: what the readers of both sides say. -/
import Derived.Test.YtomkodhihiloiaaDoorImgG
set_option linter.unusedSimpArgs false
set_option linter.unusedVariables false
namespace Go.Proofs.YtomkodhihiloiaaDoor
open Go.RowKit
theorem wrapI32 (n : Int) : IntKind.i32.wrap n = (n + 2147483648) % 4294967296 - 2147483648 := by
  have e : IntKind.i32.wrap n = if n % 4294967296 ≥ 2147483648 then n % 4294967296 - 4294967296 else n % 4294967296 := by
    unfold IntKind.wrap
    simp only [Bool.and_eq_true, decide_eq_true_eq]
    have h0 : IntKind.i32.signed = true := rfl
    have h1 : (2 : Int) ^ IntKind.i32.bits = 4294967296 := by decide
    have h2 : (2 : Int) ^ (IntKind.i32.bits - 1) = 2147483648 := by decide
    simp only [h0, h1, h2, true_and]
  rw [e]
  split <;> omega
theorem pow_le_256 {i k : Nat} (h : i ≤ k) : (256 : Int) ^ i ≤ 256 ^ k := by
  have h2 := Nat.pow_le_pow_right (n := 256) (by decide) h
  have h3 : ((256 ^ i : Nat) : Int) ≤ ((256 ^ k : Nat) : Int) := Int.ofNat_le.2 h2
  rw [Int.natCast_pow, Int.natCast_pow] at h3
  exact h3
theorem orV (a b : Int) (ha : 0 ≤ a) (h2 : 256 * a ≤ 18446744073709551615) (hb : 0 ≤ b ∧ b ≤ 255) : bits .u64 .or (IntKind.u64.wrap (a * 2 ^ 8)) (IntKind.u64.wrap b) = 256 * a + b := by
  have e1 : IntKind.u64.wrap (a * 2 ^ 8) = 256 * a := by rw [IntKind.wrap_u64]; omega
  have e2 : IntKind.u64.wrap b = b := by rw [IntKind.wrap_u64]; omega
  rw [e1, e2]
  exact or_join (256 * a) b 8 (by omega) h2 (by omega) hb.1 (by omega) (by omega)
theorem numU_take {l : List Int} {i : Nat} (hi : i < l.length) : numU (l.take (i + 1)) = 256 * numU (l.take i) + l.getD i 0 := by
  rw [← take_succ_getD (d := 0) hi, numU_app]
theorem u64_low {n : Nat} (h8 : n < 8) {l : List Int} (hb : ByL l) (hl : l.length ≤ n) : 0 ≤ numU l ∧ numU l ≤ 72057594037927935 := by
  have h := numU_range hb
  have hp := pow_le_256 (show l.length ≤ 7 by omega)
  have hp7 : (256 : Int) ^ 7 = 72057594037927936 := by decide
  omega
/-- A number without a sign is no greater than it may. -/
theorem numR_range (n : Nat) (x : Rs) (hb : ByL x.1) : 0 ≤ (numR n false x).1 ∧ (numR n false x).1 < 256 ^ n := by
  unfold numR
  split
  · exact ⟨Int.le_refl 0, Int.pow_pos (by decide)⟩
  · rename_i h
    have h := numU_range (byL_take hb n)
    simp only [cond_false]
    have e : (x.1.take n).length = n := by rw [List.length_take]; omega
    rw [e] at h
    exact h
theorem numR_sign (n : Nat) (x : Rs) : (numR n true x).2 = (numR n false x).2 := by
  unfold numR
  split <;> rfl
theorem numR_sgn (n : Nat) (hn : 0 < n) (x : Rs) : (numR n true x).1 = sgn n (numR n false x).1 := by
  unfold numR
  split
  · unfold sgn
    have hp : (0 : Int) < 256 ^ (n - 1) := Int.pow_pos (by decide)
    rw [if_neg (by simp only []; omega)]
  · rfl
/-- The piece that is read. -/
def pieceR (x : Rs) : (Int × Int) × Rs := (((numR 8 true x).1, (numR 4 true (numR 8 true x).2).1), (numR 4 true (numR 8 true x).2).2)
/-- Many of a kind. -/
def manyR {α : Type} (f : Rs → α × Rs) : Nat → Rs → List α × Rs
  | 0, x => ([], x)
  | n + 1, x => ((manyR f n x).1 ++ [(f (manyR f n x).2).1], (f (manyR f n x).2).2)
theorem manyR_length {α : Type} (f : Rs → α × Rs) (x : Rs) : ∀ n, (manyR f n x).1.length = n
  | 0 => rfl
  | n + 1 => by rw [manyR, List.length_append, manyR_length f x n]; rfl
theorem manyR_suf {α : Type} (f : Rs → α × Rs) (hf : ∀ x, (f x).2.1 <:+ x.1) (x : Rs) : ∀ n, (manyR f n x).2.1 <:+ x.1
  | 0 => List.suffix_refl _
  | n + 1 => (hf _).trans (manyR_suf f hf x n)
theorem pieceR_suf (x : Rs) : (pieceR x).2.1 <:+ x.1 := (numR_suf 4 true _).trans (numR_suf 8 true x)
/-- The segment behind that is read. -/
def nextR (x : Rs) : Int × Rs := numR 1 false x
theorem nextR_suf (x : Rs) : (nextR x).2.1 <:+ x.1 := numR_suf 1 false x
/-- A count. -/
def countR (n : Nat) (most : Int) (x : Rs) : Int × Rs := if most < (numR n false x).1 then (0, (numR n false x).2.1, true) else numR n false x
theorem countR_suf (n : Nat) (most : Int) (x : Rs) : (countR n most x).2.1 <:+ x.1 := by
  unfold countR
  split <;> exact numR_suf n false x
theorem countR_range (n : Nat) (most : Int) (hm : 0 ≤ most) (x : Rs) (hb : ByL x.1) : 0 ≤ (countR n most x).1 ∧ (countR n most x).1 ≤ most := by
  unfold countR
  have := numR_range n x hb
  split
  · exact ⟨Int.le_refl _, hm⟩
  · omega
/-- The segment that is read. -/
def segR (x : Rs) : Sg × Rs :=
  let a := numR 8 true x
  let c := countR 1 64 a.2
  let p := manyR pieceR c.1.toNat c.2
  let d := countR 1 2 p.2
  let w := manyR nextR d.1.toNat d.2
  ((a.1, p.1, w.1), w.2)
theorem segR_suf (x : Rs) : (segR x).2.1 <:+ x.1 :=
  (manyR_suf nextR nextR_suf _ _).trans ((countR_suf 1 2 _).trans ((manyR_suf pieceR pieceR_suf _ _).trans ((countR_suf 1 64 _).trans (numR_suf 8 true x))))
/-- The group that is read. -/
def grpR (x : Rs) : Gp × Rs :=
  let a := numR 2 false x
  let b := numR 1 false a.2
  let c := numR 8 true b.2
  let d := numR 4 false c.2
  let e := numR 4 false d.2
  ((a.1, b.1, c.1, d.1, e.1), e.2)
theorem grpR_suf (x : Rs) : (grpR x).2.1 <:+ x.1 :=
  (numR_suf 4 false _).trans ((numR_suf 4 false _).trans ((numR_suf 8 true _).trans ((numR_suf 1 false _).trans (numR_suf 2 false x))))
/-- The track that is read. -/
def bodyR (x : Rs) : Tk × Rs :=
  let c := countR 2 200 x
  let s := manyR segR c.1.toNat c.2
  let d := countR 2 400 s.2
  let g := manyR grpR d.1.toNat d.2
  ((s.1, g.1), g.2)
theorem bodyR_few (x : Rs) (hb : ByL x.1) : (bodyR x).1.1.length ≤ 200 ∧ (bodyR x).1.2.length ≤ 400 := by
  have h1 := countR_range 2 200 (by decide) x hb
  have hs := countR_suf 2 200 x
  have hs2 := manyR_suf segR segR_suf (countR 2 200 x).2 (countR 2 200 x).1.toNat
  have h2 := countR_range 2 400 (by decide) (manyR segR (countR 2 200 x).1.toNat (countR 2 200 x).2).2 (byL_suf hb (hs2.trans hs))
  constructor
  · show (manyR segR _ _).1.length ≤ 200
    rw [manyR_length]; omega
  · show (manyR grpR _ _).1.length ≤ 400
    rw [manyR_length]; omega
/-- The magic. -/
def magicL : List Int := [79, 68, 79, 49]
/-- What bytes are opened to. -/
def openI (b : List Int) : Tk × Int :=
  if 1048576 < b.length then (([], []), 15)
  else if b.length < 6 ∨ b.take 4 ≠ magicL then (([], []), 11)
  else if crcI b ≠ 0 then (([], []), 31)
  else if (bodyR ((b.take (b.length - 2)).drop 4, false)).2.2 = true ∨ (bodyR ((b.take (b.length - 2)).drop 4, false)).2.1 ≠ [] then (([], []), 14)
  else if (checkI (bodyR ((b.take (b.length - 2)).drop 4, false)).1).1 ≠ 0 then (([], []), 51)
  else ((bodyR ((b.take (b.length - 2)).drop 4, false)).1, 0)
end Go.Proofs.YtomkodhihiloiaaDoor
