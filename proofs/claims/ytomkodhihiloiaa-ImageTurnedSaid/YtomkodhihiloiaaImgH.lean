/- Images: what the readers of both sides say. -/
import Derived.Test.YtomkodhihiloiaaImgG
set_option linter.unusedSimpArgs false
set_option linter.unusedVariables false
namespace Go.Proofs.Ytomkodhihiloiaa
open Go.RowKit
theorem wrapI32 (n : Int) : IntKind.i32.wrap n = (n + 2147483648) % 4294967296 - 2147483648 := by
  have e : IntKind.i32.wrap n = if n % 4294967296 ≥ 2147483648 then n % 4294967296 - 4294967296 else n % 4294967296 := by
    unfold IntKind.wrap
    simp only [Bool.and_eq_true, decide_eq_true_eq]
    have h0 : IntKind.i32.signed = true := rfl
    have h1 : (2 : Int) ^ IntKind.i32.bits = 4294967296 := by decide
    have h2 : (2 : Int) ^ (IntKind.i32.bits - 1) = 2147483648 := by decide
    simp only [h0, h1, h2, true_and]
  rw [e]
  split <;> omega
theorem pow_le_256 {i k : Nat} (h : i ≤ k) : (256 : Int) ^ i ≤ 256 ^ k := by
  have h2 := Nat.pow_le_pow_right (n := 256) (by decide) h
  have h3 : ((256 ^ i : Nat) : Int) ≤ ((256 ^ k : Nat) : Int) := Int.ofNat_le.2 h2
  rw [Int.natCast_pow, Int.natCast_pow] at h3
  exact h3
theorem orV (a b : Int) (ha : 0 ≤ a) (h2 : 256 * a ≤ 18446744073709551615) (hb : 0 ≤ b ∧ b ≤ 255) : bits .u64 .or (IntKind.u64.wrap (a * 2 ^ 8)) (IntKind.u64.wrap b) = 256 * a + b := by
  have e1 : IntKind.u64.wrap (a * 2 ^ 8) = 256 * a := by rw [IntKind.wrap_u64]; omega
  have e2 : IntKind.u64.wrap b = b := by rw [IntKind.wrap_u64]; omega
  rw [e1, e2]
  exact or_join (256 * a) b 8 (by omega) h2 (by omega) hb.1 (by omega) (by omega)
theorem numU_take {l : List Int} {i : Nat} (hi : i < l.length) : numU (l.take (i + 1)) = 256 * numU (l.take i) + l.getD i 0 := by
  rw [← take_succ_getD (d := 0) hi, numU_app]
/-- The program's reader of numbers. -/
theorem f_num (n : Nat) (h1 : 1 ≤ n) (h8 : n ≤ 8) (x : Rs) (hb : ByL x.1) (hl : x.1.length ≤ 140737488355328) : F_image_reader_num (n : Int) x.1 x.2 = some (IntKind.i64.wrap (numR n false x).1, (numR n false x).2.1, (numR n false x).2.2) := by
  obtain ⟨x, sh⟩ := x
  unfold F_image_reader_num numR
  simp only [] at hb hl ⊢
  by_cases hc : sh = true ∨ x.length < n
  · rw [if_pos hc]
    have e : (bif sh then true else decide ((x.length : Int) < (n : Int))) = true := by
      rcases hc with hc | hc
      · rw [hc]; rfl
      · rw [decide_eq_true (by omega)]; cases sh <;> rfl
    rw [e]
    rfl
  · rw [if_neg hc]
    have hs : sh = false := by cases sh with | false => rfl | true => exact absurd (.inl rfl) hc
    have hn : n ≤ x.length := Nat.le_of_not_lt fun h => hc (.inr h)
    subst hs
    simp only [cond_false]
    rw [decide_eq_false (show ¬ (x.length : Int) < (n : Int) by omega), decide_eq_true (show (0 : Int) ≤ (n : Int) by omega), decide_eq_true (show (n : Int) ≤ (x.length : Int) by omega), decide_eq_true (show (x.length : Int) ≤ (x.length : Int) by omega)]
    simp only [cond_false, Bool.and_self, chk_yes, Int.toNat_natCast, Int.toNat_zero, List.drop_zero, List.take_length]
    have hlen : (x.take n).length = n := by rw [List.length_take]; omega
    generalize hm : x.take n = m at *
    have hbm : ByL m := by rw [← hm]; exact byL_take hb n
    have e0 : (((0 : Int), (0 : Int)) : Int × Int) = (((0 : Nat) : Int), numU (m.take 0)) := rfl
    rw [e0, loop_run (n := n) (st := fun i => ((i : Int), numU (m.take i))) (x := numU m)]
    · rfl
    · intro i hi
      simp only []
      have hr := numU_range (byL_take hbm i)
      rw [List.length_take, Nat.min_eq_left (by omega)] at hr
      have hp := pow_le_256 (show i ≤ 7 by omega)
      have hp7 : (256 : Int) ^ 7 = 72057594037927936 := by decide
      rw [hp7] at hp
      have hc' := byL_bytes hbm i
      rw [decide_eq_true (show (i : Int) < (m.length : Int) by omega), decide_eq_true (show (0 : Int) ≤ (i : Int) by omega), wrap_ok (n := (i : Int) + 1) (by omega), Int.toNat_natCast, numU_take (by omega)]
      generalize numU (m.take i) = v at *
      rw [orV v _ hr.1 (by omega) hc']
      simp only [cond_true, Bool.and_self, chk_yes]
      rfl
    · simp only []
      rw [decide_eq_false (by omega), List.take_of_length_le (by omega)]
      rfl
theorem u64_low {n : Nat} (h8 : n < 8) {l : List Int} (hb : ByL l) (hl : l.length ≤ n) : 0 ≤ numU l ∧ numU l ≤ 72057594037927935 := by
  have h := numU_range hb
  have hp := pow_le_256 (show l.length ≤ 7 by omega)
  have hp7 : (256 : Int) ^ 7 = 72057594037927936 := by decide
  omega
/-- A number without a sign is no greater than it may. -/
theorem numR_range (n : Nat) (x : Rs) (hb : ByL x.1) : 0 ≤ (numR n false x).1 ∧ (numR n false x).1 < 256 ^ n := by
  unfold numR
  split
  · exact ⟨Int.le_refl 0, Int.pow_pos (by decide)⟩
  · rename_i h
    have h := numU_range (byL_take hb n)
    simp only [cond_false]
    have e : (x.1.take n).length = n := by rw [List.length_take]; omega
    rw [e] at h
    exact h
theorem f_numU (n : Nat) (h1 : 1 ≤ n) (h8 : n < 8) (x : Rs) (hb : ByL x.1) (hl : x.1.length ≤ 140737488355328) : F_image_reader_num (n : Int) x.1 x.2 = some (numR n false x) := by
  rw [f_num n h1 (by omega) x hb hl]
  have h := numR_range n x hb
  have hp := pow_le_256 (show n ≤ 7 by omega)
  have hp7 : (256 : Int) ^ 7 = 72057594037927936 := by decide
  rw [wrap_ok (by omega)]
theorem f_n1 (x : Rs) (hb : ByL x.1) (hl : x.1.length ≤ 140737488355328) : F_image_reader_num 1 x.1 x.2 = some (numR 1 false x) := f_numU 1 (by decide) (by decide) x hb hl
theorem f_n2 (x : Rs) (hb : ByL x.1) (hl : x.1.length ≤ 140737488355328) : F_image_reader_num 2 x.1 x.2 = some (numR 2 false x) := f_numU 2 (by decide) (by decide) x hb hl
theorem f_n4 (x : Rs) (hb : ByL x.1) (hl : x.1.length ≤ 140737488355328) : F_image_reader_num 4 x.1 x.2 = some (numR 4 false x) := f_numU 4 (by decide) (by decide) x hb hl
theorem numR_sign (n : Nat) (x : Rs) : (numR n true x).2 = (numR n false x).2 := by
  unfold numR
  split <;> rfl
theorem numR_sgn (n : Nat) (hn : 0 < n) (x : Rs) : (numR n true x).1 = sgn n (numR n false x).1 := by
  unfold numR
  split
  · unfold sgn
    have hp : (0 : Int) < 256 ^ (n - 1) := Int.pow_pos (by decide)
    rw [if_neg (by simp only []; omega)]
  · rfl
theorem f_num8 (x : Rs) (hb : ByL x.1) (hl : x.1.length ≤ 140737488355328) : F_image_reader_num 8 x.1 x.2 = some (numR 8 true x) := by
  have h := f_num 8 (by decide) (by decide) x hb hl
  have h2 := numR_range 8 x hb
  have hw : IntKind.i64.wrap (numR 8 false x).1 = (numR 8 true x).1 := by
    rw [numR_sgn 8 (by decide)]
    unfold sgn
    rw [IntKind.wrap_i64]
    have e1 : (256 : Int) ^ 8 = 18446744073709551616 := by decide
    have e2 : 128 * (256 : Int) ^ (8 - 1) = 9223372036854775808 := by decide
    rw [e1] at h2 ⊢
    rw [e2]
    split <;> omega
  rw [hw, ← numR_sign] at h
  exact h
/-- The piece that is read. -/
def pieceR (x : Rs) : (Int × Int) × Rs := (((numR 8 true x).1, (numR 4 true (numR 8 true x).2).1), (numR 4 true (numR 8 true x).2).2)
theorem f_piece (x : Rs) (hb : ByL x.1) (hl : x.1.length ≤ 140737488355328) : F_image_reader_piece x.1 x.2 = some (pieceR x) := by
  unfold F_image_reader_piece pieceR
  rw [f_num8 x hb hl, Option.bind_some]
  have hs := numR_suf 8 true x
  have hb2 := byL_suf hb hs
  have hl2 := hs.length_le
  rw [f_n4 (numR 8 true x).2 hb2 (by omega), Option.bind_some]
  generalize (numR 8 true x).2 = y at *
  simp only []
  have h2 := numR_range 4 y hb2
  have hw : IntKind.i64.wrap (IntKind.i32.wrap (numR 4 false y).1) = (numR 4 true y).1 := by
    rw [numR_sgn 4 (by decide)]
    unfold sgn
    have e1 : (256 : Int) ^ 4 = 4294967296 := by decide
    have e2 : 128 * (256 : Int) ^ (4 - 1) = 2147483648 := by decide
    rw [e1] at h2 ⊢
    rw [e2]
    have e3 : ∀ u : Int, IntKind.i32.wrap u = (u + 2147483648) % 4294967296 - 2147483648 := fun u => wrapI32 u
    rw [e3, wrap_ok (by omega)]
    split <;> omega
  rw [hw, numR_sign 4]
/-- Many of a kind. -/
def manyR {α : Type} (f : Rs → α × Rs) : Nat → Rs → List α × Rs
  | 0, x => ([], x)
  | n + 1, x => ((manyR f n x).1 ++ [(f (manyR f n x).2).1], (f (manyR f n x).2).2)
theorem manyR_length {α : Type} (f : Rs → α × Rs) (x : Rs) : ∀ n, (manyR f n x).1.length = n
  | 0 => rfl
  | n + 1 => by rw [manyR, List.length_append, manyR_length f x n]; rfl
theorem manyR_suf {α : Type} (f : Rs → α × Rs) (hf : ∀ x, (f x).2.1 <:+ x.1) (x : Rs) : ∀ n, (manyR f n x).2.1 <:+ x.1
  | 0 => List.suffix_refl _
  | n + 1 => (hf _).trans (manyR_suf f hf x n)
theorem pieceR_suf (x : Rs) : (pieceR x).2.1 <:+ x.1 := (numR_suf 4 true _).trans (numR_suf 8 true x)
theorem f_manyP (n : Nat) (hn : n ≤ 1000) (x : Rs) (hb : ByL x.1) (hl : x.1.length ≤ 140737488355328) : F_image_many_grade_Piece (n : Int) x.1 x.2 = some (manyR pieceR n x) := by
  unfold F_image_many_grade_Piece
  rw [show ((0 : Int), x.2, ([] : List (Int × Int)), x.1) = (((0 : Nat) : Int), (manyR pieceR 0 x).2.2, (manyR pieceR 0 x).1, (manyR pieceR 0 x).2.1) from rfl]
  rw [loop_run (n := n) (st := fun k => ((k : Int), (manyR pieceR k x).2.2, (manyR pieceR k x).1, (manyR pieceR k x).2.1)) (x := ((manyR pieceR n x).2.2, (manyR pieceR n x).2.1, (manyR pieceR n x).1))]
  · rfl
  · intro k hk
    simp only []
    have hs := manyR_suf pieceR pieceR_suf x k
    rw [decide_eq_true (show (k : Int) < (n : Int) by omega), f_piece (manyR pieceR k x).2 (byL_suf hb hs) (Nat.le_trans hs.length_le hl), wrap_ok (n := (k : Int) + 1) (by omega)]
    have hle : ((manyR pieceR k x).1.length + ([(pieceR (manyR pieceR k x).2).1] : List (Int × Int)).length) * 16 ≤ 140737488355328 := by
      rw [manyR_length, List.length_singleton]; omega
    simp only [cond_true, Option.bind_some]
    rw [decide_eq_true hle]
    rfl
  · simp only []
    rw [decide_eq_false (by omega)]
    rfl
/-- The segment behind that is read. -/
def nextR (x : Rs) : Int × Rs := numR 1 false x
theorem nextR_suf (x : Rs) : (nextR x).2.1 <:+ x.1 := numR_suf 1 false x
theorem f_next (x : Rs) (hb : ByL x.1) (hl : x.1.length ≤ 140737488355328) : F_image_reader_next x.1 x.2 = some (nextR x) := by
  unfold F_image_reader_next nextR
  rw [f_n1 x hb hl]
  rfl
theorem f_manyI (n : Nat) (hn : n ≤ 1000) (x : Rs) (hb : ByL x.1) (hl : x.1.length ≤ 140737488355328) : F_image_many_int (n : Int) x.1 x.2 = some (manyR nextR n x) := by
  unfold F_image_many_int
  rw [show ((0 : Int), x.2, ([] : List Int), x.1) = (((0 : Nat) : Int), (manyR nextR 0 x).2.2, (manyR nextR 0 x).1, (manyR nextR 0 x).2.1) from rfl]
  rw [loop_run (n := n) (st := fun k => ((k : Int), (manyR nextR k x).2.2, (manyR nextR k x).1, (manyR nextR k x).2.1)) (x := ((manyR nextR n x).2.2, (manyR nextR n x).2.1, (manyR nextR n x).1))]
  · rfl
  · intro k hk
    simp only []
    have hs := manyR_suf nextR nextR_suf x k
    rw [decide_eq_true (show (k : Int) < (n : Int) by omega), f_next (manyR nextR k x).2 (byL_suf hb hs) (Nat.le_trans hs.length_le hl), wrap_ok (n := (k : Int) + 1) (by omega)]
    have hle : ((manyR nextR k x).1.length + ([(nextR (manyR nextR k x).2).1] : List Int).length) * 8 ≤ 140737488355328 := by
      rw [manyR_length, List.length_singleton]; omega
    simp only [cond_true, Option.bind_some]
    rw [decide_eq_true hle]
    rfl
  · simp only []
    rw [decide_eq_false (by omega)]
    rfl
/-- A count. -/
def countR (n : Nat) (most : Int) (x : Rs) : Int × Rs := if most < (numR n false x).1 then (0, (numR n false x).2.1, true) else numR n false x
theorem countR_suf (n : Nat) (most : Int) (x : Rs) : (countR n most x).2.1 <:+ x.1 := by
  unfold countR
  split <;> exact numR_suf n false x
theorem countR_range (n : Nat) (most : Int) (hm : 0 ≤ most) (x : Rs) (hb : ByL x.1) : 0 ≤ (countR n most x).1 ∧ (countR n most x).1 ≤ most := by
  unfold countR
  have := numR_range n x hb
  split
  · exact ⟨Int.le_refl _, hm⟩
  · omega
theorem f_count (n : Nat) (h1 : 1 ≤ n) (h8 : n < 8) (most : Int) (x : Rs) (hb : ByL x.1) (hl : x.1.length ≤ 140737488355328) : F_image_reader_count (n : Int) most x.1 x.2 = some (countR n most x) := by
  unfold F_image_reader_count countR
  rw [f_numU n h1 h8 x hb hl, Option.bind_some]
  by_cases h : most < (numR n false x).1
  · rw [if_pos h]
    simp only []
    rw [decide_eq_true h]
    rfl
  · rw [if_neg h]
    simp only []
    rw [decide_eq_false h]
    rfl
theorem f_c1 (most : Int) (x : Rs) (hb : ByL x.1) (hl : x.1.length ≤ 140737488355328) : F_image_reader_count 1 most x.1 x.2 = some (countR 1 most x) := f_count 1 (by decide) (by decide) most x hb hl
theorem f_c2 (most : Int) (x : Rs) (hb : ByL x.1) (hl : x.1.length ≤ 140737488355328) : F_image_reader_count 2 most x.1 x.2 = some (countR 2 most x) := f_count 2 (by decide) (by decide) most x hb hl
/-- The segment that is read. -/
def segR (x : Rs) : Sg × Rs :=
  let a := numR 8 true x
  let c := countR 1 64 a.2
  let p := manyR pieceR c.1.toNat c.2
  let d := countR 1 2 p.2
  let w := manyR nextR d.1.toNat d.2
  ((a.1, p.1, w.1), w.2)
theorem segR_suf (x : Rs) : (segR x).2.1 <:+ x.1 :=
  (manyR_suf nextR nextR_suf _ _).trans ((countR_suf 1 2 _).trans ((manyR_suf pieceR pieceR_suf _ _).trans ((countR_suf 1 64 _).trans (numR_suf 8 true x))))
theorem f_segmentI (x : Rs) (hb : ByL x.1) (hl : x.1.length ≤ 140737488355328) : F_image_reader_segment x.1 x.2 = some (segR x) := by
  unfold F_image_reader_segment segR
  simp only []
  rw [f_num8 x hb hl, Option.bind_some]
  have hs := numR_suf 8 true x
  generalize numR 8 true x = a at *
  have hb := byL_suf hb hs
  have hl := Nat.le_trans hs.length_le hl
  rw [f_c1 64 a.2 hb hl, Option.bind_some]
  have hs := countR_suf 1 64 a.2
  have hr := countR_range 1 64 (by decide) a.2 hb
  generalize countR 1 64 a.2 = c at *
  have hb := byL_suf hb hs
  have hl := Nat.le_trans hs.length_le hl
  try simp only []
  obtain ⟨k, hk⟩ : ∃ k : Nat, c.1 = k := ⟨c.1.toNat, by omega⟩
  rw [hk, f_manyP k (by omega) c.2 hb hl, Option.bind_some, Int.toNat_natCast]
  have hs := manyR_suf pieceR pieceR_suf c.2 k
  generalize manyR pieceR k c.2 = p at *
  have hb := byL_suf hb hs
  have hl := Nat.le_trans hs.length_le hl
  rw [f_c1 2 p.2 hb hl, Option.bind_some]
  have hs := countR_suf 1 2 p.2
  have hr := countR_range 1 2 (by decide) p.2 hb
  generalize countR 1 2 p.2 = d at *
  have hb := byL_suf hb hs
  have hl := Nat.le_trans hs.length_le hl
  obtain ⟨m, hm⟩ : ∃ m : Nat, d.1 = m := ⟨d.1.toNat, by omega⟩
  rw [hm, f_manyI m (by omega) d.2 hb hl, Option.bind_some, Int.toNat_natCast]
/-- The group that is read. -/
def grpR (x : Rs) : Gp × Rs :=
  let a := numR 2 false x
  let b := numR 1 false a.2
  let c := numR 8 true b.2
  let d := numR 4 false c.2
  let e := numR 4 false d.2
  ((a.1, b.1, c.1, d.1, e.1), e.2)
theorem grpR_suf (x : Rs) : (grpR x).2.1 <:+ x.1 :=
  (numR_suf 4 false _).trans ((numR_suf 4 false _).trans ((numR_suf 8 true _).trans ((numR_suf 1 false _).trans (numR_suf 2 false x))))
theorem f_groupI (x : Rs) (hb : ByL x.1) (hl : x.1.length ≤ 140737488355328) : F_image_reader_group x.1 x.2 = some (grpR x) := by
  unfold F_image_reader_group grpR
  simp only []
  rw [f_n2 x hb hl, Option.bind_some]
  have hs := numR_suf 2 false x
  generalize numR 2 false x = a at *
  have hb := byL_suf hb hs
  have hl := Nat.le_trans hs.length_le hl
  rw [f_n1 a.2 hb hl, Option.bind_some]
  have hs := numR_suf 1 false a.2
  generalize numR 1 false a.2 = b at *
  have hb := byL_suf hb hs
  have hl := Nat.le_trans hs.length_le hl
  try simp only []
  rw [f_num8 b.2 hb hl, Option.bind_some]
  have hs := numR_suf 8 true b.2
  generalize numR 8 true b.2 = c at *
  have hb := byL_suf hb hs
  have hl := Nat.le_trans hs.length_le hl
  rw [f_n4 c.2 hb hl, Option.bind_some]
  have hs := numR_suf 4 false c.2
  generalize numR 4 false c.2 = d at *
  have hb := byL_suf hb hs
  have hl := Nat.le_trans hs.length_le hl
  rw [f_n4 d.2 hb hl, Option.bind_some]
theorem f_manyS (n : Nat) (hn : n ≤ 1000) (x : Rs) (hb : ByL x.1) (hl : x.1.length ≤ 140737488355328) : F_image_many_track_Segment (n : Int) x.1 x.2 = some (manyR segR n x) := by
  unfold F_image_many_track_Segment
  rw [show ((0 : Int), x.2, ([] : List Sg), x.1) = (((0 : Nat) : Int), (manyR segR 0 x).2.2, (manyR segR 0 x).1, (manyR segR 0 x).2.1) from rfl]
  rw [loop_run (n := n) (st := fun k => ((k : Int), (manyR segR k x).2.2, (manyR segR k x).1, (manyR segR k x).2.1)) (x := ((manyR segR n x).2.2, (manyR segR n x).2.1, (manyR segR n x).1))]
  · rfl
  · intro k hk
    simp only []
    have hs := manyR_suf segR segR_suf x k
    rw [decide_eq_true (show (k : Int) < (n : Int) by omega), f_segmentI (manyR segR k x).2 (byL_suf hb hs) (Nat.le_trans hs.length_le hl), wrap_ok (n := (k : Int) + 1) (by omega)]
    have hle : ((manyR segR k x).1.length + ([(segR (manyR segR k x).2).1] : List Sg).length) * 56 ≤ 140737488355328 := by
      rw [manyR_length, List.length_singleton]; omega
    simp only [cond_true, Option.bind_some]
    rw [decide_eq_true hle]
    rfl
  · simp only []
    rw [decide_eq_false (by omega)]
    rfl
theorem f_manyG (n : Nat) (hn : n ≤ 1000) (x : Rs) (hb : ByL x.1) (hl : x.1.length ≤ 140737488355328) : F_image_many_track_Group (n : Int) x.1 x.2 = some (manyR grpR n x) := by
  unfold F_image_many_track_Group
  rw [show ((0 : Int), x.2, ([] : List Gp), x.1) = (((0 : Nat) : Int), (manyR grpR 0 x).2.2, (manyR grpR 0 x).1, (manyR grpR 0 x).2.1) from rfl]
  rw [loop_run (n := n) (st := fun k => ((k : Int), (manyR grpR k x).2.2, (manyR grpR k x).1, (manyR grpR k x).2.1)) (x := ((manyR grpR n x).2.2, (manyR grpR n x).2.1, (manyR grpR n x).1))]
  · rfl
  · intro k hk
    simp only []
    have hs := manyR_suf grpR grpR_suf x k
    rw [decide_eq_true (show (k : Int) < (n : Int) by omega), f_groupI (manyR grpR k x).2 (byL_suf hb hs) (Nat.le_trans hs.length_le hl), wrap_ok (n := (k : Int) + 1) (by omega)]
    have hle : ((manyR grpR k x).1.length + ([(grpR (manyR grpR k x).2).1] : List Gp).length) * 40 ≤ 140737488355328 := by
      rw [manyR_length, List.length_singleton]; omega
    simp only [cond_true, Option.bind_some]
    rw [decide_eq_true hle]
    rfl
  · simp only []
    rw [decide_eq_false (by omega)]
    rfl
/-- The track that is read. -/
def bodyR (x : Rs) : Tk × Rs :=
  let c := countR 2 200 x
  let s := manyR segR c.1.toNat c.2
  let d := countR 2 400 s.2
  let g := manyR grpR d.1.toNat d.2
  ((s.1, g.1), g.2)
theorem bodyR_few (x : Rs) (hb : ByL x.1) : (bodyR x).1.1.length ≤ 200 ∧ (bodyR x).1.2.length ≤ 400 := by
  have h1 := countR_range 2 200 (by decide) x hb
  have hs := countR_suf 2 200 x
  have hs2 := manyR_suf segR segR_suf (countR 2 200 x).2 (countR 2 200 x).1.toNat
  have h2 := countR_range 2 400 (by decide) (manyR segR (countR 2 200 x).1.toNat (countR 2 200 x).2).2 (byL_suf hb (hs2.trans hs))
  constructor
  · show (manyR segR _ _).1.length ≤ 200
    rw [manyR_length]; omega
  · show (manyR grpR _ _).1.length ≤ 400
    rw [manyR_length]; omega
/-- The magic. -/
def magicL : List Int := [79, 68, 79, 49]
/-- What bytes are opened to. -/
def openI (b : List Int) : Tk × Int :=
  if 1048576 < b.length then (([], []), 15)
  else if b.length < 6 ∨ b.take 4 ≠ magicL then (([], []), 11)
  else if crcI b ≠ 0 then (([], []), 31)
  else if (bodyR ((b.take (b.length - 2)).drop 4, false)).2.2 = true ∨ (bodyR ((b.take (b.length - 2)).drop 4, false)).2.1 ≠ [] then (([], []), 14)
  else if (checkI (bodyR ((b.take (b.length - 2)).drop 4, false)).1).1 ≠ 0 then (([], []), 51)
  else ((bodyR ((b.take (b.length - 2)).drop 4, false)).1, 0)
end Go.Proofs.Ytomkodhihiloiaa
