/- PacketOf, PacketHolds: what their readings say is true. -/
import Derived.Test.YtomkodhihiloiaaDoorLaw16F
import Derived.Test.YtomkodhihiloiaaDoorRefTrackF
set_option linter.unusedSimpArgs false
set_option linter.unusedVariables false
namespace Go.Proofs.YtomkodhihiloiaaDoor
open Go.RowKit
abbrev Nums8 := Int × (Int × (Int × (Int × (Int × (Int × (Int × Int))))))
abbrev Flags7 := Bool × (Bool × (Bool × (Bool × (Bool × (Bool × Bool)))))
abbrev Pkt := Int × (Int × (Int × (Int × (Int × (Int × (Int × (Int × Flags7)))))))
abbrev RPkt := Nums8 × (Int × (Int × (Int × (Int × (Int × (Int × Int))))))
abbrev Rep35 := Int × (Int × (Int × ((Int × Int) × (Int × ((Int × Int) × (Int × (Int × ((List (List Int)) × (Int × (Bool × (Bool × ((Int × Int) × (Bool × (Bool × (Bool × (Bool × (Bool × ((Int × Int) × (Int × (((Int × Int) × (Int × Int)) × (Int × (Int × (Int × Int)))))))))))))))))))))))
def nums (p : Pkt) : Nums8 := (p.1, p.2.1, p.2.2.1, p.2.2.2.1, p.2.2.2.2.1, p.2.2.2.2.2.1, p.2.2.2.2.2.2.1, p.2.2.2.2.2.2.2.1)
def numL (n : Nums8) : List Int := [n.1, n.2.1, n.2.2.1, n.2.2.2.1, n.2.2.2.2.1, n.2.2.2.2.2.1, n.2.2.2.2.2.2.1, n.2.2.2.2.2.2.2]
def flag (b : Bool) : Int := bif b then 1 else 0
def flags (f : Flags7) : Int × (Int × (Int × (Int × (Int × (Int × Int))))) := (flag f.1, flag f.2.1, flag f.2.2.1, flag f.2.2.2.1, flag f.2.2.2.2.1, flag f.2.2.2.2.2.1, flag f.2.2.2.2.2.2)
def refP (p : Pkt) : RPkt := (nums p, flags p.2.2.2.2.2.2.2.2)
def wd (i : Nat) : Nat := [16, 3, 16, 36, 36, 36, 20, 20].getD i 0
def fitsB (i : Nat) (v : Int) : Bool := bif decide (2 < i) then (decide (-((2 ^ (wd i - 1) : Nat) : Int) ≤ v) && decide (v < ((2 ^ (wd i - 1) : Nat) : Int))) else (decide (0 ≤ v) && decide (v < ((2 ^ wd i : Nat) : Int)))
theorem dec_and (p q : Bool) : (bif p then q else false) = (p && q) := by cases p <;> rfl
theorem f_fits (i : Nat) (hi : i < 8) (v : Int) : F_packet_fits (i : Int) v = some (fitsB i v) := by
  have : i = 0 ∨ i = 1 ∨ i = 2 ∨ i = 3 ∨ i = 4 ∨ i = 5 ∨ i = 6 ∨ i = 7 := by omega
  unfold fitsB
  rcases this with rfl | rfl | rfl | rfl | rfl | rfl | rfl | rfl <;> (rw [← dec_and, ← dec_and]; rfl)
/-- May numbers be? -/
def rightB (n : Nums8) : Bool := (List.range 8).all (fun i => fitsB i ((numL n).getD i 0)) &&
  ((((decide (1 ≤ n.2.1) && decide (n.2.1 ≤ 4)) && decide (n.2.2.2.1 ≤ n.2.2.2.2.2.1)) && decide (n.2.2.2.2.2.1 ≤ n.2.2.2.2.1)) && decide (n.2.2.2.2.2.2.1 ≤ n.2.2.2.2.2.2.2) && (n.2.2.1 != 0 || (n.2.2.2.1 == 0 && n.2.2.2.2.1 == 0)))
theorem f_packRight (p : Pkt) : F_packet_Packet_Right p = some (rightB (nums p)) := by
  unfold F_packet_Packet_Right F_packet_Packet_numbers rightB
  simp only [Option.bind_some]
  rw [loop_find 8 (fun i => bif fitsB i ((numL (nums p)).getD i 0) then none else some (.inl false)) (.inr ())]
  · rw [all_find]
    cases (List.range 8).all (fun i => fitsB i ((numL (nums p)).getD i 0)) with
    | false => rfl
    | true =>
      simp only [cond_true, Option.bind_some, Bool.true_and]
      unfold nums
      simp only
      cases decide (1 ≤ p.2.1) <;> cases decide (p.2.1 ≤ 4) <;> cases decide (p.2.2.2.1 ≤ p.2.2.2.2.2.1) <;> cases decide (p.2.2.2.2.2.1 ≤ p.2.2.2.2.1) <;> cases decide (p.2.2.2.2.2.2.1 ≤ p.2.2.2.2.2.2.2.1) <;> try rfl
      cases p.2.2.1 != 0 <;> cases p.2.2.2.1 == 0 <;> cases p.2.2.2.2.1 == 0 <;> rfl
  · intro i hi
    rw [decide_eq_true (show (i : Int) < 8 by omega), decide_eq_true (show (0 : Int) ≤ i by omega), Int.toNat_natCast, wrap_ok (n := (i : Int) + 1) (by omega), f_fits i hi]
    simp only [cond_true, Bool.and_self, chk_yes, Option.bind_some]
    show (bif (!fitsB i ((numL (nums p)).getD i 0)) then _ else _) = _
    cases fitsB i ((numL (nums p)).getD i 0) <;> rfl
  · simp
theorem wd_in (i : Nat) (hi : i < 8) : 1 ≤ wd i ∧ wd i ≤ 36 := by
  have : i = 0 ∨ i = 1 ∨ i = 2 ∨ i = 3 ∨ i = 4 ∨ i = 5 ∨ i = 6 ∨ i = 7 := by omega
  rcases this with rfl | rfl | rfl | rfl | rfl | rfl | rfl | rfl <;> decide
theorem wd_get (i : Nat) (hi : i < 8) : List.getD [(16 : Int), 3, 16, 36, 36, 36, 20, 20] i 0 = (wd i : Int) := by
  have : i = 0 ∨ i = 1 ∨ i = 2 ∨ i = 3 ∨ i = 4 ∨ i = 5 ∨ i = 6 ∨ i = 7 := by omega
  rcases this with rfl | rfl | rfl | rfl | rfl | rfl | rfl | rfl <;> rfl
theorem f_RightR (p : RPkt) : F_ref35_Right p = some (rightB p.1) := by
  unfold F_ref35_Right F_ref35_Widths rightB
  simp only [Option.bind_some]
  rw [loop_find 8 (fun i => bif fitsB i ((numL p.1).getD i 0) then none else some (.inl false)) (.inr ())]
  · rw [all_find]
    cases (List.range 8).all (fun i => fitsB i ((numL p.1).getD i 0)) with
    | false => rfl
    | true =>
      simp only [cond_true, Option.bind_some, Bool.true_and]
      rw [@not_le_dec p.1.2.1 1, @not_le_dec 4 p.1.2.1, @not_le_dec p.1.2.2.2.2.2.1 p.1.2.2.2.1, @not_le_dec p.1.2.2.2.2.1 p.1.2.2.2.2.2.1, @not_le_dec p.1.2.2.2.2.2.2.2 p.1.2.2.2.2.2.2.1]
      cases decide (1 ≤ p.1.2.1) <;> cases decide (p.1.2.1 ≤ 4) <;> cases decide (p.1.2.2.2.1 ≤ p.1.2.2.2.2.2.1) <;> cases decide (p.1.2.2.2.2.2.1 ≤ p.1.2.2.2.2.1) <;> cases decide (p.1.2.2.2.2.2.2.1 ≤ p.1.2.2.2.2.2.2.2) <;> try rfl
      cases p.1.2.2.1 != 0 <;> cases p.1.2.2.2.1 == 0 <;> cases p.1.2.2.2.2.1 == 0 <;> rfl
  · intro i hi
    have hw := wd_in i hi
    have hp1 : 2 ^ (wd i - 1) ≤ 2 ^ 35 := Nat.pow_le_pow_right (by decide) (by omega)
    have hp2 : 2 * 2 ^ (wd i - 1) = 2 ^ wd i := by rw [← Nat.pow_succ']; congr 1; omega
    rw [decide_eq_true (show (i : Int) < 8 by omega), decide_eq_true (show (0 : Int) ≤ i by omega), Int.toNat_natCast, wrap_ok (n := (i : Int) + 1) (by omega)]
    simp only [cond_true, Bool.and_self, Bool.true_or, chk_yes]
    rw [show ((1 : Int), (1 : Int)) = (((0 : Nat) : Int) + 1, ((2 ^ 0 : Nat) : Int)) from rfl]
    rw [loop_run (n := wd i - 1) (st := fun k => ((k : Int) + 1, ((2 ^ k : Nat) : Int))) (x := ((2 ^ (wd i - 1) : Nat) : Int))]
    · rw [Option.bind_some]
      show (bif _ then _ else _) = _
      have hn : List.getD [p.1.1, p.1.2.1, p.1.2.2.1, p.1.2.2.2.1, p.1.2.2.2.2.1, p.1.2.2.2.2.2.1, p.1.2.2.2.2.2.2.1, p.1.2.2.2.2.2.2.2] i 0 = (numL p.1).getD i 0 := rfl
      rw [hn]
      generalize (numL p.1).getD i 0 = v
      rw [wrap_ok (n := 2 * ((2 ^ (wd i - 1) : Nat) : Int)) (by omega), wrap_ok (n := 0 - ((2 ^ (wd i - 1) : Nat) : Int)) (by omega)]
      unfold fitsB
      rw [← hp2]
      generalize 2 ^ (wd i - 1) = h at *
      by_cases h3 : i < 3
      · rw [decide_eq_true (show (i : Int) < 3 by omega), decide_eq_false (show ¬ (3 : Int) ≤ i by omega), decide_eq_false (show ¬ 2 < i by omega)]
        rw [@not_le_dec v 0, show decide (2 * (h : Int) ≤ v) = !decide (v < ((2 * h : Nat) : Int)) by rw [Bool.eq_iff_iff]; simp]
        cases decide (0 ≤ v) <;> cases decide (v < ((2 * h : Nat) : Int)) <;> rfl
      · rw [decide_eq_false (show ¬ (i : Int) < 3 by omega), decide_eq_true (show (3 : Int) ≤ i by omega), decide_eq_true (show 2 < i by omega), Int.zero_sub]
        rw [@not_le_dec v (-(h : Int)), show decide ((h : Int) ≤ v) = !decide (v < (h : Int)) by rw [Bool.eq_iff_iff]; simp]
        cases decide (-(h : Int) ≤ v) <;> cases decide (v < (h : Int)) <;> rfl
    · intro k hk
      have hpk : 2 ^ k ≤ 2 ^ 35 := Nat.pow_le_pow_right (by decide) (by omega)
      simp only []
      rw [wd_get i hi, decide_eq_true (show (k : Int) + 1 < (wd i : Int) by omega), Nat.pow_succ]
      generalize 2 ^ k = h at *
      rw [wrap_ok (n := 2 * (h : Int)) (by omega), wrap_ok (n := (k : Int) + 1 + 1) (by omega)]
      simp only [cond_true]
      refine congrArg some (congrArg Sum.inl ?_)
      simp only [Prod.mk.injEq]
      omega
    · simp only []
      rw [wd_get i hi, decide_eq_false (by omega)]
      rfl
  · simp
def upK (x : Int) : Int := if x / 1000 * 1000 = x then x / 1000 else x / 1000 + 1
theorem f_floorK (x : Int) (h : I64 x) : F_packet_floor x = some (x / 1000) := by
  unfold F_packet_floor
  obtain ⟨h1, h2⟩ := h
  rw [f_Floor x 1 1000 ⟨h1, h2⟩ ⟨by omega, by omega⟩ ⟨by omega, by omega⟩, if_neg (by omega), Int.mul_one, quo_floor (by omega)]
  unfold sayI
  rw [if_pos (in64_yes (by omega))]
  rfl
theorem f_ceilK (x : Int) (h : I64 x) : F_packet_ceil x = some (upK x) := by
  unfold F_packet_ceil
  obtain ⟨h1, h2⟩ := h
  rw [f_Ceil x 1 1000 ⟨h1, h2⟩ ⟨by omega, by omega⟩ ⟨by omega, by omega⟩, if_neg (by omega), Int.mul_one, quo_ceil (by omega)]
  have e : (if x - x / 1000 * 1000 = 0 then x / 1000 else x / 1000 + 1) = upK x := by
    unfold upK
    by_cases hx : x / 1000 * 1000 = x
    · rw [if_pos hx, if_pos (by omega)]
    · rw [if_neg hx, if_neg (by omega)]
  rw [e]
  unfold sayI
  rw [if_pos (in64_yes (by unfold upK; split <;> omega))]
  rfl
theorem and65535 (x : Int) : bits .i64 .and x 65535 = x % 65536 := by
  show IntKind.i64.wrap (((BitVec.ofInt 64 x) &&& (BitVec.ofInt 64 65535)).toNat : Int) = _
  have e : ((BitVec.ofInt 64 x) &&& (BitVec.ofInt 64 65535)).toNat = (x % 18446744073709551616).toNat % 65536 := by
    rw [BitVec.toNat_and, BitVec.toNat_ofInt]
    exact Nat.and_two_pow_sub_one_eq_mod _ 16
  rw [e, wrap_ok (by omega)]
  omega
theorem tmod65536 (x : Int) (h : I64 x) : (IntKind.i64.wrap (x.tmod 65536 + 65536)).tmod 65536 = x % 65536 := by
  have h1 := Int.mul_tdiv_add_tmod x 65536
  have h2 : x.tmod 65536 < 65536 := Int.tmod_lt_of_pos x (by decide)
  have h3 : -65536 < x.tmod 65536 := by
    have := Int.tmod_lt_of_pos (-x) (b := 65536) (by decide)
    rw [Int.neg_tmod] at this
    omega
  rw [wrap_ok (by omega), Int.tmod_eq_emod_of_nonneg (by omega)]
  omega
def estI (lo hi e : Int) : Int := if hi < (if e < lo then lo else e) then hi else (if e < lo then lo else e)
/-- The packet of a report, may it be or not. -/
def pktN (r : Rep35) : Nums8 := (r.1 % 65536, r.2.1, r.2.2.1, r.2.2.2.1.1 / 1000, upK r.2.2.2.1.2, estI (r.2.2.2.1.1 / 1000) (upK r.2.2.2.1.2) (r.2.2.2.2.1 / 1000), r.2.2.2.2.2.1.1 / 1000, upK r.2.2.2.2.2.1.2)
def pktF (r : Rep35) : Flags7 := (r.2.2.2.2.2.2.2.2.2.2.1, r.2.2.2.2.2.2.2.2.2.2.2.1, r.2.2.2.2.2.2.2.2.2.2.2.2.2.1, r.2.2.2.2.2.2.2.2.2.2.2.2.2.2.1, r.2.2.2.2.2.2.2.2.2.2.2.2.2.2.2.1, r.2.2.2.2.2.2.2.2.2.2.2.2.2.2.2.2.1, r.2.2.2.2.2.2.2.2.2.2.2.2.2.2.2.2.2.1)
def pkt (r : Rep35) : Pkt := ((pktN r).1, (pktN r).2.1, (pktN r).2.2.1, (pktN r).2.2.2.1, (pktN r).2.2.2.2.1, (pktN r).2.2.2.2.2.1, (pktN r).2.2.2.2.2.2.1, (pktN r).2.2.2.2.2.2.2, pktF r)
def pkt0 : Pkt := (0, 0, 0, 0, 0, 0, 0, 0, false, false, false, false, false, false, false)
structure RepOK (r : Rep35) : Prop where
  c : I64 r.1
  lo : I64 r.2.2.2.1.1
  hi : I64 r.2.2.2.1.2
  est : I64 r.2.2.2.2.1
  slow : I64 r.2.2.2.2.2.1.1
  fast : I64 r.2.2.2.2.2.1.2
theorem f_packetOf (r : Rep35) (h : RepOK r) : F_packet_Of r = some (bif rightB (pktN r) then (pkt r, true) else (pkt0, false)) := by
  unfold F_packet_Of
  simp only []
  rw [f_floorK _ h.lo, Option.bind_some, f_ceilK _ h.hi, Option.bind_some, f_floorK _ h.slow, Option.bind_some, f_ceilK _ h.fast, Option.bind_some, f_floorK _ h.est, Option.bind_some, and65535, f_packRight, Option.bind_some]
  have e : ∀ lo hi e : Int, (if hi < (if lo > e then lo else e) then hi else (if lo > e then lo else e)) = estI lo hi e := by
    intro lo hi e
    unfold estI
    rfl
  simp only [e]
  show (bif !rightB (pktN r) then _ else _) = _
  cases rightB (pktN r) <;> rfl
theorem cset {α β : Type} (b : Bool) (x y z : α) (K : α → Option β) (w : Option β) (h : (bif b then x else y) = z) (hk : K z = w) :
    Option.bind (bif b then some x else some y) K = w := by
  subst h
  rw [← hk]
  cases b <;> rfl
theorem f_ref35 (p : Pkt) : F_law35_ref p = some (refP p) := by
  obtain ⟨a1, a2, a3, a4, a5, a6, a7, a8, f1, f2, f3, f4, f5, f6, f7⟩ := p
  unfold F_law35_ref
  refine cset f1 _ _ (a5, a2, a8, 0, 0, a3, a6, 0, flag f1, 0, a1, a4, 0, a7, 0) _ _ (by cases f1 <;> rfl) ?_
  refine cset f2 _ _ (a5, a2, a8, 0, 0, a3, a6, 0, flag f1, 0, a1, a4, flag f2, a7, 0) _ _ (by cases f2 <;> rfl) ?_
  refine cset f3 _ _ (a5, a2, a8, flag f3, 0, a3, a6, 0, flag f1, 0, a1, a4, flag f2, a7, 0) _ _ (by cases f3 <;> rfl) ?_
  refine cset f4 _ _ (a5, a2, a8, flag f3, 0, a3, a6, flag f4, flag f1, 0, a1, a4, flag f2, a7, 0) _ _ (by cases f4 <;> rfl) ?_
  refine cset f5 _ _ (a5, a2, a8, flag f3, 0, a3, a6, flag f4, flag f1, 0, a1, a4, flag f2, a7, flag f5) _ _ (by cases f5 <;> rfl) ?_
  refine cset f6 _ _ (a5, a2, a8, flag f3, flag f6, a3, a6, flag f4, flag f1, 0, a1, a4, flag f2, a7, flag f5) _ _ (by cases f6 <;> rfl) ?_
  refine cset f7 _ _ (a5, a2, a8, flag f3, flag f6, a3, a6, flag f4, flag f1, flag f7, a1, a4, flag f2, a7, flag f5) _ _ (by cases f7 <;> rfl) ?_
  rfl
theorem f_anchor35 : F_law35_anchor () = some true := by
  unfold F_law35_anchor
  simp only []
  rw [f_packetOf (0, 2, 5, (-5, 1001), 0, (0, 0), 0, 0, [], 0, false, false, (0, 0), false, false, false, false, false, (0, 0), 0, ((0, 0), (0, 0)), 0, 0, 0, 0) ⟨⟨by decide, by decide⟩, ⟨by decide, by decide⟩, ⟨by decide, by decide⟩, ⟨by decide, by decide⟩, ⟨by decide, by decide⟩, ⟨by decide, by decide⟩⟩]
  rfl
theorem eqT_refl : ∀ (t : Ty) (x : t.den), t.plain = true → eqT t x x = true := by
  intro t
  induction t with
  | int k => intro x _; exact beq_self_eq_true (show Int from x)
  | bool => intro x _; exact beq_self_eq_true (show Bool from x)
  | str => intro x _; simp [eqT]
  | unit => intro x _; rfl
  | pair a b iha ihb => intro x h; simp only [Ty.plain, Bool.and_eq_true] at h; simp only [eqT, iha x.1 h.1, ihb x.2 h.2, Bool.and_self]
  | slice a _ => intro x h; simp [Ty.plain] at h
  | agg a ih => intro x h; exact ih x h
theorem flag_if (b : Bool) : (bif b then (1 : Int) else 0) = flag b := rfl
theorem right_small {n : Nums8} (h : rightB n = true) (i : Nat) (h3 : 3 ≤ i) (hi : i < 8) : -34359738368 ≤ (numL n).getD i 0 ∧ (numL n).getD i 0 < 34359738368 := by
  unfold rightB at h
  rw [Bool.and_eq_true] at h
  have := List.all_eq_true.1 h.1 i (List.mem_range.2 hi)
  unfold fitsB at this
  rw [decide_eq_true (show 2 < i by omega)] at this
  simp only [cond_true, Bool.and_eq_true, decide_eq_true_eq] at this
  have hw := wd_in i hi
  have hp : 2 ^ (wd i - 1) ≤ 2 ^ 35 := Nat.pow_le_pow_right (by decide) (by omega)
  omega
theorem rep_fits {r : Rep35} (h : Fits (.agg (.pair (.int .i64) (.pair (.int .i64) (.pair (.int .i64) (.pair (.agg (.pair (.int .i64) (.int .i64))) (.pair (.int .i64) (.pair (.agg (.pair (.int .i64) (.int .i64))) (.pair (.int .i64) (.pair (.int .i64) (.pair (.slice (.slice (.int .i64))) (.pair (.int .i64) (.pair .bool (.pair .bool (.pair (.agg (.pair (.int .i64) (.int .i64))) (.pair .bool (.pair .bool (.pair .bool (.pair .bool (.pair .bool (.pair (.agg (.pair (.int .i64) (.int .i64))) (.pair (.int .i64) (.pair (.agg (.pair (.agg (.pair (.int .i64) (.int .i64))) (.agg (.pair (.int .i64) (.int .i64))))) (.pair (.int .i64) (.pair (.int .i64) (.pair (.int .i64) (.int .i64)))))))))))))))))))))))))) r) : RepOK r := by
  obtain ⟨a1, a2, a3, ⟨a4, a5⟩, a6, ⟨a7, a8⟩, _⟩ := h
  exact ⟨i64_fits a1, i64_fits a4, i64_fits a5, i64_fits a6, i64_fits a7, i64_fits a8⟩
end Go.Proofs.YtomkodhihiloiaaDoor
