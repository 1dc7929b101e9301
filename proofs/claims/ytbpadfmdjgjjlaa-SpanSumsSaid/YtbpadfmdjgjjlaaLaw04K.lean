/- SpanSums: the reference's ends. -/
import Derived.Test.YtbpadfmdjgjjlaaLaw04J
set_option linter.unusedSimpArgs false
set_option linter.unusedVariables false
namespace Go.Proofs.Ytbpadfmdjgjjlaa
open Go.RowKit
theorem n_Back {n : Int × D4} {v : Int} (h : IsN n v) (hv : -85070591730234615865843651857942052864 ≤ v ∧ v ≤ 85070591730234615865843651857942052864) : ∃ r, F_ref01_Back n = some r ∧ r.2 = in64 v ∧ (r.2 = true → r.1 = v) := by
  obtain ⟨s, h1, rfl, h3⟩ := h
  have b1 : 0 ≤ szI v ∧ szI v ≤ 85070591730234615865843651857942052864 := by unfold szI; split <;> omega
  have hn := num_dg (m := szI v) ⟨b1.1, by omega⟩
  have htop : isD ((0, 2147483648, 0, 0) : D4) := by unfold isD; simp only; omega
  have l1 := f_Less (0, 2147483648, 0, 0) (dg (szI v)) htop (dg_isD _)
  have l2 := f_Less (dg (szI v)) (0, 2147483648, 0, 0) (dg_isD _) htop
  rw [hn, show numD ((0, 2147483648, 0, 0) : D4) = 9223372036854775808 from rfl] at l1 l2
  unfold F_ref01_Back
  simp only [l1, l2, Option.bind_some]
  generalize szI v = x at *
  have hd : (dg x).1 = x % 4294967296 ∧ (dg x).2.1 = x / 4294967296 % 4294967296 := ⟨rfl, rfl⟩
  rcases h1 with rfl | rfl
  · rw [show decide ((1 : Int) < 0) = false from rfl, cond_false]
    by_cases hx : x < 9223372036854775808
    · rw [decide_eq_true hx]
      refine ⟨_, rfl, ?_, fun _ => ?_⟩
      · simp only []; rw [in64_yes (by omega)]
      · simp only [uwrap_of, IntKind.wrap_i64, hd.1, hd.2]; omega
    · rw [decide_eq_false hx]
      refine ⟨_, rfl, ?_, fun h => by cases h⟩
      simp only []; rw [in64_no (by omega)]
  · rw [show decide ((-1 : Int) < 0) = true from rfl, cond_true]
    by_cases hx : 9223372036854775808 < x
    · rw [decide_eq_true hx]
      refine ⟨_, rfl, ?_, fun h => by cases h⟩
      simp only []; rw [in64_no (by omega)]
    · rw [decide_eq_false hx]
      refine ⟨_, rfl, ?_, fun _ => ?_⟩
      · simp only []; rw [in64_yes (by omega)]
      · simp only [uwrap_of, IntKind.wrap_i64, hd.1, hd.2]; omega
/-- What a sum of spans is to be. -/
def endsOf (right : Bool) (lo hi : Int) : (Int × Int) × Bool := if right = true ∧ in64 lo = true ∧ in64 hi = true ∧ lo ≤ hi then ((lo, hi), true) else ((0, 0), false)
theorem f_is (r : (Int × Int) × Bool) (right : Bool) {n m : Int × D4} {lo hi : Int} (hn : IsN n lo) (hm : IsN m hi) (h1 : -85070591730234615865843651857942052864 ≤ lo ∧ lo ≤ 85070591730234615865843651857942052864)
    (h2 : -85070591730234615865843651857942052864 ≤ hi ∧ hi ≤ 85070591730234615865843651857942052864) (hr : r = endsOf right lo hi) : F_law04_is r.1 r.2 right n m = some true := by
  obtain ⟨x, e1, e2, e3⟩ := n_Back hn h1
  obtain ⟨y, e4, e5, e6⟩ := n_Back hm h2
  unfold F_law04_is F_ref04_Ends
  rw [e1, Option.bind_some, e4, Option.bind_some]
  obtain ⟨x1, x2⟩ := x
  obtain ⟨y1, y2⟩ := y
  simp only at e2 e3 e5 e6
  subst e2 e5 hr
  unfold endsOf
  by_cases g1 : in64 lo = true <;> by_cases g2 : in64 hi = true
  · have k1 := e3 g1
    have k2 := e6 g2
    subst k1 k2
    by_cases g3 : y1 < x1
    · have : ¬ x1 ≤ y1 := by omega
      cases right <;> simp [g1, g2, g3, this, eqT_self_span]
    · have : x1 ≤ y1 := by omega
      cases right <;> simp [g1, g2, g3, this, eqT_self_span]
  · cases right <;> simp [g1, g2, eqT_self_span]
  · cases right <;> simp [g1, g2, eqT_self_span]
  · cases right <;> simp [g1, g2, eqT_self_span]
theorem both_ends (x y : Int) : F_span_both (or0 x) (in64 x) (or0 y) (in64 y) = some (endsOf true x y) := by
  unfold F_span_both endsOf or0
  by_cases g1 : in64 x = true <;> by_cases g2 : in64 y = true
  · by_cases g3 : y < x
    · have : ¬ x ≤ y := by omega
      simp [g1, g2, g3, this]
    · have : x ≤ y := by omega
      simp [g1, g2, g3, this]
  · simp [g1, g2]
  · simp [g1, g2]
  · simp [g1, g2]
theorem ends_false (x y : Int) : endsOf false x y = ((0, 0), false) := by unfold endsOf; simp
theorem f_SAdd (s t : Int × Int) (h1 : I64 s.1) (h2 : I64 s.2) (h3 : I64 t.1) (h4 : I64 t.2) : F_span_Span_Add s t = some (endsOf (bif decide (s.1 ≤ s.2) then decide (t.1 ≤ t.2) else false) (s.1 + t.1) (s.2 + t.2)) := by
  unfold F_span_Span_Add
  rw [f_Right, f_Right, f_NumAdd _ _ h1 h3, f_NumAdd _ _ h2 h4]
  simp only [Option.bind_some, both_ends]
  cases decide (s.1 ≤ s.2) <;> cases decide (t.1 ≤ t.2) <;> first | rfl | simp [ends_false]
theorem f_SSub (s t : Int × Int) (h1 : I64 s.1) (h2 : I64 s.2) (h3 : I64 t.1) (h4 : I64 t.2) : F_span_Span_Sub s t = some (endsOf (bif decide (s.1 ≤ s.2) then decide (t.1 ≤ t.2) else false) (s.1 - t.2) (s.2 - t.1)) := by
  unfold F_span_Span_Sub
  rw [f_Right, f_Right, f_NumSub _ _ h1 h4, f_NumSub _ _ h2 h3]
  simp only [Option.bind_some, both_ends]
  cases decide (s.1 ≤ s.2) <;> cases decide (t.1 ≤ t.2) <;> first | rfl | simp [ends_false]
theorem f_SGrow (s : Int × Int) (far : Int) (h1 : I64 s.1) (h2 : I64 s.2) (h3 : I64 far) : F_span_Span_Grow s far = some (endsOf (decide (s.1 ≤ s.2)) (s.1 - far) (s.2 + far)) := by
  unfold F_span_Span_Grow
  rw [f_Right, f_NumSub _ _ h1 h3, f_NumAdd _ _ h2 h3]
  simp only [Option.bind_some, both_ends]
  cases decide (s.1 ≤ s.2) <;> first | rfl | simp [ends_false]
theorem f_SAround (x far : Int) (h1 : I64 x) (h3 : I64 far) : F_span_Around x far = some (endsOf true (x - far) (x + far)) := by
  unfold F_span_Around
  rw [f_At, Option.bind_some, f_SGrow (x, x) far h1 h1 h3, Option.bind_some]
  simp
theorem f_SpanSums (s t : Int × Int) (far : Int) (h1 : I64 s.1) (h2 : I64 s.2) (h3 : I64 t.1) (h4 : I64 t.2) (h5 : I64 far) : F_law04_SpanSums s t far = some true := by
  obtain ⟨a, e1, n1⟩ := n_Of s.1 h1
  obtain ⟨b, e2, n2⟩ := n_Of s.2 h2
  obtain ⟨c, e3, n3⟩ := n_Of t.1 h3
  obtain ⟨d, e4, n4⟩ := n_Of t.2 h4
  obtain ⟨f, e5, n5⟩ := n_Of far h5
  have q1 := h1; have q2 := h2; have q3 := h3; have q4 := h4; have q5 := h5
  unfold I64 at q1 q2 q3 q4 q5
  obtain ⟨m1, g1, k1⟩ := n_Sum n1 n3 (by omega) (by omega)
  obtain ⟨m2, g2, k2⟩ := n_Sum n2 n4 (by omega) (by omega)
  obtain ⟨d', g3, k3⟩ := n_Minor n4
  obtain ⟨c', g4, k4⟩ := n_Minor n3
  obtain ⟨f', g5, k5⟩ := n_Minor n5
  obtain ⟨m3, g6, k6⟩ := n_Sum n1 k3 (by omega) (by omega)
  obtain ⟨m4, g7, k7⟩ := n_Sum n2 k4 (by omega) (by omega)
  obtain ⟨m5, g8, k8⟩ := n_Sum n1 k5 (by omega) (by omega)
  obtain ⟨m6, g9, k9⟩ := n_Sum n2 n5 (by omega) (by omega)
  obtain ⟨m7, g10, k10⟩ := n_Sum n1 n5 (by omega) (by omega)
  unfold F_law04_SpanSums
  rw [f_anchor04, e1, e2, e3, e4, e5, f_SAdd s t h1 h2 h3 h4, f_SSub s t h1 h2 h3 h4, f_SGrow s far h1 h2 h5, f_SAround s.1 far h1 h5]
  simp only [Option.bind_some, Bool.not_true, cond_false, g1, g2]
  rw [f_is _ _ k1 k2 (by omega) (by omega) rfl]
  simp only [Option.bind_some, cond_true, g3, g4, g5, g6, g7, g8, g9, g10]
  rw [f_is _ _ k6 k7 (by omega) (by omega) (by rw [Int.sub_eq_add_neg, Int.sub_eq_add_neg])]
  simp only [Option.bind_some, cond_true, g3, g4, g5, g6, g7, g8, g9, g10]
  rw [f_is _ _ k8 k9 (by omega) (by omega) (by rw [Int.sub_eq_add_neg])]
  simp only [Option.bind_some, cond_true, g3, g4, g5, g6, g7, g8, g9, g10]
  rw [f_is _ _ k8 k10 (by omega) (by omega) (by rw [Int.sub_eq_add_neg])]
  rfl
theorem law04_SpanSums (a b c d e : Int) (ha : I64 a) (hb : I64 b) (hc : I64 c) (hd : I64 d) (he : I64 e) (w : World) :
    Calls Try.prog 18 #[.agg #[.int .i64 a, .int .i64 b], .agg #[.int .i64 c, .int .i64 d], .int .i64 e] w fun e w' => e = .returned (.bool true) ∧ Below w.heap.size w w' :=
  call_true ok_F_law04_SpanSums rfl (x := ((a, b), (c, d), e)) (f_SpanSums (a, b) (c, d) e ha hb hc hd he) rfl w _ ⟨rl_span ha hb, rl_span hc hd, rl_i64 he, trivial⟩
end Go.Proofs.Ytbpadfmdjgjjlaa
