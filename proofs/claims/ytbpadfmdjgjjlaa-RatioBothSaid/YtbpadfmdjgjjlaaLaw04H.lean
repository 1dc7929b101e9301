/- More laws of chapter 04: widths. -/
import Derived.Test.YtbpadfmdjgjjlaaLaw04G
import Derived.Test.YtbpadfmdjgjjlaaRefF
set_option linter.unusedSimpArgs false
set_option linter.unusedVariables false
namespace Go.Proofs.Ytbpadfmdjgjjlaa
open Go.RowKit
/-- A long number that stands for a number. -/
def IsN (n : Int × D4) (v : Int) : Prop := ∃ s, (s = 1 ∨ s = -1) ∧ n = (s, dg (szI v)) ∧ s * szI v = v
theorem sg_sz (a : Int) : sgI a * szI a = a := by unfold sgI szI; split <;> omega
theorem sg_one (a : Int) : sgI a = 1 ∨ sgI a = -1 := by unfold sgI; split <;> simp
theorem n_Of (a : Int) (ha : I64 a) : ∃ n, F_ref01_Of a = some n ∧ IsN n a := ⟨_, f_Of a ha, sgI a, sg_one a, rfl, sg_sz a⟩
theorem n_Minor {n : Int × D4} {v : Int} (h : IsN n v) : ∃ m, F_ref01_Minor n = some m ∧ IsN m (-v) := by
  obtain ⟨s, h1, rfl, h3⟩ := h
  have e : szI (-v) = szI v := by unfold szI; split <;> split <;> omega
  refine ⟨_, f_Minor s _ h1, -s, by omega, by rw [e], ?_⟩
  rw [e, Int.neg_mul, h3]
theorem n_Times (a b : Int) (ha : I64 a) (hb : I64 b) : ∃ n, F_ref01_Times a b = some n ∧ IsN n (a * b) := by
  have e : szI a * szI b = szI (a * b) := by
    have h1 := szI_64 ha
    have h2 := szI_64 hb
    have h := Int.mul_nonneg h1.1 h2.1
    rw [sz_mul] at h ⊢
    split at h <;> (rename_i g; simp only [g, if_true, if_false, Bool.false_eq_true]) <;> unfold szI <;> split <;> omega
  refine ⟨_, f_Times01 a b ha hb, sgI a * sgI b, ?_, by rw [e], ?_⟩
  · rcases sg_one a with h | h <;> rcases sg_one b with k | k <;> rw [h, k] <;> simp
  · rw [← e, Int.mul_assoc, Int.mul_left_comm (sgI b), ← Int.mul_assoc, sg_sz, sg_sz]
theorem n_Sum {n m : Int × D4} {v u : Int} (hn : IsN n v) (hm : IsN m u) (hv : -85070591730234615865843651857942052864 ≤ v ∧ v ≤ 85070591730234615865843651857942052864) (hu : -85070591730234615865843651857942052864 ≤ u ∧ u ≤ 85070591730234615865843651857942052864) :
    ∃ k, F_ref01_Sum n m = some k ∧ IsN k (v + u) := by
  obtain ⟨s, h1, rfl, h3⟩ := hn
  obtain ⟨t, k1, rfl, k3⟩ := hm
  have b1 : 0 ≤ szI v ∧ szI v ≤ 85070591730234615865843651857942052864 := by unfold szI; split <;> omega
  have b2 : 0 ≤ szI u ∧ szI u ≤ 85070591730234615865843651857942052864 := by unfold szI; split <;> omega
  refine ⟨_, f_Sum s t (szI v) (szI u) h1 k1 ⟨b1.1, by omega⟩ ⟨b2.1, by omega⟩ (fun _ => by omega), ?_⟩
  generalize szI v = x at *
  generalize szI u = y at *
  split
  · rename_i h
    subst h
    have : szI (v + u) = x + y := by rcases h1 with rfl | rfl <;> (unfold szI; split <;> omega)
    exact ⟨s, h1, by rw [this], by rw [this, Int.mul_add, h3, k3]⟩
  · split
    · have : szI (v + u) = y - x := by rcases h1 with rfl | rfl <;> rcases k1 with rfl | rfl <;> first | (exfalso; omega) | (unfold szI; split <;> omega)
      exact ⟨t, k1, by rw [this], by rw [this]; rcases h1 with rfl | rfl <;> rcases k1 with rfl | rfl <;> omega⟩
    · have : szI (v + u) = x - y := by rcases h1 with rfl | rfl <;> rcases k1 with rfl | rfl <;> first | (exfalso; omega) | (unfold szI; split <;> omega)
      exact ⟨s, h1, by rw [this], by rw [this]; rcases h1 with rfl | rfl <;> rcases k1 with rfl | rfl <;> omega⟩
theorem f_Mid (a b : Int) (ha : I64 a) (hb : I64 b) : F_num_Mid a b = some ((a + b) / 2) := by
  have h := mid_plain a b ha hb
  obtain ⟨h1, h2⟩ := ha
  obtain ⟨h3, h4⟩ := hb
  unfold F_num_Mid
  simp only [bits_go _ _ _ _ (.inl rfl), bits_go _ _ _ _ (.inr (.inr rfl)), fdiv_pow, Int.pow_one]
  rw [Int.fdiv_eq_ediv_of_nonneg _ (by omega), h, IntKind.wrap_i64]
  congr 1
  omega
theorem f_SpanWidths (s : Int × Int) (h1 : I64 s.1) (h2 : I64 s.2) : F_law04_SpanWidths s = some true := by
  unfold F_law04_SpanWidths
  rw [f_anchor04, Option.bind_some]
  simp only [Bool.not_true, cond_false]
  by_cases h : s.2 < s.1
  · have e : decide (s.1 ≤ s.2) = false := by simp; omega
    have ew : F_span_Span_Width s = some 0 := by
      unfold F_span_Span_Width
      rw [f_Right, Option.bind_some, e]
      rfl
    rw [decide_eq_true h, cond_true, ew]
    rfl
  · have e : decide (s.1 ≤ s.2) = true := by simp; omega
    obtain ⟨a1, a2⟩ := h1
    obtain ⟨a3, a4⟩ := h2
    have ew : F_span_Span_Width s = some (s.2 - s.1) := by
      unfold F_span_Span_Width
      rw [f_Right, Option.bind_some, e]
      simp only [Bool.not_true, cond_false, uwrap_of]
      congr 1
      omega
    have em : F_span_Span_Mid s = some ((s.1 + s.2) / 2) := by
      unfold F_span_Span_Mid
      rw [f_Mid s.1 s.2 ⟨a1, a2⟩ ⟨a3, a4⟩]
      rfl
    obtain ⟨n1, g1, g2⟩ := n_Of s.2 ⟨a3, a4⟩
    obtain ⟨n2, g3, g4⟩ := n_Of s.1 ⟨a1, a2⟩
    obtain ⟨n3, g5, g6⟩ := n_Minor g4
    obtain ⟨n4, g7, g8⟩ := n_Sum g2 g6 (by omega) (by omega)
    obtain ⟨sg, k1, k2, k3⟩ := g8
    have hsz : szI (s.2 + -s.1) = s.2 - s.1 := by unfold szI; split <;> omega
    rw [hsz] at k2
    rw [decide_eq_false h, cond_false, em, g1, g3, ew]
    simp only [Option.bind_some, g5, g7, k2, uwrap_of]
    have hd : dg (s.2 - s.1) = ((s.2 - s.1).tmod 4294967296, (s.2 - s.1).tdiv 4294967296 % 18446744073709551616, 0, 0) := by
      rw [Int.tmod_eq_emod_of_nonneg (by omega), Int.tdiv_eq_ediv_of_nonneg (by omega)]
      unfold dg
      simp only [Prod.mk.injEq, true_and]
      refine ⟨?_, ?_, ?_⟩ <;> omega
    rw [← hd]
    have hself : ∀ d : D4, eqT (.agg (.pair (.int .u64) (.pair (.int .u64) (.pair (.int .u64) (.int .u64))))) d d = true := by
      intro d
      rw [eqT_agg, eqT_pair, eqT_pair, eqT_pair, eqT_int, eqT_int, eqT_int, eqT_int]
      simp
    rw [hself, cond_true, Int.tdiv_eq_ediv_of_nonneg (by omega), decide_eq_true (by omega), cond_true, decide_eq_true (by omega), cond_true]
    congr 1
    simp only [beq_iff_eq]
    omega
theorem law04_SpanWidths (a b : Int) (ha : I64 a) (hb : I64 b) (w : World) :
    Calls Try.prog 16 #[.agg #[.int .i64 a, .int .i64 b]] w fun e w' => e = .returned (.bool true) ∧ Below w.heap.size w w' :=
  call_true ok_F_law04_SpanWidths rfl (x := (a, b)) (f_SpanWidths (a, b) ha hb) rfl w _ ⟨rl_span ha hb, trivial⟩
end Go.Proofs.Ytbpadfmdjgjjlaa
