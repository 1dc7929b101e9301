/- The given rows of some laws, proved: for every input the call returns true, and the arguments read as they did. Conditions: none. -/
import Derived.Test.YtbpadfmdjgjjlaaLaw04K
import Derived.Test.YtbpadfmdjgjjlaaClaimKit
import Derived.Test.YtbpadfmdjgjjlaaRows
set_option linter.unusedSimpArgs false
set_option linter.unusedVariables false
namespace Go.Proofs.Ytbpadfmdjgjjlaa
open Go.ChangeShapes Go.WideShapes Go.ChangeAt Go.RowKit
theorem own_spanSums : ownKnob Try.prog.godebug = none := by kernel_rfl
set_option maxRecDepth 100000 in
theorem spanSums_lifted (os : Os) (started : os.Started) (H : Type) (enc : TypeId × Value → H) :
    ReturnsInHanded {} Try.checked os 18 .any (Rows.spanSumsSpec.pre6 enc Try.prog Try.f18 Rows.spanSumsRow.domain false) (Rows.spanSumsSpec.post enc Try.prog Try.f18 false true false false) := by
  refine returnsInHanded_of_change (C := Try.checked) own_spanSums started (by kernel_rfl) Try.func18
    (ChangeSpec.witness6 (enc := enc) (C := Try.checked) false ⟨#[], #[.agg #[.int .i64 0, .int .i64 0], .agg #[.int .i64 0, .int .i64 0], .int .i64 0], []⟩ 8 (by kernel_rfl) (by kernel_rfl) (by kernel_rfl) (by kernel_rfl)) ?_
  intro W base args ds gs before hval0 hW hcnd _
  have hval : ∀ (j : Nat) t v, Try.f18.params[j]? = some t → args[j]? = some v → Value.okWide Try.prog W .any base t v := hval0
  have hW' := hW
  obtain ⟨p, q, hA0, hV, rfl, hfz, hnd⟩ := hW
  have hA : DataW.TrodAll enc Try.prog W 0 (fun _ => true) true Try.f18.params.toList args.toList ds p := hA0
  rw [Try.params18] at hA hval
  obtain ⟨v0, v1, v2, d0, d1, d2, p0, p1, p2, rfl, rfl, rfl, h0, h1, h2⟩ := trodAll_three hA
  obtain ⟨rfl, rfl⟩ := trodVars_none hV
  obtain ⟨x0a, x0b, rfl, rfl, rfl, w0a, w0b⟩ := open_ints2 Try.underlying66 (by kernel_rfl) (by kernel_rfl) Try.underlying2 Try.underlying2 (hval 0 66 v0 rfl rfl) h0
  obtain ⟨x1a, x1b, rfl, rfl, rfl, w1a, w1b⟩ := open_ints2 Try.underlying66 (by kernel_rfl) (by kernel_rfl) Try.underlying2 Try.underlying2 (hval 1 66 v1 rfl rfl) h1
  obtain ⟨x2, rfl, rfl, rfl, w2⟩ := open_int Try.underlying2 (hval 2 2 v2 rfl rfl) h2
  clear hA0 hval0
  simp only [List.append_nil] at hW'
  refine (law04_SpanSums x0a x0b x1a x1b x2 (i64_wf w0a) (i64_wf w0b) (i64_wf w1a) (i64_wf w1b) (i64_wf w2) W).mono fun e W' ⟨he, hb⟩ => ?_
  subst he
  exact ⟨_, rfl, post_of_below (pa := []) (pv := []) hW' (fun _ _ _ => trodAll_mk1 (shut_bool Try.underlying4 _)) (fun sp _ => trodAll_mk3 (shut_ints2 Try.underlying66 (by kernel_rfl) (by kernel_rfl) Try.underlying2 Try.underlying2 w0a w0b) (shut_ints2 Try.underlying66 (by kernel_rfl) (by kernel_rfl) Try.underlying2 Try.underlying2 w1a w1b) (shut_int Try.underlying2 w2)) (fun _ _ => rfl) rfl
    hb (ok_one (by kernel_rfl) rfl (okWide_bool_mk Try.underlying4 _))⟩
theorem spanSums_holds : Rows.SpanSumsSaid :=
  OpenClaim.holds_of_wide 18 Try.f18 rfl rfl rfl rfl rfl rfl rfl ⟨rfl, rfl, rfl, rfl, rfl⟩ rfl rfl rfl rfl rfl (by kernel_rfl) Try.func18 (by kernel_rfl)
    (of_decide_eq_true (by kernel_rfl)) (by unfold Func.isWrapper; first | (rw [if_pos (by decide +kernel)]; kernel_rfl) | (rw [if_neg (by decide +kernel)]; exact ⟨rfl, rfl⟩))
    (fun os started H enc _ => spanSums_lifted os started H enc)
end Go.Proofs.Ytbpadfmdjgjjlaa
