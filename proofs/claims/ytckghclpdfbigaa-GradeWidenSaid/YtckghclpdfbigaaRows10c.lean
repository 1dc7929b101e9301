/- The given rows of some laws, proved: for every input the call returns true, and the arguments read as they did. Conditions: none. -/
import Derived.Test.YtckghclpdfbigaaLaw10F
import Derived.Test.YtckghclpdfbigaaEngLink
import Derived.Test.YtckghclpdfbigaaRows
set_option linter.unusedSimpArgs false
set_option linter.unusedVariables false
namespace Go.Proofs.Ytckghclpdfbigaa
open Go.ChangeShapes Go.WideShapes Go.ChangeAt Go.RowKit
theorem own_gradeAt : ownKnob Try.prog.godebug = none := by kernel_rfl
theorem laid_gradeAt : laidOutB Try.prog = true := by kernel_rfl
theorem gradeAt_plain (x : Ty.den (.pair (.slice (.agg (.pair (.int .i64) (.int .i64)))) (.pair (.int .i64) (.agg (.pair (.int .i64) (.int .i64)))))) (h : Fits (.pair (.slice (.agg (.pair (.int .i64) (.int .i64)))) (.pair (.int .i64) (.agg (.pair (.int .i64) (.int .i64))))) x) : F_law10_GradeAt x.1 x.2.1 x.2.2 = some true := f_GradeAt x.1 x.2.1 x.2.2 h.1.1
set_option maxRecDepth 100000 in
theorem gradeAt_lifted (os : Os) (started : os.Started) (H : Type) (enc : TypeId × Value → H) :
    ReturnsInHanded {} Try.checked os 8 .any (Rows.gradeAtSpec.pre6 enc Try.prog Try.f8 Rows.gradeAtRow.domain false) (Rows.gradeAtSpec.post enc Try.prog Try.f8 false true false false) := by
  refine returnsInHanded_of_change_sized (C := Try.checked) own_gradeAt started (by kernel_rfl) Try.func8
    (ChangeSpec.witness6 (enc := enc) (C := Try.checked) false ⟨#[], #[.slice none 0 0, .int .i64 0, .agg #[.int .i64 0, .int .i64 0]], []⟩ 8 (by kernel_rfl) (by kernel_rfl) (by kernel_rfl) (by kernel_rfl)) ?_
  intro W base args ds gs before hval0 hW hcnd hsz0 _
  have hval : ∀ (j : Nat) t v, Try.f8.params[j]? = some t → args[j]? = some v → Value.okWide Try.prog W .any base t v := hval0
  have hW' := hW
  obtain ⟨p, q, hA0, hV, rfl, hfz, hnd⟩ := hW
  have hA : DataW.TrodAll enc Try.prog W 0 (fun _ => true) true Try.f8.params.toList args.toList ds p := hA0
  rw [Try.params8] at hA hval
  obtain ⟨rfl, rfl⟩ := trodVars_none hV
  simp only [List.append_nil] at hW'
  have hsz : ∀ n ∈ DataW.weightsEach Try.prog [40, 2, 31] ds, n ≤ reachBytes := by
    have h0 := hsz0
    rw [Try.params8, List.append_nil] at h0
    exact fun n hn => by simpa using List.all_eq_true.1 h0 n hn
  have hB : linkPs Try.prog [40, 2, 31] (.pair (.slice (.agg (.pair (.int .i64) (.int .i64)))) (.pair (.int .i64) (.agg (.pair (.int .i64) (.int .i64))))) = true := by kernel_rfl
  obtain ⟨x, hx, hf⟩ := link_row [40, 2, 31] (.pair (.slice (.agg (.pair (.int .i64) (.int .i64)))) (.pair (.int .i64) (.agg (.pair (.int .i64) (.int .i64))))) args.toList ds p hB hA hsz (fun j t v h1 h2 => hval j t v (by simpa using h1) (by simpa using h2))
  have hlt : ∀ y ∈ p, y.block < W.heap.size := fun y hy => hW'.lt y hy
  have hstay : ∀ {W' : World}, Below W.heap.size W W' → ∀ (sp : Nat → Bool), (∀ y ∈ p, sp y.block = true) → DataW.TrodAll enc Try.prog W' 0 sp true Try.f8.params.toList args.toList ds p :=
    fun hb sp hsp => args_stay laid_gradeAt hb _ _ _ _ (by kernel_rfl) hA0 hlt hsp
  obtain ⟨d0, d1, d2, rfl⟩ := shape_3 hA
  refine (call_true ok_F_law10_GradeAt rfl (x := x) (gradeAt_plain x hf) rfl W args hx).mono fun e W' ⟨he, hb⟩ => ?_
  subst he
  exact ⟨_, rfl, post_of_below (pa := p) (pv := []) hW' (fun _ _ _ => trodAll_mk1 (shut_bool Try.underlying4 _)) (fun sp hsp => hstay hb sp hsp) (fun _ _ => rfl) (List.append_nil _).symm
    hb (ok_one (by kernel_rfl) rfl (okWide_bool_mk Try.underlying4 _))⟩
theorem gradeAt_holds : Rows.GradeAtSaid :=
  OpenClaim.holds_of_wide 8 Try.f8 rfl rfl rfl rfl rfl rfl rfl ⟨rfl, rfl, rfl, rfl, rfl⟩ rfl rfl rfl rfl rfl (by kernel_rfl) Try.func8 (by kernel_rfl)
    (of_decide_eq_true (by kernel_rfl)) (by unfold Func.isWrapper; first | (rw [if_pos (by decide +kernel)]; kernel_rfl) | (rw [if_neg (by decide +kernel)]; exact ⟨rfl, rfl⟩))
    (fun os started H enc _ => gradeAt_lifted os started H enc)
theorem gradeWiden_plain (x : Ty.den (.pair (.slice (.agg (.pair (.int .i64) (.int .i64)))) (.pair (.agg (.pair (.int .i64) (.int .i64))) (.pair (.agg (.pair (.int .i64) (.int .i64))) (.int .i64))))) (h : Fits (.pair (.slice (.agg (.pair (.int .i64) (.int .i64)))) (.pair (.agg (.pair (.int .i64) (.int .i64))) (.pair (.agg (.pair (.int .i64) (.int .i64))) (.int .i64)))) x) : F_law10_GradeWiden x.1 x.2.1 x.2.2.1 x.2.2.2 = some true := f_GradeWiden x.1 x.2.1 x.2.2.1 x.2.2.2 h.1.1
set_option maxRecDepth 100000 in
theorem gradeWiden_lifted (os : Os) (started : os.Started) (H : Type) (enc : TypeId × Value → H) :
    ReturnsInHanded {} Try.checked os 9 .any (Rows.gradeWidenSpec.pre6 enc Try.prog Try.f9 Rows.gradeWidenRow.domain false) (Rows.gradeWidenSpec.post enc Try.prog Try.f9 false true false false) := by
  refine returnsInHanded_of_change_sized (C := Try.checked) own_gradeAt started (by kernel_rfl) Try.func9
    (ChangeSpec.witness6 (enc := enc) (C := Try.checked) false ⟨#[], #[.slice none 0 0, .agg #[.int .i64 0, .int .i64 0], .agg #[.int .i64 0, .int .i64 0], .int .i64 0], []⟩ 8 (by kernel_rfl) (by kernel_rfl) (by kernel_rfl) (by kernel_rfl)) ?_
  intro W base args ds gs before hval0 hW hcnd hsz0 _
  have hval : ∀ (j : Nat) t v, Try.f9.params[j]? = some t → args[j]? = some v → Value.okWide Try.prog W .any base t v := hval0
  have hW' := hW
  obtain ⟨p, q, hA0, hV, rfl, hfz, hnd⟩ := hW
  have hA : DataW.TrodAll enc Try.prog W 0 (fun _ => true) true Try.f9.params.toList args.toList ds p := hA0
  rw [Try.params9] at hA hval
  obtain ⟨rfl, rfl⟩ := trodVars_none hV
  simp only [List.append_nil] at hW'
  have hsz : ∀ n ∈ DataW.weightsEach Try.prog [40, 31, 31, 2] ds, n ≤ reachBytes := by
    have h0 := hsz0
    rw [Try.params9, List.append_nil] at h0
    exact fun n hn => by simpa using List.all_eq_true.1 h0 n hn
  have hB : linkPs Try.prog [40, 31, 31, 2] (.pair (.slice (.agg (.pair (.int .i64) (.int .i64)))) (.pair (.agg (.pair (.int .i64) (.int .i64))) (.pair (.agg (.pair (.int .i64) (.int .i64))) (.int .i64)))) = true := by kernel_rfl
  obtain ⟨x, hx, hf⟩ := link_row [40, 31, 31, 2] (.pair (.slice (.agg (.pair (.int .i64) (.int .i64)))) (.pair (.agg (.pair (.int .i64) (.int .i64))) (.pair (.agg (.pair (.int .i64) (.int .i64))) (.int .i64)))) args.toList ds p hB hA hsz (fun j t v h1 h2 => hval j t v (by simpa using h1) (by simpa using h2))
  have hlt : ∀ y ∈ p, y.block < W.heap.size := fun y hy => hW'.lt y hy
  have hstay : ∀ {W' : World}, Below W.heap.size W W' → ∀ (sp : Nat → Bool), (∀ y ∈ p, sp y.block = true) → DataW.TrodAll enc Try.prog W' 0 sp true Try.f9.params.toList args.toList ds p :=
    fun hb sp hsp => args_stay laid_gradeAt hb _ _ _ _ (by kernel_rfl) hA0 hlt hsp
  obtain ⟨d0, d1, d2, d3, rfl⟩ := shape_4 hA
  refine (call_true ok_F_law10_GradeWiden rfl (x := x) (gradeWiden_plain x hf) rfl W args hx).mono fun e W' ⟨he, hb⟩ => ?_
  subst he
  exact ⟨_, rfl, post_of_below (pa := p) (pv := []) hW' (fun _ _ _ => trodAll_mk1 (shut_bool Try.underlying4 _)) (fun sp hsp => hstay hb sp hsp) (fun _ _ => rfl) (List.append_nil _).symm
    hb (ok_one (by kernel_rfl) rfl (okWide_bool_mk Try.underlying4 _))⟩
theorem gradeWiden_holds : Rows.GradeWidenSaid :=
  OpenClaim.holds_of_wide 9 Try.f9 rfl rfl rfl rfl rfl rfl rfl ⟨rfl, rfl, rfl, rfl, rfl⟩ rfl rfl rfl rfl rfl (by kernel_rfl) Try.func9 (by kernel_rfl)
    (of_decide_eq_true (by kernel_rfl)) (by unfold Func.isWrapper; first | (rw [if_pos (by decide +kernel)]; kernel_rfl) | (rw [if_neg (by decide +kernel)]; exact ⟨rfl, rfl⟩))
    (fun os started H enc _ => gradeWiden_lifted os started H enc)
end Go.Proofs.Ytckghclpdfbigaa
