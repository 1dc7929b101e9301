/- The given rows of some laws, proved: for every input the call returns true, and the arguments read as they did. Conditions: none. -/
import Derived.Test.YtbgdgpdfaebniaaLaw16F
import Derived.Test.YtbgdgpdfaebniaaEngLink
import Derived.Test.YtbgdgpdfaebniaaRows
set_option linter.unusedSimpArgs false
set_option linter.unusedVariables false
namespace Go.Proofs.Ytbgdgpdfaebniaa
open Go.ChangeShapes Go.WideShapes Go.ChangeAt Go.RowKit
theorem own_wheelLearns : ownKnob Try.prog.godebug = none := by kernel_rfl
theorem laid_wheelLearns : laidOutB Try.prog = true := by kernel_rfl
set_option maxRecDepth 100000 in
theorem wheelLearns_lifted (os : Os) (started : os.Started) (H : Type) (enc : TypeId × Value → H) :
    ReturnsInHanded {} Try.checked os 9 .any (Rows.wheelLearnsSpec.pre6 enc Try.prog Try.f9 Rows.wheelLearnsRow.domain false) (Rows.wheelLearnsSpec.post enc Try.prog Try.f9 false true false false) := by
  refine returnsInHanded_of_change (C := Try.checked) own_wheelLearns started (by kernel_rfl) Try.func9
    (ChangeSpec.witness6 (enc := enc) (C := Try.checked) false ⟨#[], #[.agg #[.int .i64 0, .int .i64 0], .agg #[.int .i64 0, .int .i64 0], .int .i64 0, .int .i64 0], []⟩ 8 (by kernel_rfl) (by kernel_rfl) (by kernel_rfl) (by kernel_rfl)) ?_
  intro W base args ds gs before hval0 hW hcnd _
  have hval : ∀ (j : Nat) t v, Try.f9.params[j]? = some t → args[j]? = some v → Value.okWide Try.prog W .any base t v := hval0
  have hW' := hW
  obtain ⟨p, q, hA0, hV, rfl, hfz, hnd⟩ := hW
  have hA : DataW.TrodAll enc Try.prog W 0 (fun _ => true) true Try.f9.params.toList args.toList ds p := hA0
  rw [Try.params9] at hA hval
  obtain ⟨rfl, rfl⟩ := trodVars_none hV
  simp only [List.append_nil] at hW'
  have hB : linkPs Try.prog [37, 37, 2, 2] (.pair (.agg (.pair (.int .i64) (.int .i64))) (.pair (.agg (.pair (.int .i64) (.int .i64))) (.pair (.int .i64) (.int .i64)))) = true := by kernel_rfl
  obtain ⟨x, hx, hf⟩ := link_row [37, 37, 2, 2] (.pair (.agg (.pair (.int .i64) (.int .i64))) (.pair (.agg (.pair (.int .i64) (.int .i64))) (.pair (.int .i64) (.int .i64)))) args.toList ds p hB hA (fun j t v h1 h2 => hval j t v (by simpa using h1) (by simpa using h2))
  have hlt : ∀ y ∈ p, y.block < W.heap.size := fun y hy => hW'.lt y hy
  have hstay : ∀ {W' : World}, Below W.heap.size W W' → ∀ (sp : Nat → Bool), (∀ y ∈ p, sp y.block = true) → DataW.TrodAll enc Try.prog W' 0 sp true Try.f9.params.toList args.toList ds p :=
    fun hb sp hsp => args_stay laid_wheelLearns hb _ _ _ _ (by kernel_rfl) hA0 hlt hsp
  obtain ⟨d0, d1, d2, d3, rfl⟩ := shape_4 hA
  refine (call_true ok_F_law16_WheelLearns rfl (x := x) ((fun x _ => f_WheelLearns _ _ _ _) x hf) rfl W args hx).mono fun e W' ⟨he, hb⟩ => ?_
  subst he
  exact ⟨_, rfl, post_of_below (pa := p) (pv := []) hW' (fun _ _ _ => trodAll_mk1 (shut_bool Try.underlying4 _)) (fun sp hsp => hstay hb sp hsp) (fun _ _ => rfl) (List.append_nil _).symm
    hb (ok_one (by kernel_rfl) rfl (okWide_bool_mk Try.underlying4 _))⟩
theorem wheelLearns_holds : Rows.WheelLearnsSaid :=
  OpenClaim.holds_of_wide 9 Try.f9 rfl rfl rfl rfl rfl rfl rfl ⟨rfl, rfl, rfl, rfl, rfl⟩ rfl rfl rfl rfl rfl (by kernel_rfl) Try.func9 (by kernel_rfl)
    (of_decide_eq_true (by kernel_rfl)) (by unfold Func.isWrapper; first | (rw [if_pos (by decide +kernel)]; kernel_rfl) | (rw [if_neg (by decide +kernel)]; exact ⟨rfl, rfl⟩))
    (fun os started H enc _ => wheelLearns_lifted os started H enc)
set_option maxRecDepth 100000 in
theorem wheelBack_lifted (os : Os) (started : os.Started) (H : Type) (enc : TypeId × Value → H) :
    ReturnsInHanded {} Try.checked os 10 .any (Rows.wheelBackSpec.pre6 enc Try.prog Try.f10 Rows.wheelBackRow.domain false) (Rows.wheelBackSpec.post enc Try.prog Try.f10 false true false false) := by
  refine returnsInHanded_of_change (C := Try.checked) own_wheelLearns started (by kernel_rfl) Try.func10
    (ChangeSpec.witness6 (enc := enc) (C := Try.checked) false ⟨#[], #[.agg #[.int .i64 0, .int .i64 0], .agg #[.int .i64 0, .int .i64 0], .int .i64 0, .int .i64 0], []⟩ 8 (by kernel_rfl) (by kernel_rfl) (by kernel_rfl) (by kernel_rfl)) ?_
  intro W base args ds gs before hval0 hW hcnd _
  have hval : ∀ (j : Nat) t v, Try.f10.params[j]? = some t → args[j]? = some v → Value.okWide Try.prog W .any base t v := hval0
  have hW' := hW
  obtain ⟨p, q, hA0, hV, rfl, hfz, hnd⟩ := hW
  have hA : DataW.TrodAll enc Try.prog W 0 (fun _ => true) true Try.f10.params.toList args.toList ds p := hA0
  rw [Try.params10] at hA hval
  obtain ⟨rfl, rfl⟩ := trodVars_none hV
  simp only [List.append_nil] at hW'
  have hB : linkPs Try.prog [37, 37, 2, 2] (.pair (.agg (.pair (.int .i64) (.int .i64))) (.pair (.agg (.pair (.int .i64) (.int .i64))) (.pair (.int .i64) (.int .i64)))) = true := by kernel_rfl
  obtain ⟨x, hx, hf⟩ := link_row [37, 37, 2, 2] (.pair (.agg (.pair (.int .i64) (.int .i64))) (.pair (.agg (.pair (.int .i64) (.int .i64))) (.pair (.int .i64) (.int .i64)))) args.toList ds p hB hA (fun j t v h1 h2 => hval j t v (by simpa using h1) (by simpa using h2))
  have hlt : ∀ y ∈ p, y.block < W.heap.size := fun y hy => hW'.lt y hy
  have hstay : ∀ {W' : World}, Below W.heap.size W W' → ∀ (sp : Nat → Bool), (∀ y ∈ p, sp y.block = true) → DataW.TrodAll enc Try.prog W' 0 sp true Try.f10.params.toList args.toList ds p :=
    fun hb sp hsp => args_stay laid_wheelLearns hb _ _ _ _ (by kernel_rfl) hA0 hlt hsp
  obtain ⟨d0, d1, d2, d3, rfl⟩ := shape_4 hA
  refine (call_true ok_F_law16_WheelBack rfl (x := x) ((fun x _ => f_WheelBack _ _ _ _) x hf) rfl W args hx).mono fun e W' ⟨he, hb⟩ => ?_
  subst he
  exact ⟨_, rfl, post_of_below (pa := p) (pv := []) hW' (fun _ _ _ => trodAll_mk1 (shut_bool Try.underlying4 _)) (fun sp hsp => hstay hb sp hsp) (fun _ _ => rfl) (List.append_nil _).symm
    hb (ok_one (by kernel_rfl) rfl (okWide_bool_mk Try.underlying4 _))⟩
theorem wheelBack_holds : Rows.WheelBackSaid :=
  OpenClaim.holds_of_wide 10 Try.f10 rfl rfl rfl rfl rfl rfl rfl ⟨rfl, rfl, rfl, rfl, rfl⟩ rfl rfl rfl rfl rfl (by kernel_rfl) Try.func10 (by kernel_rfl)
    (of_decide_eq_true (by kernel_rfl)) (by unfold Func.isWrapper; first | (rw [if_pos (by decide +kernel)]; kernel_rfl) | (rw [if_neg (by decide +kernel)]; exact ⟨rfl, rfl⟩))
    (fun os started H enc _ => wheelBack_lifted os started H enc)
set_option maxRecDepth 100000 in
theorem wheelMore_lifted (os : Os) (started : os.Started) (H : Type) (enc : TypeId × Value → H) :
    ReturnsInHanded {} Try.checked os 11 .any (Rows.wheelMoreSpec.pre6 enc Try.prog Try.f11 Rows.wheelMoreRow.domain false) (Rows.wheelMoreSpec.post enc Try.prog Try.f11 false true false false) := by
  refine returnsInHanded_of_change (C := Try.checked) own_wheelLearns started (by kernel_rfl) Try.func11
    (ChangeSpec.witness6 (enc := enc) (C := Try.checked) false ⟨#[], #[.agg #[.int .i64 0, .int .i64 0], .agg #[.int .i64 0, .int .i64 0], .agg #[.int .i64 0, .int .i64 0], .int .i64 0, .int .i64 0], []⟩ 8 (by kernel_rfl) (by kernel_rfl) (by kernel_rfl) (by kernel_rfl)) ?_
  intro W base args ds gs before hval0 hW hcnd _
  have hval : ∀ (j : Nat) t v, Try.f11.params[j]? = some t → args[j]? = some v → Value.okWide Try.prog W .any base t v := hval0
  have hW' := hW
  obtain ⟨p, q, hA0, hV, rfl, hfz, hnd⟩ := hW
  have hA : DataW.TrodAll enc Try.prog W 0 (fun _ => true) true Try.f11.params.toList args.toList ds p := hA0
  rw [Try.params11] at hA hval
  obtain ⟨rfl, rfl⟩ := trodVars_none hV
  simp only [List.append_nil] at hW'
  have hB : linkPs Try.prog [37, 37, 37, 2, 2] (.pair (.agg (.pair (.int .i64) (.int .i64))) (.pair (.agg (.pair (.int .i64) (.int .i64))) (.pair (.agg (.pair (.int .i64) (.int .i64))) (.pair (.int .i64) (.int .i64))))) = true := by kernel_rfl
  obtain ⟨x, hx, hf⟩ := link_row [37, 37, 37, 2, 2] (.pair (.agg (.pair (.int .i64) (.int .i64))) (.pair (.agg (.pair (.int .i64) (.int .i64))) (.pair (.agg (.pair (.int .i64) (.int .i64))) (.pair (.int .i64) (.int .i64))))) args.toList ds p hB hA (fun j t v h1 h2 => hval j t v (by simpa using h1) (by simpa using h2))
  have hlt : ∀ y ∈ p, y.block < W.heap.size := fun y hy => hW'.lt y hy
  have hstay : ∀ {W' : World}, Below W.heap.size W W' → ∀ (sp : Nat → Bool), (∀ y ∈ p, sp y.block = true) → DataW.TrodAll enc Try.prog W' 0 sp true Try.f11.params.toList args.toList ds p :=
    fun hb sp hsp => args_stay laid_wheelLearns hb _ _ _ _ (by kernel_rfl) hA0 hlt hsp
  obtain ⟨d0, d1, d2, d3, d4, rfl⟩ := shape_5 hA
  refine (call_true ok_F_law16_WheelMore rfl (x := x) ((fun x _ => f_WheelMore _ _ _ _ _) x hf) rfl W args hx).mono fun e W' ⟨he, hb⟩ => ?_
  subst he
  exact ⟨_, rfl, post_of_below (pa := p) (pv := []) hW' (fun _ _ _ => trodAll_mk1 (shut_bool Try.underlying4 _)) (fun sp hsp => hstay hb sp hsp) (fun _ _ => rfl) (List.append_nil _).symm
    hb (ok_one (by kernel_rfl) rfl (okWide_bool_mk Try.underlying4 _))⟩
theorem wheelMore_holds : Rows.WheelMoreSaid :=
  OpenClaim.holds_of_wide 11 Try.f11 rfl rfl rfl rfl rfl rfl rfl ⟨rfl, rfl, rfl, rfl, rfl⟩ rfl rfl rfl rfl rfl (by kernel_rfl) Try.func11 (by kernel_rfl)
    (of_decide_eq_true (by kernel_rfl)) (by unfold Func.isWrapper; first | (rw [if_pos (by decide +kernel)]; kernel_rfl) | (rw [if_neg (by decide +kernel)]; exact ⟨rfl, rfl⟩))
    (fun os started H enc _ => wheelMore_lifted os started H enc)
set_option maxRecDepth 100000 in
theorem wheelTrue_lifted (os : Os) (started : os.Started) (H : Type) (enc : TypeId × Value → H) :
    ReturnsInHanded {} Try.checked os 12 .any (Rows.wheelTrueSpec.pre6 enc Try.prog Try.f12 Rows.wheelTrueRow.domain false) (Rows.wheelTrueSpec.post enc Try.prog Try.f12 false true false false) := by
  refine returnsInHanded_of_change (C := Try.checked) own_wheelLearns started (by kernel_rfl) Try.func12
    (ChangeSpec.witness6 (enc := enc) (C := Try.checked) false ⟨#[], #[.agg #[.int .i64 0, .int .i64 0], .agg #[.int .i64 0, .int .i64 0], .int .i64 0, .int .i64 0, .int .i64 0, .int .i64 0], []⟩ 8 (by kernel_rfl) (by kernel_rfl) (by kernel_rfl) (by kernel_rfl)) ?_
  intro W base args ds gs before hval0 hW hcnd _
  have hval : ∀ (j : Nat) t v, Try.f12.params[j]? = some t → args[j]? = some v → Value.okWide Try.prog W .any base t v := hval0
  have hW' := hW
  obtain ⟨p, q, hA0, hV, rfl, hfz, hnd⟩ := hW
  have hA : DataW.TrodAll enc Try.prog W 0 (fun _ => true) true Try.f12.params.toList args.toList ds p := hA0
  rw [Try.params12] at hA hval
  obtain ⟨rfl, rfl⟩ := trodVars_none hV
  simp only [List.append_nil] at hW'
  have hB : linkPs Try.prog [37, 37, 2, 2, 2, 2] (.pair (.agg (.pair (.int .i64) (.int .i64))) (.pair (.agg (.pair (.int .i64) (.int .i64))) (.pair (.int .i64) (.pair (.int .i64) (.pair (.int .i64) (.int .i64)))))) = true := by kernel_rfl
  obtain ⟨x, hx, hf⟩ := link_row [37, 37, 2, 2, 2, 2] (.pair (.agg (.pair (.int .i64) (.int .i64))) (.pair (.agg (.pair (.int .i64) (.int .i64))) (.pair (.int .i64) (.pair (.int .i64) (.pair (.int .i64) (.int .i64)))))) args.toList ds p hB hA (fun j t v h1 h2 => hval j t v (by simpa using h1) (by simpa using h2))
  have hlt : ∀ y ∈ p, y.block < W.heap.size := fun y hy => hW'.lt y hy
  have hstay : ∀ {W' : World}, Below W.heap.size W W' → ∀ (sp : Nat → Bool), (∀ y ∈ p, sp y.block = true) → DataW.TrodAll enc Try.prog W' 0 sp true Try.f12.params.toList args.toList ds p :=
    fun hb sp hsp => args_stay laid_wheelLearns hb _ _ _ _ (by kernel_rfl) hA0 hlt hsp
  obtain ⟨d0, d1, d2, d3, d4, d5, rfl⟩ := shape_6 hA
  refine (call_true ok_F_law16_WheelTrue rfl (x := x) ((fun x _ => f_WheelTrue _ _ _ _ _ _) x hf) rfl W args hx).mono fun e W' ⟨he, hb⟩ => ?_
  subst he
  exact ⟨_, rfl, post_of_below (pa := p) (pv := []) hW' (fun _ _ _ => trodAll_mk1 (shut_bool Try.underlying4 _)) (fun sp hsp => hstay hb sp hsp) (fun _ _ => rfl) (List.append_nil _).symm
    hb (ok_one (by kernel_rfl) rfl (okWide_bool_mk Try.underlying4 _))⟩
theorem wheelTrue_holds : Rows.WheelTrueSaid :=
  OpenClaim.holds_of_wide 12 Try.f12 rfl rfl rfl rfl rfl rfl rfl ⟨rfl, rfl, rfl, rfl, rfl⟩ rfl rfl rfl rfl rfl (by kernel_rfl) Try.func12 (by kernel_rfl)
    (of_decide_eq_true (by kernel_rfl)) (by unfold Func.isWrapper; first | (rw [if_pos (by decide +kernel)]; kernel_rfl) | (rw [if_neg (by decide +kernel)]; exact ⟨rfl, rfl⟩))
    (fun os started H enc _ => wheelTrue_lifted os started H enc)
end Go.Proofs.Ytbgdgpdfaebniaa
