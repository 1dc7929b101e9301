/- The given rows of some laws, proved: for every input the call returns true, and the arguments read as they did. Conditions: none. -/
import Derived.Test.YtbgdgpdfaebniaaLaw13G
import Derived.Test.YtbgdgpdfaebniaaEngLink
import Derived.Test.YtbgdgpdfaebniaaRows
set_option linter.unusedSimpArgs false
set_option linter.unusedVariables false
namespace Go.Proofs.Ytbgdgpdfaebniaa
open Go.ChangeShapes Go.WideShapes Go.ChangeAt Go.RowKit
theorem own_confFits : ownKnob Try.prog.godebug = none := by kernel_rfl
theorem laid_confFits : laidOutB Try.prog = true := by kernel_rfl
theorem confFits_plain (x : Ty.den (.pair (.agg (.pair (.int .i64) (.pair (.int .i64) (.pair (.int .i64) (.pair (.int .i64) (.pair (.int .i64) (.pair (.int .i64) (.pair (.int .i64) (.pair (.int .i64) (.pair (.int .i64) (.pair (.int .i64) (.pair (.int .i64) (.pair (.int .i64) (.pair (.int .i64) (.int .i64))))))))))))))) (.agg (.pair (.slice (.agg (.pair (.int .i64) (.pair (.slice (.agg (.pair (.int .i64) (.int .i64)))) (.slice (.int .i64)))))) (.slice (.agg (.pair (.int .i64) (.pair (.int .i64) (.pair (.int .i64) (.pair (.int .i64) (.int .i64))))))))))) (h : Fits (.pair (.agg (.pair (.int .i64) (.pair (.int .i64) (.pair (.int .i64) (.pair (.int .i64) (.pair (.int .i64) (.pair (.int .i64) (.pair (.int .i64) (.pair (.int .i64) (.pair (.int .i64) (.pair (.int .i64) (.pair (.int .i64) (.pair (.int .i64) (.pair (.int .i64) (.int .i64))))))))))))))) (.agg (.pair (.slice (.agg (.pair (.int .i64) (.pair (.slice (.agg (.pair (.int .i64) (.int .i64)))) (.slice (.int .i64)))))) (.slice (.agg (.pair (.int .i64) (.pair (.int .i64) (.pair (.int .i64) (.pair (.int .i64) (.int .i64)))))))))) x) : F_law13_ConfFits x.1 x.2 = some true := f_ConfFits x.1 x.2 (rows_fits h.2)
set_option maxRecDepth 100000 in
theorem confFits_lifted (os : Os) (started : os.Started) (H : Type) (enc : TypeId × Value → H) :
    ReturnsInHanded {} Try.checked os 15 .any (Rows.confFitsSpec.pre6 enc Try.prog Try.f15 Rows.confFitsRow.domain false) (Rows.confFitsSpec.post enc Try.prog Try.f15 false true false false) := by
  refine returnsInHanded_of_change_sized (C := Try.checked) own_confFits started (by kernel_rfl) Try.func15
    (ChangeSpec.witness6 (enc := enc) (C := Try.checked) false ⟨#[], #[.agg #[.int .i64 0, .int .i64 0, .int .i64 0, .int .i64 0, .int .i64 0, .int .i64 0, .int .i64 0, .int .i64 0, .int .i64 0, .int .i64 0, .int .i64 0, .int .i64 0, .int .i64 0, .int .i64 0], .agg #[.slice none 0 0, .slice none 0 0]], []⟩ 8 (by kernel_rfl) (by kernel_rfl) (by kernel_rfl) (by kernel_rfl)) ?_
  intro W base args ds gs before hval0 hW hcnd hsz0 _
  have hval : ∀ (j : Nat) t v, Try.f15.params[j]? = some t → args[j]? = some v → Value.okWide Try.prog W .any base t v := hval0
  have hW' := hW
  obtain ⟨p, q, hA0, hV, rfl, hfz, hnd⟩ := hW
  have hA : DataW.TrodAll enc Try.prog W 0 (fun _ => true) true Try.f15.params.toList args.toList ds p := hA0
  rw [Try.params15] at hA hval
  obtain ⟨rfl, rfl⟩ := trodVars_none hV
  simp only [List.append_nil] at hW'
  have hsz : ∀ n ∈ DataW.weightsEach Try.prog [23, 64] ds, n ≤ reachBytes := by
    have h0 := hsz0
    rw [Try.params15, List.append_nil] at h0
    exact fun n hn => by simpa using List.all_eq_true.1 h0 n hn
  have hB : linkPs Try.prog [23, 64] (.pair (.agg (.pair (.int .i64) (.pair (.int .i64) (.pair (.int .i64) (.pair (.int .i64) (.pair (.int .i64) (.pair (.int .i64) (.pair (.int .i64) (.pair (.int .i64) (.pair (.int .i64) (.pair (.int .i64) (.pair (.int .i64) (.pair (.int .i64) (.pair (.int .i64) (.int .i64))))))))))))))) (.agg (.pair (.slice (.agg (.pair (.int .i64) (.pair (.slice (.agg (.pair (.int .i64) (.int .i64)))) (.slice (.int .i64)))))) (.slice (.agg (.pair (.int .i64) (.pair (.int .i64) (.pair (.int .i64) (.pair (.int .i64) (.int .i64)))))))))) = true := by kernel_rfl
  obtain ⟨x, hx, hf⟩ := link_row [23, 64] (.pair (.agg (.pair (.int .i64) (.pair (.int .i64) (.pair (.int .i64) (.pair (.int .i64) (.pair (.int .i64) (.pair (.int .i64) (.pair (.int .i64) (.pair (.int .i64) (.pair (.int .i64) (.pair (.int .i64) (.pair (.int .i64) (.pair (.int .i64) (.pair (.int .i64) (.int .i64))))))))))))))) (.agg (.pair (.slice (.agg (.pair (.int .i64) (.pair (.slice (.agg (.pair (.int .i64) (.int .i64)))) (.slice (.int .i64)))))) (.slice (.agg (.pair (.int .i64) (.pair (.int .i64) (.pair (.int .i64) (.pair (.int .i64) (.int .i64)))))))))) args.toList ds p hB hA hsz (fun j t v h1 h2 => hval j t v (by simpa using h1) (by simpa using h2))
  have hlt : ∀ y ∈ p, y.block < W.heap.size := fun y hy => hW'.lt y hy
  have hstay : ∀ {W' : World}, Below W.heap.size W W' → ∀ (sp : Nat → Bool), (∀ y ∈ p, sp y.block = true) → DataW.TrodAll enc Try.prog W' 0 sp true Try.f15.params.toList args.toList ds p :=
    fun hb sp hsp => args_stay laid_confFits hb _ _ _ _ (by kernel_rfl) hA0 hlt hsp
  obtain ⟨d0, d1, rfl⟩ := shape_2 hA
  refine (call_true ok_F_law13_ConfFits rfl (x := x) (confFits_plain x hf) rfl W args hx).mono fun e W' ⟨he, hb⟩ => ?_
  subst he
  exact ⟨_, rfl, post_of_below (pa := p) (pv := []) hW' (fun _ _ _ => trodAll_mk1 (shut_bool Try.underlying4 _)) (fun sp hsp => hstay hb sp hsp) (fun _ _ => rfl) (List.append_nil _).symm
    hb (ok_one (by kernel_rfl) rfl (okWide_bool_mk Try.underlying4 _))⟩
theorem confFits_holds : Rows.ConfFitsSaid :=
  OpenClaim.holds_of_wide 15 Try.f15 rfl rfl rfl rfl rfl rfl rfl ⟨rfl, rfl, rfl, rfl, rfl⟩ rfl rfl rfl rfl rfl (by kernel_rfl) Try.func15 (by kernel_rfl)
    (of_decide_eq_true (by kernel_rfl)) (by unfold Func.isWrapper; first | (rw [if_pos (by decide +kernel)]; kernel_rfl) | (rw [if_neg (by decide +kernel)]; exact ⟨rfl, rfl⟩))
    (fun os started H enc _ => confFits_lifted os started H enc)
theorem confMore_plain (x : Ty.den (.pair (.agg (.pair (.int .i64) (.pair (.int .i64) (.pair (.int .i64) (.pair (.int .i64) (.pair (.int .i64) (.pair (.int .i64) (.pair (.int .i64) (.pair (.int .i64) (.pair (.int .i64) (.pair (.int .i64) (.pair (.int .i64) (.pair (.int .i64) (.pair (.int .i64) (.int .i64))))))))))))))) (.pair (.int .i32) (.pair (.int .i32) (.int .i64))))) (h : Fits (.pair (.agg (.pair (.int .i64) (.pair (.int .i64) (.pair (.int .i64) (.pair (.int .i64) (.pair (.int .i64) (.pair (.int .i64) (.pair (.int .i64) (.pair (.int .i64) (.pair (.int .i64) (.pair (.int .i64) (.pair (.int .i64) (.pair (.int .i64) (.pair (.int .i64) (.int .i64))))))))))))))) (.pair (.int .i32) (.pair (.int .i32) (.int .i64)))) x) : F_law13_ConfMore x.1 x.2.1 x.2.2.1 x.2.2.2 = some true := by have h1 := h.2.1; have h2 := h.2.2.1; simp [Fits, fits] at h1 h2; exact f_ConfMore x.1 x.2.1 x.2.2.1 x.2.2.2 ⟨by omega, by omega⟩ ⟨by omega, by omega⟩
set_option maxRecDepth 100000 in
theorem confMore_lifted (os : Os) (started : os.Started) (H : Type) (enc : TypeId × Value → H) :
    ReturnsInHanded {} Try.checked os 5 .any (Rows.confMoreSpec.pre6 enc Try.prog Try.f5 Rows.confMoreRow.domain false) (Rows.confMoreSpec.post enc Try.prog Try.f5 false true false false) := by
  refine returnsInHanded_of_change_sized (C := Try.checked) own_confFits started (by kernel_rfl) Try.func5
    (ChangeSpec.witness6 (enc := enc) (C := Try.checked) false ⟨#[], #[.agg #[.int .i64 0, .int .i64 0, .int .i64 0, .int .i64 0, .int .i64 0, .int .i64 0, .int .i64 0, .int .i64 0, .int .i64 0, .int .i64 0, .int .i64 0, .int .i64 0, .int .i64 0, .int .i64 0], .int .i32 0, .int .i32 0, .int .i64 0], []⟩ 8 (by kernel_rfl) (by kernel_rfl) (by kernel_rfl) (by kernel_rfl)) ?_
  intro W base args ds gs before hval0 hW hcnd hsz0 _
  have hval : ∀ (j : Nat) t v, Try.f5.params[j]? = some t → args[j]? = some v → Value.okWide Try.prog W .any base t v := hval0
  have hW' := hW
  obtain ⟨p, q, hA0, hV, rfl, hfz, hnd⟩ := hW
  have hA : DataW.TrodAll enc Try.prog W 0 (fun _ => true) true Try.f5.params.toList args.toList ds p := hA0
  rw [Try.params5] at hA hval
  obtain ⟨rfl, rfl⟩ := trodVars_none hV
  simp only [List.append_nil] at hW'
  have hsz : ∀ n ∈ DataW.weightsEach Try.prog [23, 21, 21, 2] ds, n ≤ reachBytes := by
    have h0 := hsz0
    rw [Try.params5, List.append_nil] at h0
    exact fun n hn => by simpa using List.all_eq_true.1 h0 n hn
  have hB : linkPs Try.prog [23, 21, 21, 2] (.pair (.agg (.pair (.int .i64) (.pair (.int .i64) (.pair (.int .i64) (.pair (.int .i64) (.pair (.int .i64) (.pair (.int .i64) (.pair (.int .i64) (.pair (.int .i64) (.pair (.int .i64) (.pair (.int .i64) (.pair (.int .i64) (.pair (.int .i64) (.pair (.int .i64) (.int .i64))))))))))))))) (.pair (.int .i32) (.pair (.int .i32) (.int .i64)))) = true := by kernel_rfl
  obtain ⟨x, hx, hf⟩ := link_row [23, 21, 21, 2] (.pair (.agg (.pair (.int .i64) (.pair (.int .i64) (.pair (.int .i64) (.pair (.int .i64) (.pair (.int .i64) (.pair (.int .i64) (.pair (.int .i64) (.pair (.int .i64) (.pair (.int .i64) (.pair (.int .i64) (.pair (.int .i64) (.pair (.int .i64) (.pair (.int .i64) (.int .i64))))))))))))))) (.pair (.int .i32) (.pair (.int .i32) (.int .i64)))) args.toList ds p hB hA hsz (fun j t v h1 h2 => hval j t v (by simpa using h1) (by simpa using h2))
  have hlt : ∀ y ∈ p, y.block < W.heap.size := fun y hy => hW'.lt y hy
  have hstay : ∀ {W' : World}, Below W.heap.size W W' → ∀ (sp : Nat → Bool), (∀ y ∈ p, sp y.block = true) → DataW.TrodAll enc Try.prog W' 0 sp true Try.f5.params.toList args.toList ds p :=
    fun hb sp hsp => args_stay laid_confFits hb _ _ _ _ (by kernel_rfl) hA0 hlt hsp
  obtain ⟨d0, d1, d2, d3, rfl⟩ := shape_4 hA
  refine (call_true ok_F_law13_ConfMore rfl (x := x) (confMore_plain x hf) rfl W args hx).mono fun e W' ⟨he, hb⟩ => ?_
  subst he
  exact ⟨_, rfl, post_of_below (pa := p) (pv := []) hW' (fun _ _ _ => trodAll_mk1 (shut_bool Try.underlying4 _)) (fun sp hsp => hstay hb sp hsp) (fun _ _ => rfl) (List.append_nil _).symm
    hb (ok_one (by kernel_rfl) rfl (okWide_bool_mk Try.underlying4 _))⟩
theorem confMore_holds : Rows.ConfMoreSaid :=
  OpenClaim.holds_of_wide 5 Try.f5 rfl rfl rfl rfl rfl rfl rfl ⟨rfl, rfl, rfl, rfl, rfl⟩ rfl rfl rfl rfl rfl (by kernel_rfl) Try.func5 (by kernel_rfl)
    (of_decide_eq_true (by kernel_rfl)) (by unfold Func.isWrapper; first | (rw [if_pos (by decide +kernel)]; kernel_rfl) | (rw [if_neg (by decide +kernel)]; exact ⟨rfl, rfl⟩))
    (fun os started H enc _ => confMore_lifted os started H enc)
end Go.Proofs.Ytbgdgpdfaebniaa
