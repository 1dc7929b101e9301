/- The given rows of some laws, proved: for every input the call returns true, and the arguments read as they did. Conditions: none. -/
import Derived.Test.YtckghclpdfbigaaLaw36G
import Derived.Test.YtckghclpdfbigaaEngLink
import Derived.Test.YtckghclpdfbigaaRows
set_option linter.unusedSimpArgs false
set_option linter.unusedVariables false
namespace Go.Proofs.Ytckghclpdfbigaa
open Go.ChangeShapes Go.WideShapes Go.ChangeAt Go.RowKit
theorem own_apartShares : ownKnob Try.prog.godebug = none := by kernel_rfl
theorem laid_apartShares : laidOutB Try.prog = true := by kernel_rfl
theorem apartShares_plain (x : Ty.den (.pair (.slice (.agg (.pair (.int .i64) (.pair (.int .i64) (.int .i64))))) (.slice (.agg (.pair (.int .i64) (.pair (.int .i64) (.int .i64))))))) (h : Fits (.pair (.slice (.agg (.pair (.int .i64) (.pair (.int .i64) (.int .i64))))) (.slice (.agg (.pair (.int .i64) (.pair (.int .i64) (.int .i64)))))) x) : F_law36_ApartShares x.1 x.2 = some true := f_ApartShares x.1 x.2 h.1.1 h.2.1
set_option maxRecDepth 100000 in
theorem apartShares_lifted (os : Os) (started : os.Started) (H : Type) (enc : TypeId × Value → H) :
    ReturnsInHanded {} Try.checked os 13 .any (Rows.apartSharesSpec.pre6 enc Try.prog Try.f13 Rows.apartSharesRow.domain false) (Rows.apartSharesSpec.post enc Try.prog Try.f13 false true false false) := by
  refine returnsInHanded_of_change_sized (C := Try.checked) own_apartShares started (by kernel_rfl) Try.func13
    (ChangeSpec.witness6 (enc := enc) (C := Try.checked) false ⟨#[], #[.slice none 0 0, .slice none 0 0], []⟩ 8 (by kernel_rfl) (by kernel_rfl) (by kernel_rfl) (by kernel_rfl)) ?_
  intro W base args ds gs before hval0 hW hcnd hsz0 _
  have hval : ∀ (j : Nat) t v, Try.f13.params[j]? = some t → args[j]? = some v → Value.okWide Try.prog W .any base t v := hval0
  have hW' := hW
  obtain ⟨p, q, hA0, hV, rfl, hfz, hnd⟩ := hW
  have hA : DataW.TrodAll enc Try.prog W 0 (fun _ => true) true Try.f13.params.toList args.toList ds p := hA0
  rw [Try.params13] at hA hval
  obtain ⟨rfl, rfl⟩ := trodVars_none hV
  simp only [List.append_nil] at hW'
  have hsz : ∀ n ∈ DataW.weightsEach Try.prog [76, 76] ds, n ≤ reachBytes := by
    have h0 := hsz0
    rw [Try.params13, List.append_nil] at h0
    exact fun n hn => by simpa using List.all_eq_true.1 h0 n hn
  have hB : linkPs Try.prog [76, 76] (.pair (.slice (.agg (.pair (.int .i64) (.pair (.int .i64) (.int .i64))))) (.slice (.agg (.pair (.int .i64) (.pair (.int .i64) (.int .i64)))))) = true := by kernel_rfl
  obtain ⟨x, hx, hf⟩ := link_row [76, 76] (.pair (.slice (.agg (.pair (.int .i64) (.pair (.int .i64) (.int .i64))))) (.slice (.agg (.pair (.int .i64) (.pair (.int .i64) (.int .i64)))))) args.toList ds p hB hA hsz (fun j t v h1 h2 => hval j t v (by simpa using h1) (by simpa using h2))
  have hlt : ∀ y ∈ p, y.block < W.heap.size := fun y hy => hW'.lt y hy
  have hstay : ∀ {W' : World}, Below W.heap.size W W' → ∀ (sp : Nat → Bool), (∀ y ∈ p, sp y.block = true) → DataW.TrodAll enc Try.prog W' 0 sp true Try.f13.params.toList args.toList ds p :=
    fun hb sp hsp => args_stay laid_apartShares hb _ _ _ _ (by kernel_rfl) hA0 hlt hsp
  obtain ⟨d0, d1, rfl⟩ := shape_2 hA
  refine (call_true ok_F_law36_ApartShares rfl (x := x) (apartShares_plain x hf) rfl W args hx).mono fun e W' ⟨he, hb⟩ => ?_
  subst he
  exact ⟨_, rfl, post_of_below (pa := p) (pv := []) hW' (fun _ _ _ => trodAll_mk1 (shut_bool Try.underlying4 _)) (fun sp hsp => hstay hb sp hsp) (fun _ _ => rfl) (List.append_nil _).symm
    hb (ok_one (by kernel_rfl) rfl (okWide_bool_mk Try.underlying4 _))⟩
theorem apartShares_holds : Rows.ApartSharesSaid :=
  OpenClaim.holds_of_wide 13 Try.f13 rfl rfl rfl rfl rfl rfl rfl ⟨rfl, rfl, rfl, rfl, rfl⟩ rfl rfl rfl rfl rfl (by kernel_rfl) Try.func13 (by kernel_rfl)
    (of_decide_eq_true (by kernel_rfl)) (by unfold Func.isWrapper; first | (rw [if_pos (by decide +kernel)]; kernel_rfl) | (rw [if_neg (by decide +kernel)]; exact ⟨rfl, rfl⟩))
    (fun os started H enc _ => apartShares_lifted os started H enc)
theorem apartGaps_plain (x : Ty.den (.pair (.slice (.agg (.pair (.int .i64) (.pair (.int .i64) (.int .i64))))) (.slice (.agg (.pair (.int .i64) (.pair (.int .i64) (.int .i64))))))) (h : Fits (.pair (.slice (.agg (.pair (.int .i64) (.pair (.int .i64) (.int .i64))))) (.slice (.agg (.pair (.int .i64) (.pair (.int .i64) (.int .i64)))))) x) : F_law36_ApartGaps x.1 x.2 = some true := f_ApartGaps x.1 x.2 h.1.1 h.2.1
set_option maxRecDepth 100000 in
theorem apartGaps_lifted (os : Os) (started : os.Started) (H : Type) (enc : TypeId × Value → H) :
    ReturnsInHanded {} Try.checked os 14 .any (Rows.apartGapsSpec.pre6 enc Try.prog Try.f14 Rows.apartGapsRow.domain false) (Rows.apartGapsSpec.post enc Try.prog Try.f14 false true false false) := by
  refine returnsInHanded_of_change_sized (C := Try.checked) own_apartShares started (by kernel_rfl) Try.func14
    (ChangeSpec.witness6 (enc := enc) (C := Try.checked) false ⟨#[], #[.slice none 0 0, .slice none 0 0], []⟩ 8 (by kernel_rfl) (by kernel_rfl) (by kernel_rfl) (by kernel_rfl)) ?_
  intro W base args ds gs before hval0 hW hcnd hsz0 _
  have hval : ∀ (j : Nat) t v, Try.f14.params[j]? = some t → args[j]? = some v → Value.okWide Try.prog W .any base t v := hval0
  have hW' := hW
  obtain ⟨p, q, hA0, hV, rfl, hfz, hnd⟩ := hW
  have hA : DataW.TrodAll enc Try.prog W 0 (fun _ => true) true Try.f14.params.toList args.toList ds p := hA0
  rw [Try.params14] at hA hval
  obtain ⟨rfl, rfl⟩ := trodVars_none hV
  simp only [List.append_nil] at hW'
  have hsz : ∀ n ∈ DataW.weightsEach Try.prog [76, 76] ds, n ≤ reachBytes := by
    have h0 := hsz0
    rw [Try.params14, List.append_nil] at h0
    exact fun n hn => by simpa using List.all_eq_true.1 h0 n hn
  have hB : linkPs Try.prog [76, 76] (.pair (.slice (.agg (.pair (.int .i64) (.pair (.int .i64) (.int .i64))))) (.slice (.agg (.pair (.int .i64) (.pair (.int .i64) (.int .i64)))))) = true := by kernel_rfl
  obtain ⟨x, hx, hf⟩ := link_row [76, 76] (.pair (.slice (.agg (.pair (.int .i64) (.pair (.int .i64) (.int .i64))))) (.slice (.agg (.pair (.int .i64) (.pair (.int .i64) (.int .i64)))))) args.toList ds p hB hA hsz (fun j t v h1 h2 => hval j t v (by simpa using h1) (by simpa using h2))
  have hlt : ∀ y ∈ p, y.block < W.heap.size := fun y hy => hW'.lt y hy
  have hstay : ∀ {W' : World}, Below W.heap.size W W' → ∀ (sp : Nat → Bool), (∀ y ∈ p, sp y.block = true) → DataW.TrodAll enc Try.prog W' 0 sp true Try.f14.params.toList args.toList ds p :=
    fun hb sp hsp => args_stay laid_apartShares hb _ _ _ _ (by kernel_rfl) hA0 hlt hsp
  obtain ⟨d0, d1, rfl⟩ := shape_2 hA
  refine (call_true ok_F_law36_ApartGaps rfl (x := x) (apartGaps_plain x hf) rfl W args hx).mono fun e W' ⟨he, hb⟩ => ?_
  subst he
  exact ⟨_, rfl, post_of_below (pa := p) (pv := []) hW' (fun _ _ _ => trodAll_mk1 (shut_bool Try.underlying4 _)) (fun sp hsp => hstay hb sp hsp) (fun _ _ => rfl) (List.append_nil _).symm
    hb (ok_one (by kernel_rfl) rfl (okWide_bool_mk Try.underlying4 _))⟩
theorem apartGaps_holds : Rows.ApartGapsSaid :=
  OpenClaim.holds_of_wide 14 Try.f14 rfl rfl rfl rfl rfl rfl rfl ⟨rfl, rfl, rfl, rfl, rfl⟩ rfl rfl rfl rfl rfl (by kernel_rfl) Try.func14 (by kernel_rfl)
    (of_decide_eq_true (by kernel_rfl)) (by unfold Func.isWrapper; first | (rw [if_pos (by decide +kernel)]; kernel_rfl) | (rw [if_neg (by decide +kernel)]; exact ⟨rfl, rfl⟩))
    (fun os started H enc _ => apartGaps_lifted os started H enc)
theorem apartTrue_plain (x : Ty.den (.pair (.slice (.agg (.pair (.int .i64) (.pair (.int .i64) (.int .i64))))) (.pair (.slice (.agg (.pair (.int .i64) (.pair (.int .i64) (.int .i64))))) (.pair (.int .i64) (.int .i64))))) (h : Fits (.pair (.slice (.agg (.pair (.int .i64) (.pair (.int .i64) (.int .i64))))) (.pair (.slice (.agg (.pair (.int .i64) (.pair (.int .i64) (.int .i64))))) (.pair (.int .i64) (.int .i64)))) x) : F_law36_ApartTrue x.1 x.2.1 x.2.2.1 x.2.2.2 = some true := f_ApartTrue x.1 x.2.1 x.2.2.1 x.2.2.2 h.1.1 h.2.1.1
set_option maxRecDepth 100000 in
theorem apartTrue_lifted (os : Os) (started : os.Started) (H : Type) (enc : TypeId × Value → H) :
    ReturnsInHanded {} Try.checked os 15 .any (Rows.apartTrueSpec.pre6 enc Try.prog Try.f15 Rows.apartTrueRow.domain false) (Rows.apartTrueSpec.post enc Try.prog Try.f15 false true false false) := by
  refine returnsInHanded_of_change_sized (C := Try.checked) own_apartShares started (by kernel_rfl) Try.func15
    (ChangeSpec.witness6 (enc := enc) (C := Try.checked) false ⟨#[], #[.slice none 0 0, .slice none 0 0, .int .i64 0, .int .i64 0], []⟩ 8 (by kernel_rfl) (by kernel_rfl) (by kernel_rfl) (by kernel_rfl)) ?_
  intro W base args ds gs before hval0 hW hcnd hsz0 _
  have hval : ∀ (j : Nat) t v, Try.f15.params[j]? = some t → args[j]? = some v → Value.okWide Try.prog W .any base t v := hval0
  have hW' := hW
  obtain ⟨p, q, hA0, hV, rfl, hfz, hnd⟩ := hW
  have hA : DataW.TrodAll enc Try.prog W 0 (fun _ => true) true Try.f15.params.toList args.toList ds p := hA0
  rw [Try.params15] at hA hval
  obtain ⟨rfl, rfl⟩ := trodVars_none hV
  simp only [List.append_nil] at hW'
  have hsz : ∀ n ∈ DataW.weightsEach Try.prog [76, 76, 3, 2] ds, n ≤ reachBytes := by
    have h0 := hsz0
    rw [Try.params15, List.append_nil] at h0
    exact fun n hn => by simpa using List.all_eq_true.1 h0 n hn
  have hB : linkPs Try.prog [76, 76, 3, 2] (.pair (.slice (.agg (.pair (.int .i64) (.pair (.int .i64) (.int .i64))))) (.pair (.slice (.agg (.pair (.int .i64) (.pair (.int .i64) (.int .i64))))) (.pair (.int .i64) (.int .i64)))) = true := by kernel_rfl
  obtain ⟨x, hx, hf⟩ := link_row [76, 76, 3, 2] (.pair (.slice (.agg (.pair (.int .i64) (.pair (.int .i64) (.int .i64))))) (.pair (.slice (.agg (.pair (.int .i64) (.pair (.int .i64) (.int .i64))))) (.pair (.int .i64) (.int .i64)))) args.toList ds p hB hA hsz (fun j t v h1 h2 => hval j t v (by simpa using h1) (by simpa using h2))
  have hlt : ∀ y ∈ p, y.block < W.heap.size := fun y hy => hW'.lt y hy
  have hstay : ∀ {W' : World}, Below W.heap.size W W' → ∀ (sp : Nat → Bool), (∀ y ∈ p, sp y.block = true) → DataW.TrodAll enc Try.prog W' 0 sp true Try.f15.params.toList args.toList ds p :=
    fun hb sp hsp => args_stay laid_apartShares hb _ _ _ _ (by kernel_rfl) hA0 hlt hsp
  obtain ⟨d0, d1, d2, d3, rfl⟩ := shape_4 hA
  refine (call_true ok_F_law36_ApartTrue rfl (x := x) (apartTrue_plain x hf) rfl W args hx).mono fun e W' ⟨he, hb⟩ => ?_
  subst he
  exact ⟨_, rfl, post_of_below (pa := p) (pv := []) hW' (fun _ _ _ => trodAll_mk1 (shut_bool Try.underlying4 _)) (fun sp hsp => hstay hb sp hsp) (fun _ _ => rfl) (List.append_nil _).symm
    hb (ok_one (by kernel_rfl) rfl (okWide_bool_mk Try.underlying4 _))⟩
theorem apartTrue_holds : Rows.ApartTrueSaid :=
  OpenClaim.holds_of_wide 15 Try.f15 rfl rfl rfl rfl rfl rfl rfl ⟨rfl, rfl, rfl, rfl, rfl⟩ rfl rfl rfl rfl rfl (by kernel_rfl) Try.func15 (by kernel_rfl)
    (of_decide_eq_true (by kernel_rfl)) (by unfold Func.isWrapper; first | (rw [if_pos (by decide +kernel)]; kernel_rfl) | (rw [if_neg (by decide +kernel)]; exact ⟨rfl, rfl⟩))
    (fun os started H enc _ => apartTrue_lifted os started H enc)
end Go.Proofs.Ytckghclpdfbigaa
