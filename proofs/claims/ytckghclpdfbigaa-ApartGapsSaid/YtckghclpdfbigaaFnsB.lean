/- The functional reading of the code (printed). -/
import Derived.Test.YtckghclpdfbigaaTysB
set_option linter.unusedSimpArgs false
set_option linter.unusedVariables false
namespace Go.Proofs.Ytckghclpdfbigaa
open Go
/-- odograph/odographlaw18.usual -/
noncomputable def F_law18_usual (n_1 : Int) : Option (Int × (Int × (Int × (Int × (Int × (Int × (Int × (Int × (Int × (Int × (Int × (Int × (Int × Int))))))))))))) :=
  let t4_2 : (Int × (Int × (Int × (Int × (Int × (Int × (Int × (Int × (Int × (Int × (Int × (Int × (Int × Int))))))))))))) := ((1024 : Int), ((131072 : Int), ((131072 : Int), ((0 : Int), ((0 : Int), ((0 : Int), ((1000 : Int), ((100 : Int), ((0 : Int), (n_1, ((128 : Int), ((0 : Int), ((5 : Int), (1 : Int))))))))))))))
  some t4_2
noncomputable def con_F_law18_usual : Con := { f := 60, ps := [.dat (.int .i64)], boxes := [], ins := (.int .i64), nin := 1, outs := (.agg (.pair (.int .i64) (.pair (.int .i64) (.pair (.int .i64) (.pair (.int .i64) (.pair (.int .i64) (.pair (.int .i64) (.pair (.int .i64) (.pair (.int .i64) (.pair (.int .i64) (.pair (.int .i64) (.pair (.int .i64) (.pair (.int .i64) (.pair (.int .i64) (.int .i64))))))))))))))), rs := [.dat (.agg (.pair (.int .i64) (.pair (.int .i64) (.pair (.int .i64) (.pair (.int .i64) (.pair (.int .i64) (.pair (.int .i64) (.pair (.int .i64) (.pair (.int .i64) (.pair (.int .i64) (.pair (.int .i64) (.pair (.int .i64) (.pair (.int .i64) (.pair (.int .i64) (.int .i64)))))))))))))))], nout := 1, F := fun x => F_law18_usual x }
def hint_F_law18_usual : Hint := H0
theorem run_F_law18_usual : runE ⟨tdGet tys, []⟩ con_F_law18_usual Try.f60 hint_F_law18_usual = con_F_law18_usual.F := by
  funext x
  kernel_rfl
theorem ok_F_law18_usual : ConOK Try.prog con_F_law18_usual :=
  con_of_run (Γ := ⟨tdGet tys, []⟩) ⟨fun T d h => tysB_ok tys tys_ok T d h, by simp []⟩ (by kernel_rfl) Try.func60 rfl (by kernel_rfl) run_F_law18_usual
/-- (odograph/span.Span).Right -/
noncomputable def F_span_Span_Right (s_1 : (Int × Int)) : Option Bool :=
  some (decide (s_1.1 ≤ s_1.2))
noncomputable def con_F_span_Span_Right : Con := { f := 63, ps := [.dat (.agg (.pair (.int .i64) (.int .i64)))], boxes := [], ins := (.agg (.pair (.int .i64) (.int .i64))), nin := 1, outs := .bool, rs := [.dat .bool], nout := 1, F := fun x => F_span_Span_Right x }
def hint_F_span_Span_Right : Hint := H0
theorem run_F_span_Span_Right : runE ⟨tdGet tys, []⟩ con_F_span_Span_Right Try.f63 hint_F_span_Span_Right = con_F_span_Span_Right.F := by
  funext x
  kernel_rfl
theorem ok_F_span_Span_Right : ConOK Try.prog con_F_span_Span_Right :=
  con_of_run (Γ := ⟨tdGet tys, []⟩) ⟨fun T d h => tysB_ok tys tys_ok T d h, by simp []⟩ (by kernel_rfl) Try.func63 rfl (by kernel_rfl) run_F_span_Span_Right
/-- (odograph/span.Span).In -/
noncomputable def F_span_Span_In (s_1 : (Int × Int)) (t_2 : (Int × Int)) : Option Bool :=
  (F_span_Span_Right s_1).bind fun t6_3 =>
  let t20_4 : Bool := (bif (decide (t_2.1 ≤ s_1.1)) then (decide (s_1.2 ≤ t_2.2)) else false)
  let t21_5 : Bool := (bif (!t6_3) then true else t20_4)
  some t21_5
noncomputable def con_F_span_Span_In : Con := { f := 62, ps := [.dat (.agg (.pair (.int .i64) (.int .i64))), .dat (.agg (.pair (.int .i64) (.int .i64)))], boxes := [], ins := (.pair (.agg (.pair (.int .i64) (.int .i64))) (.agg (.pair (.int .i64) (.int .i64)))), nin := 2, outs := .bool, rs := [.dat .bool], nout := 1, F := fun x => F_span_Span_In x.1 x.2 }
def hint_F_span_Span_In : Hint := H0
theorem run_F_span_Span_In : runE ⟨tdGet tys, [con_F_span_Span_Right]⟩ con_F_span_Span_In Try.f62 hint_F_span_Span_In = con_F_span_Span_In.F := by
  funext x
  kernel_rfl
theorem ok_F_span_Span_In : ConOK Try.prog con_F_span_Span_In :=
  con_of_run (Γ := ⟨tdGet tys, [con_F_span_Span_Right]⟩) ⟨fun T d h => tysB_ok tys tys_ok T d h, by simp [ok_F_span_Span_Right]⟩ (by kernel_rfl) Try.func62 rfl (by kernel_rfl) run_F_span_Span_In
/-- odograph/still.Slow -/
noncomputable def F_still_Slow (c_1 : (Int × (Int × (Int × (Int × (Int × (Int × (Int × (Int × (Int × (Int × (Int × (Int × (Int × Int)))))))))))))) (speed_2 : (Int × Int)) : Option Bool :=
  let t7_3 : Int := c_1.2.2.2.2.2.2.2.2.2.2.1
  let t8_4 : Int := (IntKind.wrap .i64 (0 - t7_3))
  let t10_5 : Int := c_1.2.2.2.2.2.2.2.2.2.2.1
  (F_span_Span_In speed_2 (t8_4, t10_5)).bind fun t12_6 =>
  some t12_6
noncomputable def con_F_still_Slow : Con := { f := 21, ps := [.dat (.agg (.pair (.int .i64) (.pair (.int .i64) (.pair (.int .i64) (.pair (.int .i64) (.pair (.int .i64) (.pair (.int .i64) (.pair (.int .i64) (.pair (.int .i64) (.pair (.int .i64) (.pair (.int .i64) (.pair (.int .i64) (.pair (.int .i64) (.pair (.int .i64) (.int .i64))))))))))))))), .dat (.agg (.pair (.int .i64) (.int .i64)))], boxes := [], ins := (.pair (.agg (.pair (.int .i64) (.pair (.int .i64) (.pair (.int .i64) (.pair (.int .i64) (.pair (.int .i64) (.pair (.int .i64) (.pair (.int .i64) (.pair (.int .i64) (.pair (.int .i64) (.pair (.int .i64) (.pair (.int .i64) (.pair (.int .i64) (.pair (.int .i64) (.int .i64))))))))))))))) (.agg (.pair (.int .i64) (.int .i64)))), nin := 2, outs := .bool, rs := [.dat .bool], nout := 1, F := fun x => F_still_Slow x.1 x.2 }
def hint_F_still_Slow : Hint := H0
theorem run_F_still_Slow : runE ⟨tdGet tys, [con_F_span_Span_In]⟩ con_F_still_Slow Try.f21 hint_F_still_Slow = con_F_still_Slow.F := by
  funext x
  kernel_rfl
theorem ok_F_still_Slow : ConOK Try.prog con_F_still_Slow :=
  con_of_run (Γ := ⟨tdGet tys, [con_F_span_Span_In]⟩) ⟨fun T d h => tysB_ok tys tys_ok T d h, by simp [ok_F_span_Span_In]⟩ (by kernel_rfl) Try.func21 rfl (by kernel_rfl) run_F_still_Slow
/-- (odograph/still.Still).Next -/
noncomputable def F_still_Still_Next (s_1 : (Int × Bool)) (c_2 : (Int × (Int × (Int × (Int × (Int × (Int × (Int × (Int × (Int × (Int × (Int × (Int × (Int × Int)))))))))))))) (speed_3 : (Int × Int)) (fit_4 : Int) : Option (Int × Bool) :=
  let t11_5 : Bool := (decide (fit_4 < (1 : Int)))
  (bif !t11_5 then F_still_Slow c_2 speed_3 else some false).bind fun t15_6 =>
  let t17_7 : Bool := (bif t11_5 then true else (!t15_6))
  (bif t17_7 then
    let w_8 : (Int × Bool) := ((0 : Int), false)
    some w_8
  else
    let t21_9 : Int := (IntKind.wrap .i64 (s_1.1 + (1 : Int)))
    let t24_10 : Int := (if c_2.2.2.2.2.2.2.2.2.2.1 < t21_9 then c_2.2.2.2.2.2.2.2.2.2.1 else t21_9)
    let t29_11 : Bool := (decide (c_2.2.2.2.2.2.2.2.2.2.1 ≤ t24_10))
    let w_12 : (Int × Bool) := (t24_10, t29_11)
    some w_12)
noncomputable def con_F_still_Still_Next : Con := { f := 22, ps := [.dat (.agg (.pair (.int .i64) .bool)), .dat (.agg (.pair (.int .i64) (.pair (.int .i64) (.pair (.int .i64) (.pair (.int .i64) (.pair (.int .i64) (.pair (.int .i64) (.pair (.int .i64) (.pair (.int .i64) (.pair (.int .i64) (.pair (.int .i64) (.pair (.int .i64) (.pair (.int .i64) (.pair (.int .i64) (.int .i64))))))))))))))), .dat (.agg (.pair (.int .i64) (.int .i64))), .dat (.int .i64)], boxes := [], ins := (.pair (.agg (.pair (.int .i64) .bool)) (.pair (.agg (.pair (.int .i64) (.pair (.int .i64) (.pair (.int .i64) (.pair (.int .i64) (.pair (.int .i64) (.pair (.int .i64) (.pair (.int .i64) (.pair (.int .i64) (.pair (.int .i64) (.pair (.int .i64) (.pair (.int .i64) (.pair (.int .i64) (.pair (.int .i64) (.int .i64))))))))))))))) (.pair (.agg (.pair (.int .i64) (.int .i64))) (.int .i64)))), nin := 4, outs := (.agg (.pair (.int .i64) .bool)), rs := [.dat (.agg (.pair (.int .i64) .bool))], nout := 1, F := fun x => F_still_Still_Next x.1 x.2.1 x.2.2.1 x.2.2.2 }
def hint_F_still_Still_Next : Hint := H0
theorem run_F_still_Still_Next : runE ⟨tdGet tys, [con_F_still_Slow]⟩ con_F_still_Still_Next Try.f22 hint_F_still_Still_Next = con_F_still_Still_Next.F := by
  funext x
  kernel_rfl
theorem ok_F_still_Still_Next : ConOK Try.prog con_F_still_Still_Next :=
  con_of_run (Γ := ⟨tdGet tys, [con_F_still_Slow]⟩) ⟨fun T d h => tysB_ok tys tys_ok T d h, by simp [ok_F_still_Slow]⟩ (by kernel_rfl) Try.func22 rfl (by kernel_rfl) run_F_still_Still_Next
/-- odograph/odographlaw18.anchor -/
noncomputable def F_law18_anchor (_ : Unit) : Option Bool :=
  (F_law18_usual (2 : Int)).bind fun t3_1 =>
  (F_still_Still_Next ((0 : Int), false) t3_1 ((-1 : Int), (3 : Int)) (1 : Int)).bind fun t7_2 =>
  (F_still_Still_Next t7_2 t3_1 ((0 : Int), (128 : Int)) (1 : Int)).bind fun t10_3 =>
  let t17_4 : Bool := (bif t10_3.2 then (t10_3.1 == (2 : Int)) else false)
  (bif t17_4 then F_still_Still_Next t10_3 t3_1 ((0 : Int), (129 : Int)) (3 : Int) else some ((0 : Int), false)).bind fun t22_5 =>
  let t25_6 : Bool := (bif t17_4 then (!t22_5.2) else false)
  some t25_6
noncomputable def con_F_law18_anchor : Con := { f := 19, ps := [], boxes := [], ins := .unit, nin := 0, outs := .bool, rs := [.dat .bool], nout := 1, F := fun x => F_law18_anchor () }
def hint_F_law18_anchor : Hint := H0
theorem run_F_law18_anchor : runE ⟨tdGet tys, [con_F_law18_usual, con_F_still_Still_Next]⟩ con_F_law18_anchor Try.f19 hint_F_law18_anchor = con_F_law18_anchor.F := by
  funext x
  kernel_rfl
theorem ok_F_law18_anchor : ConOK Try.prog con_F_law18_anchor :=
  con_of_run (Γ := ⟨tdGet tys, [con_F_law18_usual, con_F_still_Still_Next]⟩) ⟨fun T d h => tysB_ok tys tys_ok T d h, by simp [ok_F_law18_usual, ok_F_still_Still_Next]⟩ (by kernel_rfl) Try.func19 rfl (by kernel_rfl) run_F_law18_anchor
/-- odograph/odographref13.Up -/
noncomputable def F_ref13_Up (a_1 : Int) (b_2 : Int) : Option Int :=
  let t7_3 : Int := (IntKind.wrap .i64 (a_1 + b_2))
  let t8_4 : Int := (IntKind.wrap .i64 (t7_3 - (1 : Int)))
  chk none (!(b_2 == (0 : Int))) <|
  let t10_5 : Int := (IntKind.wrap .i64 (t8_4.tdiv b_2))
  some t10_5
noncomputable def con_F_ref13_Up : Con := { f := 61, ps := [.dat (.int .i64), .dat (.int .i64)], boxes := [], ins := (.pair (.int .i64) (.int .i64)), nin := 2, outs := (.int .i64), rs := [.dat (.int .i64)], nout := 1, F := fun x => F_ref13_Up x.1 x.2 }
def hint_F_ref13_Up : Hint := H0
theorem run_F_ref13_Up : runE ⟨tdGet tys, []⟩ con_F_ref13_Up Try.f61 hint_F_ref13_Up = con_F_ref13_Up.F := by
  funext x
  kernel_rfl
theorem ok_F_ref13_Up : ConOK Try.prog con_F_ref13_Up :=
  con_of_run (Γ := ⟨tdGet tys, []⟩) ⟨fun T d h => tysB_ok tys tys_ok T d h, by simp []⟩ (by kernel_rfl) Try.func61 rfl (by kernel_rfl) run_F_ref13_Up
/-- odograph/odographref13.Wrong -/
noncomputable def F_ref13_Wrong (c_1 : (Int × (Int × (Int × (Int × (Int × (Int × (Int × (Int × (Int × (Int × (Int × (Int × (Int × Int)))))))))))))) : Option Int :=
  let t5_2 : Bool := (decide (c_1.1 < (1 : Int)))
  let t9_3 : Bool := (decide ((1024 : Int) < c_1.1))
  let t10_4 : Bool := (bif t5_2 then true else t9_3)
  (bif t10_4 then
    some (1 : Int)
  else
    let t13_5 : Bool := (decide (c_1.2.1 < (131072 : Int)))
    let t17_6 : Bool := (decide ((8388608 : Int) < c_1.2.1))
    let t18_7 : Bool := (bif t13_5 then true else t17_6)
    let t24_8 : Bool := (decide (c_1.2.2.1 < c_1.2.1))
    let t25_9 : Bool := (bif t18_7 then true else t24_8)
    let t29_10 : Bool := (decide ((8388608 : Int) < c_1.2.2.1))
    let t30_11 : Bool := (bif t25_9 then true else t29_10)
    (bif t30_11 then
      some (2 : Int)
    else
      let t35_12 : Int := (IntKind.wrap .i64 (c_1.2.2.1 - c_1.2.1))
      let t36_13 : Int := (IntKind.wrap .i64 (t35_12 * (16 : Int)))
      let t39_14 : Bool := (decide (c_1.2.1 < t36_13))
      (bif t39_14 then
        some (3 : Int)
      else
        let t42_15 : Bool := (decide (c_1.2.2.2.1 < (0 : Int)))
        let t46_16 : Bool := (decide ((1048576 : Int) < c_1.2.2.2.1))
        let t47_17 : Bool := (bif t42_15 then true else t46_16)
        let t51_18 : Bool := (decide (c_1.2.2.2.2.1 < (0 : Int)))
        let t52_19 : Bool := (bif t47_17 then true else t51_18)
        let t56_20 : Bool := (decide ((65536 : Int) < c_1.2.2.2.2.1))
        let t57_21 : Bool := (bif t52_19 then true else t56_20)
        (bif t57_21 then
          some (4 : Int)
        else
          let t60_22 : Bool := (decide (c_1.2.2.2.2.2.1 < (0 : Int)))
          let t64_23 : Bool := (decide ((1048576 : Int) < c_1.2.2.2.2.2.1))
          let t65_24 : Bool := (bif t60_22 then true else t64_23)
          (bif t65_24 then
            some (5 : Int)
          else
            let t68_25 : Bool := (decide (c_1.2.2.2.2.2.2.1 < (1 : Int)))
            let t72_26 : Bool := (decide ((16777216 : Int) < c_1.2.2.2.2.2.2.1))
            let t73_27 : Bool := (bif t68_25 then true else t72_26)
            let t77_28 : Bool := (decide (c_1.2.2.2.2.2.2.2.1 < (1 : Int)))
            let t78_29 : Bool := (bif t73_27 then true else t77_28)
            let t82_30 : Bool := (decide ((1048576 : Int) < c_1.2.2.2.2.2.2.2.1))
            let t83_31 : Bool := (bif t78_29 then true else t82_30)
            (bif t83_31 then
              some (6 : Int)
            else
              let t88_32 : Int := (IntKind.wrap .i64 (c_1.2.2.2.2.2.2.1 * c_1.1))
              let t91_33 : Int := (IntKind.wrap .i64 ((32000 : Int) * c_1.2.1))
              let t92_34 : Bool := (decide (t91_33 < t88_32))
              (bif t92_34 then
                some (7 : Int)
              else
                let t95_35 : Bool := (decide (c_1.2.2.2.2.2.2.2.2.1 < (0 : Int)))
                let t99_36 : Bool := (decide ((1048576 : Int) < c_1.2.2.2.2.2.2.2.2.1))
                let t100_37 : Bool := (bif t95_35 then true else t99_36)
                (bif t100_37 then
                  some (8 : Int)
                else
                  let t103_38 : Bool := (decide (c_1.2.2.2.2.2.2.2.2.2.1 < (1 : Int)))
                  let t107_39 : Bool := (decide ((1000 : Int) < c_1.2.2.2.2.2.2.2.2.2.1))
                  let t108_40 : Bool := (bif t103_38 then true else t107_39)
                  let t111_41 : Int := c_1.2.2.2.2.2.2.2.2.2.2.2.2.1
                  let t112_42 : Bool := (decide (t111_41 < (1 : Int)))
                  let t113_43 : Bool := (bif t108_40 then true else t112_42)
                  let t116_44 : Int := c_1.2.2.2.2.2.2.2.2.2.2.2.2.1
                  let t117_45 : Bool := (decide ((1000 : Int) < t116_44))
                  let t118_46 : Bool := (bif t113_43 then true else t117_45)
                  (bif t118_46 then
                    some (9 : Int)
                  else
                    let t120_47 : Int := c_1.2.2.2.2.2.2.2.2.2.2.1
                    (F_ref13_Up c_1.2.2.1 c_1.1).bind fun t125_48 =>
                    let t126_49 : Bool := (decide (t120_47 < t125_48))
                    let t129_50 : Int := c_1.2.2.2.2.2.2.2.2.2.2.1
                    let t132_51 : Int := (IntKind.wrap .i64 ((3 : Int) * c_1.2.2.2.1))
                    let t133_52 : Bool := (decide (t129_50 < t132_51))
                    let t134_53 : Bool := (bif t126_49 then true else t133_52)
                    let t137_54 : Int := c_1.2.2.2.2.2.2.2.2.2.2.1
                    let t138_55 : Bool := (decide ((16777216 : Int) < t137_54))
                    let t139_56 : Bool := (bif t134_53 then true else t138_55)
                    (bif t139_56 then
                      some (10 : Int)
                    else
                      let t141_57 : Int := c_1.2.2.2.2.2.2.2.2.2.2.2.1
                      let t142_58 : Bool := (decide (t141_57 < (0 : Int)))
                      let t145_59 : Int := c_1.2.2.2.2.2.2.2.2.2.2.2.1
                      let t146_60 : Bool := (decide ((1073741824 : Int) < t145_59))
                      let t147_61 : Bool := (bif t142_58 then true else t146_60)
                      (bif t147_61 then
                        some (11 : Int)
                      else
                        let t149_62 : Int := c_1.2.2.2.2.2.2.2.2.2.2.2.2.2
                        let t150_63 : Bool := (decide (t149_62 < (1 : Int)))
                        let t153_64 : Int := c_1.2.2.2.2.2.2.2.2.2.2.2.2.2
                        let t154_65 : Bool := (decide ((1048576 : Int) < t153_64))
                        let t155_66 : Bool := (bif t150_63 then true else t154_65)
                        (bif t155_66 then
                          some (12 : Int)
                        else
                          some (0 : Int)))))))))))))
noncomputable def con_F_ref13_Wrong : Con := { f := 20, ps := [.dat (.agg (.pair (.int .i64) (.pair (.int .i64) (.pair (.int .i64) (.pair (.int .i64) (.pair (.int .i64) (.pair (.int .i64) (.pair (.int .i64) (.pair (.int .i64) (.pair (.int .i64) (.pair (.int .i64) (.pair (.int .i64) (.pair (.int .i64) (.pair (.int .i64) (.int .i64)))))))))))))))], boxes := [], ins := (.agg (.pair (.int .i64) (.pair (.int .i64) (.pair (.int .i64) (.pair (.int .i64) (.pair (.int .i64) (.pair (.int .i64) (.pair (.int .i64) (.pair (.int .i64) (.pair (.int .i64) (.pair (.int .i64) (.pair (.int .i64) (.pair (.int .i64) (.pair (.int .i64) (.int .i64))))))))))))))), nin := 1, outs := (.int .i64), rs := [.dat (.int .i64)], nout := 1, F := fun x => F_ref13_Wrong x }
def hint_F_ref13_Wrong : Hint := H0
theorem run_F_ref13_Wrong : runE ⟨tdGet tys, [con_F_ref13_Up]⟩ con_F_ref13_Wrong Try.f20 hint_F_ref13_Wrong = con_F_ref13_Wrong.F := by
  funext x
  kernel_rfl
theorem ok_F_ref13_Wrong : ConOK Try.prog con_F_ref13_Wrong :=
  con_of_run (Γ := ⟨tdGet tys, [con_F_ref13_Up]⟩) ⟨fun T d h => tysB_ok tys tys_ok T d h, by simp [ok_F_ref13_Up]⟩ (by kernel_rfl) Try.func20 rfl (by kernel_rfl) run_F_ref13_Wrong
/-- odograph/odographlaw18.StillPlays -/
noncomputable def F_law18_StillPlays (c_1 : (Int × (Int × (Int × (Int × (Int × (Int × (Int × (Int × (Int × (Int × (Int × (Int × (Int × Int)))))))))))))) (cycles_2 : (List ((Int × Int) × Int))) : Option Bool :=
  (F_law18_anchor ()).bind fun t10_3 =>
  (bif (!t10_3) then
    some false
  else
    (F_ref13_Wrong c_1).bind fun t13_4 =>
    let t18_5 : Bool := (decide ((3000 : Int) < (cycles_2.length : Int)))
    let t19_6 : Bool := (bif (t13_4 != (0 : Int)) then true else t18_5)
    (bif t19_6 then
      some true
    else
      Option.bind (α := Bool ⊕ Unit) (
        loopO (X := Bool ⊕ Unit) (fun (s_7 : (Bool × (Int × (Int × Int)))) =>
          let b1_8 : Bool := s_7.1
          let n_9 : Int := s_7.2.1
          let b1_10 : Int := s_7.2.2.1
          let t22_11 : Int := s_7.2.2.2
          let t23_12 : Bool := (decide (t22_11 < (cycles_2.length : Int)))
          (bif t23_12 then
            chk none ((decide ((0 : Int) ≤ t22_11)) && (decide (t22_11 < (cycles_2.length : Int)))) <|
            let t25_13 : ((Int × Int) × Int) := (cycles_2.getD t22_11.toNat (((0 : Int), (0 : Int)), (0 : Int)))
            let t32_14 : Bool := (decide (t25_13.1.2 < t25_13.1.1))
            (bif t32_14 then
              some (.inr (.inl true))
            else
              let t37_15 : Int := c_1.2.2.2.2.2.2.2.2.2.2.1
              let t38_16 : Int := (IntKind.wrap .i64 (0 - t37_15))
              let t39_17 : Bool := (decide (t38_16 ≤ t25_13.1.1))
              let t45_18 : Int := c_1.2.2.2.2.2.2.2.2.2.2.1
              let t46_19 : Bool := (decide (t25_13.1.2 ≤ t45_18))
              let t47_20 : Bool := (bif t39_17 then t46_19 else false)
              (F_still_Slow c_1 t25_13.1).bind fun t51_21 =>
              (bif (!(t51_21 == t47_20)) then
                some (.inr (.inl false))
              else
                let t55_22 : Int := (IntKind.wrap .i64 (n_9 + (1 : Int)))
                let t61_23 : Bool := (decide (t25_13.2 < (1 : Int)))
                let t62_24 : Bool := (bif (!t47_20) then true else t61_23)
                Option.bind (
                  (bif t62_24 then
                    some (0 : Int)
                  else
                    some t55_22)) fun r_25 =>
                (F_still_Still_Next (b1_10, b1_8) c_1 t25_13.1 t25_13.2).bind fun t69_26 =>
                let t75_27 : Bool := (decide (c_1.2.2.2.2.2.2.2.2.2.1 ≤ r_25))
                let t83_28 : Int := (if c_1.2.2.2.2.2.2.2.2.2.1 < r_25 then c_1.2.2.2.2.2.2.2.2.2.1 else r_25)
                let t85_29 : Bool := (bif (!(t69_26.2 == t75_27)) then true else (t69_26.1 != t83_28))
                (bif t85_29 then
                  some (.inr (.inl false))
                else
                  let t86_30 : Int := (IntKind.wrap .i64 (t22_11 + (1 : Int)))
                  some (.inl (t69_26.2, r_25, t69_26.1, t86_30)))))
          else
            some (.inr (.inr ())))) (false, (0 : Int), (0 : Int), (0 : Int))) fun z => match z with
      | .inl r_31 =>
        some r_31
      | .inr _ =>
        some true))
noncomputable def con_F_law18_StillPlays : Con := { f := 3, ps := [.dat (.agg (.pair (.int .i64) (.pair (.int .i64) (.pair (.int .i64) (.pair (.int .i64) (.pair (.int .i64) (.pair (.int .i64) (.pair (.int .i64) (.pair (.int .i64) (.pair (.int .i64) (.pair (.int .i64) (.pair (.int .i64) (.pair (.int .i64) (.pair (.int .i64) (.int .i64))))))))))))))), .dat (.slice (.agg (.pair (.agg (.pair (.int .i64) (.int .i64))) (.int .i64))))], boxes := [], ins := (.pair (.agg (.pair (.int .i64) (.pair (.int .i64) (.pair (.int .i64) (.pair (.int .i64) (.pair (.int .i64) (.pair (.int .i64) (.pair (.int .i64) (.pair (.int .i64) (.pair (.int .i64) (.pair (.int .i64) (.pair (.int .i64) (.pair (.int .i64) (.pair (.int .i64) (.int .i64))))))))))))))) (.slice (.agg (.pair (.agg (.pair (.int .i64) (.int .i64))) (.int .i64))))), nin := 2, outs := .bool, rs := [.dat .bool], nout := 1, F := fun x => F_law18_StillPlays x.1 x.2 }
def hint_F_law18_StillPlays : Hint := (.mk .plain [H0, (.mk .plain [H0, (.mk .plain [H0, (.mk .plain [H0, (.mk .plain [H0, (.mk .plain [(.mk .plain [H0, (.mk .plain [(.mk (.loop [⟨.cell 1 1, .bool, none⟩, ⟨.slot 6, (.int .i64), none⟩, ⟨.cell 1 0, (.int .i64), none⟩, ⟨.slot 22, (.int .i64), none⟩] [(0, 23), (0, 30), (0, 4), (0, 26), (0, 29), (0, 32), (0, 28), (0, 25), (0, 31), (0, 24), (0, 27), (0, 8), (0, 36), (0, 42), (0, 39), (0, 45), (0, 48), (0, 51), (0, 35), (0, 38), (0, 41), (0, 47), (0, 44), (0, 50), (0, 53), (0, 34), (0, 40), (0, 37), (0, 43), (0, 46), (0, 52), (0, 49), (0, 9), (0, 33), (0, 54), (0, 60), (0, 69), (0, 78), (0, 75), (0, 84), (0, 62), (0, 71), (0, 80), (0, 77), (0, 55), (0, 64), (0, 73), (0, 70), (0, 79), (0, 57), (0, 66), (0, 63), (0, 72), (0, 81), (0, 59), (0, 56), (0, 68), (0, 65), (0, 74), (0, 83), (0, 61), (0, 58), (0, 67), (0, 76), (0, 85), (0, 82), (0, 86)] [(.ret, [⟨.slot 4, .bool, none⟩]), (.exit 0, [])]) [(.mk .plain [H0, (.mk .plain [H0, (.mk .plain [(.mk .plain [(.mk .plain [H0, (.mk .plain [H0, (.mk .plain [H0, (.mk .plain [H0, (.mk .plain [H0, (.mk .plain [(.mk .plain [H0, (.mk (.join [] [(.normal, [⟨.slot 6, (.int .i64), none⟩])]) [])])])])])])])])])])])])])])])])])])])])])
theorem run_F_law18_StillPlays : runE ⟨tdGet tys, [con_F_law18_anchor, con_F_ref13_Wrong, con_F_still_Slow, con_F_still_Still_Next]⟩ con_F_law18_StillPlays Try.f3 hint_F_law18_StillPlays = con_F_law18_StillPlays.F := by
  funext x
  kernel_rfl
theorem ok_F_law18_StillPlays : ConOK Try.prog con_F_law18_StillPlays :=
  con_of_run (Γ := ⟨tdGet tys, [con_F_law18_anchor, con_F_ref13_Wrong, con_F_still_Slow, con_F_still_Still_Next]⟩) ⟨fun T d h => tysB_ok tys tys_ok T d h, by simp [ok_F_law18_anchor, ok_F_ref13_Wrong, ok_F_still_Slow, ok_F_still_Still_Next]⟩ (by kernel_rfl) Try.func3 rfl (by kernel_rfl) run_F_law18_StillPlays
/-- odograph/odographlaw18.StillNarrow -/
noncomputable def F_law18_StillNarrow (c_1 : (Int × (Int × (Int × (Int × (Int × (Int × (Int × (Int × (Int × (Int × (Int × (Int × (Int × Int)))))))))))))) (cycles_2 : (List ((Int × Int) × Int))) (better_3 : (List ((Int × Int) × Int))) : Option Bool :=
  (F_law18_anchor ()).bind fun t12_4 =>
  (bif (!t12_4) then
    some false
  else
    (F_ref13_Wrong c_1).bind fun t15_5 =>
    let t20_6 : Bool := (decide ((3000 : Int) < (cycles_2.length : Int)))
    let t21_7 : Bool := (bif (t15_5 != (0 : Int)) then true else t20_6)
    let t27_8 : Bool := ((cycles_2.length : Int) != (better_3.length : Int))
    let t28_9 : Bool := (bif t21_7 then true else t27_8)
    (bif t28_9 then
      some true
    else
      Option.bind (α := Bool ⊕ Unit) (
        loopO (X := Bool ⊕ Unit) (fun (s_10 : (Int × (Bool × (Bool × (Int × Int))))) =>
          let b2_11 : Int := s_10.1
          let b1_12 : Bool := s_10.2.1
          let b2_13 : Bool := s_10.2.2.1
          let b1_14 : Int := s_10.2.2.2.1
          let t31_15 : Int := s_10.2.2.2.2
          let t32_16 : Bool := (decide (t31_15 < (cycles_2.length : Int)))
          (bif t32_16 then
            chk none ((decide ((0 : Int) ≤ t31_15)) && (decide (t31_15 < (cycles_2.length : Int)))) <|
            let t35_17 : ((Int × Int) × Int) := (cycles_2.getD t31_15.toNat (((0 : Int), (0 : Int)), (0 : Int)))
            chk none ((decide ((0 : Int) ≤ t31_15)) && (decide (t31_15 < (better_3.length : Int)))) <|
            let t39_18 : ((Int × Int) × Int) := (better_3.getD t31_15.toNat (((0 : Int), (0 : Int)), (0 : Int)))
            let t46_19 : Bool := (decide (t35_17.1.2 < t35_17.1.1))
            let t54_20 : Bool := (decide (t39_18.1.2 < t39_18.1.1))
            let t55_21 : Bool := (bif t46_19 then true else t54_20)
            let t63_22 : Bool := (decide (t39_18.1.1 < t35_17.1.1))
            let t64_23 : Bool := (bif t55_21 then true else t63_22)
            let t72_24 : Bool := (decide (t35_17.1.2 < t39_18.1.2))
            let t73_25 : Bool := (bif t64_23 then true else t72_24)
            let t79_26 : Bool := (decide (t39_18.2 < t35_17.2))
            let t80_27 : Bool := (bif t73_25 then true else t79_26)
            (bif t80_27 then
              some (.inr (.inl true))
            else
              (F_still_Still_Next (b1_14, b1_12) c_1 t35_17.1 t35_17.2).bind fun t87_28 =>
              (F_still_Still_Next (b2_11, b2_13) c_1 t39_18.1 t39_18.2).bind fun t94_29 =>
              let t101_30 : Bool := (bif t87_28.2 then (!t94_29.2) else false)
              let t107_31 : Bool := (decide (t94_29.1 < t87_28.1))
              let t108_32 : Bool := (bif t101_30 then true else t107_31)
              (bif t108_32 then
                some (.inr (.inl false))
              else
                let t109_33 : Int := (IntKind.wrap .i64 (t31_15 + (1 : Int)))
                some (.inl (t94_29.1, t87_28.2, t94_29.2, t87_28.1, t109_33))))
          else
            some (.inr (.inr ())))) ((0 : Int), false, false, (0 : Int), (0 : Int))) fun z => match z with
      | .inl r_34 =>
        some r_34
      | .inr _ =>
        some true))
noncomputable def con_F_law18_StillNarrow : Con := { f := 4, ps := [.dat (.agg (.pair (.int .i64) (.pair (.int .i64) (.pair (.int .i64) (.pair (.int .i64) (.pair (.int .i64) (.pair (.int .i64) (.pair (.int .i64) (.pair (.int .i64) (.pair (.int .i64) (.pair (.int .i64) (.pair (.int .i64) (.pair (.int .i64) (.pair (.int .i64) (.int .i64))))))))))))))), .dat (.slice (.agg (.pair (.agg (.pair (.int .i64) (.int .i64))) (.int .i64)))), .dat (.slice (.agg (.pair (.agg (.pair (.int .i64) (.int .i64))) (.int .i64))))], boxes := [], ins := (.pair (.agg (.pair (.int .i64) (.pair (.int .i64) (.pair (.int .i64) (.pair (.int .i64) (.pair (.int .i64) (.pair (.int .i64) (.pair (.int .i64) (.pair (.int .i64) (.pair (.int .i64) (.pair (.int .i64) (.pair (.int .i64) (.pair (.int .i64) (.pair (.int .i64) (.int .i64))))))))))))))) (.pair (.slice (.agg (.pair (.agg (.pair (.int .i64) (.int .i64))) (.int .i64)))) (.slice (.agg (.pair (.agg (.pair (.int .i64) (.int .i64))) (.int .i64)))))), nin := 3, outs := .bool, rs := [.dat .bool], nout := 1, F := fun x => F_law18_StillNarrow x.1 x.2.1 x.2.2 }
def hint_F_law18_StillNarrow : Hint := (.mk .plain [H0, (.mk .plain [H0, (.mk .plain [H0, (.mk .plain [H0, (.mk .plain [(.mk .plain [H0, (.mk .plain [(.mk (.loop [⟨.cell 2 0, (.int .i64), none⟩, ⟨.cell 1 1, .bool, none⟩, ⟨.cell 2 1, .bool, none⟩, ⟨.cell 1 0, (.int .i64), none⟩, ⟨.slot 31, (.int .i64), none⟩] [(0, 36), (0, 42), (0, 39), (0, 45), (0, 48), (0, 54), (0, 51), (0, 57), (0, 60), (0, 66), (0, 63), (0, 69), (0, 72), (0, 11), (0, 78), (0, 75), (0, 35), (0, 32), (0, 38), (0, 41), (0, 47), (0, 44), (0, 50), (0, 53), (0, 59), (0, 56), (0, 62), (0, 68), (0, 65), (0, 71), (0, 10), (0, 74), (0, 80), (0, 77), (0, 34), (0, 40), (0, 37), (0, 43), (0, 46), (0, 52), (0, 49), (0, 55), (0, 61), (0, 58), (0, 64), (0, 9), (0, 67), (0, 6), (0, 73), (0, 70), (0, 76), (0, 79), (0, 33), (0, 91), (0, 100), (0, 87), (0, 84), (0, 93), (0, 102), (0, 108), (0, 86), (0, 95), (0, 104), (0, 101), (0, 88), (0, 97), (0, 94), (0, 106), (0, 103), (0, 81), (0, 90), (0, 99), (0, 96), (0, 105), (0, 83), (0, 92), (0, 89), (0, 98), (0, 107), (0, 85), (0, 82), (0, 109)] [(.ret, [⟨.slot 6, .bool, none⟩]), (.exit 0, [])]) [])])])])])])])])
theorem run_F_law18_StillNarrow : runE ⟨tdGet tys, [con_F_law18_anchor, con_F_ref13_Wrong, con_F_still_Still_Next]⟩ con_F_law18_StillNarrow Try.f4 hint_F_law18_StillNarrow = con_F_law18_StillNarrow.F := by
  funext x
  kernel_rfl
theorem ok_F_law18_StillNarrow : ConOK Try.prog con_F_law18_StillNarrow :=
  con_of_run (Γ := ⟨tdGet tys, [con_F_law18_anchor, con_F_ref13_Wrong, con_F_still_Still_Next]⟩) ⟨fun T d h => tysB_ok tys tys_ok T d h, by simp [ok_F_law18_anchor, ok_F_ref13_Wrong, ok_F_still_Still_Next]⟩ (by kernel_rfl) Try.func4 rfl (by kernel_rfl) run_F_law18_StillNarrow
/-- (odograph/span.Span).Has -/
noncomputable def F_span_Span_Has (s_1 : (Int × Int)) (x_2 : Int) : Option Bool :=
  let t14_3 : Bool := (bif (decide (s_1.1 ≤ x_2)) then (decide (x_2 ≤ s_1.2)) else false)
  some t14_3
noncomputable def con_F_span_Span_Has : Con := { f := 23, ps := [.dat (.agg (.pair (.int .i64) (.int .i64))), .dat (.int .i64)], boxes := [], ins := (.pair (.agg (.pair (.int .i64) (.int .i64))) (.int .i64)), nin := 2, outs := .bool, rs := [.dat .bool], nout := 1, F := fun x => F_span_Span_Has x.1 x.2 }
def hint_F_span_Span_Has : Hint := H0
theorem run_F_span_Span_Has : runE ⟨tdGet tys, []⟩ con_F_span_Span_Has Try.f23 hint_F_span_Span_Has = con_F_span_Span_Has.F := by
  funext x
  kernel_rfl
theorem ok_F_span_Span_Has : ConOK Try.prog con_F_span_Span_Has :=
  con_of_run (Γ := ⟨tdGet tys, []⟩) ⟨fun T d h => tysB_ok tys tys_ok T d h, by simp []⟩ (by kernel_rfl) Try.func23 rfl (by kernel_rfl) run_F_span_Span_Has
/-- odograph/odographlaw18.StillTrue -/
noncomputable def F_law18_StillTrue (c_1 : (Int × (Int × (Int × (Int × (Int × (Int × (Int × (Int × (Int × (Int × (Int × (Int × (Int × Int)))))))))))))) (s_2 : (Int × Bool)) (x_3 : ((Int × Int) × Int)) (v_4 : Int) : Option Bool :=
  (F_law18_anchor ()).bind fun t10_5 =>
  (bif (!t10_5) then
    some false
  else
    (F_ref13_Wrong c_1).bind fun t13_6 =>
    let t18_7 : Bool := (decide (s_2.1 < (0 : Int)))
    let t19_8 : Bool := (bif (t13_6 != (0 : Int)) then true else t18_7)
    let t25_9 : Bool := (decide (c_1.2.2.2.2.2.2.2.2.2.1 < s_2.1))
    let t26_10 : Bool := (bif t19_8 then true else t25_9)
    (bif !t26_10 then F_span_Span_Has x_3.1 v_4 else some false).bind fun t31_11 =>
    let t33_12 : Bool := (bif t26_10 then true else (!t31_11))
    (bif t33_12 then
      some true
    else
      (F_still_Still_Next s_2 c_1 x_3.1 x_3.2).bind fun t40_13 =>
      let t47_14 : Int := c_1.2.2.2.2.2.2.2.2.2.2.1
      let t48_15 : Int := (IntKind.wrap .i64 (0 - t47_14))
      let t53_16 : Int := c_1.2.2.2.2.2.2.2.2.2.2.1
      let t55_17 : Bool := (bif (decide (t48_15 ≤ v_4)) then (decide (v_4 ≤ t53_16)) else false)
      let t59_18 : Bool := (decide ((1 : Int) ≤ x_3.2))
      let t60_19 : Bool := (bif t55_17 then t59_18 else false)
      let t61_20 : Bool := (bif (!t40_13.2) then true else t60_19)
      some t61_20))
noncomputable def con_F_law18_StillTrue : Con := { f := 5, ps := [.dat (.agg (.pair (.int .i64) (.pair (.int .i64) (.pair (.int .i64) (.pair (.int .i64) (.pair (.int .i64) (.pair (.int .i64) (.pair (.int .i64) (.pair (.int .i64) (.pair (.int .i64) (.pair (.int .i64) (.pair (.int .i64) (.pair (.int .i64) (.pair (.int .i64) (.int .i64))))))))))))))), .dat (.agg (.pair (.int .i64) .bool)), .dat (.agg (.pair (.agg (.pair (.int .i64) (.int .i64))) (.int .i64))), .dat (.int .i64)], boxes := [], ins := (.pair (.agg (.pair (.int .i64) (.pair (.int .i64) (.pair (.int .i64) (.pair (.int .i64) (.pair (.int .i64) (.pair (.int .i64) (.pair (.int .i64) (.pair (.int .i64) (.pair (.int .i64) (.pair (.int .i64) (.pair (.int .i64) (.pair (.int .i64) (.pair (.int .i64) (.int .i64))))))))))))))) (.pair (.agg (.pair (.int .i64) .bool)) (.pair (.agg (.pair (.agg (.pair (.int .i64) (.int .i64))) (.int .i64))) (.int .i64)))), nin := 4, outs := .bool, rs := [.dat .bool], nout := 1, F := fun x => F_law18_StillTrue x.1 x.2.1 x.2.2.1 x.2.2.2 }
def hint_F_law18_StillTrue : Hint := H0
theorem run_F_law18_StillTrue : runE ⟨tdGet tys, [con_F_law18_anchor, con_F_ref13_Wrong, con_F_span_Span_Has, con_F_still_Still_Next]⟩ con_F_law18_StillTrue Try.f5 hint_F_law18_StillTrue = con_F_law18_StillTrue.F := by
  funext x
  kernel_rfl
theorem ok_F_law18_StillTrue : ConOK Try.prog con_F_law18_StillTrue :=
  con_of_run (Γ := ⟨tdGet tys, [con_F_law18_anchor, con_F_ref13_Wrong, con_F_span_Span_Has, con_F_still_Still_Next]⟩) ⟨fun T d h => tysB_ok tys tys_ok T d h, by simp [ok_F_law18_anchor, ok_F_ref13_Wrong, ok_F_span_Span_Has, ok_F_still_Still_Next]⟩ (by kernel_rfl) Try.func5 rfl (by kernel_rfl) run_F_law18_StillTrue
/-- odograph/span.At -/
noncomputable def F_span_At (x_1 : Int) : Option (Int × Int) :=
  let w_2 : (Int × Int) := (x_1, x_1)
  some w_2
noncomputable def con_F_span_At : Con := { f := 32, ps := [.dat (.int .i64)], boxes := [], ins := (.int .i64), nin := 1, outs := (.agg (.pair (.int .i64) (.int .i64))), rs := [.dat (.agg (.pair (.int .i64) (.int .i64)))], nout := 1, F := fun x => F_span_At x }
def hint_F_span_At : Hint := H0
theorem run_F_span_At : runE ⟨tdGet tys, []⟩ con_F_span_At Try.f32 hint_F_span_At = con_F_span_At.F := by
  funext x
  kernel_rfl
theorem ok_F_span_At : ConOK Try.prog con_F_span_At :=
  con_of_run (Γ := ⟨tdGet tys, []⟩) ⟨fun T d h => tysB_ok tys tys_ok T d h, by simp []⟩ (by kernel_rfl) Try.func32 rfl (by kernel_rfl) run_F_span_At
/-- (odograph/span.Span).Hull -/
noncomputable def F_span_Span_Hull (s_1 : (Int × Int)) (t_2 : (Int × Int)) : Option (Int × Int) :=
  (F_span_Span_Right s_1).bind fun t7_3 =>
  (bif (!t7_3) then
    some t_2
  else
    (F_span_Span_Right t_2).bind fun t12_4 =>
    (bif (!t12_4) then
      some s_1
    else
      let t19_5 : Int := (if t_2.1 < s_1.1 then t_2.1 else s_1.1)
      let t24_6 : Int := (if t_2.2 > s_1.2 then t_2.2 else s_1.2)
      let w_7 : (Int × Int) := (t19_5, t24_6)
      some w_7))
noncomputable def con_F_span_Span_Hull : Con := { f := 64, ps := [.dat (.agg (.pair (.int .i64) (.int .i64))), .dat (.agg (.pair (.int .i64) (.int .i64)))], boxes := [], ins := (.pair (.agg (.pair (.int .i64) (.int .i64))) (.agg (.pair (.int .i64) (.int .i64)))), nin := 2, outs := (.agg (.pair (.int .i64) (.int .i64))), rs := [.dat (.agg (.pair (.int .i64) (.int .i64)))], nout := 1, F := fun x => F_span_Span_Hull x.1 x.2 }
def hint_F_span_Span_Hull : Hint := H0
theorem run_F_span_Span_Hull : runE ⟨tdGet tys, [con_F_span_Span_Right]⟩ con_F_span_Span_Hull Try.f64 hint_F_span_Span_Hull = con_F_span_Span_Hull.F := by
  funext x
  kernel_rfl
theorem ok_F_span_Span_Hull : ConOK Try.prog con_F_span_Span_Hull :=
  con_of_run (Γ := ⟨tdGet tys, [con_F_span_Span_Right]⟩) ⟨fun T d h => tysB_ok tys tys_ok T d h, by simp [ok_F_span_Span_Right]⟩ (by kernel_rfl) Try.func64 rfl (by kernel_rfl) run_F_span_Span_Hull
/-- odograph/grade.Bounds -/
noncomputable def F_grade_Bounds (l_1 : (List (Int × Int))) (s_2 : (Int × Int)) : Option ((Int × Int) × Bool) :=
  Option.bind (
    loopO (X := (Int × (Int × Bool))) (fun (s_3 : (Int × (Int × (Int × Bool)))) =>
      let b2_4 : Int := s_3.1
      let t14_5 : Int := s_3.2.1
      let b2_6 : Int := s_3.2.2.1
      let found_7 : Bool := s_3.2.2.2
      let t15_8 : Bool := (decide (t14_5 < (l_1.length : Int)))
      (bif t15_8 then
        Option.bind (
          chk none ((decide ((0 : Int) ≤ t14_5)) && (decide (t14_5 < (l_1.length : Int)))) <|
          let t18_9 : (Int × Int) := (l_1.getD t14_5.toNat ((0 : Int), (0 : Int)))
          let t20_10 : Bool := (decide ((0 : Int) < t14_5))
          let t26_11 : Bool := (decide (s_2.2 < t18_9.1))
          let t27_12 : Bool := (bif t20_10 then t26_11 else false)
          let t29_13 : Int := (IntKind.wrap .i64 (t14_5 + (1 : Int)))
          let t32_14 : Bool := (decide (t29_13 < (l_1.length : Int)))
          let t36_15 : Int := (IntKind.wrap .i64 (t14_5 + (1 : Int)))
          chk none (((decide ((0 : Int) ≤ t36_15)) && (decide (t36_15 < (l_1.length : Int)))) || !t32_14) <|
          let e_16 : (Int × Int) := (l_1.getD t36_15.toNat ((0 : Int), (0 : Int)))
          let t42_17 : Bool := (decide (e_16.1 < s_2.1))
          let t43_18 : Bool := (bif t32_14 then t42_17 else false)
          let t47_19 : Bool := (bif t27_12 then true else t43_18)
          (bif !t47_19 then F_span_Span_Right s_2 else some false).bind fun t50_20 =>
          let t52_21 : Bool := (bif t47_19 then true else (!t50_20))
          (bif t52_21 then
            some (b2_4, b2_6, found_7)
          else
            Option.bind (
              (bif (!found_7) then
                (F_span_At t18_9.2).bind fun t57_22 =>
                some (true, t57_22.2, t57_22.1)
              else
                some (found_7, b2_4, b2_6))) fun r_23 =>
            let found_24 : Bool := r_23.1
            let b2_25 : Int := r_23.2.1
            let b2_26 : Int := r_23.2.2
            (F_span_At t18_9.2).bind fun t61_27 =>
            (F_span_Span_Hull (b2_26, b2_25) t61_27).bind fun t62_28 =>
            some (t62_28.2, t62_28.1, found_24))) fun r_29 =>
        let b2_30 : Int := r_29.1
        let b2_31 : Int := r_29.2.1
        let found_32 : Bool := r_29.2.2
        let t63_33 : Int := (IntKind.wrap .i64 (t14_5 + (1 : Int)))
        some (.inl (b2_30, t63_33, b2_31, found_32))
      else
        some (.inr (b2_4, b2_6, found_7)))) ((0 : Int), (0 : Int), (0 : Int), false)) fun r_34 =>
  let b2_35 : Int := r_34.1
  let b2_36 : Int := r_34.2.1
  let found_37 : Bool := r_34.2.2
  let w_38 : (Int × Int) := (b2_36, b2_35)
  some (w_38, found_37)
noncomputable def con_F_grade_Bounds : Con := { f := 28, ps := [.dat (.slice (.agg (.pair (.int .i64) (.int .i64)))), .dat (.agg (.pair (.int .i64) (.int .i64)))], boxes := [], ins := (.pair (.slice (.agg (.pair (.int .i64) (.int .i64)))) (.agg (.pair (.int .i64) (.int .i64)))), nin := 2, outs := (.pair (.agg (.pair (.int .i64) (.int .i64))) .bool), rs := [.dat (.agg (.pair (.int .i64) (.int .i64))), .dat .bool], nout := 2, F := fun x => F_grade_Bounds x.1 x.2 }
def hint_F_grade_Bounds : Hint := (.mk .plain [H0, (.mk .plain [H0, (.mk .plain [H0, (.mk .plain [(.mk .plain [H0, (.mk .plain [(.mk (.loop [⟨.cell 2 1, (.int .i64), none⟩, ⟨.slot 14, (.int .i64), none⟩, ⟨.cell 2 0, (.int .i64), none⟩, ⟨.slot 7, .bool, none⟩] [(0, 30), (0, 36), (0, 42), (0, 39), (0, 45), (0, 48), (0, 54), (0, 51), (0, 57), (0, 60), (0, 63), (0, 8), (0, 11), (0, 17), (0, 23), (0, 20), (0, 26), (0, 29), (0, 35), (0, 32), (0, 38), (0, 41), (0, 47), (0, 44), (0, 50), (0, 53), (0, 59), (0, 56), (0, 62), (0, 10), (0, 16), (0, 19), (0, 22), (0, 28), (0, 25), (0, 31), (0, 34), (0, 40), (0, 37), (0, 43), (0, 46), (0, 52), (0, 49), (0, 55), (0, 61), (0, 58), (0, 9), (0, 15), (0, 21), (0, 18), (0, 24), (0, 27), (0, 33)] [(.exit 0, [⟨.cell 2 1, (.int .i64), none⟩, ⟨.cell 2 0, (.int .i64), none⟩, ⟨.slot 7, .bool, none⟩])]) [(.mk .plain [H0, (.mk .plain [H0, (.mk .plain [(.mk (.join [(0, 30), (0, 36), (0, 42), (0, 39), (0, 45), (0, 48), (0, 51), (0, 8), (0, 11), (0, 17), (0, 23), (0, 20), (0, 26), (0, 29), (0, 35), (0, 32), (0, 38), (0, 41), (0, 47), (0, 44), (0, 50), (0, 10), (0, 16), (0, 19), (0, 22), (0, 28), (0, 25), (0, 31), (0, 34), (0, 40), (0, 37), (0, 43), (0, 46), (0, 52), (0, 49), (0, 9), (0, 21), (0, 18), (0, 24), (0, 27), (0, 33), (0, 54), (0, 57), (0, 60), (0, 53), (0, 59), (0, 56), (0, 62), (0, 55), (0, 61), (0, 58)] [(.normal, [⟨.cell 2 1, (.int .i64), none⟩, ⟨.cell 2 0, (.int .i64), none⟩, ⟨.slot 7, .bool, none⟩])]) [(.mk .plain [H0, (.mk .plain [H0, (.mk .plain [H0, (.mk .plain [H0, (.mk .plain [(.mk .plain [H0, (.mk (.join [(0, 57), (0, 55), (0, 56)] [(.normal, [⟨.slot 7, .bool, none⟩, ⟨.cell 2 1, (.int .i64), none⟩, ⟨.cell 2 0, (.int .i64), none⟩])]) [])])])])])])])])])])])])])])])])])])
theorem run_F_grade_Bounds : runE ⟨tdGet tys, [con_F_span_Span_Right, con_F_span_At, con_F_span_Span_Hull]⟩ con_F_grade_Bounds Try.f28 hint_F_grade_Bounds = con_F_grade_Bounds.F := by
  funext x
  kernel_rfl
theorem ok_F_grade_Bounds : ConOK Try.prog con_F_grade_Bounds :=
  con_of_run (Γ := ⟨tdGet tys, [con_F_span_Span_Right, con_F_span_At, con_F_span_Span_Hull]⟩) ⟨fun T d h => tysB_ok tys tys_ok T d h, by simp [ok_F_span_Span_Right, ok_F_span_At, ok_F_span_Span_Hull]⟩ (by kernel_rfl) Try.func28 rfl (by kernel_rfl) run_F_grade_Bounds
/-- odograph/grade.Check -/
noncomputable def F_grade_Check (l_1 : (List (Int × Int))) (length_2 : Int) : Option Int :=
  let t9_3 : Bool := ((l_1.length : Int) == (0 : Int))
  let t13_4 : Bool := (decide ((64 : Int) < (l_1.length : Int)))
  let t14_5 : Bool := (bif t9_3 then true else t13_4)
  chk none ((true && (decide ((0 : Int) < (l_1.length : Int)))) || !(!t14_5)) <|
  let e_6 : (Int × Int) := (l_1.getD (0 : Int).toNat ((0 : Int), (0 : Int)))
  let t21_7 : Bool := (bif t14_5 then true else (e_6.1 != (0 : Int)))
  (bif t21_7 then
    some (11 : Int)
  else
    Option.bind (α := Int ⊕ Unit) (
      loopO (X := Int ⊕ Unit) (fun (s_8 : Int) =>
        let t25_9 : Bool := (decide (s_8 < (l_1.length : Int)))
        (bif t25_9 then
          chk none ((decide ((0 : Int) ≤ s_8)) && (decide (s_8 < (l_1.length : Int)))) <|
          let t28_10 : (Int × Int) := (l_1.getD s_8.toNat ((0 : Int), (0 : Int)))
          let t31_11 : Bool := (decide (t28_10.2 < (-1048576 : Int)))
          let t35_12 : Bool := (decide ((1048576 : Int) < t28_10.2))
          let t36_13 : Bool := (bif t31_11 then true else t35_12)
          let t41_14 : Bool := (decide (length_2 ≤ t28_10.1))
          let t42_15 : Bool := (bif t36_13 then true else t41_14)
          let t45_16 : Bool := (decide ((0 : Int) < s_8))
          let t51_17 : Int := (IntKind.wrap .i64 (s_8 - (1 : Int)))
          chk none (((decide ((0 : Int) ≤ t51_17)) && (decide (t51_17 < (l_1.length : Int)))) || !(t45_16 && !t42_15)) <|
          let e_18 : (Int × Int) := (l_1.getD t51_17.toNat ((0 : Int), (0 : Int)))
          let t55_19 : Bool := (decide (t28_10.1 ≤ e_18.1))
          let t56_20 : Bool := (bif t45_16 then t55_19 else false)
          let t57_21 : Bool := (bif t42_15 then true else t56_20)
          (bif t57_21 then
            some (.inr (.inl (11 : Int)))
          else
            let t58_22 : Int := (IntKind.wrap .i64 (s_8 + (1 : Int)))
            some (.inl t58_22))
        else
          some (.inr (.inr ())))) (0 : Int)) fun z => match z with
    | .inl r_23 =>
      some r_23
    | .inr _ =>
      some (0 : Int))
noncomputable def con_F_grade_Check : Con := { f := 25, ps := [.dat (.slice (.agg (.pair (.int .i64) (.int .i64)))), .dat (.int .i64)], boxes := [], ins := (.pair (.slice (.agg (.pair (.int .i64) (.int .i64)))) (.int .i64)), nin := 2, outs := (.int .i64), rs := [.dat (.int .i64)], nout := 1, F := fun x => F_grade_Check x.1 x.2 }
def hint_F_grade_Check : Hint := (.mk .plain [H0, (.mk .plain [H0, (.mk .plain [(.mk .plain [H0, (.mk .plain [(.mk (.loop [⟨.slot 24, (.int .i64), none⟩] [(0, 30), (0, 36), (0, 42), (0, 39), (0, 45), (0, 48), (0, 54), (0, 51), (0, 57), (0, 5), (0, 26), (0, 29), (0, 35), (0, 32), (0, 38), (0, 41), (0, 47), (0, 44), (0, 50), (0, 53), (0, 56), (0, 4), (0, 28), (0, 25), (0, 31), (0, 34), (0, 40), (0, 37), (0, 43), (0, 46), (0, 52), (0, 49), (0, 55), (0, 6), (0, 27), (0, 33), (0, 58)] [(.ret, [⟨.slot 4, (.int .i64), none⟩]), (.exit 0, [])]) [])])])])])])
theorem run_F_grade_Check : runE ⟨tdGet tys, []⟩ con_F_grade_Check Try.f25 hint_F_grade_Check = con_F_grade_Check.F := by
  funext x
  kernel_rfl
theorem ok_F_grade_Check : ConOK Try.prog con_F_grade_Check :=
  con_of_run (Γ := ⟨tdGet tys, []⟩) ⟨fun T d h => tysB_ok tys tys_ok T d h, by simp []⟩ (by kernel_rfl) Try.func25 rfl (by kernel_rfl) run_F_grade_Check
/-- odograph/grade.At$1 -/
noncomputable def F_grade_At_1 (p_1 : (Int × Int)) (at_2 : Int) : Option Int :=
  (bif (decide (p_1.1 ≤ at_2)) then
    some (-1 : Int)
  else
    some (1 : Int))
noncomputable def con_F_grade_At_1 : Con := { f := 67, ps := [.dat (.agg (.pair (.int .i64) (.int .i64))), .dat (.int .i64)], boxes := [], ins := (.pair (.agg (.pair (.int .i64) (.int .i64))) (.int .i64)), nin := 2, outs := (.int .i64), rs := [.dat (.int .i64)], nout := 1, F := fun x => F_grade_At_1 x.1 x.2 }
def hint_F_grade_At_1 : Hint := H0
theorem run_F_grade_At_1 : runE ⟨tdGet tys, []⟩ con_F_grade_At_1 Try.f67 hint_F_grade_At_1 = con_F_grade_At_1.F := by
  funext x
  kernel_rfl
theorem ok_F_grade_At_1 : ConOK Try.prog con_F_grade_At_1 :=
  con_of_run (Γ := ⟨tdGet tys, []⟩) ⟨fun T d h => tysB_ok tys tys_ok T d h, by simp []⟩ (by kernel_rfl) Try.func67 rfl (by kernel_rfl) run_F_grade_At_1
/-- slices.BinarySearchFunc[[]odograph/grade.Piece,odograph/grade.Piece,int64] -/
noncomputable def F_slices_BinarySearchFunc_grade_Piece_grade_Piece_int64 (x_1 : (List (Int × Int))) (target_2 : Int) : Option (Int × Bool) :=
  Option.bind (
    loopO (X := Int) (fun (s_3 : (Int × Int)) =>
      let j_4 : Int := s_3.1
      let i_5 : Int := s_3.2
      (bif (decide (i_5 < j_4)) then
        let t20_6 : Int := (IntKind.wrap .i64 (i_5 + j_4))
        let t21_7 : Int := (IntKind.wrap .u64 t20_6)
        let t23_8 : Int := (IntKind.wrap .i64 (t21_7.fdiv (2 ^ 1)))
        chk none ((decide ((0 : Int) ≤ t23_8)) && (decide (t23_8 < (x_1.length : Int)))) <|
        let t28_9 : (Int × Int) := (x_1.getD t23_8.toNat ((0 : Int), (0 : Int)))
        (F_grade_At_1 t28_9 target_2).bind fun t30_10 =>
        let t31_11 : Bool := (decide (t30_10 < (0 : Int)))
        Option.bind (
          (bif t31_11 then
            let t33_12 : Int := (IntKind.wrap .i64 (t23_8 + (1 : Int)))
            some (t33_12, j_4)
          else
            some (i_5, t23_8))) fun r_13 =>
        let i_14 : Int := r_13.1
        let j_15 : Int := r_13.2
        some (.inl (j_15, i_14))
      else
        some (.inr i_5))) ((x_1.length : Int), (0 : Int))) fun r_16 =>
  let t38_17 : Bool := (decide (r_16 < (x_1.length : Int)))
  chk none (((decide ((0 : Int) ≤ r_16)) && (decide (r_16 < (x_1.length : Int)))) || !t38_17) <|
  let t44_18 : (Int × Int) := (x_1.getD r_16.toNat ((0 : Int), (0 : Int)))
  (bif t38_17 then F_grade_At_1 t44_18 target_2 else some (0 : Int)).bind fun t46_19 =>
  let t48_20 : Bool := (bif t38_17 then (t46_19 == (0 : Int)) else false)
  some (r_16, t48_20)
noncomputable def con_F_slices_BinarySearchFunc_grade_Piece_grade_Piece_int64 : Con := { f := 66, ps := [.dat (.slice (.agg (.pair (.int .i64) (.int .i64)))), .dat (.int .i64), .clo 67 [] []], boxes := [], ins := (.pair (.slice (.agg (.pair (.int .i64) (.int .i64)))) (.int .i64)), nin := 2, outs := (.pair (.int .i64) .bool), rs := [.dat (.int .i64), .dat .bool], nout := 2, F := fun x => F_slices_BinarySearchFunc_grade_Piece_grade_Piece_int64 x.1 x.2 }
def hint_F_slices_BinarySearchFunc_grade_Piece_grade_Piece_int64 : Hint := (.mk .plain [H0, (.mk .plain [H0, (.mk .plain [H0, (.mk .plain [(.mk .plain [(.mk (.loop [⟨.slot 10, (.int .i64), none⟩, ⟨.slot 9, (.int .i64), none⟩] [(0, 30), (0, 16), (0, 19), (0, 22), (0, 28), (0, 25), (0, 31), (0, 34), (0, 11), (0, 17), (0, 23), (0, 20), (0, 26), (0, 29), (0, 32), (0, 15), (0, 21), (0, 18), (0, 24), (0, 27), (0, 33)] [(.exit 0, [⟨.slot 9, (.int .i64), none⟩])]) [(.mk .plain [H0, (.mk .plain [(.mk .plain [H0, (.mk .plain [H0, (.mk (.join [(0, 32), (0, 33), (0, 34)] [(.normal, [⟨.slot 9, (.int .i64), none⟩, ⟨.slot 10, (.int .i64), none⟩])]) [])])])])])])])])])])])
theorem run_F_slices_BinarySearchFunc_grade_Piece_grade_Piece_int64 : runE ⟨tdGet tys, [con_F_grade_At_1]⟩ con_F_slices_BinarySearchFunc_grade_Piece_grade_Piece_int64 Try.f66 hint_F_slices_BinarySearchFunc_grade_Piece_grade_Piece_int64 = con_F_slices_BinarySearchFunc_grade_Piece_grade_Piece_int64.F := by
  funext x
  kernel_rfl
theorem ok_F_slices_BinarySearchFunc_grade_Piece_grade_Piece_int64 : ConOK Try.prog con_F_slices_BinarySearchFunc_grade_Piece_grade_Piece_int64 :=
  con_of_run (Γ := ⟨tdGet tys, [con_F_grade_At_1]⟩) ⟨fun T d h => tysB_ok tys tys_ok T d h, by simp [ok_F_grade_At_1]⟩ (by kernel_rfl) Try.func66 rfl (by kernel_rfl) run_F_slices_BinarySearchFunc_grade_Piece_grade_Piece_int64
/-- odograph/grade.At -/
noncomputable def F_grade_At (l_1 : (List (Int × Int))) (at_2 : Int) : Option Int :=
  (F_slices_BinarySearchFunc_grade_Piece_grade_Piece_int64 l_1 at_2).bind fun t10_3 =>
  let t15_4 : Int := (IntKind.wrap .i64 (t10_3.1 - (1 : Int)))
  let t16_5 : Int := (if (0 : Int) > t15_4 then (0 : Int) else t15_4)
  chk none ((decide ((0 : Int) ≤ t16_5)) && (decide (t16_5 < (l_1.length : Int)))) <|
  let e_6 : (Int × Int) := (l_1.getD t16_5.toNat ((0 : Int), (0 : Int)))
  some e_6.2
noncomputable def con_F_grade_At : Con := { f := 30, ps := [.dat (.slice (.agg (.pair (.int .i64) (.int .i64)))), .dat (.int .i64)], boxes := [], ins := (.pair (.slice (.agg (.pair (.int .i64) (.int .i64)))) (.int .i64)), nin := 2, outs := (.int .i64), rs := [.dat (.int .i64)], nout := 1, F := fun x => F_grade_At x.1 x.2 }
def hint_F_grade_At : Hint := H0
theorem run_F_grade_At : runE ⟨tdGet tys, [con_F_slices_BinarySearchFunc_grade_Piece_grade_Piece_int64]⟩ con_F_grade_At Try.f30 hint_F_grade_At = con_F_grade_At.F := by
  funext x
  kernel_rfl
theorem ok_F_grade_At : ConOK Try.prog con_F_grade_At :=
  con_of_run (Γ := ⟨tdGet tys, [con_F_slices_BinarySearchFunc_grade_Piece_grade_Piece_int64]⟩) ⟨fun T d h => tysB_ok tys tys_ok T d h, by simp [ok_F_slices_BinarySearchFunc_grade_Piece_grade_Piece_int64]⟩ (by kernel_rfl) Try.func30 rfl (by kernel_rfl) run_F_grade_At
/-- odograph/odographlaw10.anchor -/
noncomputable def F_law10_anchor (_ : Unit) : Option Bool :=
  let t6_1 : (List (Int × Int)) := ([((0 : Int), (5 : Int)), ((10 : Int), (-3 : Int))] : List (Int × Int))
  (F_grade_Bounds t6_1 ((10 : Int), (12 : Int))).bind fun t10_2 =>
  (F_grade_Check t6_1 (11 : Int)).bind fun t14_3 =>
  (bif (t14_3 == (0 : Int)) then F_grade_At t6_1 (10 : Int) else some (0 : Int)).bind fun t18_4 =>
  let t20_5 : Bool := (bif (t14_3 == (0 : Int)) then (t18_4 == (-3 : Int)) else false)
  let t23_6 : Bool := (bif t20_5 then t10_2.2 else false)
  let t27_7 : Bool := (eqT (.agg (.pair (.int .i64) (.int .i64))) t10_2.1 ((-3 : Int), (5 : Int)))
  let t28_8 : Bool := (bif t23_6 then t27_7 else false)
  some t28_8
noncomputable def con_F_law10_anchor : Con := { f := 24, ps := [], boxes := [], ins := .unit, nin := 0, outs := .bool, rs := [.dat .bool], nout := 1, F := fun x => F_law10_anchor () }
def hint_F_law10_anchor : Hint := H0
theorem run_F_law10_anchor : runE ⟨tdGet tys, [con_F_grade_Bounds, con_F_grade_Check, con_F_grade_At]⟩ con_F_law10_anchor Try.f24 hint_F_law10_anchor = con_F_law10_anchor.F := by
  funext x
  kernel_rfl
theorem ok_F_law10_anchor : ConOK Try.prog con_F_law10_anchor :=
  con_of_run (Γ := ⟨tdGet tys, [con_F_grade_Bounds, con_F_grade_Check, con_F_grade_At]⟩) ⟨fun T d h => tysB_ok tys tys_ok T d h, by simp [ok_F_grade_Bounds, ok_F_grade_Check, ok_F_grade_At]⟩ (by kernel_rfl) Try.func24 rfl (by kernel_rfl) run_F_law10_anchor
/-- odograph/odographlaw10.refs -/
noncomputable def F_law10_refs (l_1 : (List (Int × Int))) : Option (List (Int × Int)) :=
  Option.bind (
    loopO (X := (List (Int × Int))) (fun (s_2 : (Int × (List (Int × Int)))) =>
      let t8_3 : Int := s_2.1
      let out_4 : (List (Int × Int)) := s_2.2
      let t9_5 : Bool := (decide (t8_3 < (l_1.length : Int)))
      (bif t9_5 then
        chk none ((decide ((0 : Int) ≤ t8_3)) && (decide (t8_3 < (l_1.length : Int)))) <|
        let t11_6 : (Int × Int) := (l_1.getD t8_3.toNat ((0 : Int), (0 : Int)))
        let t18_7 : (List (Int × Int)) := ([t11_6] : List (Int × Int))
        chk none (decide ((out_4.length + t18_7.length) * 16 ≤ 140737488355328)) <|
        let t19_8 : (List (Int × Int)) := (out_4 ++ t18_7)
        let t20_9 : Int := (IntKind.wrap .i64 (t8_3 + (1 : Int)))
        some (.inl (t20_9, t19_8))
      else
        some (.inr out_4))) ((0 : Int), [])) fun r_10 =>
  some r_10
noncomputable def con_F_law10_refs : Con := { f := 27, ps := [.dat (.slice (.agg (.pair (.int .i64) (.int .i64))))], boxes := [], ins := (.slice (.agg (.pair (.int .i64) (.int .i64)))), nin := 1, outs := (.slice (.agg (.pair (.int .i64) (.int .i64)))), rs := [.dat (.slice (.agg (.pair (.int .i64) (.int .i64))))], nout := 1, F := fun x => F_law10_refs x }
def hint_F_law10_refs : Hint := (.mk .plain [H0, (.mk .plain [H0, (.mk .plain [(.mk .plain [H0, (.mk .plain [(.mk (.loop [⟨.slot 8, (.int .i64), none⟩, ⟨.slot 3, (.slice (.agg (.pair (.int .i64) (.int .i64)))), some 1900116⟩] [(0, 10), (0, 16), (0, 13), (0, 19), (0, 5), (0, 14), (0, 11), (0, 17), (0, 20), (0, 9), (0, 12), (0, 15), (0, 18)] [(.exit 0, [⟨.slot 3, (.slice (.agg (.pair (.int .i64) (.int .i64)))), some 1900116⟩])]) [])])])])])])
theorem run_F_law10_refs : runE ⟨tdGet tys, []⟩ con_F_law10_refs Try.f27 hint_F_law10_refs = con_F_law10_refs.F := by
  funext x
  kernel_rfl
theorem ok_F_law10_refs : ConOK Try.prog con_F_law10_refs :=
  con_of_run (Γ := ⟨tdGet tys, []⟩) ⟨fun T d h => tysB_ok tys tys_ok T d h, by simp []⟩ (by kernel_rfl) Try.func27 rfl (by kernel_rfl) run_F_law10_refs
/-- odograph/odographref10.May -/
noncomputable def F_ref10_May (l_1 : (List (Int × Int))) (length_2 : Int) : Option Bool :=
  let t8_3 : Bool := (decide ((l_1.length : Int) < (1 : Int)))
  let t12_4 : Bool := (decide ((64 : Int) < (l_1.length : Int)))
  let t13_5 : Bool := (bif t8_3 then true else t12_4)
  chk none ((true && (decide ((0 : Int) < (l_1.length : Int)))) || !(!t13_5)) <|
  let e_6 : (Int × Int) := (l_1.getD (0 : Int).toNat ((0 : Int), (0 : Int)))
  let t20_7 : Bool := (bif t13_5 then true else (e_6.1 != (0 : Int)))
  (bif t20_7 then
    some false
  else
    Option.bind (α := Bool ⊕ Unit) (
      loopO (X := Bool ⊕ Unit) (fun (s_8 : Int) =>
        let t24_9 : Bool := (decide (s_8 < (l_1.length : Int)))
        (bif t24_9 then
          chk none ((decide ((0 : Int) ≤ s_8)) && (decide (s_8 < (l_1.length : Int)))) <|
          let e_10 : (Int × Int) := (l_1.getD s_8.toNat ((0 : Int), (0 : Int)))
          let t32_11 : Bool := (decide (e_10.2 < (-1048576 : Int)))
          chk none (((decide ((0 : Int) ≤ s_8)) && (decide (s_8 < (l_1.length : Int)))) || !(!t32_11)) <|
          let e_12 : (Int × Int) := (l_1.getD s_8.toNat ((0 : Int), (0 : Int)))
          let t39_13 : Bool := (decide ((1048576 : Int) < e_12.2))
          let t40_14 : Bool := (bif t32_11 then true else t39_13)
          chk none (((decide ((0 : Int) ≤ s_8)) && (decide (s_8 < (l_1.length : Int)))) || !(!t40_14)) <|
          let e_15 : (Int × Int) := (l_1.getD s_8.toNat ((0 : Int), (0 : Int)))
          let t48_16 : Bool := (decide (length_2 ≤ e_15.1))
          let t49_17 : Bool := (bif t40_14 then true else t48_16)
          (bif t49_17 then
            some (.inr (.inl false))
          else
            let t51_18 : Bool := (decide ((0 : Int) < s_8))
            chk none (((decide ((0 : Int) ≤ s_8)) && (decide (s_8 < (l_1.length : Int)))) || !t51_18) <|
            let e_19 : (Int × Int) := (l_1.getD s_8.toNat ((0 : Int), (0 : Int)))
            let t60_20 : Int := (IntKind.wrap .i64 (s_8 - (1 : Int)))
            chk none (((decide ((0 : Int) ≤ t60_20)) && (decide (t60_20 < (l_1.length : Int)))) || !t51_18) <|
            let e_21 : (Int × Int) := (l_1.getD t60_20.toNat ((0 : Int), (0 : Int)))
            let t64_22 : Bool := (decide (e_19.1 ≤ e_21.1))
            let t65_23 : Bool := (bif t51_18 then t64_22 else false)
            (bif t65_23 then
              some (.inr (.inl false))
            else
              let t26_24 : Int := (IntKind.wrap .i64 (s_8 + (1 : Int)))
              some (.inl t26_24)))
        else
          some (.inr (.inr ())))) (0 : Int)) fun z => match z with
    | .inl r_25 =>
      some r_25
    | .inr _ =>
      some true)
noncomputable def con_F_ref10_May : Con := { f := 26, ps := [.dat (.slice (.agg (.pair (.int .i64) (.int .i64)))), .dat (.int .i64)], boxes := [], ins := (.pair (.slice (.agg (.pair (.int .i64) (.int .i64)))) (.int .i64)), nin := 2, outs := .bool, rs := [.dat .bool], nout := 1, F := fun x => F_ref10_May x.1 x.2 }
def hint_F_ref10_May : Hint := (.mk .plain [H0, (.mk .plain [H0, (.mk .plain [(.mk .plain [H0, (.mk .plain [(.mk (.loop [⟨.slot 5, (.int .i64), none⟩] [(0, 30), (0, 36), (0, 42), (0, 4), (0, 39), (0, 45), (0, 48), (0, 22), (0, 28), (0, 31), (0, 34), (0, 40), (0, 37), (0, 43), (0, 46), (0, 23), (0, 49), (0, 29), (0, 35), (0, 32), (0, 38), (0, 41), (0, 47), (0, 44), (0, 21), (0, 24), (0, 27), (0, 33), (0, 54), (0, 51), (0, 57), (0, 60), (0, 63), (0, 26), (0, 50), (0, 53), (0, 59), (0, 56), (0, 62), (0, 65), (0, 25), (0, 52), (0, 55), (0, 61), (0, 58), (0, 64)] [(.ret, [⟨.slot 4, .bool, none⟩]), (.exit 0, [])]) [])])])])])])
theorem run_F_ref10_May : runE ⟨tdGet tys, []⟩ con_F_ref10_May Try.f26 hint_F_ref10_May = con_F_ref10_May.F := by
  funext x
  kernel_rfl
theorem ok_F_ref10_May : ConOK Try.prog con_F_ref10_May :=
  con_of_run (Γ := ⟨tdGet tys, []⟩) ⟨fun T d h => tysB_ok tys tys_ok T d h, by simp []⟩ (by kernel_rfl) Try.func26 rfl (by kernel_rfl) run_F_ref10_May
/-- odograph/odographlaw10.GradeChecks -/
noncomputable def F_law10_GradeChecks (l_1 : (List (Int × Int))) (length_2 : Int) : Option Bool :=
  (F_law10_anchor ()).bind fun t6_3 =>
  (bif (!t6_3) then
    some false
  else
    let t10_4 : Bool := (decide ((200 : Int) < (l_1.length : Int)))
    (bif t10_4 then
      some true
    else
      (F_grade_Check l_1 length_2).bind fun t13_5 =>
      (F_law10_refs l_1).bind fun t15_6 =>
      (F_ref10_May t15_6 length_2).bind fun t17_7 =>
      (bif t17_7 then
        some (t13_5 == (0 : Int))
      else
        some (t13_5 == (11 : Int)))))
noncomputable def con_F_law10_GradeChecks : Con := { f := 6, ps := [.dat (.slice (.agg (.pair (.int .i64) (.int .i64)))), .dat (.int .i64)], boxes := [], ins := (.pair (.slice (.agg (.pair (.int .i64) (.int .i64)))) (.int .i64)), nin := 2, outs := .bool, rs := [.dat .bool], nout := 1, F := fun x => F_law10_GradeChecks x.1 x.2 }
def hint_F_law10_GradeChecks : Hint := H0
theorem run_F_law10_GradeChecks : runE ⟨tdGet tys, [con_F_law10_anchor, con_F_grade_Check, con_F_law10_refs, con_F_ref10_May]⟩ con_F_law10_GradeChecks Try.f6 hint_F_law10_GradeChecks = con_F_law10_GradeChecks.F := by
  funext x
  kernel_rfl
theorem ok_F_law10_GradeChecks : ConOK Try.prog con_F_law10_GradeChecks :=
  con_of_run (Γ := ⟨tdGet tys, [con_F_law10_anchor, con_F_grade_Check, con_F_law10_refs, con_F_ref10_May]⟩) ⟨fun T d h => tysB_ok tys tys_ok T d h, by simp [ok_F_law10_anchor, ok_F_grade_Check, ok_F_law10_refs, ok_F_ref10_May]⟩ (by kernel_rfl) Try.func6 rfl (by kernel_rfl) run_F_law10_GradeChecks
/-- odograph/odographref10.Reaches -/
noncomputable def F_ref10_Reaches (l_1 : (List (Int × Int))) (i_2 : Int) (lo_3 : Int) (hi_4 : Int) : Option Bool :=
  let t10_5 : Bool := (decide ((0 : Int) < i_2))
  chk none (((decide ((0 : Int) ≤ i_2)) && (decide (i_2 < (l_1.length : Int)))) || !t10_5) <|
  let e_6 : (Int × Int) := (l_1.getD i_2.toNat ((0 : Int), (0 : Int)))
  let t19_7 : Bool := (bif t10_5 then (decide (hi_4 < e_6.1)) else false)
  (bif t19_7 then
    some false
  else
    let t21_8 : Int := (IntKind.wrap .i64 (i_2 + (1 : Int)))
    let t24_9 : Bool := (decide ((l_1.length : Int) ≤ t21_8))
    let t28_10 : Int := (IntKind.wrap .i64 (i_2 + (1 : Int)))
    chk none (((decide ((0 : Int) ≤ t28_10)) && (decide (t28_10 < (l_1.length : Int)))) || !(!t24_9)) <|
    let e_11 : (Int × Int) := (l_1.getD t28_10.toNat ((0 : Int), (0 : Int)))
    let t34_12 : Bool := (bif t24_9 then true else (decide (lo_3 ≤ e_11.1)))
    some t34_12)
noncomputable def con_F_ref10_Reaches : Con := { f := 65, ps := [.dat (.slice (.agg (.pair (.int .i64) (.int .i64)))), .dat (.int .i64), .dat (.int .i64), .dat (.int .i64)], boxes := [], ins := (.pair (.slice (.agg (.pair (.int .i64) (.int .i64)))) (.pair (.int .i64) (.pair (.int .i64) (.int .i64)))), nin := 4, outs := .bool, rs := [.dat .bool], nout := 1, F := fun x => F_ref10_Reaches x.1 x.2.1 x.2.2.1 x.2.2.2 }
def hint_F_ref10_Reaches : Hint := H0
theorem run_F_ref10_Reaches : runE ⟨tdGet tys, []⟩ con_F_ref10_Reaches Try.f65 hint_F_ref10_Reaches = con_F_ref10_Reaches.F := by
  funext x
  kernel_rfl
theorem ok_F_ref10_Reaches : ConOK Try.prog con_F_ref10_Reaches :=
  con_of_run (Γ := ⟨tdGet tys, []⟩) ⟨fun T d h => tysB_ok tys tys_ok T d h, by simp []⟩ (by kernel_rfl) Try.func65 rfl (by kernel_rfl) run_F_ref10_Reaches
/-- odograph/odographref10.Bounds -/
noncomputable def F_ref10_Bounds (l_1 : (List (Int × Int))) (lo_2 : Int) (hi_3 : Int) : Option (Int × Int) :=
  Option.bind (
    loopO (X := (Int × Int)) (fun (s_4 : (Int × (Int × Int))) =>
      let least_5 : Int := s_4.1
      let i_6 : Int := s_4.2.1
      let most_7 : Int := s_4.2.2
      let t14_8 : Bool := (decide (i_6 < (l_1.length : Int)))
      (bif t14_8 then
        (F_ref10_Reaches l_1 i_6 lo_2 hi_3).bind fun t21_9 =>
        Option.bind (
          (bif t21_9 then
            chk none ((decide ((0 : Int) ≤ i_6)) && (decide (i_6 < (l_1.length : Int)))) <|
            let e_10 : (Int × Int) := (l_1.getD i_6.toNat ((0 : Int), (0 : Int)))
            let t28_11 : Bool := (decide (e_10.2 < least_5))
            Option.bind (
              (bif t28_11 then
                chk none ((decide ((0 : Int) ≤ i_6)) && (decide (i_6 < (l_1.length : Int)))) <|
                let e_12 : (Int × Int) := (l_1.getD i_6.toNat ((0 : Int), (0 : Int)))
                some e_12.2
              else
                some least_5)) fun r_13 =>
            chk none ((decide ((0 : Int) ≤ i_6)) && (decide (i_6 < (l_1.length : Int)))) <|
            let e_14 : (Int × Int) := (l_1.getD i_6.toNat ((0 : Int), (0 : Int)))
            let t40_15 : Bool := (decide (most_7 < e_14.2))
            Option.bind (
              (bif t40_15 then
                chk none ((decide ((0 : Int) ≤ i_6)) && (decide (i_6 < (l_1.length : Int)))) <|
                let e_16 : (Int × Int) := (l_1.getD i_6.toNat ((0 : Int), (0 : Int)))
                some e_16.2
              else
                some most_7)) fun r_17 =>
            some (r_13, r_17)
          else
            some (least_5, most_7))) fun r_18 =>
        let least_19 : Int := r_18.1
        let most_20 : Int := r_18.2
        let t16_21 : Int := (IntKind.wrap .i64 (i_6 + (1 : Int)))
        some (.inl (least_19, t16_21, most_20))
      else
        some (.inr (least_5, most_7)))) ((1048577 : Int), (0 : Int), (-1048577 : Int))) fun r_22 =>
  let least_23 : Int := r_22.1
  let most_24 : Int := r_22.2
  some (least_23, most_24)
noncomputable def con_F_ref10_Bounds : Con := { f := 29, ps := [.dat (.slice (.agg (.pair (.int .i64) (.int .i64)))), .dat (.int .i64), .dat (.int .i64)], boxes := [], ins := (.pair (.slice (.agg (.pair (.int .i64) (.int .i64)))) (.pair (.int .i64) (.int .i64))), nin := 3, outs := (.pair (.int .i64) (.int .i64)), rs := [.dat (.int .i64), .dat (.int .i64)], nout := 2, F := fun x => F_ref10_Bounds x.1 x.2.1 x.2.2 }
def hint_F_ref10_Bounds : Hint := (.mk .plain [H0, (.mk .plain [H0, (.mk .plain [H0, (.mk .plain [(.mk .plain [H0, (.mk .plain [(.mk (.loop [⟨.slot 8, (.int .i64), none⟩, ⟨.slot 10, (.int .i64), none⟩, ⟨.slot 9, (.int .i64), none⟩] [(0, 30), (0, 36), (0, 42), (0, 39), (0, 45), (0, 14), (0, 11), (0, 17), (0, 23), (0, 20), (0, 26), (0, 29), (0, 35), (0, 32), (0, 38), (0, 41), (0, 44), (0, 16), (0, 13), (0, 19), (0, 22), (0, 28), (0, 25), (0, 31), (0, 34), (0, 40), (0, 37), (0, 43), (0, 12), (0, 15), (0, 21), (0, 18), (0, 24), (0, 27), (0, 33)] [(.exit 0, [⟨.slot 8, (.int .i64), none⟩, ⟨.slot 9, (.int .i64), none⟩])]) [(.mk .plain [H0, (.mk .plain [(.mk .plain [(.mk .plain [H0, (.mk (.join [(0, 30), (0, 36), (0, 42), (0, 39), (0, 45), (0, 22), (0, 28), (0, 25), (0, 31), (0, 34), (0, 40), (0, 37), (0, 43), (0, 23), (0, 26), (0, 29), (0, 35), (0, 32), (0, 38), (0, 41), (0, 44), (0, 24), (0, 27), (0, 33)] [(.normal, [⟨.slot 8, (.int .i64), none⟩, ⟨.slot 9, (.int .i64), none⟩])]) [(.mk .plain [(.mk .plain [H0, (.mk (.join [(0, 30), (0, 31), (0, 29), (0, 32), (0, 33)] [(.normal, [⟨.slot 8, (.int .i64), none⟩])]) [])]), (.mk .plain [H0, (.mk (.join [(0, 41), (0, 42), (0, 43), (0, 44), (0, 45)] [(.normal, [⟨.slot 9, (.int .i64), none⟩])]) [])])])])])])])])])])])])])])])
theorem run_F_ref10_Bounds : runE ⟨tdGet tys, [con_F_ref10_Reaches]⟩ con_F_ref10_Bounds Try.f29 hint_F_ref10_Bounds = con_F_ref10_Bounds.F := by
  funext x
  kernel_rfl
theorem ok_F_ref10_Bounds : ConOK Try.prog con_F_ref10_Bounds :=
  con_of_run (Γ := ⟨tdGet tys, [con_F_ref10_Reaches]⟩) ⟨fun T d h => tysB_ok tys tys_ok T d h, by simp [ok_F_ref10_Reaches]⟩ (by kernel_rfl) Try.func29 rfl (by kernel_rfl) run_F_ref10_Bounds
/-- odograph/odographlaw10.GradeBounds -/
noncomputable def F_law10_GradeBounds (l_1 : (List (Int × Int))) (s_2 : (Int × Int)) : Option Bool :=
  (F_law10_anchor ()).bind fun t9_3 =>
  (bif (!t9_3) then
    some false
  else
    let t13_4 : Bool := (decide ((200 : Int) < (l_1.length : Int)))
    (bif !t13_4 then F_law10_refs l_1 else some []).bind fun t16_5 =>
    (bif !t13_4 then F_ref10_May t16_5 (9223372036854775807 : Int) else some false).bind fun t17_6 =>
    let t19_7 : Bool := (bif t13_4 then true else (!t17_6))
    (bif t19_7 then
      some true
    else
      (F_grade_Bounds l_1 s_2).bind fun t23_8 =>
      (bif (decide (s_2.2 < s_2.1)) then
        let t36_9 : Bool := (eqT (.agg (.pair (.int .i64) (.int .i64))) t23_8.1 ((0 : Int), (0 : Int)))
        let t37_10 : Bool := (bif (!t23_8.2) then t36_9 else false)
        some t37_10
      else
        (F_law10_refs l_1).bind fun t40_11 =>
        (F_ref10_Bounds t40_11 s_2.1 s_2.2).bind fun t45_12 =>
        let t54_13 : Bool := (bif t23_8.2 then (t23_8.1.1 == t45_12.1) else false)
        let t60_14 : Bool := (bif t54_13 then (t23_8.1.2 == t45_12.2) else false)
        some t60_14)))
noncomputable def con_F_law10_GradeBounds : Con := { f := 7, ps := [.dat (.slice (.agg (.pair (.int .i64) (.int .i64)))), .dat (.agg (.pair (.int .i64) (.int .i64)))], boxes := [], ins := (.pair (.slice (.agg (.pair (.int .i64) (.int .i64)))) (.agg (.pair (.int .i64) (.int .i64)))), nin := 2, outs := .bool, rs := [.dat .bool], nout := 1, F := fun x => F_law10_GradeBounds x.1 x.2 }
def hint_F_law10_GradeBounds : Hint := H0
theorem run_F_law10_GradeBounds : runE ⟨tdGet tys, [con_F_law10_anchor, con_F_law10_refs, con_F_ref10_May, con_F_grade_Bounds, con_F_ref10_Bounds]⟩ con_F_law10_GradeBounds Try.f7 hint_F_law10_GradeBounds = con_F_law10_GradeBounds.F := by
  funext x
  kernel_rfl
theorem ok_F_law10_GradeBounds : ConOK Try.prog con_F_law10_GradeBounds :=
  con_of_run (Γ := ⟨tdGet tys, [con_F_law10_anchor, con_F_law10_refs, con_F_ref10_May, con_F_grade_Bounds, con_F_ref10_Bounds]⟩) ⟨fun T d h => tysB_ok tys tys_ok T d h, by simp [ok_F_law10_anchor, ok_F_law10_refs, ok_F_ref10_May, ok_F_grade_Bounds, ok_F_ref10_Bounds]⟩ (by kernel_rfl) Try.func7 rfl (by kernel_rfl) run_F_law10_GradeBounds
/-- odograph/odographref10.At -/
noncomputable def F_ref10_At (l_1 : (List (Int × Int))) (at_2 : Int) : Option Int :=
  chk none (true && (decide ((0 : Int) < (l_1.length : Int)))) <|
  let e_3 : (Int × Int) := (l_1.getD (0 : Int).toNat ((0 : Int), (0 : Int)))
  Option.bind (
    loopO (X := Int) (fun (s_4 : (Int × Int)) =>
      let g_5 : Int := s_4.1
      let i_6 : Int := s_4.2
      let t14_7 : Bool := (decide (i_6 < (l_1.length : Int)))
      (bif t14_7 then
        chk none ((decide ((0 : Int) ≤ i_6)) && (decide (i_6 < (l_1.length : Int)))) <|
        let e_8 : (Int × Int) := (l_1.getD i_6.toNat ((0 : Int), (0 : Int)))
        Option.bind (
          (bif (decide (e_8.1 ≤ at_2)) then
            chk none ((decide ((0 : Int) ≤ i_6)) && (decide (i_6 < (l_1.length : Int)))) <|
            let e_9 : (Int × Int) := (l_1.getD i_6.toNat ((0 : Int), (0 : Int)))
            some e_9.2
          else
            some g_5)) fun r_10 =>
        let t16_11 : Int := (IntKind.wrap .i64 (i_6 + (1 : Int)))
        some (.inl (r_10, t16_11))
      else
        some (.inr g_5))) (e_3.2, (0 : Int))) fun r_12 =>
  some r_12
noncomputable def con_F_ref10_At : Con := { f := 31, ps := [.dat (.slice (.agg (.pair (.int .i64) (.int .i64)))), .dat (.int .i64)], boxes := [], ins := (.pair (.slice (.agg (.pair (.int .i64) (.int .i64)))) (.int .i64)), nin := 2, outs := (.int .i64), rs := [.dat (.int .i64)], nout := 1, F := fun x => F_ref10_At x.1 x.2 }
def hint_F_ref10_At : Hint := (.mk .plain [H0, (.mk .plain [H0, (.mk .plain [(.mk .plain [H0, (.mk .plain [(.mk (.loop [⟨.slot 5, (.int .i64), none⟩, ⟨.slot 6, (.int .i64), none⟩] [(0, 16), (0, 13), (0, 19), (0, 22), (0, 28), (0, 25), (0, 14), (0, 11), (0, 17), (0, 23), (0, 20), (0, 26), (0, 12), (0, 15), (0, 21), (0, 18), (0, 24), (0, 27)] [(.exit 0, [⟨.slot 5, (.int .i64), none⟩])]) [(.mk .plain [H0, (.mk .plain [(.mk .plain [(.mk .plain [H0, (.mk (.join [(0, 25), (0, 26), (0, 24), (0, 27), (0, 28)] [(.normal, [⟨.slot 5, (.int .i64), none⟩])]) [])])])])])])])])])])])
theorem run_F_ref10_At : runE ⟨tdGet tys, []⟩ con_F_ref10_At Try.f31 hint_F_ref10_At = con_F_ref10_At.F := by
  funext x
  kernel_rfl
theorem ok_F_ref10_At : ConOK Try.prog con_F_ref10_At :=
  con_of_run (Γ := ⟨tdGet tys, []⟩) ⟨fun T d h => tysB_ok tys tys_ok T d h, by simp []⟩ (by kernel_rfl) Try.func31 rfl (by kernel_rfl) run_F_ref10_At
/-- odograph/odographlaw10.GradeAt -/
noncomputable def F_law10_GradeAt (l_1 : (List (Int × Int))) (at_2 : Int) (s_3 : (Int × Int)) : Option Bool :=
  (F_law10_anchor ()).bind fun t10_4 =>
  (bif (!t10_4) then
    some false
  else
    let t14_5 : Bool := (decide ((200 : Int) < (l_1.length : Int)))
    (bif !t14_5 then F_law10_refs l_1 else some []).bind fun t17_6 =>
    (bif !t14_5 then F_ref10_May t17_6 (9223372036854775807 : Int) else some false).bind fun t18_7 =>
    let t20_8 : Bool := (bif t14_5 then true else (!t18_7))
    (bif t20_8 then
      some true
    else
      (F_grade_At l_1 at_2).bind fun t23_9 =>
      (F_grade_Bounds l_1 s_3).bind fun t27_10 =>
      (F_law10_refs l_1).bind fun t32_11 =>
      (F_ref10_At t32_11 at_2).bind fun t34_12 =>
      (bif (t23_9 == t34_12) then F_span_Span_Has s_3 at_2 else some false).bind fun t39_13 =>
      (bif (t27_10.2 && (!(!t39_13) && (t23_9 == t34_12))) then F_span_Span_Has t27_10.1 t23_9 else some false).bind fun t46_14 =>
      let t47_15 : Bool := (bif t27_10.2 then t46_14 else false)
      let t48_16 : Bool := (bif (!t39_13) then true else t47_15)
      let t49_17 : Bool := (bif (t23_9 == t34_12) then t48_16 else false)
      some t49_17))
noncomputable def con_F_law10_GradeAt : Con := { f := 8, ps := [.dat (.slice (.agg (.pair (.int .i64) (.int .i64)))), .dat (.int .i64), .dat (.agg (.pair (.int .i64) (.int .i64)))], boxes := [], ins := (.pair (.slice (.agg (.pair (.int .i64) (.int .i64)))) (.pair (.int .i64) (.agg (.pair (.int .i64) (.int .i64))))), nin := 3, outs := .bool, rs := [.dat .bool], nout := 1, F := fun x => F_law10_GradeAt x.1 x.2.1 x.2.2 }
def hint_F_law10_GradeAt : Hint := H0
theorem run_F_law10_GradeAt : runE ⟨tdGet tys, [con_F_law10_anchor, con_F_law10_refs, con_F_ref10_May, con_F_grade_At, con_F_grade_Bounds, con_F_ref10_At, con_F_span_Span_Has]⟩ con_F_law10_GradeAt Try.f8 hint_F_law10_GradeAt = con_F_law10_GradeAt.F := by
  funext x
  kernel_rfl
theorem ok_F_law10_GradeAt : ConOK Try.prog con_F_law10_GradeAt :=
  con_of_run (Γ := ⟨tdGet tys, [con_F_law10_anchor, con_F_law10_refs, con_F_ref10_May, con_F_grade_At, con_F_grade_Bounds, con_F_ref10_At, con_F_span_Span_Has]⟩) ⟨fun T d h => tysB_ok tys tys_ok T d h, by simp [ok_F_law10_anchor, ok_F_law10_refs, ok_F_ref10_May, ok_F_grade_At, ok_F_grade_Bounds, ok_F_ref10_At, ok_F_span_Span_Has]⟩ (by kernel_rfl) Try.func8 rfl (by kernel_rfl) run_F_law10_GradeAt
/-- odograph/odographlaw10.GradeWiden -/
noncomputable def F_law10_GradeWiden (l_1 : (List (Int × Int))) (s_2 : (Int × Int)) (t_3 : (Int × Int)) (at_4 : Int) : Option Bool :=
  (F_law10_anchor ()).bind fun t15_5 =>
  (bif (!t15_5) then
    some false
  else
    let t19_6 : Bool := (decide ((200 : Int) < (l_1.length : Int)))
    (bif !t19_6 then F_law10_refs l_1 else some []).bind fun t22_7 =>
    (bif !t19_6 then F_ref10_May t22_7 (9223372036854775807 : Int) else some false).bind fun t23_8 =>
    let t25_9 : Bool := (bif t19_6 then true else (!t23_8))
    (bif t25_9 then
      some true
    else
      (F_grade_Bounds l_1 s_2).bind fun t29_10 =>
      (F_grade_Bounds l_1 t_3).bind fun t35_11 =>
      let t49_12 : Bool := (bif (decide (s_2.1 ≤ s_2.2)) then (decide (t_3.1 ≤ s_2.1)) else false)
      let t56_13 : Bool := (bif t49_12 then (decide (s_2.2 ≤ t_3.2)) else false)
      let t63_14 : Bool := (bif (!t29_10.2) then true else (!t35_11.2))
      let t69_15 : Bool := (decide (t29_10.1.1 < t35_11.1.1))
      let t70_16 : Bool := (bif t63_14 then true else t69_15)
      let t76_17 : Bool := (decide (t35_11.1.2 < t29_10.1.2))
      let t77_18 : Bool := (bif t70_16 then true else t76_17)
      let t78_19 : Bool := (bif t56_13 then t77_18 else false)
      (bif t78_19 then
        some false
      else
        (F_span_At at_4).bind fun t82_20 =>
        (F_grade_Bounds l_1 t82_20).bind fun t83_21 =>
        (bif t83_21.2 then F_grade_At l_1 at_4 else some (0 : Int)).bind fun t91_22 =>
        (bif t83_21.2 then F_span_Span_Has t83_21.1 t91_22 else some false).bind fun t92_23 =>
        let t93_24 : Bool := (bif t83_21.2 then t92_23 else false)
        some t93_24)))
noncomputable def con_F_law10_GradeWiden : Con := { f := 9, ps := [.dat (.slice (.agg (.pair (.int .i64) (.int .i64)))), .dat (.agg (.pair (.int .i64) (.int .i64))), .dat (.agg (.pair (.int .i64) (.int .i64))), .dat (.int .i64)], boxes := [], ins := (.pair (.slice (.agg (.pair (.int .i64) (.int .i64)))) (.pair (.agg (.pair (.int .i64) (.int .i64))) (.pair (.agg (.pair (.int .i64) (.int .i64))) (.int .i64)))), nin := 4, outs := .bool, rs := [.dat .bool], nout := 1, F := fun x => F_law10_GradeWiden x.1 x.2.1 x.2.2.1 x.2.2.2 }
def hint_F_law10_GradeWiden : Hint := H0
theorem run_F_law10_GradeWiden : runE ⟨tdGet tys, [con_F_law10_anchor, con_F_law10_refs, con_F_ref10_May, con_F_grade_Bounds, con_F_span_At, con_F_grade_At, con_F_span_Span_Has]⟩ con_F_law10_GradeWiden Try.f9 hint_F_law10_GradeWiden = con_F_law10_GradeWiden.F := by
  funext x
  kernel_rfl
theorem ok_F_law10_GradeWiden : ConOK Try.prog con_F_law10_GradeWiden :=
  con_of_run (Γ := ⟨tdGet tys, [con_F_law10_anchor, con_F_law10_refs, con_F_ref10_May, con_F_grade_Bounds, con_F_span_At, con_F_grade_At, con_F_span_Span_Has]⟩) ⟨fun T d h => tysB_ok tys tys_ok T d h, by simp [ok_F_law10_anchor, ok_F_law10_refs, ok_F_ref10_May, ok_F_grade_Bounds, ok_F_span_At, ok_F_grade_At, ok_F_span_Span_Has]⟩ (by kernel_rfl) Try.func9 rfl (by kernel_rfl) run_F_law10_GradeWiden
/-- (odograph/track.Track).segment -/
noncomputable def F_track_Track_segment (t_1 : ((List (Int × ((List (Int × Int)) × (List Int)))) × (List (Int × (Int × (Int × (Int × Int))))))) (s_2 : (Int × ((List (Int × Int)) × (List Int)))) : Option Bool :=
  let t9_3 : Bool := (decide (s_2.1 < (1 : Int)))
  let t13_4 : Bool := (decide ((1099511627776 : Int) < s_2.1))
  let t14_5 : Bool := (bif t9_3 then true else t13_4)
  (bif !t14_5 then F_grade_Check s_2.2.1 s_2.1 else some (0 : Int)).bind fun t20_6 =>
  let t22_7 : Bool := (bif t14_5 then true else (t20_6 != (0 : Int)))
  let t27_8 : Bool := (decide ((2 : Int) < (s_2.2.2.length : Int)))
  let t28_9 : Bool := (bif t22_7 then true else t27_8)
  (bif t28_9 then
    some false
  else
    Option.bind (α := Bool ⊕ Unit) (
      loopO (X := Bool ⊕ Unit) (fun (s_10 : Int) =>
        let t33_11 : Bool := (decide (s_10 < (s_2.2.2.length : Int)))
        (bif t33_11 then
          chk none ((decide ((0 : Int) ≤ s_10)) && (decide (s_10 < (s_2.2.2.length : Int)))) <|
          let t36_12 : Int := (s_2.2.2.getD s_10.toNat (0 : Int))
          let t38_13 : Bool := (decide (t36_12 < (0 : Int)))
          let t44_14 : Bool := (decide ((t_1.1.length : Int) ≤ t36_12))
          let t45_15 : Bool := (bif t38_13 then true else t44_14)
          let t48_16 : Bool := (decide ((0 : Int) < s_10))
          let t54_17 : Int := (IntKind.wrap .i64 (s_10 - (1 : Int)))
          chk none (((decide ((0 : Int) ≤ t54_17)) && (decide (t54_17 < (s_2.2.2.length : Int)))) || !(t48_16 && !t45_15)) <|
          let t56_18 : Int := (s_2.2.2.getD t54_17.toNat (0 : Int))
          let t57_19 : Bool := (decide (t36_12 ≤ t56_18))
          let t58_20 : Bool := (bif t48_16 then t57_19 else false)
          let t59_21 : Bool := (bif t45_15 then true else t58_20)
          (bif t59_21 then
            some (.inr (.inl false))
          else
            let t60_22 : Int := (IntKind.wrap .i64 (s_10 + (1 : Int)))
            some (.inl t60_22))
        else
          some (.inr (.inr ())))) (0 : Int)) fun z => match z with
    | .inl r_23 =>
      some r_23
    | .inr _ =>
      some true)
noncomputable def con_F_track_Track_segment : Con := { f := 68, ps := [.dat (.agg (.pair (.slice (.agg (.pair (.int .i64) (.pair (.slice (.agg (.pair (.int .i64) (.int .i64)))) (.slice (.int .i64)))))) (.slice (.agg (.pair (.int .i64) (.pair (.int .i64) (.pair (.int .i64) (.pair (.int .i64) (.int .i64))))))))), .dat (.agg (.pair (.int .i64) (.pair (.slice (.agg (.pair (.int .i64) (.int .i64)))) (.slice (.int .i64)))))], boxes := [], ins := (.pair (.agg (.pair (.slice (.agg (.pair (.int .i64) (.pair (.slice (.agg (.pair (.int .i64) (.int .i64)))) (.slice (.int .i64)))))) (.slice (.agg (.pair (.int .i64) (.pair (.int .i64) (.pair (.int .i64) (.pair (.int .i64) (.int .i64))))))))) (.agg (.pair (.int .i64) (.pair (.slice (.agg (.pair (.int .i64) (.int .i64)))) (.slice (.int .i64)))))), nin := 2, outs := .bool, rs := [.dat .bool], nout := 1, F := fun x => F_track_Track_segment x.1 x.2 }
def hint_F_track_Track_segment : Hint := (.mk .plain [H0, (.mk .plain [H0, (.mk .plain [(.mk .plain [H0, (.mk .plain [(.mk (.loop [⟨.slot 32, (.int .i64), none⟩] [(0, 36), (0, 42), (0, 4), (0, 39), (0, 45), (0, 48), (0, 54), (0, 51), (0, 57), (0, 5), (0, 34), (0, 40), (0, 37), (0, 43), (0, 46), (0, 52), (0, 49), (0, 55), (0, 35), (0, 58), (0, 38), (0, 6), (0, 41), (0, 47), (0, 33), (0, 44), (0, 50), (0, 53), (0, 59), (0, 56), (0, 60)] [(.ret, [⟨.slot 4, .bool, none⟩]), (.exit 0, [])]) [])])])])])])
theorem run_F_track_Track_segment : runE ⟨tdGet tys, [con_F_grade_Check]⟩ con_F_track_Track_segment Try.f68 hint_F_track_Track_segment = con_F_track_Track_segment.F := by
  funext x
  kernel_rfl
theorem ok_F_track_Track_segment : ConOK Try.prog con_F_track_Track_segment :=
  con_of_run (Γ := ⟨tdGet tys, [con_F_grade_Check]⟩) ⟨fun T d h => tysB_ok tys tys_ok T d h, by simp [ok_F_grade_Check]⟩ (by kernel_rfl) Try.func68 rfl (by kernel_rfl) run_F_track_Track_segment
/-- (odograph/track.Track).group -/
noncomputable def F_track_Track_group (t_1 : ((List (Int × ((List (Int × Int)) × (List Int)))) × (List (Int × (Int × (Int × (Int × Int))))))) (i_2 : Int) (g_3 : (Int × (Int × (Int × (Int × Int))))) : Option Bool :=
  let t10_4 : Bool := (decide (g_3.1 < (1 : Int)))
  let t14_5 : Bool := (decide ((65535 : Int) < g_3.1))
  let t15_6 : Bool := (bif t10_4 then true else t14_5)
  let t18_7 : Bool := (decide ((0 : Int) < i_2))
  let t25_8 : Int := (IntKind.wrap .i64 (i_2 - (1 : Int)))
  chk none (((decide ((0 : Int) ≤ t25_8)) && (decide (t25_8 < (t_1.2.length : Int)))) || !(t18_7 && !t15_6)) <|
  let e_9 : (Int × (Int × (Int × (Int × Int)))) := (t_1.2.getD t25_8.toNat ((0 : Int), ((0 : Int), ((0 : Int), ((0 : Int), (0 : Int))))))
  let t30_10 : Bool := (bif t18_7 then (decide (g_3.1 ≤ e_9.1)) else false)
  let t31_11 : Bool := (bif t15_6 then true else t30_10)
  let t35_12 : Bool := (decide (g_3.2.1 < (0 : Int)))
  let t36_13 : Bool := (bif t31_11 then true else t35_12)
  let t43_14 : Bool := (decide ((t_1.1.length : Int) ≤ g_3.2.1))
  let t44_15 : Bool := (bif t36_13 then true else t43_14)
  (bif t44_15 then
    some false
  else
    let t47_16 : Bool := (decide ((0 : Int) ≤ g_3.2.2.1))
    chk none (((decide ((0 : Int) ≤ g_3.2.1)) && (decide (g_3.2.1 < (t_1.1.length : Int)))) || !t47_16) <|
    let e_17 : (Int × ((List (Int × Int)) × (List Int))) := (t_1.1.getD g_3.2.1.toNat ((0 : Int), ([], [])))
    let t58_18 : Bool := (decide (g_3.2.2.1 ≤ e_17.1))
    let t59_19 : Bool := (bif t47_16 then t58_18 else false)
    let t64_20 : Bool := (decide ((0 : Int) ≤ g_3.2.2.2.1))
    let t65_21 : Bool := (bif t59_19 then t64_20 else false)
    let t69_22 : Bool := (decide (g_3.2.2.2.1 ≤ (1048576 : Int)))
    let t70_23 : Bool := (bif t65_21 then t69_22 else false)
    let t74_24 : Bool := (decide ((0 : Int) ≤ g_3.2.2.2.2))
    let t75_25 : Bool := (bif t70_23 then t74_24 else false)
    let t79_26 : Bool := (decide (g_3.2.2.2.2 ≤ (16777216 : Int)))
    let t80_27 : Bool := (bif t75_25 then t79_26 else false)
    some t80_27)
noncomputable def con_F_track_Track_group : Con := { f := 69, ps := [.dat (.agg (.pair (.slice (.agg (.pair (.int .i64) (.pair (.slice (.agg (.pair (.int .i64) (.int .i64)))) (.slice (.int .i64)))))) (.slice (.agg (.pair (.int .i64) (.pair (.int .i64) (.pair (.int .i64) (.pair (.int .i64) (.int .i64))))))))), .dat (.int .i64), .dat (.agg (.pair (.int .i64) (.pair (.int .i64) (.pair (.int .i64) (.pair (.int .i64) (.int .i64))))))], boxes := [], ins := (.pair (.agg (.pair (.slice (.agg (.pair (.int .i64) (.pair (.slice (.agg (.pair (.int .i64) (.int .i64)))) (.slice (.int .i64)))))) (.slice (.agg (.pair (.int .i64) (.pair (.int .i64) (.pair (.int .i64) (.pair (.int .i64) (.int .i64))))))))) (.pair (.int .i64) (.agg (.pair (.int .i64) (.pair (.int .i64) (.pair (.int .i64) (.pair (.int .i64) (.int .i64)))))))), nin := 3, outs := .bool, rs := [.dat .bool], nout := 1, F := fun x => F_track_Track_group x.1 x.2.1 x.2.2 }
def hint_F_track_Track_group : Hint := H0
theorem run_F_track_Track_group : runE ⟨tdGet tys, []⟩ con_F_track_Track_group Try.f69 hint_F_track_Track_group = con_F_track_Track_group.F := by
  funext x
  kernel_rfl
theorem ok_F_track_Track_group : ConOK Try.prog con_F_track_Track_group :=
  con_of_run (Γ := ⟨tdGet tys, []⟩) ⟨fun T d h => tysB_ok tys tys_ok T d h, by simp []⟩ (by kernel_rfl) Try.func69 rfl (by kernel_rfl) run_F_track_Track_group
/-- (odograph/track.Track).Check -/
noncomputable def F_track_Track_Check (t_1 : ((List (Int × ((List (Int × Int)) × (List Int)))) × (List (Int × (Int × (Int × (Int × Int))))))) : Option (Int × Int) :=
  let t11_2 : Bool := ((t_1.1.length : Int) == (0 : Int))
  let t16_3 : Bool := (decide ((200 : Int) < (t_1.1.length : Int)))
  let t17_4 : Bool := (bif t11_2 then true else t16_3)
  let t22_5 : Bool := (decide ((400 : Int) < (t_1.2.length : Int)))
  let t23_6 : Bool := (bif t17_4 then true else t22_5)
  (bif t23_6 then
    some ((13 : Int), (0 : Int))
  else
    Option.bind (α := (Int × Int) ⊕ Unit) (
      loopO (X := (Int × Int) ⊕ Unit) (fun (s_7 : Int) =>
        let t28_8 : Bool := (decide (s_7 < (t_1.1.length : Int)))
        (bif t28_8 then
          chk none ((decide ((0 : Int) ≤ s_7)) && (decide (s_7 < (t_1.1.length : Int)))) <|
          let t31_9 : (Int × ((List (Int × Int)) × (List Int))) := (t_1.1.getD s_7.toNat ((0 : Int), ([], [])))
          (F_track_Track_segment t_1 t31_9).bind fun t34_10 =>
          (bif (!t34_10) then
            some (.inr (.inl (s_7, (11 : Int))))
          else
            let t37_11 : Int := (IntKind.wrap .i64 (s_7 + (1 : Int)))
            some (.inl t37_11))
        else
          some (.inr (.inr ())))) (0 : Int)) fun z => match z with
    | .inl r_12 =>
      let t3_13 : Int := r_12.1
      let t2_14 : Int := r_12.2
      some (t2_14, t3_13)
    | .inr _ =>
      Option.bind (α := (Int × Int) ⊕ Unit) (
        loopO (X := (Int × Int) ⊕ Unit) (fun (s_15 : Int) =>
          let t42_16 : Bool := (decide (s_15 < (t_1.2.length : Int)))
          (bif t42_16 then
            chk none ((decide ((0 : Int) ≤ s_15)) && (decide (s_15 < (t_1.2.length : Int)))) <|
            let t45_17 : (Int × (Int × (Int × (Int × Int)))) := (t_1.2.getD s_15.toNat ((0 : Int), ((0 : Int), ((0 : Int), ((0 : Int), (0 : Int))))))
            (F_track_Track_group t_1 s_15 t45_17).bind fun t49_18 =>
            (bif (!t49_18) then
              some (.inr (.inl ((16 : Int), s_15)))
            else
              let t52_19 : Int := (IntKind.wrap .i64 (s_15 + (1 : Int)))
              some (.inl t52_19))
          else
            some (.inr (.inr ())))) (0 : Int)) fun z => match z with
      | .inl r_20 =>
        let t2_21 : Int := r_20.1
        let t3_22 : Int := r_20.2
        some (t2_21, t3_22)
      | .inr _ =>
        some ((0 : Int), (0 : Int)))
noncomputable def con_F_track_Track_Check : Con := { f := 35, ps := [.dat (.agg (.pair (.slice (.agg (.pair (.int .i64) (.pair (.slice (.agg (.pair (.int .i64) (.int .i64)))) (.slice (.int .i64)))))) (.slice (.agg (.pair (.int .i64) (.pair (.int .i64) (.pair (.int .i64) (.pair (.int .i64) (.int .i64)))))))))], boxes := [], ins := (.agg (.pair (.slice (.agg (.pair (.int .i64) (.pair (.slice (.agg (.pair (.int .i64) (.int .i64)))) (.slice (.int .i64)))))) (.slice (.agg (.pair (.int .i64) (.pair (.int .i64) (.pair (.int .i64) (.pair (.int .i64) (.int .i64))))))))), nin := 1, outs := (.pair (.int .i64) (.int .i64)), rs := [.dat (.int .i64), .dat (.int .i64)], nout := 2, F := fun x => F_track_Track_Check x }
def hint_F_track_Track_Check : Hint := (.mk .plain [H0, (.mk .plain [H0, (.mk .plain [(.mk .plain [H0, (.mk .plain [(.mk (.loop [⟨.slot 27, (.int .i64), none⟩] [(0, 30), (0, 36), (0, 4), (0, 29), (0, 35), (0, 3), (0, 32), (0, 28), (0, 2), (0, 31), (0, 5), (0, 34), (0, 33), (0, 37)] [(.ret, [⟨.slot 3, (.int .i64), none⟩, ⟨.slot 2, (.int .i64), none⟩]), (.exit 0, [])]) [])])]), (.mk .plain [(.mk .plain [H0, (.mk .plain [(.mk (.loop [⟨.slot 41, (.int .i64), none⟩] [(0, 7), (0, 42), (0, 45), (0, 48), (0, 51), (0, 2), (0, 43), (0, 46), (0, 49), (0, 3), (0, 6), (0, 47), (0, 44), (0, 50), (0, 52)] [(.ret, [⟨.slot 2, (.int .i64), none⟩, ⟨.slot 3, (.int .i64), none⟩]), (.exit 2, [])]) [])])])])])])])
theorem run_F_track_Track_Check : runE ⟨tdGet tys, [con_F_track_Track_segment, con_F_track_Track_group]⟩ con_F_track_Track_Check Try.f35 hint_F_track_Track_Check = con_F_track_Track_Check.F := by
  funext x
  kernel_rfl
theorem ok_F_track_Track_Check : ConOK Try.prog con_F_track_Track_Check :=
  con_of_run (Γ := ⟨tdGet tys, [con_F_track_Track_segment, con_F_track_Track_group]⟩) ⟨fun T d h => tysB_ok tys tys_ok T d h, by simp [ok_F_track_Track_segment, ok_F_track_Track_group]⟩ (by kernel_rfl) Try.func35 rfl (by kernel_rfl) run_F_track_Track_Check
/-- cmp.isNaN[int] -/
noncomputable def F_cmp_isNaN_int (x_1 : Int) : Option Bool :=
  some (x_1 != x_1)
noncomputable def con_F_cmp_isNaN_int : Con := { f := 80, ps := [.dat (.int .i64)], boxes := [], ins := (.int .i64), nin := 1, outs := .bool, rs := [.dat .bool], nout := 1, F := fun x => F_cmp_isNaN_int x }
def hint_F_cmp_isNaN_int : Hint := H0
theorem run_F_cmp_isNaN_int : runE ⟨tdGet tys, []⟩ con_F_cmp_isNaN_int Try.f80 hint_F_cmp_isNaN_int = con_F_cmp_isNaN_int.F := by
  funext x
  kernel_rfl
theorem ok_F_cmp_isNaN_int : ConOK Try.prog con_F_cmp_isNaN_int :=
  con_of_run (Γ := ⟨tdGet tys, []⟩) ⟨fun T d h => tysB_ok tys tys_ok T d h, by simp []⟩ (by kernel_rfl) Try.func80 rfl (by kernel_rfl) run_F_cmp_isNaN_int
/-- cmp.Compare[int] -/
noncomputable def F_cmp_Compare_int (x_1 : Int) (y_2 : Int) : Option Int :=
  (F_cmp_isNaN_int x_1).bind fun t8_3 =>
  (F_cmp_isNaN_int y_2).bind fun t10_4 =>
  (bif t8_3 then
    (bif t10_4 then
      some (0 : Int)
    else
      some (-1 : Int))
  else
    (bif t10_4 then
      some (1 : Int)
    else
      (bif (decide (x_1 < y_2)) then
        some (-1 : Int)
      else
        (bif (decide (y_2 < x_1)) then
          some (1 : Int)
        else
          some (0 : Int)))))
noncomputable def con_F_cmp_Compare_int : Con := { f := 73, ps := [.dat (.int .i64), .dat (.int .i64)], boxes := [], ins := (.pair (.int .i64) (.int .i64)), nin := 2, outs := (.int .i64), rs := [.dat (.int .i64)], nout := 1, F := fun x => F_cmp_Compare_int x.1 x.2 }
def hint_F_cmp_Compare_int : Hint := H0
theorem run_F_cmp_Compare_int : runE ⟨tdGet tys, [con_F_cmp_isNaN_int]⟩ con_F_cmp_Compare_int Try.f73 hint_F_cmp_Compare_int = con_F_cmp_Compare_int.F := by
  funext x
  kernel_rfl
theorem ok_F_cmp_Compare_int : ConOK Try.prog con_F_cmp_Compare_int :=
  con_of_run (Γ := ⟨tdGet tys, [con_F_cmp_isNaN_int]⟩) ⟨fun T d h => tysB_ok tys tys_ok T d h, by simp [ok_F_cmp_isNaN_int]⟩ (by kernel_rfl) Try.func73 rfl (by kernel_rfl) run_F_cmp_Compare_int
/-- (odograph/track.Track).Find$1 -/
noncomputable def F_track_Track_Find_1 (g_1 : (Int × (Int × (Int × (Int × Int))))) (id_2 : Int) : Option Int :=
  (F_cmp_Compare_int g_1.1 id_2).bind fun t8_3 =>
  some t8_3
noncomputable def con_F_track_Track_Find_1 : Con := { f := 72, ps := [.dat (.agg (.pair (.int .i64) (.pair (.int .i64) (.pair (.int .i64) (.pair (.int .i64) (.int .i64)))))), .dat (.int .i64)], boxes := [], ins := (.pair (.agg (.pair (.int .i64) (.pair (.int .i64) (.pair (.int .i64) (.pair (.int .i64) (.int .i64)))))) (.int .i64)), nin := 2, outs := (.int .i64), rs := [.dat (.int .i64)], nout := 1, F := fun x => F_track_Track_Find_1 x.1 x.2 }
def hint_F_track_Track_Find_1 : Hint := H0
theorem run_F_track_Track_Find_1 : runE ⟨tdGet tys, [con_F_cmp_Compare_int]⟩ con_F_track_Track_Find_1 Try.f72 hint_F_track_Track_Find_1 = con_F_track_Track_Find_1.F := by
  funext x
  kernel_rfl
theorem ok_F_track_Track_Find_1 : ConOK Try.prog con_F_track_Track_Find_1 :=
  con_of_run (Γ := ⟨tdGet tys, [con_F_cmp_Compare_int]⟩) ⟨fun T d h => tysB_ok tys tys_ok T d h, by simp [ok_F_cmp_Compare_int]⟩ (by kernel_rfl) Try.func72 rfl (by kernel_rfl) run_F_track_Track_Find_1
/-- slices.BinarySearchFunc[[]odograph/track.Group,odograph/track.Group,int] -/
noncomputable def F_slices_BinarySearchFunc_track_Group_track_Group_int (x_1 : (List (Int × (Int × (Int × (Int × Int)))))) (target_2 : Int) : Option (Int × Bool) :=
  Option.bind (
    loopO (X := Int) (fun (s_3 : (Int × Int)) =>
      let j_4 : Int := s_3.1
      let i_5 : Int := s_3.2
      (bif (decide (i_5 < j_4)) then
        let t20_6 : Int := (IntKind.wrap .i64 (i_5 + j_4))
        let t21_7 : Int := (IntKind.wrap .u64 t20_6)
        let t23_8 : Int := (IntKind.wrap .i64 (t21_7.fdiv (2 ^ 1)))
        chk none ((decide ((0 : Int) ≤ t23_8)) && (decide (t23_8 < (x_1.length : Int)))) <|
        let t28_9 : (Int × (Int × (Int × (Int × Int)))) := (x_1.getD t23_8.toNat ((0 : Int), ((0 : Int), ((0 : Int), ((0 : Int), (0 : Int))))))
        (F_track_Track_Find_1 t28_9 target_2).bind fun t30_10 =>
        let t31_11 : Bool := (decide (t30_10 < (0 : Int)))
        Option.bind (
          (bif t31_11 then
            let t33_12 : Int := (IntKind.wrap .i64 (t23_8 + (1 : Int)))
            some (t33_12, j_4)
          else
            some (i_5, t23_8))) fun r_13 =>
        let i_14 : Int := r_13.1
        let j_15 : Int := r_13.2
        some (.inl (j_15, i_14))
      else
        some (.inr i_5))) ((x_1.length : Int), (0 : Int))) fun r_16 =>
  let t38_17 : Bool := (decide (r_16 < (x_1.length : Int)))
  chk none (((decide ((0 : Int) ≤ r_16)) && (decide (r_16 < (x_1.length : Int)))) || !t38_17) <|
  let t44_18 : (Int × (Int × (Int × (Int × Int)))) := (x_1.getD r_16.toNat ((0 : Int), ((0 : Int), ((0 : Int), ((0 : Int), (0 : Int))))))
  (bif t38_17 then F_track_Track_Find_1 t44_18 target_2 else some (0 : Int)).bind fun t46_19 =>
  let t48_20 : Bool := (bif t38_17 then (t46_19 == (0 : Int)) else false)
  some (r_16, t48_20)
noncomputable def con_F_slices_BinarySearchFunc_track_Group_track_Group_int : Con := { f := 71, ps := [.dat (.slice (.agg (.pair (.int .i64) (.pair (.int .i64) (.pair (.int .i64) (.pair (.int .i64) (.int .i64))))))), .dat (.int .i64), .clo 72 [] []], boxes := [], ins := (.pair (.slice (.agg (.pair (.int .i64) (.pair (.int .i64) (.pair (.int .i64) (.pair (.int .i64) (.int .i64))))))) (.int .i64)), nin := 2, outs := (.pair (.int .i64) .bool), rs := [.dat (.int .i64), .dat .bool], nout := 2, F := fun x => F_slices_BinarySearchFunc_track_Group_track_Group_int x.1 x.2 }
def hint_F_slices_BinarySearchFunc_track_Group_track_Group_int : Hint := (.mk .plain [H0, (.mk .plain [H0, (.mk .plain [H0, (.mk .plain [(.mk .plain [(.mk (.loop [⟨.slot 10, (.int .i64), none⟩, ⟨.slot 9, (.int .i64), none⟩] [(0, 30), (0, 16), (0, 19), (0, 22), (0, 28), (0, 25), (0, 31), (0, 34), (0, 11), (0, 17), (0, 23), (0, 20), (0, 26), (0, 29), (0, 32), (0, 15), (0, 21), (0, 18), (0, 24), (0, 27), (0, 33)] [(.exit 0, [⟨.slot 9, (.int .i64), none⟩])]) [(.mk .plain [H0, (.mk .plain [(.mk .plain [H0, (.mk .plain [H0, (.mk (.join [(0, 32), (0, 33), (0, 34)] [(.normal, [⟨.slot 9, (.int .i64), none⟩, ⟨.slot 10, (.int .i64), none⟩])]) [])])])])])])])])])])])
theorem run_F_slices_BinarySearchFunc_track_Group_track_Group_int : runE ⟨tdGet tys, [con_F_track_Track_Find_1]⟩ con_F_slices_BinarySearchFunc_track_Group_track_Group_int Try.f71 hint_F_slices_BinarySearchFunc_track_Group_track_Group_int = con_F_slices_BinarySearchFunc_track_Group_track_Group_int.F := by
  funext x
  kernel_rfl
theorem ok_F_slices_BinarySearchFunc_track_Group_track_Group_int : ConOK Try.prog con_F_slices_BinarySearchFunc_track_Group_track_Group_int :=
  con_of_run (Γ := ⟨tdGet tys, [con_F_track_Track_Find_1]⟩) ⟨fun T d h => tysB_ok tys tys_ok T d h, by simp [ok_F_track_Track_Find_1]⟩ (by kernel_rfl) Try.func71 rfl (by kernel_rfl) run_F_slices_BinarySearchFunc_track_Group_track_Group_int
/-- (odograph/track.Track).Find -/
noncomputable def F_track_Track_Find (t_1 : ((List (Int × ((List (Int × Int)) × (List Int)))) × (List (Int × (Int × (Int × (Int × Int))))))) (id_2 : Int) : Option (Int × Bool) :=
  (F_slices_BinarySearchFunc_track_Group_track_Group_int t_1.2 id_2).bind fun t9_3 =>
  some (t9_3.1, t9_3.2)
noncomputable def con_F_track_Track_Find : Con := { f := 38, ps := [.dat (.agg (.pair (.slice (.agg (.pair (.int .i64) (.pair (.slice (.agg (.pair (.int .i64) (.int .i64)))) (.slice (.int .i64)))))) (.slice (.agg (.pair (.int .i64) (.pair (.int .i64) (.pair (.int .i64) (.pair (.int .i64) (.int .i64))))))))), .dat (.int .i64)], boxes := [], ins := (.pair (.agg (.pair (.slice (.agg (.pair (.int .i64) (.pair (.slice (.agg (.pair (.int .i64) (.int .i64)))) (.slice (.int .i64)))))) (.slice (.agg (.pair (.int .i64) (.pair (.int .i64) (.pair (.int .i64) (.pair (.int .i64) (.int .i64))))))))) (.int .i64)), nin := 2, outs := (.pair (.int .i64) .bool), rs := [.dat (.int .i64), .dat .bool], nout := 2, F := fun x => F_track_Track_Find x.1 x.2 }
def hint_F_track_Track_Find : Hint := H0
theorem run_F_track_Track_Find : runE ⟨tdGet tys, [con_F_slices_BinarySearchFunc_track_Group_track_Group_int]⟩ con_F_track_Track_Find Try.f38 hint_F_track_Track_Find = con_F_track_Track_Find.F := by
  funext x
  kernel_rfl
theorem ok_F_track_Track_Find : ConOK Try.prog con_F_track_Track_Find :=
  con_of_run (Γ := ⟨tdGet tys, [con_F_slices_BinarySearchFunc_track_Group_track_Group_int]⟩) ⟨fun T d h => tysB_ok tys tys_ok T d h, by simp [ok_F_slices_BinarySearchFunc_track_Group_track_Group_int]⟩ (by kernel_rfl) Try.func38 rfl (by kernel_rfl) run_F_track_Track_Find
/-- odograph/odographlaw11.anchor -/
noncomputable def F_law11_anchor (_ : Unit) : Option Bool :=
  let t7_1 : (List (Int × Int)) := ([((0 : Int), (0 : Int))] : List (Int × Int))
  let t9_2 : (List (Int × ((List (Int × Int)) × (List Int)))) := ([((9 : Int), (t7_1, []))] : List (Int × ((List (Int × Int)) × (List Int))))
  let t10_3 : (Int × (Int × (Int × (Int × Int)))) := ((3 : Int), ((0 : Int), ((0 : Int), ((0 : Int), (0 : Int)))))
  let t11_4 : (Int × (Int × (Int × (Int × Int)))) := ((9 : Int), ((0 : Int), ((0 : Int), ((0 : Int), (0 : Int)))))
  let t12_5 : (List (Int × (Int × (Int × (Int × Int))))) := ([t10_3, t11_4] : List (Int × (Int × (Int × (Int × Int)))))
  let w_6 : ((List (Int × ((List (Int × Int)) × (List Int)))) × (List (Int × (Int × (Int × (Int × Int)))))) := (t9_2, t12_5)
  (F_track_Track_Check w_6).bind fun t16_7 =>
  (F_track_Track_Find w_6 (7 : Int)).bind fun t21_8 =>
  let t29_9 : Bool := (bif (t16_7.1 == (0 : Int)) then (t16_7.2 == (0 : Int)) else false)
  let t33_10 : Bool := (bif t29_9 then (t21_8.1 == (1 : Int)) else false)
  let t37_11 : Bool := (bif t33_10 then (!t21_8.2) else false)
  some t37_11
noncomputable def con_F_law11_anchor : Con := { f := 33, ps := [], boxes := [], ins := .unit, nin := 0, outs := .bool, rs := [.dat .bool], nout := 1, F := fun x => F_law11_anchor () }
def hint_F_law11_anchor : Hint := H0
theorem run_F_law11_anchor : runE ⟨tdGet tys, [con_F_track_Track_Check, con_F_track_Track_Find]⟩ con_F_law11_anchor Try.f33 hint_F_law11_anchor = con_F_law11_anchor.F := by
  funext x
  kernel_rfl
theorem ok_F_law11_anchor : ConOK Try.prog con_F_law11_anchor :=
  con_of_run (Γ := ⟨tdGet tys, [con_F_track_Track_Check, con_F_track_Track_Find]⟩) ⟨fun T d h => tysB_ok tys tys_ok T d h, by simp [ok_F_track_Track_Check, ok_F_track_Track_Find]⟩ (by kernel_rfl) Try.func33 rfl (by kernel_rfl) run_F_law11_anchor
/-- odograph/odographlaw11.great -/
noncomputable def F_law11_great (t_1 : ((List (Int × ((List (Int × Int)) × (List Int)))) × (List (Int × (Int × (Int × (Int × Int))))))) : Option Bool :=
  let t12_2 : Int := (IntKind.wrap .i64 ((t_1.1.length : Int) + (t_1.2.length : Int)))
  let t14_3 : Bool := (decide ((2000 : Int) < t12_2))
  (bif t14_3 then
    some true
  else
    Option.bind (α := Bool ⊕ Unit) (
      loopO (X := Bool ⊕ Unit) (fun (s_4 : (Int × Int)) =>
        let n_5 : Int := s_4.1
        let t18_6 : Int := s_4.2
        let t19_7 : Bool := (decide (t18_6 < (t_1.1.length : Int)))
        (bif t19_7 then
          chk none ((decide ((0 : Int) ≤ t18_6)) && (decide (t18_6 < (t_1.1.length : Int)))) <|
          let t21_8 : (Int × ((List (Int × Int)) × (List Int))) := (t_1.1.getD t18_6.toNat ((0 : Int), ([], [])))
          let t29_9 : Int := (IntKind.wrap .i64 ((t21_8.2.1.length : Int) + (t21_8.2.2.length : Int)))
          let t30_10 : Int := (IntKind.wrap .i64 (n_5 + t29_9))
          let t32_11 : Bool := (decide ((20000 : Int) < t30_10))
          (bif t32_11 then
            some (.inr (.inl true))
          else
            let t33_12 : Int := (IntKind.wrap .i64 (t18_6 + (1 : Int)))
            some (.inl (t30_10, t33_12)))
        else
          some (.inr (.inr ())))) (t12_2, (0 : Int))) fun z => match z with
    | .inl r_13 =>
      some r_13
    | .inr _ =>
      some false)
noncomputable def con_F_law11_great : Con := { f := 34, ps := [.dat (.agg (.pair (.slice (.agg (.pair (.int .i64) (.pair (.slice (.agg (.pair (.int .i64) (.int .i64)))) (.slice (.int .i64)))))) (.slice (.agg (.pair (.int .i64) (.pair (.int .i64) (.pair (.int .i64) (.pair (.int .i64) (.int .i64)))))))))], boxes := [], ins := (.agg (.pair (.slice (.agg (.pair (.int .i64) (.pair (.slice (.agg (.pair (.int .i64) (.int .i64)))) (.slice (.int .i64)))))) (.slice (.agg (.pair (.int .i64) (.pair (.int .i64) (.pair (.int .i64) (.pair (.int .i64) (.int .i64))))))))), nin := 1, outs := .bool, rs := [.dat .bool], nout := 1, F := fun x => F_law11_great x }
def hint_F_law11_great : Hint := (.mk .plain [H0, (.mk .plain [H0, (.mk .plain [H0, (.mk .plain [(.mk .plain [H0, (.mk .plain [(.mk (.loop [⟨.slot 3, (.int .i64), none⟩, ⟨.slot 18, (.int .i64), none⟩] [(0, 30), (0, 19), (0, 22), (0, 28), (0, 2), (0, 25), (0, 31), (0, 5), (0, 23), (0, 20), (0, 26), (0, 29), (0, 32), (0, 21), (0, 24), (0, 27), (0, 33)] [(.ret, [⟨.slot 2, .bool, none⟩]), (.exit 0, [])]) [])])])])])])])
theorem run_F_law11_great : runE ⟨tdGet tys, []⟩ con_F_law11_great Try.f34 hint_F_law11_great = con_F_law11_great.F := by
  funext x
  kernel_rfl
theorem ok_F_law11_great : ConOK Try.prog con_F_law11_great :=
  con_of_run (Γ := ⟨tdGet tys, []⟩) ⟨fun T d h => tysB_ok tys tys_ok T d h, by simp []⟩ (by kernel_rfl) Try.func34 rfl (by kernel_rfl) run_F_law11_great
/-- odograph/odographlaw11.refs -/
noncomputable def F_law11_refs (t_1 : ((List (Int × ((List (Int × Int)) × (List Int)))) × (List (Int × (Int × (Int × (Int × Int))))))) : Option ((List (Int × ((List (Int × Int)) × (List Int)))) × (List (Int × (Int × (Int × (Int × Int)))))) :=
  Option.bind (
    loopO (X := (List (Int × ((List (Int × Int)) × (List Int))))) (fun (s_2 : (Int × (List (Int × ((List (Int × Int)) × (List Int)))))) =>
      let t14_3 : Int := s_2.1
      let b2_4 : (List (Int × ((List (Int × Int)) × (List Int)))) := s_2.2
      let t15_5 : Bool := (decide (t14_3 < (t_1.1.length : Int)))
      (bif t15_5 then
        chk none ((decide ((0 : Int) ≤ t14_3)) && (decide (t14_3 < (t_1.1.length : Int)))) <|
        let t17_6 : (Int × ((List (Int × Int)) × (List Int))) := (t_1.1.getD t14_3.toNat ((0 : Int), ([], [])))
        Option.bind (
          loopO (X := (List (Int × Int))) (fun (s_7 : ((List (Int × Int)) × Int)) =>
            let b4_8 : (List (Int × Int)) := s_7.1
            let t26_9 : Int := s_7.2
            let t27_10 : Bool := (decide (t26_9 < (t17_6.2.1.length : Int)))
            (bif t27_10 then
              chk none ((decide ((0 : Int) ≤ t26_9)) && (decide (t26_9 < (t17_6.2.1.length : Int)))) <|
              let t29_11 : (Int × Int) := (t17_6.2.1.getD t26_9.toNat ((0 : Int), (0 : Int)))
              let t37_12 : (List (Int × Int)) := ([t29_11] : List (Int × Int))
              chk none (decide ((b4_8.length + t37_12.length) * 16 ≤ 140737488355328)) <|
              let t38_13 : (List (Int × Int)) := (b4_8 ++ t37_12)
              let t40_14 : Int := (IntKind.wrap .i64 (t26_9 + (1 : Int)))
              some (.inl (t38_13, t40_14))
            else
              some (.inr b4_8))) ([], (0 : Int))) fun r_15 =>
        let t43_16 : (Int × ((List (Int × Int)) × (List Int))) := (t17_6.1, (r_15, t17_6.2.2))
        let t44_17 : (List (Int × ((List (Int × Int)) × (List Int)))) := ([t43_16] : List (Int × ((List (Int × Int)) × (List Int))))
        chk none (decide ((b2_4.length + t44_17.length) * 56 ≤ 140737488355328)) <|
        let t45_18 : (List (Int × ((List (Int × Int)) × (List Int)))) := (b2_4 ++ t44_17)
        let t47_19 : Int := (IntKind.wrap .i64 (t14_3 + (1 : Int)))
        some (.inl (t47_19, t45_18))
      else
        some (.inr b2_4))) ((0 : Int), [])) fun r_20 =>
  Option.bind (
    loopO (X := (List (Int × (Int × (Int × (Int × Int)))))) (fun (s_21 : ((List (Int × (Int × (Int × (Int × Int))))) × Int)) =>
      let b2_22 : (List (Int × (Int × (Int × (Int × Int))))) := s_21.1
      let t51_23 : Int := s_21.2
      let t52_24 : Bool := (decide (t51_23 < (t_1.2.length : Int)))
      (bif t52_24 then
        chk none ((decide ((0 : Int) ≤ t51_23)) && (decide (t51_23 < (t_1.2.length : Int)))) <|
        let t54_25 : (Int × (Int × (Int × (Int × Int)))) := (t_1.2.getD t51_23.toNat ((0 : Int), ((0 : Int), ((0 : Int), ((0 : Int), (0 : Int))))))
        let t58_26 : (List (Int × (Int × (Int × (Int × Int))))) := ([t54_25] : List (Int × (Int × (Int × (Int × Int)))))
        chk none (decide ((b2_22.length + t58_26.length) * 40 ≤ 140737488355328)) <|
        let t59_27 : (List (Int × (Int × (Int × (Int × Int))))) := (b2_22 ++ t58_26)
        let t61_28 : Int := (IntKind.wrap .i64 (t51_23 + (1 : Int)))
        some (.inl (t59_27, t61_28))
      else
        some (.inr b2_22))) ([], (0 : Int))) fun r_29 =>
  let w_30 : ((List (Int × ((List (Int × Int)) × (List Int)))) × (List (Int × (Int × (Int × (Int × Int)))))) := (r_20, r_29)
  some w_30
noncomputable def con_F_law11_refs : Con := { f := 37, ps := [.dat (.agg (.pair (.slice (.agg (.pair (.int .i64) (.pair (.slice (.agg (.pair (.int .i64) (.int .i64)))) (.slice (.int .i64)))))) (.slice (.agg (.pair (.int .i64) (.pair (.int .i64) (.pair (.int .i64) (.pair (.int .i64) (.int .i64)))))))))], boxes := [], ins := (.agg (.pair (.slice (.agg (.pair (.int .i64) (.pair (.slice (.agg (.pair (.int .i64) (.int .i64)))) (.slice (.int .i64)))))) (.slice (.agg (.pair (.int .i64) (.pair (.int .i64) (.pair (.int .i64) (.pair (.int .i64) (.int .i64))))))))), nin := 1, outs := (.agg (.pair (.slice (.agg (.pair (.int .i64) (.pair (.slice (.agg (.pair (.int .i64) (.int .i64)))) (.slice (.int .i64)))))) (.slice (.agg (.pair (.int .i64) (.pair (.int .i64) (.pair (.int .i64) (.pair (.int .i64) (.int .i64))))))))), rs := [.dat (.agg (.pair (.slice (.agg (.pair (.int .i64) (.pair (.slice (.agg (.pair (.int .i64) (.int .i64)))) (.slice (.int .i64)))))) (.slice (.agg (.pair (.int .i64) (.pair (.int .i64) (.pair (.int .i64) (.pair (.int .i64) (.int .i64)))))))))], nout := 1, F := fun x => F_law11_refs x }
def hint_F_law11_refs : Hint := (.mk .plain [H0, (.mk .plain [H0, (.mk .plain [(.mk .plain [H0, (.mk .plain [(.mk (.loop [⟨.slot 14, (.int .i64), none⟩, ⟨.cell 2 0, (.slice (.agg (.pair (.int .i64) (.pair (.slice (.agg (.pair (.int .i64) (.int .i64)))) (.slice (.int .i64)))))), some 4500128⟩] [(0, 30), (0, 36), (0, 42), (0, 39), (0, 45), (0, 5), (0, 8), (0, 17), (0, 23), (0, 20), (0, 26), (0, 29), (0, 35), (0, 32), (0, 38), (0, 41), (0, 47), (0, 44), (0, 16), (0, 19), (0, 22), (0, 28), (0, 25), (0, 31), (0, 34), (0, 40), (0, 37), (0, 43), (0, 46), (0, 6), (0, 15), (0, 21), (0, 18), (0, 24), (0, 27), (0, 33)] [(.exit 0, [⟨.cell 2 0, (.slice (.agg (.pair (.int .i64) (.pair (.slice (.agg (.pair (.int .i64) (.int .i64)))) (.slice (.int .i64)))))), some 4500128⟩])]) [(.mk .plain [H0, (.mk .plain [H0, (.mk .plain [(.mk .plain [(.mk .plain [H0, (.mk .plain [H0, (.mk .plain [(.mk .plain [H0, (.mk .plain [(.mk (.loop [⟨.cell 4 1, (.slice (.agg (.pair (.int .i64) (.int .i64)))), some 3800116⟩, ⟨.slot 26, (.int .i64), none⟩] [(0, 30), (0, 36), (0, 39), (0, 28), (0, 31), (0, 34), (0, 40), (0, 8), (0, 37), (0, 29), (0, 35), (0, 32), (0, 38), (0, 27), (0, 33)] [(.exit 2, [⟨.cell 4 1, (.slice (.agg (.pair (.int .i64) (.int .i64)))), some 3800116⟩])]) [])])])])])])])])])])])])]), (.mk .plain [(.mk .plain [H0, (.mk .plain [(.mk (.loop [⟨.cell 2 1, (.slice (.agg (.pair (.int .i64) (.pair (.int .i64) (.pair (.int .i64) (.pair (.int .i64) (.int .i64))))))), some 5900129⟩, ⟨.slot 51, (.int .i64), none⟩] [(0, 10), (0, 54), (0, 57), (0, 60), (0, 52), (0, 55), (0, 61), (0, 58), (0, 53), (0, 59), (0, 56)] [(.exit 4, [⟨.cell 2 1, (.slice (.agg (.pair (.int .i64) (.pair (.int .i64) (.pair (.int .i64) (.pair (.int .i64) (.int .i64))))))), some 5900129⟩])]) [])])])])])])])
theorem run_F_law11_refs : runE ⟨tdGet tys, []⟩ con_F_law11_refs Try.f37 hint_F_law11_refs = con_F_law11_refs.F := by
  funext x
  kernel_rfl
theorem ok_F_law11_refs : ConOK Try.prog con_F_law11_refs :=
  con_of_run (Γ := ⟨tdGet tys, []⟩) ⟨fun T d h => tysB_ok tys tys_ok T d h, by simp []⟩ (by kernel_rfl) Try.func37 rfl (by kernel_rfl) run_F_law11_refs
/-- odograph/odographref11.segment -/
noncomputable def F_ref11_segment (s_1 : (Int × ((List (Int × Int)) × (List Int)))) (many_2 : Int) : Option Bool :=
  let t8_3 : Bool := (decide (s_1.1 < (1 : Int)))
  let t12_4 : Bool := (decide ((1099511627776 : Int) < s_1.1))
  let t13_5 : Bool := (bif t8_3 then true else t12_4)
  (bif !t13_5 then F_ref10_May s_1.2.1 s_1.1 else some false).bind fun t19_6 =>
  let t21_7 : Bool := (bif t13_5 then true else (!t19_6))
  let t26_8 : Bool := (decide ((2 : Int) < (s_1.2.2.length : Int)))
  let t27_9 : Bool := (bif t21_7 then true else t26_8)
  (bif t27_9 then
    some false
  else
    Option.bind (α := Bool ⊕ Unit) (
      loopO (X := Bool ⊕ Unit) (fun (s_10 : Int) =>
        let t32_11 : Bool := (decide (s_10 < (s_1.2.2.length : Int)))
        (bif t32_11 then
          chk none ((decide ((0 : Int) ≤ s_10)) && (decide (s_10 < (s_1.2.2.length : Int)))) <|
          let t39_12 : Int := (s_1.2.2.getD s_10.toNat (0 : Int))
          let t40_13 : Bool := (decide (t39_12 < (0 : Int)))
          chk none (((decide ((0 : Int) ≤ s_10)) && (decide (s_10 < (s_1.2.2.length : Int)))) || !(!t40_13)) <|
          let t46_14 : Int := (s_1.2.2.getD s_10.toNat (0 : Int))
          let t48_15 : Bool := (decide (many_2 ≤ t46_14))
          let t49_16 : Bool := (bif t40_13 then true else t48_15)
          (bif t49_16 then
            some (.inr (.inl false))
          else
            let t34_17 : Int := (IntKind.wrap .i64 (s_10 + (1 : Int)))
            some (.inl t34_17))
        else
          some (.inr (.inr ())))) (0 : Int)) fun z => match z with
    | .inl r_18 =>
      some r_18
    | .inr _ =>
      let t53_19 : Bool := (decide ((s_1.2.2.length : Int) < (2 : Int)))
      chk none ((true && (decide ((0 : Int) < (s_1.2.2.length : Int)))) || !(!t53_19)) <|
      let t58_20 : Int := (s_1.2.2.getD (0 : Int).toNat (0 : Int))
      chk none ((true && (decide ((1 : Int) < (s_1.2.2.length : Int)))) || !(!t53_19)) <|
      let t62_21 : Int := (s_1.2.2.getD (1 : Int).toNat (0 : Int))
      let t63_22 : Bool := (decide (t58_20 < t62_21))
      let t64_23 : Bool := (bif t53_19 then true else t63_22)
      some t64_23)
noncomputable def con_F_ref11_segment : Con := { f := 70, ps := [.dat (.agg (.pair (.int .i64) (.pair (.slice (.agg (.pair (.int .i64) (.int .i64)))) (.slice (.int .i64))))), .dat (.int .i64)], boxes := [], ins := (.pair (.agg (.pair (.int .i64) (.pair (.slice (.agg (.pair (.int .i64) (.int .i64)))) (.slice (.int .i64))))) (.int .i64)), nin := 2, outs := .bool, rs := [.dat .bool], nout := 1, F := fun x => F_ref11_segment x.1 x.2 }
def hint_F_ref11_segment : Hint := (.mk .plain [H0, (.mk .plain [H0, (.mk .plain [(.mk .plain [H0, (.mk .plain [(.mk (.loop [⟨.slot 5, (.int .i64), none⟩] [(0, 30), (0, 36), (0, 42), (0, 4), (0, 39), (0, 45), (0, 48), (0, 28), (0, 31), (0, 40), (0, 37), (0, 43), (0, 46), (0, 49), (0, 29), (0, 35), (0, 32), (0, 38), (0, 41), (0, 47), (0, 44), (0, 34), (0, 33)] [(.ret, [⟨.slot 4, .bool, none⟩]), (.exit 0, [])]) [])])])])])])
theorem run_F_ref11_segment : runE ⟨tdGet tys, [con_F_ref10_May]⟩ con_F_ref11_segment Try.f70 hint_F_ref11_segment = con_F_ref11_segment.F := by
  funext x
  kernel_rfl
theorem ok_F_ref11_segment : ConOK Try.prog con_F_ref11_segment :=
  con_of_run (Γ := ⟨tdGet tys, [con_F_ref10_May]⟩) ⟨fun T d h => tysB_ok tys tys_ok T d h, by simp [ok_F_ref10_May]⟩ (by kernel_rfl) Try.func70 rfl (by kernel_rfl) run_F_ref11_segment
/-- odograph/odographref11.Check -/
noncomputable def F_ref11_Check (t_1 : ((List (Int × ((List (Int × Int)) × (List Int)))) × (List (Int × (Int × (Int × (Int × Int))))))) : Option (Int × Int) :=
  let t11_2 : Bool := (decide ((t_1.1.length : Int) < (1 : Int)))
  let t16_3 : Bool := (decide ((200 : Int) < (t_1.1.length : Int)))
  let t17_4 : Bool := (bif t11_2 then true else t16_3)
  let t22_5 : Bool := (decide ((400 : Int) < (t_1.2.length : Int)))
  let t23_6 : Bool := (bif t17_4 then true else t22_5)
  (bif t23_6 then
    some ((13 : Int), (0 : Int))
  else
    Option.bind (α := (Int × Int) ⊕ Unit) (
      loopO (X := (Int × Int) ⊕ Unit) (fun (s_7 : Int) =>
        let t28_8 : Bool := (decide (s_7 < (t_1.1.length : Int)))
        (bif t28_8 then
          chk none ((decide ((0 : Int) ≤ s_7)) && (decide (s_7 < (t_1.1.length : Int)))) <|
          let t35_9 : (Int × ((List (Int × Int)) × (List Int))) := (t_1.1.getD s_7.toNat ((0 : Int), ([], [])))
          (F_ref11_segment t35_9 (t_1.1.length : Int)).bind fun t39_10 =>
          (bif (!t39_10) then
            some (.inr (.inl (s_7, (11 : Int))))
          else
            let t30_11 : Int := (IntKind.wrap .i64 (s_7 + (1 : Int)))
            some (.inl t30_11))
        else
          some (.inr (.inr ())))) (0 : Int)) fun z => match z with
    | .inl r_12 =>
      let t3_13 : Int := r_12.1
      let t2_14 : Int := r_12.2
      some (t2_14, t3_13)
    | .inr _ =>
      Option.bind (α := (Int × Int) ⊕ Unit) (
        loopO (X := (Int × Int) ⊕ Unit) (fun (s_15 : (Int × Int)) =>
          let last_16 : Int := s_15.1
          let i_17 : Int := s_15.2
          let t46_18 : Bool := (decide (i_17 < (t_1.2.length : Int)))
          (bif t46_18 then
            chk none ((decide ((0 : Int) ≤ i_17)) && (decide (i_17 < (t_1.2.length : Int)))) <|
            let t53_19 : (Int × (Int × (Int × (Int × Int)))) := (t_1.2.getD i_17.toNat ((0 : Int), ((0 : Int), ((0 : Int), ((0 : Int), (0 : Int))))))
            let t57_20 : Bool := (decide (t53_19.1 ≤ last_16))
            let t61_21 : Bool := (decide ((65535 : Int) < t53_19.1))
            let t62_22 : Bool := (bif t57_20 then true else t61_21)
            let t66_23 : Bool := (decide (t53_19.2.1 < (0 : Int)))
            let t67_24 : Bool := (bif t62_22 then true else t66_23)
            let t74_25 : Bool := (decide ((t_1.1.length : Int) ≤ t53_19.2.1))
            let t75_26 : Bool := (bif t67_24 then true else t74_25)
            (bif t75_26 then
              some (.inr (.inl ((16 : Int), i_17)))
            else
              let t79_27 : Bool := (decide (t53_19.2.2.1 < (0 : Int)))
              chk none (((decide ((0 : Int) ≤ t53_19.2.1)) && (decide (t53_19.2.1 < (t_1.1.length : Int)))) || !(!t79_27)) <|
              let e_28 : (Int × ((List (Int × Int)) × (List Int))) := (t_1.1.getD t53_19.2.1.toNat ((0 : Int), ([], [])))
              let t90_29 : Bool := (decide (e_28.1 < t53_19.2.2.1))
              let t91_30 : Bool := (bif t79_27 then true else t90_29)
              let t95_31 : Bool := (decide (t53_19.2.2.2.1 < (0 : Int)))
              let t96_32 : Bool := (bif t91_30 then true else t95_31)
              let t100_33 : Bool := (decide ((1048576 : Int) < t53_19.2.2.2.1))
              let t101_34 : Bool := (bif t96_32 then true else t100_33)
              let t105_35 : Bool := (decide (t53_19.2.2.2.2 < (0 : Int)))
              let t106_36 : Bool := (bif t101_34 then true else t105_35)
              let t110_37 : Bool := (decide ((16777216 : Int) < t53_19.2.2.2.2))
              let t111_38 : Bool := (bif t106_36 then true else t110_37)
              (bif t111_38 then
                some (.inr (.inl ((16 : Int), i_17)))
              else
                let t48_39 : Int := (IntKind.wrap .i64 (i_17 + (1 : Int)))
                some (.inl (t53_19.1, t48_39))))
          else
            some (.inr (.inr ())))) ((0 : Int), (0 : Int))) fun z => match z with
      | .inl r_40 =>
        let t2_41 : Int := r_40.1
        let t3_42 : Int := r_40.2
        some (t2_41, t3_42)
      | .inr _ =>
        some ((0 : Int), (0 : Int)))
noncomputable def con_F_ref11_Check : Con := { f := 36, ps := [.dat (.agg (.pair (.slice (.agg (.pair (.int .i64) (.pair (.slice (.agg (.pair (.int .i64) (.int .i64)))) (.slice (.int .i64)))))) (.slice (.agg (.pair (.int .i64) (.pair (.int .i64) (.pair (.int .i64) (.pair (.int .i64) (.int .i64)))))))))], boxes := [], ins := (.agg (.pair (.slice (.agg (.pair (.int .i64) (.pair (.slice (.agg (.pair (.int .i64) (.int .i64)))) (.slice (.int .i64)))))) (.slice (.agg (.pair (.int .i64) (.pair (.int .i64) (.pair (.int .i64) (.pair (.int .i64) (.int .i64))))))))), nin := 1, outs := (.pair (.int .i64) (.int .i64)), rs := [.dat (.int .i64), .dat (.int .i64)], nout := 2, F := fun x => F_ref11_Check x }
def hint_F_ref11_Check : Hint := (.mk .plain [H0, (.mk .plain [H0, (.mk .plain [(.mk .plain [H0, (.mk .plain [(.mk (.loop [⟨.slot 4, (.int .i64), none⟩] [(0, 36), (0, 26), (0, 39), (0, 35), (0, 3), (0, 32), (0, 38), (0, 28), (0, 41), (0, 2), (0, 31), (0, 25), (0, 34), (0, 40), (0, 24), (0, 37), (0, 27), (0, 33), (0, 30), (0, 29)] [(.ret, [⟨.slot 3, (.int .i64), none⟩, ⟨.slot 2, (.int .i64), none⟩]), (.exit 0, [])]) [])])]), (.mk .plain [H0, (.mk .plain [(.mk .plain [H0, (.mk .plain [(.mk (.loop [⟨.slot 5, (.int .i64), none⟩, ⟨.slot 6, (.int .i64), none⟩] [(0, 42), (0, 45), (0, 54), (0, 51), (0, 57), (0, 2), (0, 60), (0, 66), (0, 63), (0, 69), (0, 72), (0, 75), (0, 44), (0, 50), (0, 53), (0, 59), (0, 56), (0, 62), (0, 68), (0, 7), (0, 65), (0, 71), (0, 74), (0, 43), (0, 46), (0, 52), (0, 49), (0, 55), (0, 61), (0, 58), (0, 64), (0, 3), (0, 67), (0, 73), (0, 70), (0, 76), (0, 91), (0, 100), (0, 109), (0, 78), (0, 87), (0, 84), (0, 93), (0, 102), (0, 111), (0, 108), (0, 80), (0, 77), (0, 86), (0, 95), (0, 104), (0, 101), (0, 110), (0, 79), (0, 88), (0, 97), (0, 94), (0, 106), (0, 103), (0, 112), (0, 81), (0, 90), (0, 99), (0, 96), (0, 105), (0, 83), (0, 92), (0, 89), (0, 98), (0, 107), (0, 85), (0, 82), (0, 47), (0, 113), (0, 48), (0, 114)] [(.ret, [⟨.slot 2, (.int .i64), none⟩, ⟨.slot 3, (.int .i64), none⟩]), (.exit 2, [])]) [])])])])])])])])
theorem run_F_ref11_Check : runE ⟨tdGet tys, [con_F_ref11_segment]⟩ con_F_ref11_Check Try.f36 hint_F_ref11_Check = con_F_ref11_Check.F := by
  funext x
  kernel_rfl
theorem ok_F_ref11_Check : ConOK Try.prog con_F_ref11_Check :=
  con_of_run (Γ := ⟨tdGet tys, [con_F_ref11_segment]⟩) ⟨fun T d h => tysB_ok tys tys_ok T d h, by simp [ok_F_ref11_segment]⟩ (by kernel_rfl) Try.func36 rfl (by kernel_rfl) run_F_ref11_Check
/-- odograph/odographlaw11.TrackChecks -/
noncomputable def F_law11_TrackChecks (t_1 : ((List (Int × ((List (Int × Int)) × (List Int)))) × (List (Int × (Int × (Int × (Int × Int))))))) : Option Bool :=
  (F_law11_anchor ()).bind fun t7_2 =>
  (bif (!t7_2) then
    some false
  else
    (F_law11_great t_1).bind fun t10_3 =>
    (bif t10_3 then
      some true
    else
      (F_track_Track_Check t_1).bind fun t13_4 =>
      (F_law11_refs t_1).bind fun t18_5 =>
      (F_ref11_Check t18_5).bind fun t19_6 =>
      let t29_7 : Bool := (bif (t13_4.1 == t19_6.1) then (t13_4.2 == t19_6.2) else false)
      some t29_7))
noncomputable def con_F_law11_TrackChecks : Con := { f := 10, ps := [.dat (.agg (.pair (.slice (.agg (.pair (.int .i64) (.pair (.slice (.agg (.pair (.int .i64) (.int .i64)))) (.slice (.int .i64)))))) (.slice (.agg (.pair (.int .i64) (.pair (.int .i64) (.pair (.int .i64) (.pair (.int .i64) (.int .i64)))))))))], boxes := [], ins := (.agg (.pair (.slice (.agg (.pair (.int .i64) (.pair (.slice (.agg (.pair (.int .i64) (.int .i64)))) (.slice (.int .i64)))))) (.slice (.agg (.pair (.int .i64) (.pair (.int .i64) (.pair (.int .i64) (.pair (.int .i64) (.int .i64))))))))), nin := 1, outs := .bool, rs := [.dat .bool], nout := 1, F := fun x => F_law11_TrackChecks x }
def hint_F_law11_TrackChecks : Hint := H0
theorem run_F_law11_TrackChecks : runE ⟨tdGet tys, [con_F_law11_anchor, con_F_law11_great, con_F_track_Track_Check, con_F_law11_refs, con_F_ref11_Check]⟩ con_F_law11_TrackChecks Try.f10 hint_F_law11_TrackChecks = con_F_law11_TrackChecks.F := by
  funext x
  kernel_rfl
theorem ok_F_law11_TrackChecks : ConOK Try.prog con_F_law11_TrackChecks :=
  con_of_run (Γ := ⟨tdGet tys, [con_F_law11_anchor, con_F_law11_great, con_F_track_Track_Check, con_F_law11_refs, con_F_ref11_Check]⟩) ⟨fun T d h => tysB_ok tys tys_ok T d h, by simp [ok_F_law11_anchor, ok_F_law11_great, ok_F_track_Track_Check, ok_F_law11_refs, ok_F_ref11_Check]⟩ (by kernel_rfl) Try.func10 rfl (by kernel_rfl) run_F_law11_TrackChecks
/-- odograph/odographlaw11.TrackFinds -/
noncomputable def F_law11_TrackFinds (t_1 : ((List (Int × ((List (Int × Int)) × (List Int)))) × (List (Int × (Int × (Int × (Int × Int))))))) (id_2 : Int) : Option Bool :=
  (F_law11_anchor ()).bind fun t13_3 =>
  (bif (!t13_3) then
    some false
  else
    (F_law11_great t_1).bind fun t16_4 =>
    (bif t16_4 then
      some true
    else
      (F_law11_refs t_1).bind fun t19_5 =>
      (F_ref11_Check t19_5).bind fun t20_6 =>
      (bif (t20_6.1 != (0 : Int)) then
        some true
      else
        (F_track_Track_Find t_1 id_2).bind fun t28_7 =>
        Option.bind (
          loopO (X := (Bool × Int)) (fun (s_8 : (Bool × (Int × Int))) =>
            let is_9 : Bool := s_8.1
            let t34_10 : Int := s_8.2.1
            let n_11 : Int := s_8.2.2
            let t35_12 : Bool := (decide (t34_10 < (t_1.2.length : Int)))
            (bif t35_12 then
              chk none ((decide ((0 : Int) ≤ t34_10)) && (decide (t34_10 < (t_1.2.length : Int)))) <|
              let t37_13 : (Int × (Int × (Int × (Int × Int)))) := (t_1.2.getD t34_10.toNat ((0 : Int), ((0 : Int), ((0 : Int), ((0 : Int), (0 : Int))))))
              let t41_14 : Bool := (decide (t37_13.1 < id_2))
              Option.bind (
                (bif t41_14 then
                  let t43_15 : Int := (IntKind.wrap .i64 (n_11 + (1 : Int)))
                  some t43_15
                else
                  some n_11)) fun r_16 =>
              let t50_17 : Bool := (bif is_9 then true else (t37_13.1 == id_2))
              let t51_18 : Int := (IntKind.wrap .i64 (t34_10 + (1 : Int)))
              some (.inl (t50_17, t51_18, r_16))
            else
              some (.inr (is_9, n_11)))) (false, (0 : Int), (0 : Int))) fun r_19 =>
        let is_20 : Bool := r_19.1
        let n_21 : Int := r_19.2
        let t59_22 : Bool := (bif (t28_7.1 == n_21) then (t28_7.2 == is_20) else false)
        some t59_22)))
noncomputable def con_F_law11_TrackFinds : Con := { f := 11, ps := [.dat (.agg (.pair (.slice (.agg (.pair (.int .i64) (.pair (.slice (.agg (.pair (.int .i64) (.int .i64)))) (.slice (.int .i64)))))) (.slice (.agg (.pair (.int .i64) (.pair (.int .i64) (.pair (.int .i64) (.pair (.int .i64) (.int .i64))))))))), .dat (.int .i64)], boxes := [], ins := (.pair (.agg (.pair (.slice (.agg (.pair (.int .i64) (.pair (.slice (.agg (.pair (.int .i64) (.int .i64)))) (.slice (.int .i64)))))) (.slice (.agg (.pair (.int .i64) (.pair (.int .i64) (.pair (.int .i64) (.pair (.int .i64) (.int .i64))))))))) (.int .i64)), nin := 2, outs := .bool, rs := [.dat .bool], nout := 1, F := fun x => F_law11_TrackFinds x.1 x.2 }
def hint_F_law11_TrackFinds : Hint := (.mk .plain [H0, (.mk .plain [H0, (.mk .plain [H0, (.mk .plain [H0, (.mk .plain [H0, (.mk .plain [H0, (.mk .plain [(.mk .plain [H0, (.mk .plain [(.mk (.loop [⟨.slot 10, .bool, none⟩, ⟨.slot 34, (.int .i64), none⟩, ⟨.slot 9, (.int .i64), none⟩] [(0, 36), (0, 42), (0, 39), (0, 45), (0, 48), (0, 51), (0, 40), (0, 37), (0, 43), (0, 46), (0, 49), (0, 35), (0, 38), (0, 41), (0, 47), (0, 12), (0, 44), (0, 50)] [(.exit 0, [⟨.slot 10, .bool, none⟩, ⟨.slot 9, (.int .i64), none⟩])]) [(.mk .plain [H0, (.mk .plain [H0, (.mk .plain [(.mk .plain [(.mk .plain [H0, (.mk .plain [(.mk .plain [H0, (.mk (.join [(0, 42), (0, 43)] [(.normal, [⟨.slot 9, (.int .i64), none⟩])]) [])])])])])])])])])])])])])])])])])])
theorem run_F_law11_TrackFinds : runE ⟨tdGet tys, [con_F_law11_anchor, con_F_law11_great, con_F_law11_refs, con_F_ref11_Check, con_F_track_Track_Find]⟩ con_F_law11_TrackFinds Try.f11 hint_F_law11_TrackFinds = con_F_law11_TrackFinds.F := by
  funext x
  kernel_rfl
theorem ok_F_law11_TrackFinds : ConOK Try.prog con_F_law11_TrackFinds :=
  con_of_run (Γ := ⟨tdGet tys, [con_F_law11_anchor, con_F_law11_great, con_F_law11_refs, con_F_ref11_Check, con_F_track_Track_Find]⟩) ⟨fun T d h => tysB_ok tys tys_ok T d h, by simp [ok_F_law11_anchor, ok_F_law11_great, ok_F_law11_refs, ok_F_ref11_Check, ok_F_track_Track_Find]⟩ (by kernel_rfl) Try.func11 rfl (by kernel_rfl) run_F_law11_TrackFinds
/-- odograph/odographlaw11.TrackLess -/
noncomputable def F_law11_TrackLess (t_1 : ((List (Int × ((List (Int × Int)) × (List Int)))) × (List (Int × (Int × (Int × (Int × Int))))))) : Option Bool :=
  (F_law11_anchor ()).bind fun t8_2 =>
  (bif (!t8_2) then
    some false
  else
    (F_law11_great t_1).bind fun t11_3 =>
    let t16_4 : Bool := ((t_1.2.length : Int) == (0 : Int))
    let t17_5 : Bool := (bif t11_3 then true else t16_4)
    (bif t17_5 then
      some true
    else
      (F_track_Track_Check t_1).bind fun t20_6 =>
      let t30_7 : Int := (IntKind.wrap .i64 ((t_1.2.length : Int) - (1 : Int)))
      chk none (true && (decide ((0 : Int) ≤ t30_7)) && (decide (t30_7 ≤ (t_1.2.length : Int)))) <|
      let t31_8 : (List (Int × (Int × (Int × (Int × Int))))) := ((t_1.2.take t30_7.toNat).drop (0 : Int).toNat)
      let w_9 : ((List (Int × ((List (Int × Int)) × (List Int)))) × (List (Int × (Int × (Int × (Int × Int)))))) := (t_1.1, t31_8)
      (F_track_Track_Check w_9).bind fun t35_10 =>
      let t46_11 : Bool := (bif (t35_10.1 == (0 : Int)) then (t35_10.2 == (0 : Int)) else false)
      let t47_12 : Bool := (bif (t20_6.1 != (0 : Int)) then true else t46_11)
      some t47_12))
noncomputable def con_F_law11_TrackLess : Con := { f := 12, ps := [.dat (.agg (.pair (.slice (.agg (.pair (.int .i64) (.pair (.slice (.agg (.pair (.int .i64) (.int .i64)))) (.slice (.int .i64)))))) (.slice (.agg (.pair (.int .i64) (.pair (.int .i64) (.pair (.int .i64) (.pair (.int .i64) (.int .i64)))))))))], boxes := [], ins := (.agg (.pair (.slice (.agg (.pair (.int .i64) (.pair (.slice (.agg (.pair (.int .i64) (.int .i64)))) (.slice (.int .i64)))))) (.slice (.agg (.pair (.int .i64) (.pair (.int .i64) (.pair (.int .i64) (.pair (.int .i64) (.int .i64))))))))), nin := 1, outs := .bool, rs := [.dat .bool], nout := 1, F := fun x => F_law11_TrackLess x }
def hint_F_law11_TrackLess : Hint := H0
theorem run_F_law11_TrackLess : runE ⟨tdGet tys, [con_F_law11_anchor, con_F_law11_great, con_F_track_Track_Check]⟩ con_F_law11_TrackLess Try.f12 hint_F_law11_TrackLess = con_F_law11_TrackLess.F := by
  funext x
  kernel_rfl
theorem ok_F_law11_TrackLess : ConOK Try.prog con_F_law11_TrackLess :=
  con_of_run (Γ := ⟨tdGet tys, [con_F_law11_anchor, con_F_law11_great, con_F_track_Track_Check]⟩) ⟨fun T d h => tysB_ok tys tys_ok T d h, by simp [ok_F_law11_anchor, ok_F_law11_great, ok_F_track_Track_Check]⟩ (by kernel_rfl) Try.func12 rfl (by kernel_rfl) run_F_law11_TrackLess
/-- odograph/spot.Find$1 -/
noncomputable def F_spot_Find_1 (s_1 : (Int × (Int × Int))) (n_2 : Int) : Option Int :=
  (F_cmp_Compare_int s_1.1 n_2).bind fun t8_3 =>
  some t8_3
noncomputable def con_F_spot_Find_1 : Con := { f := 82, ps := [.dat (.agg (.pair (.int .i64) (.pair (.int .i64) (.int .i64)))), .dat (.int .i64)], boxes := [], ins := (.pair (.agg (.pair (.int .i64) (.pair (.int .i64) (.int .i64)))) (.int .i64)), nin := 2, outs := (.int .i64), rs := [.dat (.int .i64)], nout := 1, F := fun x => F_spot_Find_1 x.1 x.2 }
def hint_F_spot_Find_1 : Hint := H0
theorem run_F_spot_Find_1 : runE ⟨tdGet tys, [con_F_cmp_Compare_int]⟩ con_F_spot_Find_1 Try.f82 hint_F_spot_Find_1 = con_F_spot_Find_1.F := by
  funext x
  kernel_rfl
theorem ok_F_spot_Find_1 : ConOK Try.prog con_F_spot_Find_1 :=
  con_of_run (Γ := ⟨tdGet tys, [con_F_cmp_Compare_int]⟩) ⟨fun T d h => tysB_ok tys tys_ok T d h, by simp [ok_F_cmp_Compare_int]⟩ (by kernel_rfl) Try.func82 rfl (by kernel_rfl) run_F_spot_Find_1
/-- slices.BinarySearchFunc[[]odograph/spot.Spot,odograph/spot.Spot,int] -/
noncomputable def F_slices_BinarySearchFunc_spot_Spot_spot_Spot_int (x_1 : (List (Int × (Int × Int)))) (target_2 : Int) : Option (Int × Bool) :=
  Option.bind (
    loopO (X := Int) (fun (s_3 : (Int × Int)) =>
      let j_4 : Int := s_3.1
      let i_5 : Int := s_3.2
      (bif (decide (i_5 < j_4)) then
        let t20_6 : Int := (IntKind.wrap .i64 (i_5 + j_4))
        let t21_7 : Int := (IntKind.wrap .u64 t20_6)
        let t23_8 : Int := (IntKind.wrap .i64 (t21_7.fdiv (2 ^ 1)))
        chk none ((decide ((0 : Int) ≤ t23_8)) && (decide (t23_8 < (x_1.length : Int)))) <|
        let t28_9 : (Int × (Int × Int)) := (x_1.getD t23_8.toNat ((0 : Int), ((0 : Int), (0 : Int))))
        (F_spot_Find_1 t28_9 target_2).bind fun t30_10 =>
        let t31_11 : Bool := (decide (t30_10 < (0 : Int)))
        Option.bind (
          (bif t31_11 then
            let t33_12 : Int := (IntKind.wrap .i64 (t23_8 + (1 : Int)))
            some (t33_12, j_4)
          else
            some (i_5, t23_8))) fun r_13 =>
        let i_14 : Int := r_13.1
        let j_15 : Int := r_13.2
        some (.inl (j_15, i_14))
      else
        some (.inr i_5))) ((x_1.length : Int), (0 : Int))) fun r_16 =>
  let t38_17 : Bool := (decide (r_16 < (x_1.length : Int)))
  chk none (((decide ((0 : Int) ≤ r_16)) && (decide (r_16 < (x_1.length : Int)))) || !t38_17) <|
  let t44_18 : (Int × (Int × Int)) := (x_1.getD r_16.toNat ((0 : Int), ((0 : Int), (0 : Int))))
  (bif t38_17 then F_spot_Find_1 t44_18 target_2 else some (0 : Int)).bind fun t46_19 =>
  let t48_20 : Bool := (bif t38_17 then (t46_19 == (0 : Int)) else false)
  some (r_16, t48_20)
noncomputable def con_F_slices_BinarySearchFunc_spot_Spot_spot_Spot_int : Con := { f := 81, ps := [.dat (.slice (.agg (.pair (.int .i64) (.pair (.int .i64) (.int .i64))))), .dat (.int .i64), .clo 82 [] []], boxes := [], ins := (.pair (.slice (.agg (.pair (.int .i64) (.pair (.int .i64) (.int .i64))))) (.int .i64)), nin := 2, outs := (.pair (.int .i64) .bool), rs := [.dat (.int .i64), .dat .bool], nout := 2, F := fun x => F_slices_BinarySearchFunc_spot_Spot_spot_Spot_int x.1 x.2 }
def hint_F_slices_BinarySearchFunc_spot_Spot_spot_Spot_int : Hint := (.mk .plain [H0, (.mk .plain [H0, (.mk .plain [H0, (.mk .plain [(.mk .plain [(.mk (.loop [⟨.slot 10, (.int .i64), none⟩, ⟨.slot 9, (.int .i64), none⟩] [(0, 30), (0, 16), (0, 19), (0, 22), (0, 28), (0, 25), (0, 31), (0, 34), (0, 11), (0, 17), (0, 23), (0, 20), (0, 26), (0, 29), (0, 32), (0, 15), (0, 21), (0, 18), (0, 24), (0, 27), (0, 33)] [(.exit 0, [⟨.slot 9, (.int .i64), none⟩])]) [(.mk .plain [H0, (.mk .plain [(.mk .plain [H0, (.mk .plain [H0, (.mk (.join [(0, 32), (0, 33), (0, 34)] [(.normal, [⟨.slot 9, (.int .i64), none⟩, ⟨.slot 10, (.int .i64), none⟩])]) [])])])])])])])])])])])
theorem run_F_slices_BinarySearchFunc_spot_Spot_spot_Spot_int : runE ⟨tdGet tys, [con_F_spot_Find_1]⟩ con_F_slices_BinarySearchFunc_spot_Spot_spot_Spot_int Try.f81 hint_F_slices_BinarySearchFunc_spot_Spot_spot_Spot_int = con_F_slices_BinarySearchFunc_spot_Spot_spot_Spot_int.F := by
  funext x
  kernel_rfl
theorem ok_F_slices_BinarySearchFunc_spot_Spot_spot_Spot_int : ConOK Try.prog con_F_slices_BinarySearchFunc_spot_Spot_spot_Spot_int :=
  con_of_run (Γ := ⟨tdGet tys, [con_F_spot_Find_1]⟩) ⟨fun T d h => tysB_ok tys tys_ok T d h, by simp [ok_F_spot_Find_1]⟩ (by kernel_rfl) Try.func81 rfl (by kernel_rfl) run_F_slices_BinarySearchFunc_spot_Spot_spot_Spot_int
/-- odograph/spot.Find -/
noncomputable def F_spot_Find (l_1 : (List (Int × (Int × Int)))) (segment_2 : Int) : Option ((Int × (Int × Int)) × Bool) :=
  (F_slices_BinarySearchFunc_spot_Spot_spot_Spot_int l_1 segment_2).bind fun t11_3 =>
  (bif (!t11_3.2) then
    let t16_4 : (Int × (Int × Int)) := ((0 : Int), ((0 : Int), (0 : Int)))
    some (t16_4, false)
  else
    chk none ((decide ((0 : Int) ≤ t11_3.1)) && (decide (t11_3.1 < (l_1.length : Int)))) <|
    let t20_5 : (Int × (Int × Int)) := (l_1.getD t11_3.1.toNat ((0 : Int), ((0 : Int), (0 : Int))))
    some (t20_5, true))
noncomputable def con_F_spot_Find : Con := { f := 74, ps := [.dat (.slice (.agg (.pair (.int .i64) (.pair (.int .i64) (.int .i64))))), .dat (.int .i64)], boxes := [], ins := (.pair (.slice (.agg (.pair (.int .i64) (.pair (.int .i64) (.int .i64))))) (.int .i64)), nin := 2, outs := (.pair (.agg (.pair (.int .i64) (.pair (.int .i64) (.int .i64)))) .bool), rs := [.dat (.agg (.pair (.int .i64) (.pair (.int .i64) (.int .i64)))), .dat .bool], nout := 2, F := fun x => F_spot_Find x.1 x.2 }
def hint_F_spot_Find : Hint := H0
theorem run_F_spot_Find : runE ⟨tdGet tys, [con_F_slices_BinarySearchFunc_spot_Spot_spot_Spot_int]⟩ con_F_spot_Find Try.f74 hint_F_spot_Find = con_F_spot_Find.F := by
  funext x
  kernel_rfl
theorem ok_F_spot_Find : ConOK Try.prog con_F_spot_Find :=
  con_of_run (Γ := ⟨tdGet tys, [con_F_slices_BinarySearchFunc_spot_Spot_spot_Spot_int]⟩) ⟨fun T d h => tysB_ok tys tys_ok T d h, by simp [ok_F_slices_BinarySearchFunc_spot_Spot_spot_Spot_int]⟩ (by kernel_rfl) Try.func74 rfl (by kernel_rfl) run_F_spot_Find
/-- odograph/num.Sub -/
noncomputable def F_num_Sub (a_1 : Int) (b_2 : Int) : Option (Int × Bool) :=
  let t9_3 : Int := (IntKind.wrap .i64 (a_1 - b_2))
  let t11_4 : Bool := (decide ((0 : Int) ≤ a_1))
  let t13_5 : Bool := (decide ((0 : Int) ≤ b_2))
  let t17_6 : Bool := (decide ((0 : Int) ≤ t9_3))
  let t19_7 : Bool := (decide ((0 : Int) ≤ a_1))
  let t21_8 : Bool := (bif (!(t11_4 == t13_5)) then (!(t17_6 == t19_7)) else false)
  (bif t21_8 then
    some ((0 : Int), false)
  else
    some (t9_3, true))
noncomputable def con_F_num_Sub : Con := { f := 83, ps := [.dat (.int .i64), .dat (.int .i64)], boxes := [], ins := (.pair (.int .i64) (.int .i64)), nin := 2, outs := (.pair (.int .i64) .bool), rs := [.dat (.int .i64), .dat .bool], nout := 2, F := fun x => F_num_Sub x.1 x.2 }
def hint_F_num_Sub : Hint := H0
theorem run_F_num_Sub : runE ⟨tdGet tys, []⟩ con_F_num_Sub Try.f83 hint_F_num_Sub = con_F_num_Sub.F := by
  funext x
  kernel_rfl
theorem ok_F_num_Sub : ConOK Try.prog con_F_num_Sub :=
  con_of_run (Γ := ⟨tdGet tys, []⟩) ⟨fun T d h => tysB_ok tys tys_ok T d h, by simp []⟩ (by kernel_rfl) Try.func83 rfl (by kernel_rfl) run_F_num_Sub
/-- odograph/num.nearest -/
noncomputable def F_num_nearest (n_1 : Int) (ok_2 : Bool) (below_3 : Bool) : Option Int :=
  (bif ok_2 then
    some n_1
  else
    (bif below_3 then
      some (-9223372036854775808 : Int)
    else
      some (9223372036854775807 : Int)))
noncomputable def con_F_num_nearest : Con := { f := 84, ps := [.dat (.int .i64), .dat .bool, .dat .bool], boxes := [], ins := (.pair (.int .i64) (.pair .bool .bool)), nin := 3, outs := (.int .i64), rs := [.dat (.int .i64)], nout := 1, F := fun x => F_num_nearest x.1 x.2.1 x.2.2 }
def hint_F_num_nearest : Hint := H0
theorem run_F_num_nearest : runE ⟨tdGet tys, []⟩ con_F_num_nearest Try.f84 hint_F_num_nearest = con_F_num_nearest.F := by
  funext x
  kernel_rfl
theorem ok_F_num_nearest : ConOK Try.prog con_F_num_nearest :=
  con_of_run (Γ := ⟨tdGet tys, []⟩) ⟨fun T d h => tysB_ok tys tys_ok T d h, by simp []⟩ (by kernel_rfl) Try.func84 rfl (by kernel_rfl) run_F_num_nearest
/-- odograph/num.SubSat -/
noncomputable def F_num_SubSat (a_1 : Int) (b_2 : Int) : Option Int :=
  (F_num_Sub a_1 b_2).bind fun t10_3 =>
  let t16_4 : Bool := (decide (a_1 < (0 : Int)))
  (F_num_nearest t10_3.1 t10_3.2 t16_4).bind fun t17_5 =>
  some t17_5
noncomputable def con_F_num_SubSat : Con := { f := 75, ps := [.dat (.int .i64), .dat (.int .i64)], boxes := [], ins := (.pair (.int .i64) (.int .i64)), nin := 2, outs := (.int .i64), rs := [.dat (.int .i64)], nout := 1, F := fun x => F_num_SubSat x.1 x.2 }
def hint_F_num_SubSat : Hint := H0
theorem run_F_num_SubSat : runE ⟨tdGet tys, [con_F_num_Sub, con_F_num_nearest]⟩ con_F_num_SubSat Try.f75 hint_F_num_SubSat = con_F_num_SubSat.F := by
  funext x
  kernel_rfl
theorem ok_F_num_SubSat : ConOK Try.prog con_F_num_SubSat :=
  con_of_run (Γ := ⟨tdGet tys, [con_F_num_Sub, con_F_num_nearest]⟩) ⟨fun T d h => tysB_ok tys tys_ok T d h, by simp [ok_F_num_Sub, ok_F_num_nearest]⟩ (by kernel_rfl) Try.func75 rfl (by kernel_rfl) run_F_num_SubSat
/-- odograph/apart.Gap -/
noncomputable def F_apart_Gap (a_1 : (List (Int × (Int × Int)))) (b_2 : (List (Int × (Int × Int)))) : Option (Int × Bool) :=
  Option.bind (
    loopO (X := (Bool × Int)) (fun (s_3 : (Bool × (Int × Int))) =>
      let found_4 : Bool := s_3.1
      let least_5 : Int := s_3.2.1
      let t15_6 : Int := s_3.2.2
      let t16_7 : Bool := (decide (t15_6 < (a_1.length : Int)))
      (bif t16_7 then
        Option.bind (
          chk none ((decide ((0 : Int) ≤ t15_6)) && (decide (t15_6 < (a_1.length : Int)))) <|
          let t18_8 : (Int × (Int × Int)) := (a_1.getD t15_6.toNat ((0 : Int), ((0 : Int), (0 : Int))))
          (F_spot_Find b_2 t18_8.1).bind fun t23_9 =>
          (bif (!t23_9.2) then
            some (found_4, least_5)
          else
            (F_num_SubSat t23_9.1.2.1 t18_8.2.2).bind fun t32_10 =>
            (F_num_SubSat t18_8.2.1 t23_9.1.2.2).bind fun t37_11 =>
            let t38_12 : Int := (if (0 : Int) > (if t37_11 > t32_10 then t37_11 else t32_10) then (0 : Int) else (if t37_11 > t32_10 then t37_11 else t32_10))
            let t44_13 : Bool := (decide (t38_12 < least_5))
            let t45_14 : Bool := (bif (!found_4) then true else t44_13)
            Option.bind (
              (bif t45_14 then
                some (true, t38_12)
              else
                some (found_4, least_5))) fun r_15 =>
            let found_16 : Bool := r_15.1
            let least_17 : Int := r_15.2
            some (found_16, least_17))) fun r_18 =>
        let found_19 : Bool := r_18.1
        let least_20 : Int := r_18.2
        let t47_21 : Int := (IntKind.wrap .i64 (t15_6 + (1 : Int)))
        some (.inl (found_19, least_20, t47_21))
      else
        some (.inr (found_4, least_5)))) (false, (0 : Int), (0 : Int))) fun r_22 =>
  let found_23 : Bool := r_22.1
  let least_24 : Int := r_22.2
  some (least_24, found_23)
noncomputable def con_F_apart_Gap : Con := { f := 45, ps := [.dat (.slice (.agg (.pair (.int .i64) (.pair (.int .i64) (.int .i64))))), .dat (.slice (.agg (.pair (.int .i64) (.pair (.int .i64) (.int .i64)))))], boxes := [], ins := (.pair (.slice (.agg (.pair (.int .i64) (.pair (.int .i64) (.int .i64))))) (.slice (.agg (.pair (.int .i64) (.pair (.int .i64) (.int .i64)))))), nin := 2, outs := (.pair (.int .i64) .bool), rs := [.dat (.int .i64), .dat .bool], nout := 2, F := fun x => F_apart_Gap x.1 x.2 }
def hint_F_apart_Gap : Hint := (.mk .plain [H0, (.mk .plain [H0, (.mk .plain [(.mk .plain [H0, (.mk .plain [(.mk (.loop [⟨.slot 7, .bool, none⟩, ⟨.slot 6, (.int .i64), none⟩, ⟨.slot 15, (.int .i64), none⟩] [(0, 30), (0, 36), (0, 42), (0, 39), (0, 45), (0, 11), (0, 17), (0, 23), (0, 20), (0, 26), (0, 29), (0, 35), (0, 32), (0, 38), (0, 41), (0, 47), (0, 44), (0, 10), (0, 16), (0, 19), (0, 22), (0, 28), (0, 25), (0, 31), (0, 34), (0, 40), (0, 37), (0, 43), (0, 46), (0, 9), (0, 12), (0, 21), (0, 18), (0, 24), (0, 27), (0, 33)] [(.exit 0, [⟨.slot 7, .bool, none⟩, ⟨.slot 6, (.int .i64), none⟩])]) [(.mk .plain [H0, (.mk .plain [H0, (.mk .plain [(.mk (.join [(0, 10), (0, 19), (0, 22), (0, 25), (0, 11), (0, 17), (0, 23), (0, 20), (0, 26), (0, 9), (0, 21), (0, 18), (0, 24), (0, 27), (0, 30), (0, 36), (0, 42), (0, 39), (0, 45), (0, 29), (0, 35), (0, 32), (0, 38), (0, 41), (0, 44), (0, 28), (0, 31), (0, 34), (0, 40), (0, 37), (0, 43), (0, 46), (0, 12), (0, 33)] [(.normal, [⟨.slot 7, .bool, none⟩, ⟨.slot 6, (.int .i64), none⟩])]) [(.mk .plain [H0, (.mk .plain [H0, (.mk .plain [H0, (.mk .plain [H0, (.mk .plain [H0, (.mk (.join [(0, 46)] [(.normal, [⟨.slot 7, .bool, none⟩, ⟨.slot 6, (.int .i64), none⟩])]) [])])])])])])])])])])])])])])])])
theorem run_F_apart_Gap : runE ⟨tdGet tys, [con_F_spot_Find, con_F_num_SubSat]⟩ con_F_apart_Gap Try.f45 hint_F_apart_Gap = con_F_apart_Gap.F := by
  funext x
  kernel_rfl
theorem ok_F_apart_Gap : ConOK Try.prog con_F_apart_Gap :=
  con_of_run (Γ := ⟨tdGet tys, [con_F_spot_Find, con_F_num_SubSat]⟩) ⟨fun T d h => tysB_ok tys tys_ok T d h, by simp [ok_F_spot_Find, ok_F_num_SubSat]⟩ (by kernel_rfl) Try.func45 rfl (by kernel_rfl) run_F_apart_Gap
/-- odograph/apart.Shared -/
noncomputable def F_apart_Shared (a_1 : (List (Int × (Int × Int)))) (b_2 : (List (Int × (Int × Int)))) : Option (List (Int × (Int × Int))) :=
  Option.bind (
    loopO (X := (List (Int × (Int × Int)))) (fun (s_3 : ((List (Int × (Int × Int))) × Int)) =>
      let out_4 : (List (Int × (Int × Int))) := s_3.1
      let t14_5 : Int := s_3.2
      let t15_6 : Bool := (decide (t14_5 < (a_1.length : Int)))
      (bif t15_6 then
        chk none ((decide ((0 : Int) ≤ t14_5)) && (decide (t14_5 < (a_1.length : Int)))) <|
        let t17_7 : (Int × (Int × Int)) := (a_1.getD t14_5.toNat ((0 : Int), ((0 : Int), (0 : Int))))
        (F_spot_Find b_2 t17_7.1).bind fun t22_8 =>
        let t29_9 : Int := (if t22_8.1.2.1 > t17_7.2.1 then t22_8.1.2.1 else t17_7.2.1)
        let t34_10 : Int := (if t22_8.1.2.2 < t17_7.2.2 then t22_8.1.2.2 else t17_7.2.2)
        let t39_11 : Bool := (decide (t29_9 ≤ t34_10))
        let t40_12 : Bool := (bif t22_8.2 then t39_11 else false)
        Option.bind (
          (bif t40_12 then
            let t46_13 : (Int × (Int × Int)) := (t17_7.1, (t29_9, t34_10))
            let t47_14 : (List (Int × (Int × Int))) := ([t46_13] : List (Int × (Int × Int)))
            chk none (decide ((out_4.length + t47_14.length) * 24 ≤ 140737488355328)) <|
            let t48_15 : (List (Int × (Int × Int))) := (out_4 ++ t47_14)
            some t48_15
          else
            some out_4)) fun r_16 =>
        let t49_17 : Int := (IntKind.wrap .i64 (t14_5 + (1 : Int)))
        some (.inl (r_16, t49_17))
      else
        some (.inr out_4))) ([], (0 : Int))) fun r_18 =>
  some r_18
noncomputable def con_F_apart_Shared : Con := { f := 41, ps := [.dat (.slice (.agg (.pair (.int .i64) (.pair (.int .i64) (.int .i64))))), .dat (.slice (.agg (.pair (.int .i64) (.pair (.int .i64) (.int .i64)))))], boxes := [], ins := (.pair (.slice (.agg (.pair (.int .i64) (.pair (.int .i64) (.int .i64))))) (.slice (.agg (.pair (.int .i64) (.pair (.int .i64) (.int .i64)))))), nin := 2, outs := (.slice (.agg (.pair (.int .i64) (.pair (.int .i64) (.int .i64))))), rs := [.dat (.slice (.agg (.pair (.int .i64) (.pair (.int .i64) (.int .i64)))))], nout := 1, F := fun x => F_apart_Shared x.1 x.2 }
def hint_F_apart_Shared : Hint := (.mk .plain [H0, (.mk .plain [H0, (.mk .plain [(.mk .plain [H0, (.mk .plain [(.mk (.loop [⟨.slot 5, (.slice (.agg (.pair (.int .i64) (.pair (.int .i64) (.int .i64))))), some 4800084⟩, ⟨.slot 14, (.int .i64), none⟩] [(0, 30), (0, 36), (0, 42), (0, 39), (0, 45), (0, 48), (0, 8), (0, 11), (0, 17), (0, 23), (0, 20), (0, 26), (0, 29), (0, 35), (0, 32), (0, 38), (0, 41), (0, 47), (0, 44), (0, 7), (0, 16), (0, 10), (0, 19), (0, 22), (0, 28), (0, 25), (0, 31), (0, 34), (0, 40), (0, 37), (0, 43), (0, 46), (0, 49), (0, 9), (0, 15), (0, 21), (0, 18), (0, 24), (0, 27), (0, 33)] [(.exit 0, [⟨.slot 5, (.slice (.agg (.pair (.int .i64) (.pair (.int .i64) (.int .i64))))), some 4800084⟩])]) [(.mk .plain [H0, (.mk .plain [H0, (.mk .plain [(.mk .plain [(.mk .plain [H0, (.mk .plain [H0, (.mk .plain [H0, (.mk .plain [H0, (.mk (.join [(0, 46), (0, 42), (0, 45), (0, 48), (0, 41), (0, 47), (0, 44), (0, 43)] [(.normal, [⟨.slot 5, (.slice (.agg (.pair (.int .i64) (.pair (.int .i64) (.int .i64))))), some 4800084⟩])]) [])])])])])])])])])])])])])])])
theorem run_F_apart_Shared : runE ⟨tdGet tys, [con_F_spot_Find]⟩ con_F_apart_Shared Try.f41 hint_F_apart_Shared = con_F_apart_Shared.F := by
  funext x
  kernel_rfl
theorem ok_F_apart_Shared : ConOK Try.prog con_F_apart_Shared :=
  con_of_run (Γ := ⟨tdGet tys, [con_F_spot_Find]⟩) ⟨fun T d h => tysB_ok tys tys_ok T d h, by simp [ok_F_spot_Find]⟩ (by kernel_rfl) Try.func41 rfl (by kernel_rfl) run_F_apart_Shared
/-- odograph/apart.Apart -/
noncomputable def F_apart_Apart (a_1 : (List (Int × (Int × Int)))) (b_2 : (List (Int × (Int × Int)))) : Option Bool :=
  (F_apart_Shared a_1 b_2).bind fun t7_3 =>
  let t9_4 : Bool := ((t7_3.length : Int) == (0 : Int))
  some t9_4
noncomputable def con_F_apart_Apart : Con := { f := 44, ps := [.dat (.slice (.agg (.pair (.int .i64) (.pair (.int .i64) (.int .i64))))), .dat (.slice (.agg (.pair (.int .i64) (.pair (.int .i64) (.int .i64)))))], boxes := [], ins := (.pair (.slice (.agg (.pair (.int .i64) (.pair (.int .i64) (.int .i64))))) (.slice (.agg (.pair (.int .i64) (.pair (.int .i64) (.int .i64)))))), nin := 2, outs := .bool, rs := [.dat .bool], nout := 1, F := fun x => F_apart_Apart x.1 x.2 }
def hint_F_apart_Apart : Hint := H0
theorem run_F_apart_Apart : runE ⟨tdGet tys, [con_F_apart_Shared]⟩ con_F_apart_Apart Try.f44 hint_F_apart_Apart = con_F_apart_Apart.F := by
  funext x
  kernel_rfl
theorem ok_F_apart_Apart : ConOK Try.prog con_F_apart_Apart :=
  con_of_run (Γ := ⟨tdGet tys, [con_F_apart_Shared]⟩) ⟨fun T d h => tysB_ok tys tys_ok T d h, by simp [ok_F_apart_Shared]⟩ (by kernel_rfl) Try.func44 rfl (by kernel_rfl) run_F_apart_Apart
/-- odograph/odographlaw36.anchor -/
noncomputable def F_law36_anchor (_ : Unit) : Option Bool :=
  let t5_1 : (Int × (Int × Int)) := ((3 : Int), ((5 : Int), (9 : Int)))
  let t6_2 : (List (Int × (Int × Int))) := ([t5_1] : List (Int × (Int × Int)))
  let t7_3 : (Int × (Int × Int)) := ((3 : Int), ((12 : Int), (20 : Int)))
  let t8_4 : (List (Int × (Int × Int))) := ([t7_3] : List (Int × (Int × Int)))
  (F_apart_Gap t6_2 t8_4).bind fun t12_5 =>
  (F_apart_Apart t6_2 t8_4).bind fun t17_6 =>
  let t20_7 : Bool := (bif t17_6 then t12_5.2 else false)
  let t24_8 : Bool := (bif t20_7 then (t12_5.1 == (3 : Int)) else false)
  (bif t24_8 then F_apart_Apart t6_2 t6_2 else some false).bind fun t28_9 =>
  let t30_10 : Bool := (bif t24_8 then (!t28_9) else false)
  some t30_10
noncomputable def con_F_law36_anchor : Con := { f := 39, ps := [], boxes := [], ins := .unit, nin := 0, outs := .bool, rs := [.dat .bool], nout := 1, F := fun x => F_law36_anchor () }
def hint_F_law36_anchor : Hint := H0
theorem run_F_law36_anchor : runE ⟨tdGet tys, [con_F_apart_Gap, con_F_apart_Apart]⟩ con_F_law36_anchor Try.f39 hint_F_law36_anchor = con_F_law36_anchor.F := by
  funext x
  kernel_rfl
theorem ok_F_law36_anchor : ConOK Try.prog con_F_law36_anchor :=
  con_of_run (Γ := ⟨tdGet tys, [con_F_apart_Gap, con_F_apart_Apart]⟩) ⟨fun T d h => tysB_ok tys tys_ok T d h, by simp [ok_F_apart_Gap, ok_F_apart_Apart]⟩ (by kernel_rfl) Try.func39 rfl (by kernel_rfl) run_F_law36_anchor
/-- odograph/odographlaw36.may -/
noncomputable def F_law36_may (l_1 : (List (Int × (Int × Int)))) : Option Bool :=
  Option.bind (α := Bool ⊕ Unit) (
    loopO (X := Bool ⊕ Unit) (fun (s_2 : Int) =>
      let t8_3 : Bool := (decide (s_2 < (l_1.length : Int)))
      (bif t8_3 then
        chk none ((decide ((0 : Int) ≤ s_2)) && (decide (s_2 < (l_1.length : Int)))) <|
        let t11_4 : (Int × (Int × Int)) := (l_1.getD s_2.toNat ((0 : Int), ((0 : Int), (0 : Int))))
        let t16_5 : Bool := (decide (t11_4.2.2 < t11_4.2.1))
        let t19_6 : Bool := (decide ((0 : Int) < s_2))
        let t25_7 : Int := (IntKind.wrap .i64 (s_2 - (1 : Int)))
        chk none (((decide ((0 : Int) ≤ t25_7)) && (decide (t25_7 < (l_1.length : Int)))) || !(t19_6 && !t16_5)) <|
        let e_8 : (Int × (Int × Int)) := (l_1.getD t25_7.toNat ((0 : Int), ((0 : Int), (0 : Int))))
        let t29_9 : Bool := (decide (t11_4.1 ≤ e_8.1))
        let t30_10 : Bool := (bif t19_6 then t29_9 else false)
        let t31_11 : Bool := (bif t16_5 then true else t30_10)
        let t35_12 : Bool := (decide (t11_4.2.1 < (-2305843009213693952 : Int)))
        let t36_13 : Bool := (bif t31_11 then true else t35_12)
        let t40_14 : Bool := (decide ((2305843009213693952 : Int) < t11_4.2.2))
        let t41_15 : Bool := (bif t36_13 then true else t40_14)
        (bif t41_15 then
          some (.inr (.inl false))
        else
          let t42_16 : Int := (IntKind.wrap .i64 (s_2 + (1 : Int)))
          some (.inl t42_16))
      else
        some (.inr (.inr ())))) (0 : Int)) fun z => match z with
  | .inl r_17 =>
    some r_17
  | .inr _ =>
    let t45_18 : Bool := (decide ((l_1.length : Int) ≤ (200 : Int)))
    some t45_18
noncomputable def con_F_law36_may : Con := { f := 40, ps := [.dat (.slice (.agg (.pair (.int .i64) (.pair (.int .i64) (.int .i64)))))], boxes := [], ins := (.slice (.agg (.pair (.int .i64) (.pair (.int .i64) (.int .i64))))), nin := 1, outs := .bool, rs := [.dat .bool], nout := 1, F := fun x => F_law36_may x }
def hint_F_law36_may : Hint := (.mk .plain [H0, (.mk .plain [(.mk .plain [H0, (.mk .plain [(.mk (.loop [⟨.slot 7, (.int .i64), none⟩] [(0, 30), (0, 36), (0, 39), (0, 2), (0, 8), (0, 14), (0, 11), (0, 17), (0, 23), (0, 20), (0, 26), (0, 29), (0, 35), (0, 32), (0, 38), (0, 41), (0, 4), (0, 10), (0, 16), (0, 13), (0, 19), (0, 22), (0, 28), (0, 25), (0, 31), (0, 34), (0, 40), (0, 37), (0, 3), (0, 9), (0, 12), (0, 15), (0, 21), (0, 18), (0, 24), (0, 27), (0, 33), (0, 42)] [(.ret, [⟨.slot 2, .bool, none⟩]), (.exit 0, [])]) [])])])])])
theorem run_F_law36_may : runE ⟨tdGet tys, []⟩ con_F_law36_may Try.f40 hint_F_law36_may = con_F_law36_may.F := by
  funext x
  kernel_rfl
theorem ok_F_law36_may : ConOK Try.prog con_F_law36_may :=
  con_of_run (Γ := ⟨tdGet tys, []⟩) ⟨fun T d h => tysB_ok tys tys_ok T d h, by simp []⟩ (by kernel_rfl) Try.func40 rfl (by kernel_rfl) run_F_law36_may
/-- odograph/odographlaw36.refs -/
noncomputable def F_law36_refs (l_1 : (List (Int × (Int × Int)))) : Option (List (Int × (Int × Int))) :=
  Option.bind (
    loopO (X := (List (Int × (Int × Int)))) (fun (s_2 : ((List (Int × (Int × Int))) × Int)) =>
      let out_3 : (List (Int × (Int × Int))) := s_2.1
      let t8_4 : Int := s_2.2
      let t9_5 : Bool := (decide (t8_4 < (l_1.length : Int)))
      (bif t9_5 then
        chk none ((decide ((0 : Int) ≤ t8_4)) && (decide (t8_4 < (l_1.length : Int)))) <|
        let t11_6 : (Int × (Int × Int)) := (l_1.getD t8_4.toNat ((0 : Int), ((0 : Int), (0 : Int))))
        let t14_7 : (List (Int × (Int × Int))) := ([t11_6] : List (Int × (Int × Int)))
        chk none (decide ((out_3.length + t14_7.length) * 24 ≤ 140737488355328)) <|
        let t15_8 : (List (Int × (Int × Int))) := (out_3 ++ t14_7)
        let t16_9 : Int := (IntKind.wrap .i64 (t8_4 + (1 : Int)))
        some (.inl (t15_8, t16_9))
      else
        some (.inr out_3))) ([], (0 : Int))) fun r_10 =>
  some r_10
noncomputable def con_F_law36_refs : Con := { f := 43, ps := [.dat (.slice (.agg (.pair (.int .i64) (.pair (.int .i64) (.int .i64)))))], boxes := [], ins := (.slice (.agg (.pair (.int .i64) (.pair (.int .i64) (.int .i64))))), nin := 1, outs := (.slice (.agg (.pair (.int .i64) (.pair (.int .i64) (.int .i64))))), rs := [.dat (.slice (.agg (.pair (.int .i64) (.pair (.int .i64) (.int .i64)))))], nout := 1, F := fun x => F_law36_refs x }
def hint_F_law36_refs : Hint := (.mk .plain [H0, (.mk .plain [H0, (.mk .plain [(.mk .plain [H0, (.mk .plain [(.mk (.loop [⟨.slot 3, (.slice (.agg (.pair (.int .i64) (.pair (.int .i64) (.int .i64))))), some 1500083⟩, ⟨.slot 8, (.int .i64), none⟩] [(0, 10), (0, 16), (0, 13), (0, 9), (0, 12), (0, 15), (0, 5), (0, 14), (0, 11)] [(.exit 0, [⟨.slot 3, (.slice (.agg (.pair (.int .i64) (.pair (.int .i64) (.int .i64))))), some 1500083⟩])]) [])])])])])])
theorem run_F_law36_refs : runE ⟨tdGet tys, []⟩ con_F_law36_refs Try.f43 hint_F_law36_refs = con_F_law36_refs.F := by
  funext x
  kernel_rfl
theorem ok_F_law36_refs : ConOK Try.prog con_F_law36_refs :=
  con_of_run (Γ := ⟨tdGet tys, []⟩) ⟨fun T d h => tysB_ok tys tys_ok T d h, by simp []⟩ (by kernel_rfl) Try.func43 rfl (by kernel_rfl) run_F_law36_refs
/-- odograph/odographref36.Shared -/
noncomputable def F_ref36_Shared (a_1 : (List (Int × (Int × Int)))) (b_2 : (List (Int × (Int × Int)))) : Option (List (Int × (Int × Int))) :=
  Option.bind (
    loopO (X := (List (Int × (Int × Int)))) (fun (s_3 : (Int × (List (Int × (Int × Int))))) =>
      let i_4 : Int := s_3.1
      let out_5 : (List (Int × (Int × Int))) := s_3.2
      let t11_6 : Bool := (decide (i_4 < (a_1.length : Int)))
      (bif t11_6 then
        Option.bind (
          loopO (X := (List (Int × (Int × Int)))) (fun (s_7 : ((List (Int × (Int × Int))) × Int)) =>
            let out_8 : (List (Int × (Int × Int))) := s_7.1
            let k_9 : Int := s_7.2
            let t17_10 : Bool := (decide (k_9 < (b_2.length : Int)))
            (bif t17_10 then
              chk none ((decide ((0 : Int) ≤ i_4)) && (decide (i_4 < (a_1.length : Int)))) <|
              let e_11 : (Int × (Int × Int)) := (a_1.getD i_4.toNat ((0 : Int), ((0 : Int), (0 : Int))))
              chk none ((decide ((0 : Int) ≤ k_9)) && (decide (k_9 < (b_2.length : Int)))) <|
              let e_12 : (Int × (Int × Int)) := (b_2.getD k_9.toNat ((0 : Int), ((0 : Int), (0 : Int))))
              chk none (((decide ((0 : Int) ≤ i_4)) && (decide (i_4 < (a_1.length : Int)))) || !(e_11.1 == e_12.1)) <|
              let e_13 : (Int × (Int × Int)) := (a_1.getD i_4.toNat ((0 : Int), ((0 : Int), (0 : Int))))
              chk none (((decide ((0 : Int) ≤ k_9)) && (decide (k_9 < (b_2.length : Int)))) || !(e_11.1 == e_12.1)) <|
              let e_14 : (Int × (Int × Int)) := (b_2.getD k_9.toNat ((0 : Int), ((0 : Int), (0 : Int))))
              let t42_15 : Bool := (decide (e_13.2.1 ≤ e_14.2.2))
              let t43_16 : Bool := (bif (e_11.1 == e_12.1) then t42_15 else false)
              chk none (((decide ((0 : Int) ≤ k_9)) && (decide (k_9 < (b_2.length : Int)))) || !t43_16) <|
              let e_17 : (Int × (Int × Int)) := (b_2.getD k_9.toNat ((0 : Int), ((0 : Int), (0 : Int))))
              chk none (((decide ((0 : Int) ≤ i_4)) && (decide (i_4 < (a_1.length : Int)))) || !t43_16) <|
              let e_18 : (Int × (Int × Int)) := (a_1.getD i_4.toNat ((0 : Int), ((0 : Int), (0 : Int))))
              let t55_19 : Bool := (decide (e_17.2.1 ≤ e_18.2.2))
              let t56_20 : Bool := (bif t43_16 then t55_19 else false)
              Option.bind (
                (bif t56_20 then
                  chk none ((decide ((0 : Int) ≤ i_4)) && (decide (i_4 < (a_1.length : Int)))) <|
                  let e_21 : (Int × (Int × Int)) := (a_1.getD i_4.toNat ((0 : Int), ((0 : Int), (0 : Int))))
                  chk none ((decide ((0 : Int) ≤ i_4)) && (decide (i_4 < (a_1.length : Int)))) <|
                  let e_22 : (Int × (Int × Int)) := (a_1.getD i_4.toNat ((0 : Int), ((0 : Int), (0 : Int))))
                  chk none ((decide ((0 : Int) ≤ k_9)) && (decide (k_9 < (b_2.length : Int)))) <|
                  let e_23 : (Int × (Int × Int)) := (b_2.getD k_9.toNat ((0 : Int), ((0 : Int), (0 : Int))))
                  let t73_24 : Int := (if e_23.2.1 > e_22.2.1 then e_23.2.1 else e_22.2.1)
                  chk none ((decide ((0 : Int) ≤ i_4)) && (decide (i_4 < (a_1.length : Int)))) <|
                  let e_25 : (Int × (Int × Int)) := (a_1.getD i_4.toNat ((0 : Int), ((0 : Int), (0 : Int))))
                  chk none ((decide ((0 : Int) ≤ k_9)) && (decide (k_9 < (b_2.length : Int)))) <|
                  let e_26 : (Int × (Int × Int)) := (b_2.getD k_9.toNat ((0 : Int), ((0 : Int), (0 : Int))))
                  let t84_27 : Int := (if e_26.2.2 < e_25.2.2 then e_26.2.2 else e_25.2.2)
                  let t85_28 : (Int × (Int × Int)) := (e_21.1, (t73_24, t84_27))
                  let t86_29 : (List (Int × (Int × Int))) := ([t85_28] : List (Int × (Int × Int)))
                  chk none (decide ((out_8.length + t86_29.length) * 24 ≤ 140737488355328)) <|
                  let t87_30 : (List (Int × (Int × Int))) := (out_8 ++ t86_29)
                  some t87_30
                else
                  some out_8)) fun r_31 =>
              let t19_32 : Int := (IntKind.wrap .i64 (k_9 + (1 : Int)))
              some (.inl (r_31, t19_32))
            else
              some (.inr out_8))) (out_5, (0 : Int))) fun r_33 =>
        let t13_34 : Int := (IntKind.wrap .i64 (i_4 + (1 : Int)))
        some (.inl (t13_34, r_33))
      else
        some (.inr out_5))) ((0 : Int), [])) fun r_35 =>
  some r_35
noncomputable def con_F_ref36_Shared : Con := { f := 42, ps := [.dat (.slice (.agg (.pair (.int .i64) (.pair (.int .i64) (.int .i64))))), .dat (.slice (.agg (.pair (.int .i64) (.pair (.int .i64) (.int .i64)))))], boxes := [], ins := (.pair (.slice (.agg (.pair (.int .i64) (.pair (.int .i64) (.int .i64))))) (.slice (.agg (.pair (.int .i64) (.pair (.int .i64) (.int .i64)))))), nin := 2, outs := (.slice (.agg (.pair (.int .i64) (.pair (.int .i64) (.int .i64))))), rs := [.dat (.slice (.agg (.pair (.int .i64) (.pair (.int .i64) (.int .i64)))))], nout := 1, F := fun x => F_ref36_Shared x.1 x.2 }
def hint_F_ref36_Shared : Hint := (.mk .plain [H0, (.mk .plain [H0, (.mk .plain [(.mk .plain [H0, (.mk .plain [(.mk (.loop [⟨.slot 6, (.int .i64), none⟩, ⟨.slot 5, (.slice (.agg (.pair (.int .i64) (.pair (.int .i64) (.int .i64))))), some 8700083⟩] [(0, 36), (0, 45), (0, 54), (0, 51), (0, 60), (0, 69), (0, 14), (0, 78), (0, 11), (0, 23), (0, 75), (0, 20), (0, 87), (0, 84), (0, 29), (0, 38), (0, 18), (0, 47), (0, 44), (0, 53), (0, 62), (0, 7), (0, 71), (0, 16), (0, 80), (0, 13), (0, 77), (0, 22), (0, 86), (0, 31), (0, 40), (0, 37), (0, 46), (0, 55), (0, 64), (0, 9), (0, 73), (0, 70), (0, 15), (0, 79), (0, 24), (0, 33), (0, 30), (0, 42), (0, 39), (0, 48), (0, 57), (0, 66), (0, 63), (0, 8), (0, 72), (0, 17), (0, 81), (0, 26), (0, 35), (0, 32), (0, 41), (0, 50), (0, 59), (0, 56), (0, 68), (0, 65), (0, 10), (0, 74), (0, 19), (0, 83), (0, 28), (0, 25), (0, 34), (0, 43), (0, 52), (0, 49), (0, 61), (0, 58), (0, 67), (0, 12), (0, 76), (0, 21), (0, 85), (0, 82), (0, 27)] [(.exit 0, [⟨.slot 5, (.slice (.agg (.pair (.int .i64) (.pair (.int .i64) (.int .i64))))), some 8700083⟩])]) [(.mk .plain [H0, (.mk .plain [(.mk .plain [(.mk .plain [H0, (.mk .plain [(.mk (.loop [⟨.slot 5, (.slice (.agg (.pair (.int .i64) (.pair (.int .i64) (.int .i64))))), some 8700083⟩, ⟨.slot 7, (.int .i64), none⟩] [(0, 36), (0, 45), (0, 54), (0, 51), (0, 60), (0, 69), (0, 14), (0, 78), (0, 23), (0, 75), (0, 20), (0, 87), (0, 84), (0, 29), (0, 38), (0, 18), (0, 47), (0, 44), (0, 53), (0, 62), (0, 71), (0, 16), (0, 80), (0, 77), (0, 22), (0, 86), (0, 31), (0, 40), (0, 37), (0, 46), (0, 55), (0, 64), (0, 73), (0, 70), (0, 15), (0, 79), (0, 24), (0, 33), (0, 30), (0, 42), (0, 39), (0, 48), (0, 57), (0, 66), (0, 63), (0, 72), (0, 17), (0, 81), (0, 26), (0, 35), (0, 32), (0, 41), (0, 50), (0, 59), (0, 56), (0, 68), (0, 65), (0, 74), (0, 19), (0, 83), (0, 28), (0, 25), (0, 34), (0, 43), (0, 52), (0, 49), (0, 61), (0, 58), (0, 67), (0, 76), (0, 21), (0, 85), (0, 82), (0, 27)] [(.exit 2, [⟨.slot 5, (.slice (.agg (.pair (.int .i64) (.pair (.int .i64) (.int .i64))))), some 8700083⟩])]) [(.mk .plain [H0, (.mk .plain [(.mk .plain [(.mk .plain [H0, (.mk (.join [(0, 57), (0, 60), (0, 66), (0, 63), (0, 69), (0, 72), (0, 78), (0, 75), (0, 81), (0, 87), (0, 84), (0, 59), (0, 62), (0, 68), (0, 65), (0, 71), (0, 74), (0, 80), (0, 77), (0, 83), (0, 86), (0, 61), (0, 58), (0, 64), (0, 67), (0, 73), (0, 70), (0, 76), (0, 79), (0, 85), (0, 82)] [(.normal, [⟨.slot 5, (.slice (.agg (.pair (.int .i64) (.pair (.int .i64) (.int .i64))))), some 8700083⟩])]) [])])])])])])])])])])])])])])])])])
theorem run_F_ref36_Shared : runE ⟨tdGet tys, []⟩ con_F_ref36_Shared Try.f42 hint_F_ref36_Shared = con_F_ref36_Shared.F := by
  funext x
  kernel_rfl
theorem ok_F_ref36_Shared : ConOK Try.prog con_F_ref36_Shared :=
  con_of_run (Γ := ⟨tdGet tys, []⟩) ⟨fun T d h => tysB_ok tys tys_ok T d h, by simp []⟩ (by kernel_rfl) Try.func42 rfl (by kernel_rfl) run_F_ref36_Shared
/-- odograph/odographlaw36.ApartShares -/
noncomputable def F_law36_ApartShares (a_1 : (List (Int × (Int × Int)))) (b_2 : (List (Int × (Int × Int)))) : Option Bool :=
  (F_law36_anchor ()).bind fun t9_3 =>
  (bif (!t9_3) then
    some false
  else
    (F_law36_may a_1).bind fun t12_4 =>
    (bif !(!t12_4) then F_law36_may b_2 else some false).bind fun t16_5 =>
    let t18_6 : Bool := (bif (!t12_4) then true else (!t16_5))
    (bif t18_6 then
      some true
    else
      (F_apart_Shared a_1 b_2).bind fun t21_7 =>
      (F_law36_refs a_1).bind fun t23_8 =>
      (F_law36_refs b_2).bind fun t25_9 =>
      (F_ref36_Shared t23_8 t25_9).bind fun t26_10 =>
      (F_apart_Shared b_2 a_1).bind fun t29_11 =>
      let t34_12 : Bool := ((t21_7.length : Int) != (t26_10.length : Int))
      let t40_13 : Bool := ((t29_11.length : Int) != (t21_7.length : Int))
      let t41_14 : Bool := (bif t34_12 then true else t40_13)
      (bif t41_14 then
        some false
      else
        Option.bind (α := Bool ⊕ Unit) (
          loopO (X := Bool ⊕ Unit) (fun (s_15 : Int) =>
            let t45_16 : Bool := (decide (s_15 < (t21_7.length : Int)))
            (bif t45_16 then
              chk none ((decide ((0 : Int) ≤ s_15)) && (decide (s_15 < (t21_7.length : Int)))) <|
              let t50_17 : (Int × (Int × Int)) := (t21_7.getD s_15.toNat ((0 : Int), ((0 : Int), (0 : Int))))
              chk none ((decide ((0 : Int) ≤ s_15)) && (decide (s_15 < (t26_10.length : Int)))) <|
              let t54_18 : (Int × (Int × Int)) := (t26_10.getD s_15.toNat ((0 : Int), ((0 : Int), (0 : Int))))
              let t55_19 : Bool := (!(eqT (.agg (.pair (.int .i64) (.pair (.int .i64) (.int .i64)))) t50_17 t54_18))
              chk none (((decide ((0 : Int) ≤ s_15)) && (decide (s_15 < (t29_11.length : Int)))) || !(!t55_19)) <|
              let t60_20 : (Int × (Int × Int)) := (t29_11.getD s_15.toNat ((0 : Int), ((0 : Int), (0 : Int))))
              chk none (((decide ((0 : Int) ≤ s_15)) && (decide (s_15 < (t21_7.length : Int)))) || !(!t55_19)) <|
              let t64_21 : (Int × (Int × Int)) := (t21_7.getD s_15.toNat ((0 : Int), ((0 : Int), (0 : Int))))
              let t65_22 : Bool := (!(eqT (.agg (.pair (.int .i64) (.pair (.int .i64) (.int .i64)))) t60_20 t64_21))
              let t66_23 : Bool := (bif t55_19 then true else t65_22)
              (bif t66_23 then
                some (.inr (.inl false))
              else
                let t67_24 : Int := (IntKind.wrap .i64 (s_15 + (1 : Int)))
                some (.inl t67_24))
            else
              some (.inr (.inr ())))) (0 : Int)) fun z => match z with
        | .inl r_25 =>
          some r_25
        | .inr _ =>
          (F_apart_Apart a_1 b_2).bind fun t70_26 =>
          let t73_27 : Bool := ((t26_10.length : Int) == (0 : Int))
          (bif (t70_26 == t73_27) then F_apart_Apart b_2 a_1 else some false).bind fun t78_28 =>
          (bif (t70_26 == t73_27) then F_apart_Apart a_1 b_2 else some false).bind fun t81_29 =>
          let t83_30 : Bool := (bif (t70_26 == t73_27) then (t78_28 == t81_29) else false)
          some t83_30)))
noncomputable def con_F_law36_ApartShares : Con := { f := 13, ps := [.dat (.slice (.agg (.pair (.int .i64) (.pair (.int .i64) (.int .i64))))), .dat (.slice (.agg (.pair (.int .i64) (.pair (.int .i64) (.int .i64)))))], boxes := [], ins := (.pair (.slice (.agg (.pair (.int .i64) (.pair (.int .i64) (.int .i64))))) (.slice (.agg (.pair (.int .i64) (.pair (.int .i64) (.int .i64)))))), nin := 2, outs := .bool, rs := [.dat .bool], nout := 1, F := fun x => F_law36_ApartShares x.1 x.2 }
def hint_F_law36_ApartShares : Hint := (.mk .plain [H0, (.mk .plain [H0, (.mk .plain [H0, (.mk .plain [H0, (.mk .plain [H0, (.mk .plain [H0, (.mk .plain [H0, (.mk .plain [(.mk .plain [H0, (.mk .plain [(.mk (.loop [⟨.slot 44, (.int .i64), none⟩] [(0, 65), (0, 4), (0, 45), (0, 48), (0, 54), (0, 51), (0, 57), (0, 60), (0, 66), (0, 63), (0, 8), (0, 46), (0, 52), (0, 49), (0, 55), (0, 61), (0, 58), (0, 64), (0, 47), (0, 50), (0, 53), (0, 59), (0, 56), (0, 62), (0, 67)] [(.ret, [⟨.slot 4, .bool, none⟩]), (.exit 0, [])]) [])])])])])])])])])])])
theorem run_F_law36_ApartShares : runE ⟨tdGet tys, [con_F_law36_anchor, con_F_law36_may, con_F_apart_Shared, con_F_law36_refs, con_F_ref36_Shared, con_F_apart_Apart]⟩ con_F_law36_ApartShares Try.f13 hint_F_law36_ApartShares = con_F_law36_ApartShares.F := by
  funext x
  kernel_rfl
theorem ok_F_law36_ApartShares : ConOK Try.prog con_F_law36_ApartShares :=
  con_of_run (Γ := ⟨tdGet tys, [con_F_law36_anchor, con_F_law36_may, con_F_apart_Shared, con_F_law36_refs, con_F_ref36_Shared, con_F_apart_Apart]⟩) ⟨fun T d h => tysB_ok tys tys_ok T d h, by simp [ok_F_law36_anchor, ok_F_law36_may, ok_F_apart_Shared, ok_F_law36_refs, ok_F_ref36_Shared, ok_F_apart_Apart]⟩ (by kernel_rfl) Try.func13 rfl (by kernel_rfl) run_F_law36_ApartShares
/-- odograph/odographref36.Gap -/
noncomputable def F_ref36_Gap (a_1 : (List (Int × (Int × Int)))) (b_2 : (List (Int × (Int × Int)))) : Option (Int × Bool) :=
  Option.bind (
    loopO (X := (Bool × Int)) (fun (s_3 : (Bool × (Int × Int))) =>
      let found_4 : Bool := s_3.1
      let least_5 : Int := s_3.2.1
      let i_6 : Int := s_3.2.2
      let t14_7 : Bool := (decide (i_6 < (a_1.length : Int)))
      (bif t14_7 then
        Option.bind (
          loopO (X := (Bool × Int)) (fun (s_8 : (Bool × (Int × Int))) =>
            let found_9 : Bool := s_8.1
            let k_10 : Int := s_8.2.1
            let least_11 : Int := s_8.2.2
            let t20_12 : Bool := (decide (k_10 < (b_2.length : Int)))
            (bif t20_12 then
              Option.bind (
                chk none ((decide ((0 : Int) ≤ i_6)) && (decide (i_6 < (a_1.length : Int)))) <|
                let e_13 : (Int × (Int × Int)) := (a_1.getD i_6.toNat ((0 : Int), ((0 : Int), (0 : Int))))
                chk none ((decide ((0 : Int) ≤ k_10)) && (decide (k_10 < (b_2.length : Int)))) <|
                let e_14 : (Int × (Int × Int)) := (b_2.getD k_10.toNat ((0 : Int), ((0 : Int), (0 : Int))))
                (bif (e_13.1 != e_14.1) then
                  some (found_9, least_11)
                else
                  chk none ((decide ((0 : Int) ≤ k_10)) && (decide (k_10 < (b_2.length : Int)))) <|
                  let e_15 : (Int × (Int × Int)) := (b_2.getD k_10.toNat ((0 : Int), ((0 : Int), (0 : Int))))
                  chk none ((decide ((0 : Int) ≤ i_6)) && (decide (i_6 < (a_1.length : Int)))) <|
                  let e_16 : (Int × (Int × Int)) := (a_1.getD i_6.toNat ((0 : Int), ((0 : Int), (0 : Int))))
                  let t44_17 : Bool := (decide (e_16.2.2 < e_15.2.1))
                  Option.bind (
                    (bif t44_17 then
                      chk none ((decide ((0 : Int) ≤ k_10)) && (decide (k_10 < (b_2.length : Int)))) <|
                      let e_18 : (Int × (Int × Int)) := (b_2.getD k_10.toNat ((0 : Int), ((0 : Int), (0 : Int))))
                      chk none ((decide ((0 : Int) ≤ i_6)) && (decide (i_6 < (a_1.length : Int)))) <|
                      let e_19 : (Int × (Int × Int)) := (a_1.getD i_6.toNat ((0 : Int), ((0 : Int), (0 : Int))))
                      let t55_20 : Int := (IntKind.wrap .i64 (e_18.2.1 - e_19.2.2))
                      some t55_20
                    else
                      some (0 : Int))) fun r_21 =>
                  chk none ((decide ((0 : Int) ≤ i_6)) && (decide (i_6 < (a_1.length : Int)))) <|
                  let e_22 : (Int × (Int × Int)) := (a_1.getD i_6.toNat ((0 : Int), ((0 : Int), (0 : Int))))
                  chk none ((decide ((0 : Int) ≤ k_10)) && (decide (k_10 < (b_2.length : Int)))) <|
                  let e_23 : (Int × (Int × Int)) := (b_2.getD k_10.toNat ((0 : Int), ((0 : Int), (0 : Int))))
                  let t66_24 : Bool := (decide (e_23.2.2 < e_22.2.1))
                  Option.bind (
                    (bif t66_24 then
                      chk none ((decide ((0 : Int) ≤ i_6)) && (decide (i_6 < (a_1.length : Int)))) <|
                      let e_25 : (Int × (Int × Int)) := (a_1.getD i_6.toNat ((0 : Int), ((0 : Int), (0 : Int))))
                      chk none ((decide ((0 : Int) ≤ k_10)) && (decide (k_10 < (b_2.length : Int)))) <|
                      let e_26 : (Int × (Int × Int)) := (b_2.getD k_10.toNat ((0 : Int), ((0 : Int), (0 : Int))))
                      let t77_27 : Int := (IntKind.wrap .i64 (e_25.2.1 - e_26.2.2))
                      some t77_27
                    else
                      some r_21)) fun r_28 =>
                  let t83_29 : Bool := (decide (r_28 < least_11))
                  let t84_30 : Bool := (bif (!found_9) then true else t83_29)
                  Option.bind (
                    (bif t84_30 then
                      some (true, r_28)
                    else
                      some (found_9, least_11))) fun r_31 =>
                  let found_32 : Bool := r_31.1
                  let least_33 : Int := r_31.2
                  some (found_32, least_33))) fun r_34 =>
              let found_35 : Bool := r_34.1
              let least_36 : Int := r_34.2
              let t22_37 : Int := (IntKind.wrap .i64 (k_10 + (1 : Int)))
              some (.inl (found_35, t22_37, least_36))
            else
              some (.inr (found_9, least_11)))) (found_4, (0 : Int), least_5)) fun r_38 =>
        let found_39 : Bool := r_38.1
        let least_40 : Int := r_38.2
        let t16_41 : Int := (IntKind.wrap .i64 (i_6 + (1 : Int)))
        some (.inl (found_39, least_40, t16_41))
      else
        some (.inr (found_4, least_5)))) (false, (0 : Int), (0 : Int))) fun r_42 =>
  let found_43 : Bool := r_42.1
  let least_44 : Int := r_42.2
  some (least_44, found_43)
noncomputable def con_F_ref36_Gap : Con := { f := 46, ps := [.dat (.slice (.agg (.pair (.int .i64) (.pair (.int .i64) (.int .i64))))), .dat (.slice (.agg (.pair (.int .i64) (.pair (.int .i64) (.int .i64)))))], boxes := [], ins := (.pair (.slice (.agg (.pair (.int .i64) (.pair (.int .i64) (.int .i64))))) (.slice (.agg (.pair (.int .i64) (.pair (.int .i64) (.int .i64)))))), nin := 2, outs := (.pair (.int .i64) .bool), rs := [.dat (.int .i64), .dat .bool], nout := 2, F := fun x => F_ref36_Gap x.1 x.2 }
def hint_F_ref36_Gap : Hint := (.mk .plain [H0, (.mk .plain [H0, (.mk .plain [H0, (.mk .plain [(.mk .plain [H0, (.mk .plain [(.mk (.loop [⟨.slot 7, .bool, none⟩, ⟨.slot 6, (.int .i64), none⟩, ⟨.slot 8, (.int .i64), none⟩] [(0, 36), (0, 45), (0, 85), (0, 54), (0, 51), (0, 60), (0, 69), (0, 14), (0, 78), (0, 11), (0, 23), (0, 75), (0, 20), (0, 84), (0, 29), (0, 38), (0, 47), (0, 44), (0, 53), (0, 62), (0, 71), (0, 16), (0, 80), (0, 13), (0, 77), (0, 22), (0, 31), (0, 40), (0, 37), (0, 46), (0, 55), (0, 64), (0, 9), (0, 73), (0, 70), (0, 15), (0, 79), (0, 24), (0, 33), (0, 30), (0, 42), (0, 39), (0, 48), (0, 57), (0, 66), (0, 63), (0, 72), (0, 17), (0, 81), (0, 26), (0, 35), (0, 32), (0, 41), (0, 50), (0, 59), (0, 56), (0, 68), (0, 65), (0, 10), (0, 74), (0, 19), (0, 83), (0, 28), (0, 25), (0, 34), (0, 43), (0, 52), (0, 49), (0, 61), (0, 58), (0, 67), (0, 12), (0, 76), (0, 21), (0, 18), (0, 82), (0, 27)] [(.exit 0, [⟨.slot 7, .bool, none⟩, ⟨.slot 6, (.int .i64), none⟩])]) [(.mk .plain [H0, (.mk .plain [(.mk .plain [(.mk .plain [H0, (.mk .plain [(.mk (.loop [⟨.slot 7, .bool, none⟩, ⟨.slot 9, (.int .i64), none⟩, ⟨.slot 6, (.int .i64), none⟩] [(0, 36), (0, 45), (0, 85), (0, 54), (0, 51), (0, 60), (0, 69), (0, 78), (0, 23), (0, 75), (0, 20), (0, 84), (0, 29), (0, 38), (0, 47), (0, 44), (0, 53), (0, 62), (0, 71), (0, 80), (0, 77), (0, 22), (0, 31), (0, 40), (0, 37), (0, 46), (0, 55), (0, 64), (0, 73), (0, 70), (0, 79), (0, 24), (0, 33), (0, 30), (0, 42), (0, 39), (0, 48), (0, 57), (0, 66), (0, 63), (0, 72), (0, 17), (0, 81), (0, 26), (0, 35), (0, 32), (0, 41), (0, 50), (0, 59), (0, 56), (0, 68), (0, 65), (0, 10), (0, 74), (0, 19), (0, 83), (0, 28), (0, 25), (0, 34), (0, 43), (0, 52), (0, 49), (0, 61), (0, 58), (0, 67), (0, 76), (0, 21), (0, 18), (0, 82), (0, 27)] [(.exit 2, [⟨.slot 7, .bool, none⟩, ⟨.slot 6, (.int .i64), none⟩])]) [(.mk .plain [H0, (.mk .plain [(.mk (.join [(0, 23), (0, 30), (0, 26), (0, 29), (0, 32), (0, 28), (0, 25), (0, 31), (0, 24), (0, 27), (0, 33), (0, 36), (0, 45), (0, 54), (0, 51), (0, 60), (0, 69), (0, 78), (0, 75), (0, 84), (0, 38), (0, 47), (0, 44), (0, 53), (0, 62), (0, 71), (0, 80), (0, 77), (0, 40), (0, 37), (0, 46), (0, 55), (0, 64), (0, 73), (0, 70), (0, 79), (0, 42), (0, 39), (0, 48), (0, 57), (0, 66), (0, 63), (0, 72), (0, 81), (0, 35), (0, 41), (0, 50), (0, 59), (0, 56), (0, 68), (0, 65), (0, 10), (0, 74), (0, 83), (0, 34), (0, 43), (0, 52), (0, 49), (0, 61), (0, 58), (0, 67), (0, 76), (0, 85), (0, 82)] [(.normal, [⟨.slot 7, .bool, none⟩, ⟨.slot 6, (.int .i64), none⟩])]) [(.mk .plain [H0, (.mk .plain [H0, (.mk .plain [(.mk .plain [H0, (.mk (.join [(0, 46), (0, 52), (0, 49), (0, 55), (0, 45), (0, 48), (0, 54), (0, 51), (0, 47), (0, 50), (0, 53)] [(.normal, [⟨.slot 10, (.int .i64), none⟩])]) [])]), (.mk .plain [(.mk .plain [H0, (.mk (.join [(0, 68), (0, 75), (0, 71), (0, 74), (0, 77), (0, 67), (0, 73), (0, 70), (0, 76), (0, 69), (0, 72)] [(.normal, [⟨.slot 10, (.int .i64), none⟩])]) [])]), (.mk .plain [H0, (.mk (.join [(0, 85)] [(.normal, [⟨.slot 7, .bool, none⟩, ⟨.slot 6, (.int .i64), none⟩])]) [])])])])])])])])])])])])])])])])])])])])])])
theorem run_F_ref36_Gap : runE ⟨tdGet tys, []⟩ con_F_ref36_Gap Try.f46 hint_F_ref36_Gap = con_F_ref36_Gap.F := by
  funext x
  kernel_rfl
theorem ok_F_ref36_Gap : ConOK Try.prog con_F_ref36_Gap :=
  con_of_run (Γ := ⟨tdGet tys, []⟩) ⟨fun T d h => tysB_ok tys tys_ok T d h, by simp []⟩ (by kernel_rfl) Try.func46 rfl (by kernel_rfl) run_F_ref36_Gap
/-- odograph/odographlaw36.ApartGaps -/
noncomputable def F_law36_ApartGaps (a_1 : (List (Int × (Int × Int)))) (b_2 : (List (Int × (Int × Int)))) : Option Bool :=
  (F_law36_anchor ()).bind fun t9_3 =>
  (bif (!t9_3) then
    some false
  else
    (F_law36_may a_1).bind fun t12_4 =>
    (bif !(!t12_4) then F_law36_may b_2 else some false).bind fun t16_5 =>
    let t18_6 : Bool := (bif (!t12_4) then true else (!t16_5))
    (bif t18_6 then
      some true
    else
      (F_apart_Gap a_1 b_2).bind fun t22_7 =>
      (F_law36_refs a_1).bind fun t27_8 =>
      (F_law36_refs b_2).bind fun t29_9 =>
      (F_ref36_Gap t27_8 t29_9).bind fun t30_10 =>
      let t40_11 : Bool := (bif (t22_7.1 != t30_10.1) then true else (!(t22_7.2 == t30_10.2)))
      (bif t40_11 then
        some false
      else
        (F_apart_Apart a_1 b_2).bind fun t43_12 =>
        let t48_13 : Bool := (decide ((0 : Int) < t22_7.1))
        let t49_14 : Bool := (bif (!t22_7.2) then true else t48_13)
        some (t43_12 == t49_14))))
noncomputable def con_F_law36_ApartGaps : Con := { f := 14, ps := [.dat (.slice (.agg (.pair (.int .i64) (.pair (.int .i64) (.int .i64))))), .dat (.slice (.agg (.pair (.int .i64) (.pair (.int .i64) (.int .i64)))))], boxes := [], ins := (.pair (.slice (.agg (.pair (.int .i64) (.pair (.int .i64) (.int .i64))))) (.slice (.agg (.pair (.int .i64) (.pair (.int .i64) (.int .i64)))))), nin := 2, outs := .bool, rs := [.dat .bool], nout := 1, F := fun x => F_law36_ApartGaps x.1 x.2 }
def hint_F_law36_ApartGaps : Hint := H0
theorem run_F_law36_ApartGaps : runE ⟨tdGet tys, [con_F_law36_anchor, con_F_law36_may, con_F_apart_Gap, con_F_law36_refs, con_F_ref36_Gap, con_F_apart_Apart]⟩ con_F_law36_ApartGaps Try.f14 hint_F_law36_ApartGaps = con_F_law36_ApartGaps.F := by
  funext x
  kernel_rfl
theorem ok_F_law36_ApartGaps : ConOK Try.prog con_F_law36_ApartGaps :=
  con_of_run (Γ := ⟨tdGet tys, [con_F_law36_anchor, con_F_law36_may, con_F_apart_Gap, con_F_law36_refs, con_F_ref36_Gap, con_F_apart_Apart]⟩) ⟨fun T d h => tysB_ok tys tys_ok T d h, by simp [ok_F_law36_anchor, ok_F_law36_may, ok_F_apart_Gap, ok_F_law36_refs, ok_F_ref36_Gap, ok_F_apart_Apart]⟩ (by kernel_rfl) Try.func14 rfl (by kernel_rfl) run_F_law36_ApartGaps
/-- odograph/odographref31.Has -/
noncomputable def F_ref31_Has (l_1 : (List (Int × (Int × Int)))) (segment_2 : Int) (at_3 : Int) : Option Bool :=
  Option.bind (α := Bool ⊕ Unit) (
    loopO (X := Bool ⊕ Unit) (fun (s_4 : Int) =>
      let t11_5 : Bool := (decide (s_4 < (l_1.length : Int)))
      (bif t11_5 then
        chk none ((decide ((0 : Int) ≤ s_4)) && (decide (s_4 < (l_1.length : Int)))) <|
        let e_6 : (Int × (Int × Int)) := (l_1.getD s_4.toNat ((0 : Int), ((0 : Int), (0 : Int))))
        chk none (((decide ((0 : Int) ≤ s_4)) && (decide (s_4 < (l_1.length : Int)))) || !(e_6.1 == segment_2)) <|
        let e_7 : (Int × (Int × Int)) := (l_1.getD s_4.toNat ((0 : Int), ((0 : Int), (0 : Int))))
        let t28_8 : Bool := (decide (e_7.2.1 ≤ at_3))
        let t29_9 : Bool := (bif (e_6.1 == segment_2) then t28_8 else false)
        chk none (((decide ((0 : Int) ≤ s_4)) && (decide (s_4 < (l_1.length : Int)))) || !t29_9) <|
        let e_10 : (Int × (Int × Int)) := (l_1.getD s_4.toNat ((0 : Int), ((0 : Int), (0 : Int))))
        let t37_11 : Bool := (decide (at_3 ≤ e_10.2.2))
        let t38_12 : Bool := (bif t29_9 then t37_11 else false)
        (bif t38_12 then
          some (.inr (.inl true))
        else
          let t13_13 : Int := (IntKind.wrap .i64 (s_4 + (1 : Int)))
          some (.inl t13_13))
      else
        some (.inr (.inr ())))) (0 : Int)) fun z => match z with
  | .inl r_14 =>
    some r_14
  | .inr _ =>
    some false
noncomputable def con_F_ref31_Has : Con := { f := 47, ps := [.dat (.slice (.agg (.pair (.int .i64) (.pair (.int .i64) (.int .i64))))), .dat (.int .i64), .dat (.int .i64)], boxes := [], ins := (.pair (.slice (.agg (.pair (.int .i64) (.pair (.int .i64) (.int .i64))))) (.pair (.int .i64) (.int .i64))), nin := 3, outs := .bool, rs := [.dat .bool], nout := 1, F := fun x => F_ref31_Has x.1 x.2.1 x.2.2 }
def hint_F_ref31_Has : Hint := (.mk .plain [H0, (.mk .plain [(.mk .plain [H0, (.mk .plain [(.mk (.loop [⟨.slot 7, (.int .i64), none⟩] [(0, 30), (0, 36), (0, 10), (0, 16), (0, 19), (0, 22), (0, 28), (0, 25), (0, 31), (0, 34), (0, 8), (0, 14), (0, 37), (0, 11), (0, 17), (0, 23), (0, 20), (0, 26), (0, 29), (0, 35), (0, 32), (0, 38), (0, 9), (0, 6), (0, 15), (0, 21), (0, 18), (0, 24), (0, 27), (0, 33), (0, 13), (0, 12)] [(.ret, [⟨.slot 6, .bool, none⟩]), (.exit 0, [])]) [])])])])])
theorem run_F_ref31_Has : runE ⟨tdGet tys, []⟩ con_F_ref31_Has Try.f47 hint_F_ref31_Has = con_F_ref31_Has.F := by
  funext x
  kernel_rfl
theorem ok_F_ref31_Has : ConOK Try.prog con_F_ref31_Has :=
  con_of_run (Γ := ⟨tdGet tys, []⟩) ⟨fun T d h => tysB_ok tys tys_ok T d h, by simp []⟩ (by kernel_rfl) Try.func47 rfl (by kernel_rfl) run_F_ref31_Has
/-- odograph/spot.Has -/
noncomputable def F_spot_Has (l_1 : (List (Int × (Int × Int)))) (segment_2 : Int) (at_3 : Int) : Option Bool :=
  (F_spot_Find l_1 segment_2).bind fun t12_4 =>
  let t20_5 : Bool := (decide (t12_4.1.2.1 ≤ at_3))
  let t21_6 : Bool := (bif t12_4.2 then t20_5 else false)
  let t26_7 : Bool := (decide (at_3 ≤ t12_4.1.2.2))
  let t27_8 : Bool := (bif t21_6 then t26_7 else false)
  some t27_8
noncomputable def con_F_spot_Has : Con := { f := 48, ps := [.dat (.slice (.agg (.pair (.int .i64) (.pair (.int .i64) (.int .i64))))), .dat (.int .i64), .dat (.int .i64)], boxes := [], ins := (.pair (.slice (.agg (.pair (.int .i64) (.pair (.int .i64) (.int .i64))))) (.pair (.int .i64) (.int .i64))), nin := 3, outs := .bool, rs := [.dat .bool], nout := 1, F := fun x => F_spot_Has x.1 x.2.1 x.2.2 }
def hint_F_spot_Has : Hint := H0
theorem run_F_spot_Has : runE ⟨tdGet tys, [con_F_spot_Find]⟩ con_F_spot_Has Try.f48 hint_F_spot_Has = con_F_spot_Has.F := by
  funext x
  kernel_rfl
theorem ok_F_spot_Has : ConOK Try.prog con_F_spot_Has :=
  con_of_run (Γ := ⟨tdGet tys, [con_F_spot_Find]⟩) ⟨fun T d h => tysB_ok tys tys_ok T d h, by simp [ok_F_spot_Find]⟩ (by kernel_rfl) Try.func48 rfl (by kernel_rfl) run_F_spot_Has
/-- odograph/odographlaw36.ApartTrue -/
noncomputable def F_law36_ApartTrue (a_1 : (List (Int × (Int × Int)))) (b_2 : (List (Int × (Int × Int)))) (segment_3 : Int) (at_4 : Int) : Option Bool :=
  (F_law36_anchor ()).bind fun t9_5 =>
  (bif (!t9_5) then
    some false
  else
    (F_law36_may a_1).bind fun t12_6 =>
    (bif !(!t12_6) then F_law36_may b_2 else some false).bind fun t16_7 =>
    let t18_8 : Bool := (bif (!t12_6) then true else (!t16_7))
    (bif !t18_8 then F_law36_refs a_1 else some []).bind fun t21_9 =>
    (bif !t18_8 then F_ref31_Has t21_9 segment_3 at_4 else some false).bind fun t24_10 =>
    let t26_11 : Bool := (bif t18_8 then true else (!t24_10))
    (bif !t26_11 then F_law36_refs b_2 else some []).bind fun t29_12 =>
    (bif !t26_11 then F_ref31_Has t29_12 segment_3 at_4 else some false).bind fun t32_13 =>
    let t34_14 : Bool := (bif t26_11 then true else (!t32_13))
    (bif t34_14 then
      some true
    else
      (F_apart_Apart a_1 b_2).bind fun t37_15 =>
      (bif (!t37_15) then F_apart_Shared a_1 b_2 else some []).bind fun t42_16 =>
      (bif (!t37_15) then F_spot_Has t42_16 segment_3 at_4 else some false).bind fun t45_17 =>
      let t46_18 : Bool := (bif (!t37_15) then t45_17 else false)
      some t46_18))
noncomputable def con_F_law36_ApartTrue : Con := { f := 15, ps := [.dat (.slice (.agg (.pair (.int .i64) (.pair (.int .i64) (.int .i64))))), .dat (.slice (.agg (.pair (.int .i64) (.pair (.int .i64) (.int .i64))))), .dat (.int .i64), .dat (.int .i64)], boxes := [], ins := (.pair (.slice (.agg (.pair (.int .i64) (.pair (.int .i64) (.int .i64))))) (.pair (.slice (.agg (.pair (.int .i64) (.pair (.int .i64) (.int .i64))))) (.pair (.int .i64) (.int .i64)))), nin := 4, outs := .bool, rs := [.dat .bool], nout := 1, F := fun x => F_law36_ApartTrue x.1 x.2.1 x.2.2.1 x.2.2.2 }
def hint_F_law36_ApartTrue : Hint := H0
theorem run_F_law36_ApartTrue : runE ⟨tdGet tys, [con_F_law36_anchor, con_F_law36_may, con_F_law36_refs, con_F_ref31_Has, con_F_apart_Apart, con_F_apart_Shared, con_F_spot_Has]⟩ con_F_law36_ApartTrue Try.f15 hint_F_law36_ApartTrue = con_F_law36_ApartTrue.F := by
  funext x
  kernel_rfl
theorem ok_F_law36_ApartTrue : ConOK Try.prog con_F_law36_ApartTrue :=
  con_of_run (Γ := ⟨tdGet tys, [con_F_law36_anchor, con_F_law36_may, con_F_law36_refs, con_F_ref31_Has, con_F_apart_Apart, con_F_apart_Shared, con_F_spot_Has]⟩) ⟨fun T d h => tysB_ok tys tys_ok T d h, by simp [ok_F_law36_anchor, ok_F_law36_may, ok_F_law36_refs, ok_F_ref31_Has, ok_F_apart_Apart, ok_F_apart_Shared, ok_F_spot_Has]⟩ (by kernel_rfl) Try.func15 rfl (by kernel_rfl) run_F_law36_ApartTrue
/-- slices.Index[[]int,int] -/
noncomputable def F_slices_Index_int_int (s_1 : (List Int)) (v_2 : Int) : Option Int :=
  Option.bind (α := Int ⊕ Unit) (
    loopO (X := Int ⊕ Unit) (fun (s_3 : Int) =>
      let t9_4 : Bool := (decide (s_3 < (s_1.length : Int)))
      (bif t9_4 then
        chk none ((decide ((0 : Int) ≤ s_3)) && (decide (s_3 < (s_1.length : Int)))) <|
        let t15_5 : Int := (s_1.getD s_3.toNat (0 : Int))
        (bif (v_2 == t15_5) then
          some (.inr (.inl s_3))
        else
          let t18_6 : Int := (IntKind.wrap .i64 (s_3 + (1 : Int)))
          some (.inl t18_6))
      else
        some (.inr (.inr ())))) (0 : Int)) fun z => match z with
  | .inl r_7 =>
    some r_7
  | .inr _ =>
    some (-1 : Int)
noncomputable def con_F_slices_Index_int_int : Con := { f := 85, ps := [.dat (.slice (.int .i64)), .dat (.int .i64)], boxes := [], ins := (.pair (.slice (.int .i64)) (.int .i64)), nin := 2, outs := (.int .i64), rs := [.dat (.int .i64)], nout := 1, F := fun x => F_slices_Index_int_int x.1 x.2 }
def hint_F_slices_Index_int_int : Hint := (.mk .plain [H0, (.mk .plain [(.mk .plain [H0, (.mk .plain [(.mk (.loop [⟨.slot 8, (.int .i64), none⟩] [(0, 4), (0, 10), (0, 16), (0, 13), (0, 9), (0, 12), (0, 15), (0, 5), (0, 14), (0, 11), (0, 17), (0, 18)] [(.ret, [⟨.slot 4, (.int .i64), none⟩]), (.exit 0, [])]) [])])])])])
theorem run_F_slices_Index_int_int : runE ⟨tdGet tys, []⟩ con_F_slices_Index_int_int Try.f85 hint_F_slices_Index_int_int = con_F_slices_Index_int_int.F := by
  funext x
  kernel_rfl
theorem ok_F_slices_Index_int_int : ConOK Try.prog con_F_slices_Index_int_int :=
  con_of_run (Γ := ⟨tdGet tys, []⟩) ⟨fun T d h => tysB_ok tys tys_ok T d h, by simp []⟩ (by kernel_rfl) Try.func85 rfl (by kernel_rfl) run_F_slices_Index_int_int
/-- slices.Contains[[]int,int] -/
noncomputable def F_slices_Contains_int_int (s_1 : (List Int)) (v_2 : Int) : Option Bool :=
  (F_slices_Index_int_int s_1 v_2).bind fun t7_3 =>
  let t8_4 : Bool := (decide ((0 : Int) ≤ t7_3))
  some t8_4
noncomputable def con_F_slices_Contains_int_int : Con := { f := 76, ps := [.dat (.slice (.int .i64)), .dat (.int .i64)], boxes := [], ins := (.pair (.slice (.int .i64)) (.int .i64)), nin := 2, outs := .bool, rs := [.dat .bool], nout := 1, F := fun x => F_slices_Contains_int_int x.1 x.2 }
def hint_F_slices_Contains_int_int : Hint := H0
theorem run_F_slices_Contains_int_int : runE ⟨tdGet tys, [con_F_slices_Index_int_int]⟩ con_F_slices_Contains_int_int Try.f76 hint_F_slices_Contains_int_int = con_F_slices_Contains_int_int.F := by
  funext x
  kernel_rfl
theorem ok_F_slices_Contains_int_int : ConOK Try.prog con_F_slices_Contains_int_int :=
  con_of_run (Γ := ⟨tdGet tys, [con_F_slices_Index_int_int]⟩) ⟨fun T d h => tysB_ok tys tys_ok T d h, by simp [ok_F_slices_Index_int_int]⟩ (by kernel_rfl) Try.func76 rfl (by kernel_rfl) run_F_slices_Contains_int_int
/-- (odograph/track.Track).Follows -/
noncomputable def F_track_Track_Follows (t_1 : ((List (Int × ((List (Int × Int)) × (List Int)))) × (List (Int × (Int × (Int × (Int × Int))))))) (a_2 : Int) (b_3 : Int) : Option Bool :=
  let t8_4 : Bool := (decide ((0 : Int) ≤ a_2))
  let t14_5 : Bool := (decide (a_2 < (t_1.1.length : Int)))
  let t15_6 : Bool := (bif t8_4 then t14_5 else false)
  chk none (((decide ((0 : Int) ≤ a_2)) && (decide (a_2 < (t_1.1.length : Int)))) || !t15_6) <|
  let e_7 : (Int × ((List (Int × Int)) × (List Int))) := (t_1.1.getD a_2.toNat ((0 : Int), ([], [])))
  (bif t15_6 then F_slices_Contains_int_int e_7.2.2 b_3 else some false).bind fun t24_8 =>
  let t25_9 : Bool := (bif t15_6 then t24_8 else false)
  some t25_9
noncomputable def con_F_track_Track_Follows : Con := { f := 49, ps := [.dat (.agg (.pair (.slice (.agg (.pair (.int .i64) (.pair (.slice (.agg (.pair (.int .i64) (.int .i64)))) (.slice (.int .i64)))))) (.slice (.agg (.pair (.int .i64) (.pair (.int .i64) (.pair (.int .i64) (.pair (.int .i64) (.int .i64))))))))), .dat (.int .i64), .dat (.int .i64)], boxes := [], ins := (.pair (.agg (.pair (.slice (.agg (.pair (.int .i64) (.pair (.slice (.agg (.pair (.int .i64) (.int .i64)))) (.slice (.int .i64)))))) (.slice (.agg (.pair (.int .i64) (.pair (.int .i64) (.pair (.int .i64) (.pair (.int .i64) (.int .i64))))))))) (.pair (.int .i64) (.int .i64))), nin := 3, outs := .bool, rs := [.dat .bool], nout := 1, F := fun x => F_track_Track_Follows x.1 x.2.1 x.2.2 }
def hint_F_track_Track_Follows : Hint := H0
theorem run_F_track_Track_Follows : runE ⟨tdGet tys, [con_F_slices_Contains_int_int]⟩ con_F_track_Track_Follows Try.f49 hint_F_track_Track_Follows = con_F_track_Track_Follows.F := by
  funext x
  kernel_rfl
theorem ok_F_track_Track_Follows : ConOK Try.prog con_F_track_Track_Follows :=
  con_of_run (Γ := ⟨tdGet tys, [con_F_slices_Contains_int_int]⟩) ⟨fun T d h => tysB_ok tys tys_ok T d h, by simp [ok_F_slices_Contains_int_int]⟩ (by kernel_rfl) Try.func49 rfl (by kernel_rfl) run_F_track_Track_Follows
/-- odograph/odographref11.Follows -/
noncomputable def F_ref11_Follows (t_1 : ((List (Int × ((List (Int × Int)) × (List Int)))) × (List (Int × (Int × (Int × (Int × Int))))))) (a_2 : Int) (b_3 : Int) : Option Bool :=
  let t9_4 : Bool := (decide (a_2 < (0 : Int)))
  let t15_5 : Bool := (decide ((t_1.1.length : Int) ≤ a_2))
  let t16_6 : Bool := (bif t9_4 then true else t15_5)
  (bif t16_6 then
    some false
  else
    Option.bind (α := Bool ⊕ Unit) (
      loopO (X := Bool ⊕ Unit) (fun (s_7 : Int) =>
        chk none ((decide ((0 : Int) ≤ a_2)) && (decide (a_2 < (t_1.1.length : Int)))) <|
        let e_8 : (Int × ((List (Int × Int)) × (List Int))) := (t_1.1.getD a_2.toNat ((0 : Int), ([], [])))
        let t25_9 : Bool := (decide (s_7 < (e_8.2.2.length : Int)))
        (bif t25_9 then
          chk none ((decide ((0 : Int) ≤ a_2)) && (decide (a_2 < (t_1.1.length : Int)))) <|
          let e_10 : (Int × ((List (Int × Int)) × (List Int))) := (t_1.1.getD a_2.toNat ((0 : Int), ([], [])))
          chk none ((decide ((0 : Int) ≤ s_7)) && (decide (s_7 < (e_10.2.2.length : Int)))) <|
          let t36_11 : Int := (e_10.2.2.getD s_7.toNat (0 : Int))
          (bif (t36_11 == b_3) then
            some (.inr (.inl true))
          else
            let t27_12 : Int := (IntKind.wrap .i64 (s_7 + (1 : Int)))
            some (.inl t27_12))
        else
          some (.inr (.inr ())))) (0 : Int)) fun z => match z with
    | .inl r_13 =>
      some r_13
    | .inr _ =>
      some false)
noncomputable def con_F_ref11_Follows : Con := { f := 50, ps := [.dat (.agg (.pair (.slice (.agg (.pair (.int .i64) (.pair (.slice (.agg (.pair (.int .i64) (.int .i64)))) (.slice (.int .i64)))))) (.slice (.agg (.pair (.int .i64) (.pair (.int .i64) (.pair (.int .i64) (.pair (.int .i64) (.int .i64))))))))), .dat (.int .i64), .dat (.int .i64)], boxes := [], ins := (.pair (.agg (.pair (.slice (.agg (.pair (.int .i64) (.pair (.slice (.agg (.pair (.int .i64) (.int .i64)))) (.slice (.int .i64)))))) (.slice (.agg (.pair (.int .i64) (.pair (.int .i64) (.pair (.int .i64) (.pair (.int .i64) (.int .i64))))))))) (.pair (.int .i64) (.int .i64))), nin := 3, outs := .bool, rs := [.dat .bool], nout := 1, F := fun x => F_ref11_Follows x.1 x.2.1 x.2.2 }
def hint_F_ref11_Follows : Hint := (.mk .plain [H0, (.mk .plain [H0, (.mk .plain [(.mk .plain [H0, (.mk .plain [(.mk (.loop [⟨.slot 7, (.int .i64), none⟩] [(0, 30), (0, 36), (0, 19), (0, 22), (0, 28), (0, 25), (0, 31), (0, 34), (0, 37), (0, 17), (0, 23), (0, 20), (0, 29), (0, 35), (0, 32), (0, 38), (0, 6), (0, 21), (0, 18), (0, 24), (0, 33), (0, 26), (0, 27)] [(.ret, [⟨.slot 6, .bool, none⟩]), (.exit 0, [])]) [])])])])])])
theorem run_F_ref11_Follows : runE ⟨tdGet tys, []⟩ con_F_ref11_Follows Try.f50 hint_F_ref11_Follows = con_F_ref11_Follows.F := by
  funext x
  kernel_rfl
theorem ok_F_ref11_Follows : ConOK Try.prog con_F_ref11_Follows :=
  con_of_run (Γ := ⟨tdGet tys, []⟩) ⟨fun T d h => tysB_ok tys tys_ok T d h, by simp []⟩ (by kernel_rfl) Try.func50 rfl (by kernel_rfl) run_F_ref11_Follows
/-- odograph/odographlaw11.TrackFollows -/
noncomputable def F_law11_TrackFollows (t_1 : ((List (Int × ((List (Int × Int)) × (List Int)))) × (List (Int × (Int × (Int × (Int × Int))))))) (a_2 : Int) (b_3 : Int) : Option Bool :=
  (F_law11_anchor ()).bind fun t7_4 =>
  (bif (!t7_4) then
    some false
  else
    (F_law11_great t_1).bind fun t10_5 =>
    (bif !t10_5 then F_track_Track_Follows t_1 a_2 b_3 else some false).bind fun t15_6 =>
    (bif !t10_5 then F_law11_refs t_1 else some ([], [])).bind fun t17_7 =>
    (bif !t10_5 then F_ref11_Follows t17_7 a_2 b_3 else some false).bind fun t20_8 =>
    let t22_9 : Bool := (bif t10_5 then true else (t15_6 == t20_8))
    some t22_9)
noncomputable def con_F_law11_TrackFollows : Con := { f := 16, ps := [.dat (.agg (.pair (.slice (.agg (.pair (.int .i64) (.pair (.slice (.agg (.pair (.int .i64) (.int .i64)))) (.slice (.int .i64)))))) (.slice (.agg (.pair (.int .i64) (.pair (.int .i64) (.pair (.int .i64) (.pair (.int .i64) (.int .i64))))))))), .dat (.int .i64), .dat (.int .i64)], boxes := [], ins := (.pair (.agg (.pair (.slice (.agg (.pair (.int .i64) (.pair (.slice (.agg (.pair (.int .i64) (.int .i64)))) (.slice (.int .i64)))))) (.slice (.agg (.pair (.int .i64) (.pair (.int .i64) (.pair (.int .i64) (.pair (.int .i64) (.int .i64))))))))) (.pair (.int .i64) (.int .i64))), nin := 3, outs := .bool, rs := [.dat .bool], nout := 1, F := fun x => F_law11_TrackFollows x.1 x.2.1 x.2.2 }
def hint_F_law11_TrackFollows : Hint := H0
theorem run_F_law11_TrackFollows : runE ⟨tdGet tys, [con_F_law11_anchor, con_F_law11_great, con_F_track_Track_Follows, con_F_law11_refs, con_F_ref11_Follows]⟩ con_F_law11_TrackFollows Try.f16 hint_F_law11_TrackFollows = con_F_law11_TrackFollows.F := by
  funext x
  kernel_rfl
theorem ok_F_law11_TrackFollows : ConOK Try.prog con_F_law11_TrackFollows :=
  con_of_run (Γ := ⟨tdGet tys, [con_F_law11_anchor, con_F_law11_great, con_F_track_Track_Follows, con_F_law11_refs, con_F_ref11_Follows]⟩) ⟨fun T d h => tysB_ok tys tys_ok T d h, by simp [ok_F_law11_anchor, ok_F_law11_great, ok_F_track_Track_Follows, ok_F_law11_refs, ok_F_ref11_Follows]⟩ (by kernel_rfl) Try.func16 rfl (by kernel_rfl) run_F_law11_TrackFollows
/-- (odograph/track.Track).Grades -/
noncomputable def F_track_Track_Grades (t_1 : ((List (Int × ((List (Int × Int)) × (List Int)))) × (List (Int × (Int × (Int × (Int × Int))))))) : Option (Int × Int) :=
  chk none (true && (decide ((0 : Int) < (t_1.1.length : Int)))) <|
  let e_2 : (Int × ((List (Int × Int)) × (List Int))) := (t_1.1.getD (0 : Int).toNat ((0 : Int), ([], [])))
  chk none (true && (decide ((0 : Int) < (e_2.2.1.length : Int)))) <|
  let e_3 : (Int × Int) := (e_2.2.1.getD (0 : Int).toNat ((0 : Int), (0 : Int)))
  (F_span_At e_3.2).bind fun t16_4 =>
  Option.bind (
    loopO (X := (Int × Int)) (fun (s_5 : (Int × (Int × Int))) =>
      let b2_6 : Int := s_5.1
      let t20_7 : Int := s_5.2.1
      let b2_8 : Int := s_5.2.2
      let t21_9 : Bool := (decide (t20_7 < (t_1.1.length : Int)))
      (bif t21_9 then
        chk none ((decide ((0 : Int) ≤ t20_7)) && (decide (t20_7 < (t_1.1.length : Int)))) <|
        let t23_10 : (Int × ((List (Int × Int)) × (List Int))) := (t_1.1.getD t20_7.toNat ((0 : Int), ([], [])))
        (F_grade_Bounds t23_10.2.1 ((0 : Int), t23_10.1)).bind fun t30_11 =>
        (F_span_Span_Hull (b2_8, b2_6) t30_11.1).bind fun t35_12 =>
        let t36_13 : Int := (IntKind.wrap .i64 (t20_7 + (1 : Int)))
        some (.inl (t35_12.2, t36_13, t35_12.1))
      else
        some (.inr (b2_6, b2_8)))) (t16_4.2, (0 : Int), t16_4.1)) fun r_14 =>
  let b2_15 : Int := r_14.1
  let b2_16 : Int := r_14.2
  let w_17 : (Int × Int) := (b2_16, b2_15)
  some w_17
noncomputable def con_F_track_Track_Grades : Con := { f := 51, ps := [.dat (.agg (.pair (.slice (.agg (.pair (.int .i64) (.pair (.slice (.agg (.pair (.int .i64) (.int .i64)))) (.slice (.int .i64)))))) (.slice (.agg (.pair (.int .i64) (.pair (.int .i64) (.pair (.int .i64) (.pair (.int .i64) (.int .i64)))))))))], boxes := [], ins := (.agg (.pair (.slice (.agg (.pair (.int .i64) (.pair (.slice (.agg (.pair (.int .i64) (.int .i64)))) (.slice (.int .i64)))))) (.slice (.agg (.pair (.int .i64) (.pair (.int .i64) (.pair (.int .i64) (.pair (.int .i64) (.int .i64))))))))), nin := 1, outs := (.agg (.pair (.int .i64) (.int .i64))), rs := [.dat (.agg (.pair (.int .i64) (.int .i64)))], nout := 1, F := fun x => F_track_Track_Grades x }
def hint_F_track_Track_Grades : Hint := (.mk .plain [H0, (.mk .plain [H0, (.mk .plain [(.mk .plain [H0, (.mk .plain [(.mk (.loop [⟨.cell 2 1, (.int .i64), none⟩, ⟨.slot 20, (.int .i64), none⟩, ⟨.cell 2 0, (.int .i64), none⟩] [(0, 30), (0, 7), (0, 36), (0, 22), (0, 28), (0, 25), (0, 31), (0, 5), (0, 34), (0, 23), (0, 26), (0, 29), (0, 35), (0, 32), (0, 6), (0, 21), (0, 24), (0, 27), (0, 33)] [(.exit 0, [⟨.cell 2 1, (.int .i64), none⟩, ⟨.cell 2 0, (.int .i64), none⟩])]) [])])])])])])
theorem run_F_track_Track_Grades : runE ⟨tdGet tys, [con_F_span_At, con_F_grade_Bounds, con_F_span_Span_Hull]⟩ con_F_track_Track_Grades Try.f51 hint_F_track_Track_Grades = con_F_track_Track_Grades.F := by
  funext x
  kernel_rfl
theorem ok_F_track_Track_Grades : ConOK Try.prog con_F_track_Track_Grades :=
  con_of_run (Γ := ⟨tdGet tys, [con_F_span_At, con_F_grade_Bounds, con_F_span_Span_Hull]⟩) ⟨fun T d h => tysB_ok tys tys_ok T d h, by simp [ok_F_span_At, ok_F_grade_Bounds, ok_F_span_Span_Hull]⟩ (by kernel_rfl) Try.func51 rfl (by kernel_rfl) run_F_track_Track_Grades
/-- odograph/odographref11.Grades -/
noncomputable def F_ref11_Grades (t_1 : ((List (Int × ((List (Int × Int)) × (List Int)))) × (List (Int × (Int × (Int × (Int × Int))))))) : Option (Int × Int) :=
  chk none (true && (decide ((0 : Int) < (t_1.1.length : Int)))) <|
  let e_2 : (Int × ((List (Int × Int)) × (List Int))) := (t_1.1.getD (0 : Int).toNat ((0 : Int), ([], [])))
  chk none (true && (decide ((0 : Int) < (e_2.2.1.length : Int)))) <|
  let e_3 : (Int × Int) := (e_2.2.1.getD (0 : Int).toNat ((0 : Int), (0 : Int)))
  Option.bind (
    loopO (X := (Int × Int)) (fun (s_4 : (Int × (Int × Int))) =>
      let hi_5 : Int := s_4.1
      let lo_6 : Int := s_4.2.1
      let i_7 : Int := s_4.2.2
      let t22_8 : Bool := (decide (i_7 < (t_1.1.length : Int)))
      (bif t22_8 then
        Option.bind (
          loopO (X := (Int × Int)) (fun (s_9 : (Int × (Int × Int))) =>
            let hi_10 : Int := s_9.1
            let k_11 : Int := s_9.2.1
            let lo_12 : Int := s_9.2.2
            chk none ((decide ((0 : Int) ≤ i_7)) && (decide (i_7 < (t_1.1.length : Int)))) <|
            let e_13 : (Int × ((List (Int × Int)) × (List Int))) := (t_1.1.getD i_7.toNat ((0 : Int), ([], [])))
            let t33_14 : Bool := (decide (k_11 < (e_13.2.1.length : Int)))
            (bif t33_14 then
              chk none ((decide ((0 : Int) ≤ i_7)) && (decide (i_7 < (t_1.1.length : Int)))) <|
              let e_15 : (Int × ((List (Int × Int)) × (List Int))) := (t_1.1.getD i_7.toNat ((0 : Int), ([], [])))
              chk none ((decide ((0 : Int) ≤ k_11)) && (decide (k_11 < (e_15.2.1.length : Int)))) <|
              let e_16 : (Int × Int) := (e_15.2.1.getD k_11.toNat ((0 : Int), (0 : Int)))
              let t48_17 : Bool := (decide (e_16.2 < lo_12))
              Option.bind (
                (bif t48_17 then
                  some e_16.2
                else
                  some lo_12)) fun r_18 =>
              let t52_19 : Bool := (decide (hi_10 < e_16.2))
              Option.bind (
                (bif t52_19 then
                  some e_16.2
                else
                  some hi_10)) fun r_20 =>
              let t35_21 : Int := (IntKind.wrap .i64 (k_11 + (1 : Int)))
              some (.inl (r_20, t35_21, r_18))
            else
              some (.inr (hi_10, lo_12)))) (hi_5, (0 : Int), lo_6)) fun r_22 =>
        let hi_23 : Int := r_22.1
        let lo_24 : Int := r_22.2
        let t24_25 : Int := (IntKind.wrap .i64 (i_7 + (1 : Int)))
        some (.inl (hi_23, lo_24, t24_25))
      else
        some (.inr (hi_5, lo_6)))) (e_3.2, e_3.2, (0 : Int))) fun r_26 =>
  let hi_27 : Int := r_26.1
  let lo_28 : Int := r_26.2
  some (lo_28, hi_27)
noncomputable def con_F_ref11_Grades : Con := { f := 52, ps := [.dat (.agg (.pair (.slice (.agg (.pair (.int .i64) (.pair (.slice (.agg (.pair (.int .i64) (.int .i64)))) (.slice (.int .i64)))))) (.slice (.agg (.pair (.int .i64) (.pair (.int .i64) (.pair (.int .i64) (.pair (.int .i64) (.int .i64)))))))))], boxes := [], ins := (.agg (.pair (.slice (.agg (.pair (.int .i64) (.pair (.slice (.agg (.pair (.int .i64) (.int .i64)))) (.slice (.int .i64)))))) (.slice (.agg (.pair (.int .i64) (.pair (.int .i64) (.pair (.int .i64) (.pair (.int .i64) (.int .i64))))))))), nin := 1, outs := (.pair (.int .i64) (.int .i64)), rs := [.dat (.int .i64), .dat (.int .i64)], nout := 2, F := fun x => F_ref11_Grades x }
def hint_F_ref11_Grades : Hint := (.mk .plain [H0, (.mk .plain [H0, (.mk .plain [H0, (.mk .plain [(.mk .plain [H0, (.mk .plain [(.mk (.loop [⟨.slot 5, (.int .i64), none⟩, ⟨.slot 4, (.int .i64), none⟩, ⟨.slot 6, (.int .i64), none⟩] [(0, 30), (0, 36), (0, 42), (0, 39), (0, 45), (0, 48), (0, 51), (0, 8), (0, 23), (0, 20), (0, 26), (0, 29), (0, 35), (0, 32), (0, 38), (0, 41), (0, 47), (0, 44), (0, 50), (0, 53), (0, 7), (0, 19), (0, 22), (0, 28), (0, 25), (0, 31), (0, 34), (0, 40), (0, 37), (0, 43), (0, 46), (0, 52), (0, 49), (0, 21), (0, 18), (0, 24), (0, 27), (0, 33)] [(.exit 0, [⟨.slot 5, (.int .i64), none⟩, ⟨.slot 4, (.int .i64), none⟩])]) [(.mk .plain [H0, (.mk .plain [(.mk .plain [(.mk .plain [H0, (.mk .plain [(.mk (.loop [⟨.slot 5, (.int .i64), none⟩, ⟨.slot 7, (.int .i64), none⟩, ⟨.slot 4, (.int .i64), none⟩] [(0, 30), (0, 36), (0, 42), (0, 39), (0, 45), (0, 48), (0, 51), (0, 8), (0, 26), (0, 29), (0, 35), (0, 32), (0, 38), (0, 41), (0, 47), (0, 44), (0, 50), (0, 53), (0, 28), (0, 25), (0, 31), (0, 34), (0, 40), (0, 37), (0, 43), (0, 46), (0, 52), (0, 49), (0, 27), (0, 33)] [(.exit 2, [⟨.slot 5, (.int .i64), none⟩, ⟨.slot 4, (.int .i64), none⟩])]) [(.mk .plain [H0, (.mk .plain [(.mk .plain [(.mk .plain [H0, (.mk .plain [(.mk .plain [H0, (.mk (.join [(0, 49)] [(.normal, [⟨.slot 4, (.int .i64), none⟩])]) [])]), (.mk .plain [H0, (.mk (.join [(0, 53)] [(.normal, [⟨.slot 5, (.int .i64), none⟩])]) [])])])])])])])])])])])])])])])])])])])])
theorem run_F_ref11_Grades : runE ⟨tdGet tys, []⟩ con_F_ref11_Grades Try.f52 hint_F_ref11_Grades = con_F_ref11_Grades.F := by
  funext x
  kernel_rfl
theorem ok_F_ref11_Grades : ConOK Try.prog con_F_ref11_Grades :=
  con_of_run (Γ := ⟨tdGet tys, []⟩) ⟨fun T d h => tysB_ok tys tys_ok T d h, by simp []⟩ (by kernel_rfl) Try.func52 rfl (by kernel_rfl) run_F_ref11_Grades
/-- odograph/odographlaw11.TrackGrades -/
noncomputable def F_law11_TrackGrades (t_1 : ((List (Int × ((List (Int × Int)) × (List Int)))) × (List (Int × (Int × (Int × (Int × Int))))))) : Option Bool :=
  (F_law11_anchor ()).bind fun t9_2 =>
  (bif (!t9_2) then
    some false
  else
    (F_law11_great t_1).bind fun t12_3 =>
    (bif t12_3 then
      some true
    else
      (F_law11_refs t_1).bind fun t14_4 =>
      (F_ref11_Check t14_4).bind fun t17_5 =>
      (bif (t17_5.1 != (0 : Int)) then
        some true
      else
        (F_track_Track_Grades t_1).bind fun t23_6 =>
        (F_ref11_Grades t14_4).bind fun t26_7 =>
        let t38_8 : Bool := (bif (t23_6.1 == t26_7.1) then (t23_6.2 == t26_7.2) else false)
        some t38_8)))
noncomputable def con_F_law11_TrackGrades : Con := { f := 17, ps := [.dat (.agg (.pair (.slice (.agg (.pair (.int .i64) (.pair (.slice (.agg (.pair (.int .i64) (.int .i64)))) (.slice (.int .i64)))))) (.slice (.agg (.pair (.int .i64) (.pair (.int .i64) (.pair (.int .i64) (.pair (.int .i64) (.int .i64)))))))))], boxes := [], ins := (.agg (.pair (.slice (.agg (.pair (.int .i64) (.pair (.slice (.agg (.pair (.int .i64) (.int .i64)))) (.slice (.int .i64)))))) (.slice (.agg (.pair (.int .i64) (.pair (.int .i64) (.pair (.int .i64) (.pair (.int .i64) (.int .i64))))))))), nin := 1, outs := .bool, rs := [.dat .bool], nout := 1, F := fun x => F_law11_TrackGrades x }
def hint_F_law11_TrackGrades : Hint := H0
theorem run_F_law11_TrackGrades : runE ⟨tdGet tys, [con_F_law11_anchor, con_F_law11_great, con_F_law11_refs, con_F_ref11_Check, con_F_track_Track_Grades, con_F_ref11_Grades]⟩ con_F_law11_TrackGrades Try.f17 hint_F_law11_TrackGrades = con_F_law11_TrackGrades.F := by
  funext x
  kernel_rfl
theorem ok_F_law11_TrackGrades : ConOK Try.prog con_F_law11_TrackGrades :=
  con_of_run (Γ := ⟨tdGet tys, [con_F_law11_anchor, con_F_law11_great, con_F_law11_refs, con_F_ref11_Check, con_F_track_Track_Grades, con_F_ref11_Grades]⟩) ⟨fun T d h => tysB_ok tys tys_ok T d h, by simp [ok_F_law11_anchor, ok_F_law11_great, ok_F_law11_refs, ok_F_ref11_Check, ok_F_track_Track_Grades, ok_F_ref11_Grades]⟩ (by kernel_rfl) Try.func17 rfl (by kernel_rfl) run_F_law11_TrackGrades
end Go.Proofs.Ytckghclpdfbigaa
