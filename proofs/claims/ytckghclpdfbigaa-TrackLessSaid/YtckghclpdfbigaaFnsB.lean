/- The functional reading of the code (printed). -/
import Derived.Test.YtckghclpdfbigaaTysB
set_option linter.unusedSimpArgs false
set_option linter.unusedVariables false
namespace Go.Proofs.Ytckghclpdfbigaa
open Go
/-- odograph/odographlaw18.usual -/
noncomputable def F_law18_usual (n_1 : Int) : Option (Int × (Int × (Int × (Int × (Int × (Int × (Int × (Int × (Int × (Int × (Int × (Int × (Int × Int))))))))))))) :=
  let t4_2 : (Int × (Int × (Int × (Int × (Int × (Int × (Int × (Int × (Int × (Int × (Int × (Int × (Int × Int))))))))))))) := ((1024 : Int), ((131072 : Int), ((131072 : Int), ((0 : Int), ((0 : Int), ((0 : Int), ((1000 : Int), ((100 : Int), ((0 : Int), (n_1, ((128 : Int), ((0 : Int), ((5 : Int), (1 : Int))))))))))))))
  some t4_2
noncomputable def con_F_law18_usual : Con := { f := 60, ps := [.dat (.int .i64)], boxes := [], ins := (.int .i64), nin := 1, outs := (.agg (.pair (.int .i64) (.pair (.int .i64) (.pair (.int .i64) (.pair (.int .i64) (.pair (.int .i64) (.pair (.int .i64) (.pair (.int .i64) (.pair (.int .i64) (.pair (.int .i64) (.pair (.int .i64) (.pair (.int .i64) (.pair (.int .i64) (.pair (.int .i64) (.int .i64))))))))))))))), rs := [.dat (.agg (.pair (.int .i64) (.pair (.int .i64) (.pair (.int .i64) (.pair (.int .i64) (.pair (.int .i64) (.pair (.int .i64) (.pair (.int .i64) (.pair (.int .i64) (.pair (.int .i64) (.pair (.int .i64) (.pair (.int .i64) (.pair (.int .i64) (.pair (.int .i64) (.int .i64)))))))))))))))], nout := 1, F := fun x => F_law18_usual x }
def hint_F_law18_usual : Hint := H0
theorem run_F_law18_usual : runE ⟨tdGet tys, []⟩ con_F_law18_usual Try.f60 hint_F_law18_usual = con_F_law18_usual.F := by
  funext x
  kernel_rfl
theorem ok_F_law18_usual : ConOK Try.prog con_F_law18_usual :=
  con_of_run (Γ := ⟨tdGet tys, []⟩) ⟨fun T d h => tysB_ok tys tys_ok T d h, by simp []⟩ (by kernel_rfl) Try.func60 rfl (by kernel_rfl) run_F_law18_usual
/-- (odograph/span.Span).Right -/
noncomputable def F_span_Span_Right (s_1 : (Int × Int)) : Option Bool :=
  some (decide (s_1.1 ≤ s_1.2))
noncomputable def con_F_span_Span_Right : Con := { f := 63, ps := [.dat (.agg (.pair (.int .i64) (.int .i64)))], boxes := [], ins := (.agg (.pair (.int .i64) (.int .i64))), nin := 1, outs := .bool, rs := [.dat .bool], nout := 1, F := fun x => F_span_Span_Right x }
def hint_F_span_Span_Right : Hint := H0
theorem run_F_span_Span_Right : runE ⟨tdGet tys, []⟩ con_F_span_Span_Right Try.f63 hint_F_span_Span_Right = con_F_span_Span_Right.F := by
  funext x
  kernel_rfl
theorem ok_F_span_Span_Right : ConOK Try.prog con_F_span_Span_Right :=
  con_of_run (Γ := ⟨tdGet tys, []⟩) ⟨fun T d h => tysB_ok tys tys_ok T d h, by simp []⟩ (by kernel_rfl) Try.func63 rfl (by kernel_rfl) run_F_span_Span_Right
/-- (odograph/span.Span).In -/
noncomputable def F_span_Span_In (s_1 : (Int × Int)) (t_2 : (Int × Int)) : Option Bool :=
  (F_span_Span_Right s_1).bind fun t6_3 =>
  let t20_4 : Bool := (bif (decide (t_2.1 ≤ s_1.1)) then (decide (s_1.2 ≤ t_2.2)) else false)
  let t21_5 : Bool := (bif (!t6_3) then true else t20_4)
  some t21_5
noncomputable def con_F_span_Span_In : Con := { f := 62, ps := [.dat (.agg (.pair (.int .i64) (.int .i64))), .dat (.agg (.pair (.int .i64) (.int .i64)))], boxes := [], ins := (.pair (.agg (.pair (.int .i64) (.int .i64))) (.agg (.pair (.int .i64) (.int .i64)))), nin := 2, outs := .bool, rs := [.dat .bool], nout := 1, F := fun x => F_span_Span_In x.1 x.2 }
def hint_F_span_Span_In : Hint := H0
theorem run_F_span_Span_In : runE ⟨tdGet tys, [con_F_span_Span_Right]⟩ con_F_span_Span_In Try.f62 hint_F_span_Span_In = con_F_span_Span_In.F := by
  funext x
  kernel_rfl
theorem ok_F_span_Span_In : ConOK Try.prog con_F_span_Span_In :=
  con_of_run (Γ := ⟨tdGet tys, [con_F_span_Span_Right]⟩) ⟨fun T d h => tysB_ok tys tys_ok T d h, by simp [ok_F_span_Span_Right]⟩ (by kernel_rfl) Try.func62 rfl (by kernel_rfl) run_F_span_Span_In
/-- odograph/still.Slow -/
noncomputable def F_still_Slow (c_1 : (Int × (Int × (Int × (Int × (Int × (Int × (Int × (Int × (Int × (Int × (Int × (Int × (Int × Int)))))))))))))) (speed_2 : (Int × Int)) : Option Bool :=
  let t7_3 : Int := c_1.2.2.2.2.2.2.2.2.2.2.1
  let t8_4 : Int := (IntKind.wrap .i64 (0 - t7_3))
  let t10_5 : Int := c_1.2.2.2.2.2.2.2.2.2.2.1
  (F_span_Span_In speed_2 (t8_4, t10_5)).bind fun t12_6 =>
  some t12_6
noncomputable def con_F_still_Slow : Con := { f := 21, ps := [.dat (.agg (.pair (.int .i64) (.pair (.int .i64) (.pair (.int .i64) (.pair (.int .i64) (.pair (.int .i64) (.pair (.int .i64) (.pair (.int .i64) (.pair (.int .i64) (.pair (.int .i64) (.pair (.int .i64) (.pair (.int .i64) (.pair (.int .i64) (.pair (.int .i64) (.int .i64))))))))))))))), .dat (.agg (.pair (.int .i64) (.int .i64)))], boxes := [], ins := (.pair (.agg (.pair (.int .i64) (.pair (.int .i64) (.pair (.int .i64) (.pair (.int .i64) (.pair (.int .i64) (.pair (.int .i64) (.pair (.int .i64) (.pair (.int .i64) (.pair (.int .i64) (.pair (.int .i64) (.pair (.int .i64) (.pair (.int .i64) (.pair (.int .i64) (.int .i64))))))))))))))) (.agg (.pair (.int .i64) (.int .i64)))), nin := 2, outs := .bool, rs := [.dat .bool], nout := 1, F := fun x => F_still_Slow x.1 x.2 }
def hint_F_still_Slow : Hint := H0
theorem run_F_still_Slow : runE ⟨tdGet tys, [con_F_span_Span_In]⟩ con_F_still_Slow Try.f21 hint_F_still_Slow = con_F_still_Slow.F := by
  funext x
  kernel_rfl
theorem ok_F_still_Slow : ConOK Try.prog con_F_still_Slow :=
  con_of_run (Γ := ⟨tdGet tys, [con_F_span_Span_In]⟩) ⟨fun T d h => tysB_ok tys tys_ok T d h, by simp [ok_F_span_Span_In]⟩ (by kernel_rfl) Try.func21 rfl (by kernel_rfl) run_F_still_Slow
/-- (odograph/still.Still).Next -/
noncomputable def F_still_Still_Next (s_1 : (Int × Bool)) (c_2 : (Int × (Int × (Int × (Int × (Int × (Int × (Int × (Int × (Int × (Int × (Int × (Int × (Int × Int)))))))))))))) (speed_3 : (Int × Int)) (fit_4 : Int) : Option (Int × Bool) :=
  let t11_5 : Bool := (decide (fit_4 < (1 : Int)))
  (bif !t11_5 then F_still_Slow c_2 speed_3 else some false).bind fun t15_6 =>
  let t17_7 : Bool := (bif t11_5 then true else (!t15_6))
  (bif t17_7 then
    let w_8 : (Int × Bool) := ((0 : Int), false)
    some w_8
  else
    let t21_9 : Int := (IntKind.wrap .i64 (s_1.1 + (1 : Int)))
    let t24_10 : Int := (if c_2.2.2.2.2.2.2.2.2.2.1 < t21_9 then c_2.2.2.2.2.2.2.2.2.2.1 else t21_9)
    let t29_11 : Bool := (decide (c_2.2.2.2.2.2.2.2.2.2.1 ≤ t24_10))
    let w_12 : (Int × Bool) := (t24_10, t29_11)
    some w_12)
noncomputable def con_F_still_Still_Next : Con := { f := 22, ps := [.dat (.agg (.pair (.int .i64) .bool)), .dat (.agg (.pair (.int .i64) (.pair (.int .i64) (.pair (.int .i64) (.pair (.int .i64) (.pair (.int .i64) (.pair (.int .i64) (.pair (.int .i64) (.pair (.int .i64) (.pair (.int .i64) (.pair (.int .i64) (.pair (.int .i64) (.pair (.int .i64) (.pair (.int .i64) (.int .i64))))))))))))))), .dat (.agg (.pair (.int .i64) (.int .i64))), .dat (.int .i64)], boxes := [], ins := (.pair (.agg (.pair (.int .i64) .bool)) (.pair (.agg (.pair (.int .i64) (.pair (.int .i64) (.pair (.int .i64) (.pair (.int .i64) (.pair (.int .i64) (.pair (.int .i64) (.pair (.int .i64) (.pair (.int .i64) (.pair (.int .i64) (.pair (.int .i64) (.pair (.int .i64) (.pair (.int .i64) (.pair (.int .i64) (.int .i64))))))))))))))) (.pair (.agg (.pair (.int .i64) (.int .i64))) (.int .i64)))), nin := 4, outs := (.agg (.pair (.int .i64) .bool)), rs := [.dat (.agg (.pair (.int .i64) .bool))], nout := 1, F := fun x => F_still_Still_Next x.1 x.2.1 x.2.2.1 x.2.2.2 }
def hint_F_still_Still_Next : Hint := H0
theorem run_F_still_Still_Next : runE ⟨tdGet tys, [con_F_still_Slow]⟩ con_F_still_Still_Next Try.f22 hint_F_still_Still_Next = con_F_still_Still_Next.F := by
  funext x
  kernel_rfl
theorem ok_F_still_Still_Next : ConOK Try.prog con_F_still_Still_Next :=
  con_of_run (Γ := ⟨tdGet tys, [con_F_still_Slow]⟩) ⟨fun T d h => tysB_ok tys tys_ok T d h, by simp [ok_F_still_Slow]⟩ (by kernel_rfl) Try.func22 rfl (by kernel_rfl) run_F_still_Still_Next
/-- odograph/odographlaw18.anchor -/
noncomputable def F_law18_anchor (_ : Unit) : Option Bool :=
  (F_law18_usual (2 : Int)).bind fun t3_1 =>
  (F_still_Still_Next ((0 : Int), false) t3_1 ((-1 : Int), (3 : Int)) (1 : Int)).bind fun t7_2 =>
  (F_still_Still_Next t7_2 t3_1 ((0 : Int), (128 : Int)) (1 : Int)).bind fun t10_3 =>
  let t17_4 : Bool := (bif t10_3.2 then (t10_3.1 == (2 : Int)) else false)
  (bif t17_4 then F_still_Still_Next t10_3 t3_1 ((0 : Int), (129 : Int)) (3 : Int) else some ((0 : Int), false)).bind fun t22_5 =>
  let t25_6 : Bool := (bif t17_4 then (!t22_5.2) else false)
  some t25_6
noncomputable def con_F_law18_anchor : Con := { f := 19, ps := [], boxes := [], ins := .unit, nin := 0, outs := .bool, rs := [.dat .bool], nout := 1, F := fun x => F_law18_anchor () }
def hint_F_law18_anchor : Hint := H0
theorem run_F_law18_anchor : runE ⟨tdGet tys, [con_F_law18_usual, con_F_still_Still_Next]⟩ con_F_law18_anchor Try.f19 hint_F_law18_anchor = con_F_law18_anchor.F := by
  funext x
  kernel_rfl
theorem ok_F_law18_anchor : ConOK Try.prog con_F_law18_anchor :=
  con_of_run (Γ := ⟨tdGet tys, [con_F_law18_usual, con_F_still_Still_Next]⟩) ⟨fun T d h => tysB_ok tys tys_ok T d h, by simp [ok_F_law18_usual, ok_F_still_Still_Next]⟩ (by kernel_rfl) Try.func19 rfl (by kernel_rfl) run_F_law18_anchor
/-- odograph/odographref13.Up -/
noncomputable def F_ref13_Up (a_1 : Int) (b_2 : Int) : Option Int :=
  let t7_3 : Int := (IntKind.wrap .i64 (a_1 + b_2))
  let t8_4 : Int := (IntKind.wrap .i64 (t7_3 - (1 : Int)))
  chk none (!(b_2 == (0 : Int))) <|
  let t10_5 : Int := (IntKind.wrap .i64 (t8_4.tdiv b_2))
  some t10_5
noncomputable def con_F_ref13_Up : Con := { f := 61, ps := [.dat (.int .i64), .dat (.int .i64)], boxes := [], ins := (.pair (.int .i64) (.int .i64)), nin := 2, outs := (.int .i64), rs := [.dat (.int .i64)], nout := 1, F := fun x => F_ref13_Up x.1 x.2 }
def hint_F_ref13_Up : Hint := H0
theorem run_F_ref13_Up : runE ⟨tdGet tys, []⟩ con_F_ref13_Up Try.f61 hint_F_ref13_Up = con_F_ref13_Up.F := by
  funext x
  kernel_rfl
theorem ok_F_ref13_Up : ConOK Try.prog con_F_ref13_Up :=
  con_of_run (Γ := ⟨tdGet tys, []⟩) ⟨fun T d h => tysB_ok tys tys_ok T d h, by simp []⟩ (by kernel_rfl) Try.func61 rfl (by kernel_rfl) run_F_ref13_Up
/-- odograph/odographref13.Wrong -/
noncomputable def F_ref13_Wrong (c_1 : (Int × (Int × (Int × (Int × (Int × (Int × (Int × (Int × (Int × (Int × (Int × (Int × (Int × Int)))))))))))))) : Option Int :=
  let t5_2 : Bool := (decide (c_1.1 < (1 : Int)))
  let t9_3 : Bool := (decide ((1024 : Int) < c_1.1))
  let t10_4 : Bool := (bif t5_2 then true else t9_3)
  (bif t10_4 then
    some (1 : Int)
  else
    let t13_5 : Bool := (decide (c_1.2.1 < (131072 : Int)))
    let t17_6 : Bool := (decide ((8388608 : Int) < c_1.2.1))
    let t18_7 : Bool := (bif t13_5 then true else t17_6)
    let t24_8 : Bool := (decide (c_1.2.2.1 < c_1.2.1))
    let t25_9 : Bool := (bif t18_7 then true else t24_8)
    let t29_10 : Bool := (decide ((8388608 : Int) < c_1.2.2.1))
    let t30_11 : Bool := (bif t25_9 then true else t29_10)
    (bif t30_11 then
      some (2 : Int)
    else
      let t35_12 : Int := (IntKind.wrap .i64 (c_1.2.2.1 - c_1.2.1))
      let t36_13 : Int := (IntKind.wrap .i64 (t35_12 * (16 : Int)))
      let t39_14 : Bool := (decide (c_1.2.1 < t36_13))
      (bif t39_14 then
        some (3 : Int)
      else
        let t42_15 : Bool := (decide (c_1.2.2.2.1 < (0 : Int)))
        let t46_16 : Bool := (decide ((1048576 : Int) < c_1.2.2.2.1))
        let t47_17 : Bool := (bif t42_15 then true else t46_16)
        let t51_18 : Bool := (decide (c_1.2.2.2.2.1 < (0 : Int)))
        let t52_19 : Bool := (bif t47_17 then true else t51_18)
        let t56_20 : Bool := (decide ((65536 : Int) < c_1.2.2.2.2.1))
        let t57_21 : Bool := (bif t52_19 then true else t56_20)
        (bif t57_21 then
          some (4 : Int)
        else
          let t60_22 : Bool := (decide (c_1.2.2.2.2.2.1 < (0 : Int)))
          let t64_23 : Bool := (decide ((1048576 : Int) < c_1.2.2.2.2.2.1))
          let t65_24 : Bool := (bif t60_22 then true else t64_23)
          (bif t65_24 then
            some (5 : Int)
          else
            let t68_25 : Bool := (decide (c_1.2.2.2.2.2.2.1 < (1 : Int)))
            let t72_26 : Bool := (decide ((16777216 : Int) < c_1.2.2.2.2.2.2.1))
            let t73_27 : Bool := (bif t68_25 then true else t72_26)
            let t77_28 : Bool := (decide (c_1.2.2.2.2.2.2.2.1 < (1 : Int)))
            let t78_29 : Bool := (bif t73_27 then true else t77_28)
            let t82_30 : Bool := (decide ((1048576 : Int) < c_1.2.2.2.2.2.2.2.1))
            let t83_31 : Bool := (bif t78_29 then true else t82_30)
            (bif t83_31 then
              some (6 : Int)
            else
              let t88_32 : Int := (IntKind.wrap .i64 (c_1.2.2.2.2.2.2.1 * c_1.1))
              let t91_33 : Int := (IntKind.wrap .i64 ((32000 : Int) * c_1.2.1))
              let t92_34 : Bool := (decide (t91_33 < t88_32))
              (bif t92_34 then
                some (7 : Int)
              else
                let t95_35 : Bool := (decide (c_1.2.2.2.2.2.2.2.2.1 < (0 : Int)))
                let t99_36 : Bool := (decide ((1048576 : Int) < c_1.2.2.2.2.2.2.2.2.1))
                let t100_37 : Bool := (bif t95_35 then true else t99_36)
                (bif t100_37 then
                  some (8 : Int)
                else
                  let t103_38 : Bool := (decide (c_1.2.2.2.2.2.2.2.2.2.1 < (1 : Int)))
                  let t107_39 : Bool := (decide ((1000 : Int) < c_1.2.2.2.2.2.2.2.2.2.1))
                  let t108_40 : Bool := (bif t103_38 then true else t107_39)
                  let t111_41 : Int := c_1.2.2.2.2.2.2.2.2.2.2.2.2.1
                  let t112_42 : Bool := (decide (t111_41 < (1 : Int)))
                  let t113_43 : Bool := (bif t108_40 then true else t112_42)
                  let t116_44 : Int := c_1.2.2.2.2.2.2.2.2.2.2.2.2.1
                  let t117_45 : Bool := (decide ((1000 : Int) < t116_44))
                  let t118_46 : Bool := (bif t113_43 then true else t117_45)
                  (bif t118_46 then
                    some (9 : Int)
                  else
                    let t120_47 : Int := c_1.2.2.2.2.2.2.2.2.2.2.1
                    (F_ref13_Up c_1.2.2.1 c_1.1).bind fun t125_48 =>
                    let t126_49 : Bool := (decide (t120_47 < t125_48))
                    let t129_50 : Int := c_1.2.2.2.2.2.2.2.2.2.2.1
                    let t132_51 : Int := (IntKind.wrap .i64 ((3 : Int) * c_1.2.2.2.1))
                    let t133_52 : Bool := (decide (t129_50 < t132_51))
                    let t134_53 : Bool := (bif t126_49 then true else t133_52)
                    let t137_54 : Int := c_1.2.2.2.2.2.2.2.2.2.2.1
                    let t138_55 : Bool := (decide ((16777216 : Int) < t137_54))
                    let t139_56 : Bool := (bif t134_53 then true else t138_55)
                    (bif t139_56 then
                      some (10 : Int)
                    else
                      let t141_57 : Int := c_1.2.2.2.2.2.2.2.2.2.2.2.1
                      let t142_58 : Bool := (decide (t141_57 < (0 : Int)))
                      let t145_59 : Int := c_1.2.2.2.2.2.2.2.2.2.2.2.1
                      let t146_60 : Bool := (decide ((1073741824 : Int) < t145_59))
                      let t147_61 : Bool := (bif t142_58 then true else t146_60)
                      (bif t147_61 then
                        some (11 : Int)
                      else
                        let t149_62 : Int := c_1.2.2.2.2.2.2.2.2.2.2.2.2.2
                        let t150_63 : Bool := (decide (t149_62 < (1 : Int)))
                        let t153_64 : Int := c_1.2.2.2.2.2.2.2.2.2.2.2.2.2
                        let t154_65 : Bool := (decide ((1048576 : Int) < t153_64))
                        let t155_66 : Bool := (bif t150_63 then true else t154_65)
                        (bif t155_66 then
                          some (12 : Int)
                        else
                          some (0 : Int)))))))))))))
noncomputable def con_F_ref13_Wrong : Con := { f := 20, ps := [.dat (.agg (.pair (.int .i64) (.pair (.int .i64) (.pair (.int .i64) (.pair (.int .i64) (.pair (.int .i64) (.pair (.int .i64) (.pair (.int .i64) (.pair (.int .i64) (.pair (.int .i64) (.pair (.int .i64) (.pair (.int .i64) (.pair (.int .i64) (.pair (.int .i64) (.int .i64)))))))))))))))], boxes := [], ins := (.agg (.pair (.int .i64) (.pair (.int .i64) (.pair (.int .i64) (.pair (.int .i64) (.pair (.int .i64) (.pair (.int .i64) (.pair (.int .i64) (.pair (.int .i64) (.pair (.int .i64) (.pair (.int .i64) (.pair (.int .i64) (.pair (.int .i64) (.pair (.int .i64) (.int .i64))))))))))))))), nin := 1, outs := (.int .i64), rs := [.dat (.int .i64)], nout := 1, F := fun x => F_ref13_Wrong x }
def hint_F_ref13_Wrong : Hint := H0
theorem run_F_ref13_Wrong : runE ⟨tdGet tys, [con_F_ref13_Up]⟩ con_F_ref13_Wrong Try.f20 hint_F_ref13_Wrong = con_F_ref13_Wrong.F := by
  funext x
  kernel_rfl
theorem ok_F_ref13_Wrong : ConOK Try.prog con_F_ref13_Wrong :=
  con_of_run (Γ := ⟨tdGet tys, [con_F_ref13_Up]⟩) ⟨fun T d h => tysB_ok tys tys_ok T d h, by simp [ok_F_ref13_Up]⟩ (by kernel_rfl) Try.func20 rfl (by kernel_rfl) run_F_ref13_Wrong
/-- odograph/odographlaw18.StillPlays -/
noncomputable def F_law18_StillPlays (c_1 : (Int × (Int × (Int × (Int × (Int × (Int × (Int × (Int × (Int × (Int × (Int × (Int × (Int × Int)))))))))))))) (cycles_2 : (List ((Int × Int) × Int))) : Option Bool :=
  (F_law18_anchor ()).bind fun t10_3 =>
  (bif (!t10_3) then
    some false
  else
    (F_ref13_Wrong c_1).bind fun t13_4 =>
    let t18_5 : Bool := (decide ((3000 : Int) < (cycles_2.length : Int)))
    let t19_6 : Bool := (bif (t13_4 != (0 : Int)) then true else t18_5)
    (bif t19_6 then
      some true
    else
      Option.bind (α := Bool ⊕ Unit) (
        loopO (X := Bool ⊕ Unit) (fun (s_7 : (Bool × (Int × (Int × Int)))) =>
          let b1_8 : Bool := s_7.1
          let n_9 : Int := s_7.2.1
          let b1_10 : Int := s_7.2.2.1
          let t22_11 : Int := s_7.2.2.2
          let t23_12 : Bool := (decide (t22_11 < (cycles_2.length : Int)))
          (bif t23_12 then
            chk none ((decide ((0 : Int) ≤ t22_11)) && (decide (t22_11 < (cycles_2.length : Int)))) <|
            let t25_13 : ((Int × Int) × Int) := (cycles_2.getD t22_11.toNat (((0 : Int), (0 : Int)), (0 : Int)))
            let t32_14 : Bool := (decide (t25_13.1.2 < t25_13.1.1))
            (bif t32_14 then
              some (.inr (.inl true))
            else
              let t37_15 : Int := c_1.2.2.2.2.2.2.2.2.2.2.1
              let t38_16 : Int := (IntKind.wrap .i64 (0 - t37_15))
              let t39_17 : Bool := (decide (t38_16 ≤ t25_13.1.1))
              let t45_18 : Int := c_1.2.2.2.2.2.2.2.2.2.2.1
              let t46_19 : Bool := (decide (t25_13.1.2 ≤ t45_18))
              let t47_20 : Bool := (bif t39_17 then t46_19 else false)
              (F_still_Slow c_1 t25_13.1).bind fun t51_21 =>
              (bif (!(t51_21 == t47_20)) then
                some (.inr (.inl false))
              else
                let t55_22 : Int := (IntKind.wrap .i64 (n_9 + (1 : Int)))
                let t61_23 : Bool := (decide (t25_13.2 < (1 : Int)))
                let t62_24 : Bool := (bif (!t47_20) then true else t61_23)
                Option.bind (
                  (bif t62_24 then
                    some (0 : Int)
                  else
                    some t55_22)) fun r_25 =>
                (F_still_Still_Next (b1_10, b1_8) c_1 t25_13.1 t25_13.2).bind fun t69_26 =>
                let t75_27 : Bool := (decide (c_1.2.2.2.2.2.2.2.2.2.1 ≤ r_25))
                let t83_28 : Int := (if c_1.2.2.2.2.2.2.2.2.2.1 < r_25 then c_1.2.2.2.2.2.2.2.2.2.1 else r_25)
                let t85_29 : Bool := (bif (!(t69_26.2 == t75_27)) then true else (t69_26.1 != t83_28))
                (bif t85_29 then
                  some (.inr (.inl false))
                else
                  let t86_30 : Int := (IntKind.wrap .i64 (t22_11 + (1 : Int)))
                  some (.inl (t69_26.2, r_25, t69_26.1, t86_30)))))
          else
            some (.inr (.inr ())))) (false, (0 : Int), (0 : Int), (0 : Int))) fun z => match z with
      | .inl r_31 =>
        some r_31
      | .inr _ =>
        some true))
noncomputable def con_F_law18_StillPlays : Con := { f := 3, ps := [.dat (.agg (.pair (.int .i64) (.pair (.int .i64) (.pair (.int .i64) (.pair (.int .i64) (.pair (.int .i64) (.pair (.int .i64) (.pair (.int .i64) (.pair (.int .i64) (.pair (.int .i64) (.pair (.int .i64) (.pair (.int .i64) (.pair (.int .i64) (.pair (.int .i64) (.int .i64))))))))))))))), .dat (.slice (.agg (.pair (.agg (.pair (.int .i64) (.int .i64))) (.int .i64))))], boxes := [], ins := (.pair (.agg (.pair (.int .i64) (.pair (.int .i64) (.pair (.int .i64) (.pair (.int .i64) (.pair (.int .i64) (.pair (.int .i64) (.pair (.int .i64) (.pair (.int .i64) (.pair (.int .i64) (.pair (.int .i64) (.pair (.int .i64) (.pair (.int .i64) (.pair (.int .i64) (.int .i64))))))))))))))) (.slice (.agg (.pair (.agg (.pair (.int .i64) (.int .i64))) (.int .i64))))), nin := 2, outs := .bool, rs := [.dat .bool], nout := 1, F := fun x => F_law18_StillPlays x.1 x.2 }
def hint_F_law18_StillPlays : Hint := (.mk .plain [H0, (.mk .plain [H0, (.mk .plain [H0, (.mk .plain [H0, (.mk .plain [H0, (.mk .plain [(.mk .plain [H0, (.mk .plain [(.mk (.loop [⟨.cell 1 1, .bool, none⟩, ⟨.slot 6, (.int .i64), none⟩, ⟨.cell 1 0, (.int .i64), none⟩, ⟨.slot 22, (.int .i64), none⟩] [(0, 23), (0, 30), (0, 4), (0, 26), (0, 29), (0, 32), (0, 28), (0, 25), (0, 31), (0, 24), (0, 27), (0, 8), (0, 36), (0, 42), (0, 39), (0, 45), (0, 48), (0, 51), (0, 35), (0, 38), (0, 41), (0, 47), (0, 44), (0, 50), (0, 53), (0, 34), (0, 40), (0, 37), (0, 43), (0, 46), (0, 52), (0, 49), (0, 9), (0, 33), (0, 54), (0, 60), (0, 69), (0, 78), (0, 75), (0, 84), (0, 62), (0, 71), (0, 80), (0, 77), (0, 55), (0, 64), (0, 73), (0, 70), (0, 79), (0, 57), (0, 66), (0, 63), (0, 72), (0, 81), (0, 59), (0, 56), (0, 68), (0, 65), (0, 74), (0, 83), (0, 61), (0, 58), (0, 67), (0, 76), (0, 85), (0, 82), (0, 86)] [(.ret, [⟨.slot 4, .bool, none⟩]), (.exit 0, [])]) [(.mk .plain [H0, (.mk .plain [H0, (.mk .plain [(.mk .plain [(.mk .plain [H0, (.mk .plain [H0, (.mk .plain [H0, (.mk .plain [H0, (.mk .plain [H0, (.mk .plain [(.mk .plain [H0, (.mk (.join [] [(.normal, [⟨.slot 6, (.int .i64), none⟩])]) [])])])])])])])])])])])])])])])])])])])])])
theorem run_F_law18_StillPlays : runE ⟨tdGet tys, [con_F_law18_anchor, con_F_ref13_Wrong, con_F_still_Slow, con_F_still_Still_Next]⟩ con_F_law18_StillPlays Try.f3 hint_F_law18_StillPlays = con_F_law18_StillPlays.F := by
  funext x
  kernel_rfl
theorem ok_F_law18_StillPlays : ConOK Try.prog con_F_law18_StillPlays :=
  con_of_run (Γ := ⟨tdGet tys, [con_F_law18_anchor, con_F_ref13_Wrong, con_F_still_Slow, con_F_still_Still_Next]⟩) ⟨fun T d h => tysB_ok tys tys_ok T d h, by simp [ok_F_law18_anchor, ok_F_ref13_Wrong, ok_F_still_Slow, ok_F_still_Still_Next]⟩ (by kernel_rfl) Try.func3 rfl (by kernel_rfl) run_F_law18_StillPlays
/-- odograph/odographlaw18.StillNarrow -/
noncomputable def F_law18_StillNarrow (c_1 : (Int × (Int × (Int × (Int × (Int × (Int × (Int × (Int × (Int × (Int × (Int × (Int × (Int × Int)))))))))))))) (cycles_2 : (List ((Int × Int) × Int))) (better_3 : (List ((Int × Int) × Int))) : Option Bool :=
  (F_law18_anchor ()).bind fun t12_4 =>
  (bif (!t12_4) then
    some false
  else
    (F_ref13_Wrong c_1).bind fun t15_5 =>
    let t20_6 : Bool := (decide ((3000 : Int) < (cycles_2.length : Int)))
    let t21_7 : Bool := (bif (t15_5 != (0 : Int)) then true else t20_6)
    let t27_8 : Bool := ((cycles_2.length : Int) != (better_3.length : Int))
    let t28_9 : Bool := (bif t21_7 then true else t27_8)
    (bif t28_9 then
      some true
    else
      Option.bind (α := Bool ⊕ Unit) (
        loopO (X := Bool ⊕ Unit) (fun (s_10 : (Int × (Bool × (Bool × (Int × Int))))) =>
          let b2_11 : Int := s_10.1
          let b1_12 : Bool := s_10.2.1
          let b2_13 : Bool := s_10.2.2.1
          let b1_14 : Int := s_10.2.2.2.1
          let t31_15 : Int := s_10.2.2.2.2
          let t32_16 : Bool := (decide (t31_15 < (cycles_2.length : Int)))
          (bif t32_16 then
            chk none ((decide ((0 : Int) ≤ t31_15)) && (decide (t31_15 < (cycles_2.length : Int)))) <|
            let t35_17 : ((Int × Int) × Int) := (cycles_2.getD t31_15.toNat (((0 : Int), (0 : Int)), (0 : Int)))
            chk none ((decide ((0 : Int) ≤ t31_15)) && (decide (t31_15 < (better_3.length : Int)))) <|
            let t39_18 : ((Int × Int) × Int) := (better_3.getD t31_15.toNat (((0 : Int), (0 : Int)), (0 : Int)))
            let t46_19 : Bool := (decide (t35_17.1.2 < t35_17.1.1))
            let t54_20 : Bool := (decide (t39_18.1.2 < t39_18.1.1))
            let t55_21 : Bool := (bif t46_19 then true else t54_20)
            let t63_22 : Bool := (decide (t39_18.1.1 < t35_17.1.1))
            let t64_23 : Bool := (bif t55_21 then true else t63_22)
            let t72_24 : Bool := (decide (t35_17.1.2 < t39_18.1.2))
            let t73_25 : Bool := (bif t64_23 then true else t72_24)
            let t79_26 : Bool := (decide (t39_18.2 < t35_17.2))
            let t80_27 : Bool := (bif t73_25 then true else t79_26)
            (bif t80_27 then
              some (.inr (.inl true))
            else
              (F_still_Still_Next (b1_14, b1_12) c_1 t35_17.1 t35_17.2).bind fun t87_28 =>
              (F_still_Still_Next (b2_11, b2_13) c_1 t39_18.1 t39_18.2).bind fun t94_29 =>
              let t101_30 : Bool := (bif t87_28.2 then (!t94_29.2) else false)
              let t107_31 : Bool := (decide (t94_29.1 < t87_28.1))
              let t108_32 : Bool := (bif t101_30 then true else t107_31)
              (bif t108_32 then
                some (.inr (.inl false))
              else
                let t109_33 : Int := (IntKind.wrap .i64 (t31_15 + (1 : Int)))
                some (.inl (t94_29.1, t87_28.2, t94_29.2, t87_28.1, t109_33))))
          else
            some (.inr (.inr ())))) ((0 : Int), false, false, (0 : Int), (0 : Int))) fun z => match z with
      | .inl r_34 =>
        some r_34
      | .inr _ =>
        some true))
noncomputable def con_F_law18_StillNarrow : Con := { f := 4, ps := [.dat (.agg (.pair (.int .i64) (.pair (.int .i64) (.pair (.int .i64) (.pair (.int .i64) (.pair (.int .i64) (.pair (.int .i64) (.pair (.int .i64) (.pair (.int .i64) (.pair (.int .i64) (.pair (.int .i64) (.pair (.int .i64) (.pair (.int .i64) (.pair (.int .i64) (.int .i64))))))))))))))), .dat (.slice (.agg (.pair (.agg (.pair (.int .i64) (.int .i64))) (.int .i64)))), .dat (.slice (.agg (.pair (.agg (.pair (.int .i64) (.int .i64))) (.int .i64))))], boxes := [], ins := (.pair (.agg (.pair (.int .i64) (.pair (.int .i64) (.pair (.int .i64) (.pair (.int .i64) (.pair (.int .i64) (.pair (.int .i64) (.pair (.int .i64) (.pair (.int .i64) (.pair (.int .i64) (.pair (.int .i64) (.pair (.int .i64) (.pair (.int .i64) (.pair (.int .i64) (.int .i64))))))))))))))) (.pair (.slice (.agg (.pair (.agg (.pair (.int .i64) (.int .i64))) (.int .i64)))) (.slice (.agg (.pair (.agg (.pair (.int .i64) (.int .i64))) (.int .i64)))))), nin := 3, outs := .bool, rs := [.dat .bool], nout := 1, F := fun x => F_law18_StillNarrow x.1 x.2.1 x.2.2 }
def hint_F_law18_StillNarrow : Hint := (.mk .plain [H0, (.mk .plain [H0, (.mk .plain [H0, (.mk .plain [H0, (.mk .plain [(.mk .plain [H0, (.mk .plain [(.mk (.loop [⟨.cell 2 0, (.int .i64), none⟩, ⟨.cell 1 1, .bool, none⟩, ⟨.cell 2 1, .bool, none⟩, ⟨.cell 1 0, (.int .i64), none⟩, ⟨.slot 31, (.int .i64), none⟩] [(0, 36), (0, 42), (0, 39), (0, 45), (0, 48), (0, 54), (0, 51), (0, 57), (0, 60), (0, 66), (0, 63), (0, 69), (0, 72), (0, 11), (0, 78), (0, 75), (0, 35), (0, 32), (0, 38), (0, 41), (0, 47), (0, 44), (0, 50), (0, 53), (0, 59), (0, 56), (0, 62), (0, 68), (0, 65), (0, 71), (0, 10), (0, 74), (0, 80), (0, 77), (0, 34), (0, 40), (0, 37), (0, 43), (0, 46), (0, 52), (0, 49), (0, 55), (0, 61), (0, 58), (0, 64), (0, 9), (0, 67), (0, 6), (0, 73), (0, 70), (0, 76), (0, 79), (0, 33), (0, 91), (0, 100), (0, 87), (0, 84), (0, 93), (0, 102), (0, 108), (0, 86), (0, 95), (0, 104), (0, 101), (0, 88), (0, 97), (0, 94), (0, 106), (0, 103), (0, 81), (0, 90), (0, 99), (0, 96), (0, 105), (0, 83), (0, 92), (0, 89), (0, 98), (0, 107), (0, 85), (0, 82), (0, 109)] [(.ret, [⟨.slot 6, .bool, none⟩]), (.exit 0, [])]) [])])])])])])])])
theorem run_F_law18_StillNarrow : runE ⟨tdGet tys, [con_F_law18_anchor, con_F_ref13_Wrong, con_F_still_Still_Next]⟩ con_F_law18_StillNarrow Try.f4 hint_F_law18_StillNarrow = con_F_law18_StillNarrow.F := by
  funext x
  kernel_rfl
theorem ok_F_law18_StillNarrow : ConOK Try.prog con_F_law18_StillNarrow :=
  con_of_run (Γ := ⟨tdGet tys, [con_F_law18_anchor, con_F_ref13_Wrong, con_F_still_Still_Next]⟩) ⟨fun T d h => tysB_ok tys tys_ok T d h, by simp [ok_F_law18_anchor, ok_F_ref13_Wrong, ok_F_still_Still_Next]⟩ (by kernel_rfl) Try.func4 rfl (by kernel_rfl) run_F_law18_StillNarrow
/-- (odograph/span.Span).Has -/
noncomputable def F_span_Span_Has (s_1 : (Int × Int)) (x_2 : Int) : Option Bool :=
  let t14_3 : Bool := (bif (decide (s_1.1 ≤ x_2)) then (decide (x_2 ≤ s_1.2)) else false)
  some t14_3
noncomputable def con_F_span_Span_Has : Con := { f := 23, ps := [.dat (.agg (.pair (.int .i64) (.int .i64))), .dat (.int .i64)], boxes := [], ins := (.pair (.agg (.pair (.int .i64) (.int .i64))) (.int .i64)), nin := 2, outs := .bool, rs := [.dat .bool], nout := 1, F := fun x => F_span_Span_Has x.1 x.2 }
def hint_F_span_Span_Has : Hint := H0
theorem run_F_span_Span_Has : runE ⟨tdGet tys, []⟩ con_F_span_Span_Has Try.f23 hint_F_span_Span_Has = con_F_span_Span_Has.F := by
  funext x
  kernel_rfl
theorem ok_F_span_Span_Has : ConOK Try.prog con_F_span_Span_Has :=
  con_of_run (Γ := ⟨tdGet tys, []⟩) ⟨fun T d h => tysB_ok tys tys_ok T d h, by simp []⟩ (by kernel_rfl) Try.func23 rfl (by kernel_rfl) run_F_span_Span_Has
/-- odograph/odographlaw18.StillTrue -/
noncomputable def F_law18_StillTrue (c_1 : (Int × (Int × (Int × (Int × (Int × (Int × (Int × (Int × (Int × (Int × (Int × (Int × (Int × Int)))))))))))))) (s_2 : (Int × Bool)) (x_3 : ((Int × Int) × Int)) (v_4 : Int) : Option Bool :=
  (F_law18_anchor ()).bind fun t10_5 =>
  (bif (!t10_5) then
    some false
  else
    (F_ref13_Wrong c_1).bind fun t13_6 =>
    let t18_7 : Bool := (decide (s_2.1 < (0 : Int)))
    let t19_8 : Bool := (bif (t13_6 != (0 : Int)) then true else t18_7)
    let t25_9 : Bool := (decide (c_1.2.2.2.2.2.2.2.2.2.1 < s_2.1))
    let t26_10 : Bool := (bif t19_8 then true else t25_9)
    (bif !t26_10 then F_span_Span_Has x_3.1 v_4 else some false).bind fun t31_11 =>
    let t33_12 : Bool := (bif t26_10 then true else (!t31_11))
    (bif t33_12 then
      some true
    else
      (F_still_Still_Next s_2 c_1 x_3.1 x_3.2).bind fun t40_13 =>
      let t47_14 : Int := c_1.2.2.2.2.2.2.2.2.2.2.1
      let t48_15 : Int := (IntKind.wrap .i64 (0 - t47_14))
      let t53_16 : Int := c_1.2.2.2.2.2.2.2.2.2.2.1
      let t55_17 : Bool := (bif (decide (t48_15 ≤ v_4)) then (decide (v_4 ≤ t53_16)) else false)
      let t59_18 : Bool := (decide ((1 : Int) ≤ x_3.2))
      let t60_19 : Bool := (bif t55_17 then t59_18 else false)
      let t61_20 : Bool := (bif (!t40_13.2) then true else t60_19)
      some t61_20))
noncomputable def con_F_law18_StillTrue : Con := { f := 5, ps := [.dat (.agg (.pair (.int .i64) (.pair (.int .i64) (.pair (.int .i64) (.pair (.int .i64) (.pair (.int .i64) (.pair (.int .i64) (.pair (.int .i64) (.pair (.int .i64) (.pair (.int .i64) (.pair (.int .i64) (.pair (.int .i64) (.pair (.int .i64) (.pair (.int .i64) (.int .i64))))))))))))))), .dat (.agg (.pair (.int .i64) .bool)), .dat (.agg (.pair (.agg (.pair (.int .i64) (.int .i64))) (.int .i64))), .dat (.int .i64)], boxes := [], ins := (.pair (.agg (.pair (.int .i64) (.pair (.int .i64) (.pair (.int .i64) (.pair (.int .i64) (.pair (.int .i64) (.pair (.int .i64) (.pair (.int .i64) (.pair (.int .i64) (.pair (.int .i64) (.pair (.int .i64) (.pair (.int .i64) (.pair (.int .i64) (.pair (.int .i64) (.int .i64))))))))))))))) (.pair (.agg (.pair (.int .i64) .bool)) (.pair (.agg (.pair (.agg (.pair (.int .i64) (.int .i64))) (.int .i64))) (.int .i64)))), nin := 4, outs := .bool, rs := [.dat .bool], nout := 1, F := fun x => F_law18_StillTrue x.1 x.2.1 x.2.2.1 x.2.2.2 }
def hint_F_law18_StillTrue : Hint := H0
theorem run_F_law18_StillTrue : runE ⟨tdGet tys, [con_F_law18_anchor, con_F_ref13_Wrong, con_F_span_Span_Has, con_F_still_Still_Next]⟩ con_F_law18_StillTrue Try.f5 hint_F_law18_StillTrue = con_F_law18_StillTrue.F := by
  funext x
  kernel_rfl
theorem ok_F_law18_StillTrue : ConOK Try.prog con_F_law18_StillTrue :=
  con_of_run (Γ := ⟨tdGet tys, [con_F_law18_anchor, con_F_ref13_Wrong, con_F_span_Span_Has, con_F_still_Still_Next]⟩) ⟨fun T d h => tysB_ok tys tys_ok T d h, by simp [ok_F_law18_anchor, ok_F_ref13_Wrong, ok_F_span_Span_Has, ok_F_still_Still_Next]⟩ (by kernel_rfl) Try.func5 rfl (by kernel_rfl) run_F_law18_StillTrue
/-- odograph/grade.Check -/
noncomputable def F_grade_Check (l_1 : (List (Int × Int))) (length_2 : Int) : Option Int :=
  let t9_3 : Bool := ((l_1.length : Int) == (0 : Int))
  let t13_4 : Bool := (decide ((64 : Int) < (l_1.length : Int)))
  let t14_5 : Bool := (bif t9_3 then true else t13_4)
  chk none ((true && (decide ((0 : Int) < (l_1.length : Int)))) || !(!t14_5)) <|
  let e_6 : (Int × Int) := (l_1.getD (0 : Int).toNat ((0 : Int), (0 : Int)))
  let t21_7 : Bool := (bif t14_5 then true else (e_6.1 != (0 : Int)))
  (bif t21_7 then
    some (11 : Int)
  else
    Option.bind (α := Int ⊕ Unit) (
      loopO (X := Int ⊕ Unit) (fun (s_8 : Int) =>
        let t25_9 : Bool := (decide (s_8 < (l_1.length : Int)))
        (bif t25_9 then
          chk none ((decide ((0 : Int) ≤ s_8)) && (decide (s_8 < (l_1.length : Int)))) <|
          let t28_10 : (Int × Int) := (l_1.getD s_8.toNat ((0 : Int), (0 : Int)))
          let t31_11 : Bool := (decide (t28_10.2 < (-1048576 : Int)))
          let t35_12 : Bool := (decide ((1048576 : Int) < t28_10.2))
          let t36_13 : Bool := (bif t31_11 then true else t35_12)
          let t41_14 : Bool := (decide (length_2 ≤ t28_10.1))
          let t42_15 : Bool := (bif t36_13 then true else t41_14)
          let t45_16 : Bool := (decide ((0 : Int) < s_8))
          let t51_17 : Int := (IntKind.wrap .i64 (s_8 - (1 : Int)))
          chk none (((decide ((0 : Int) ≤ t51_17)) && (decide (t51_17 < (l_1.length : Int)))) || !(t45_16 && !t42_15)) <|
          let e_18 : (Int × Int) := (l_1.getD t51_17.toNat ((0 : Int), (0 : Int)))
          let t55_19 : Bool := (decide (t28_10.1 ≤ e_18.1))
          let t56_20 : Bool := (bif t45_16 then t55_19 else false)
          let t57_21 : Bool := (bif t42_15 then true else t56_20)
          (bif t57_21 then
            some (.inr (.inl (11 : Int)))
          else
            let t58_22 : Int := (IntKind.wrap .i64 (s_8 + (1 : Int)))
            some (.inl t58_22))
        else
          some (.inr (.inr ())))) (0 : Int)) fun z => match z with
    | .inl r_23 =>
      some r_23
    | .inr _ =>
      some (0 : Int))
noncomputable def con_F_grade_Check : Con := { f := 25, ps := [.dat (.slice (.agg (.pair (.int .i64) (.int .i64)))), .dat (.int .i64)], boxes := [], ins := (.pair (.slice (.agg (.pair (.int .i64) (.int .i64)))) (.int .i64)), nin := 2, outs := (.int .i64), rs := [.dat (.int .i64)], nout := 1, F := fun x => F_grade_Check x.1 x.2 }
def hint_F_grade_Check : Hint := (.mk .plain [H0, (.mk .plain [H0, (.mk .plain [(.mk .plain [H0, (.mk .plain [(.mk (.loop [⟨.slot 24, (.int .i64), none⟩] [(0, 30), (0, 36), (0, 42), (0, 39), (0, 45), (0, 48), (0, 54), (0, 51), (0, 57), (0, 5), (0, 26), (0, 29), (0, 35), (0, 32), (0, 38), (0, 41), (0, 47), (0, 44), (0, 50), (0, 53), (0, 56), (0, 4), (0, 28), (0, 25), (0, 31), (0, 34), (0, 40), (0, 37), (0, 43), (0, 46), (0, 52), (0, 49), (0, 55), (0, 6), (0, 27), (0, 33), (0, 58)] [(.ret, [⟨.slot 4, (.int .i64), none⟩]), (.exit 0, [])]) [])])])])])])
theorem run_F_grade_Check : runE ⟨tdGet tys, []⟩ con_F_grade_Check Try.f25 hint_F_grade_Check = con_F_grade_Check.F := by
  funext x
  kernel_rfl
theorem ok_F_grade_Check : ConOK Try.prog con_F_grade_Check :=
  con_of_run (Γ := ⟨tdGet tys, []⟩) ⟨fun T d h => tysB_ok tys tys_ok T d h, by simp []⟩ (by kernel_rfl) Try.func25 rfl (by kernel_rfl) run_F_grade_Check
/-- (odograph/track.Track).segment -/
noncomputable def F_track_Track_segment (t_1 : ((List (Int × ((List (Int × Int)) × (List Int)))) × (List (Int × (Int × (Int × (Int × Int))))))) (s_2 : (Int × ((List (Int × Int)) × (List Int)))) : Option Bool :=
  let t9_3 : Bool := (decide (s_2.1 < (1 : Int)))
  let t13_4 : Bool := (decide ((1099511627776 : Int) < s_2.1))
  let t14_5 : Bool := (bif t9_3 then true else t13_4)
  (bif !t14_5 then F_grade_Check s_2.2.1 s_2.1 else some (0 : Int)).bind fun t20_6 =>
  let t22_7 : Bool := (bif t14_5 then true else (t20_6 != (0 : Int)))
  let t27_8 : Bool := (decide ((2 : Int) < (s_2.2.2.length : Int)))
  let t28_9 : Bool := (bif t22_7 then true else t27_8)
  (bif t28_9 then
    some false
  else
    Option.bind (α := Bool ⊕ Unit) (
      loopO (X := Bool ⊕ Unit) (fun (s_10 : Int) =>
        let t33_11 : Bool := (decide (s_10 < (s_2.2.2.length : Int)))
        (bif t33_11 then
          chk none ((decide ((0 : Int) ≤ s_10)) && (decide (s_10 < (s_2.2.2.length : Int)))) <|
          let t36_12 : Int := (s_2.2.2.getD s_10.toNat (0 : Int))
          let t38_13 : Bool := (decide (t36_12 < (0 : Int)))
          let t44_14 : Bool := (decide ((t_1.1.length : Int) ≤ t36_12))
          let t45_15 : Bool := (bif t38_13 then true else t44_14)
          let t48_16 : Bool := (decide ((0 : Int) < s_10))
          let t54_17 : Int := (IntKind.wrap .i64 (s_10 - (1 : Int)))
          chk none (((decide ((0 : Int) ≤ t54_17)) && (decide (t54_17 < (s_2.2.2.length : Int)))) || !(t48_16 && !t45_15)) <|
          let t56_18 : Int := (s_2.2.2.getD t54_17.toNat (0 : Int))
          let t57_19 : Bool := (decide (t36_12 ≤ t56_18))
          let t58_20 : Bool := (bif t48_16 then t57_19 else false)
          let t59_21 : Bool := (bif t45_15 then true else t58_20)
          (bif t59_21 then
            some (.inr (.inl false))
          else
            let t60_22 : Int := (IntKind.wrap .i64 (s_10 + (1 : Int)))
            some (.inl t60_22))
        else
          some (.inr (.inr ())))) (0 : Int)) fun z => match z with
    | .inl r_23 =>
      some r_23
    | .inr _ =>
      some true)
noncomputable def con_F_track_Track_segment : Con := { f := 68, ps := [.dat (.agg (.pair (.slice (.agg (.pair (.int .i64) (.pair (.slice (.agg (.pair (.int .i64) (.int .i64)))) (.slice (.int .i64)))))) (.slice (.agg (.pair (.int .i64) (.pair (.int .i64) (.pair (.int .i64) (.pair (.int .i64) (.int .i64))))))))), .dat (.agg (.pair (.int .i64) (.pair (.slice (.agg (.pair (.int .i64) (.int .i64)))) (.slice (.int .i64)))))], boxes := [], ins := (.pair (.agg (.pair (.slice (.agg (.pair (.int .i64) (.pair (.slice (.agg (.pair (.int .i64) (.int .i64)))) (.slice (.int .i64)))))) (.slice (.agg (.pair (.int .i64) (.pair (.int .i64) (.pair (.int .i64) (.pair (.int .i64) (.int .i64))))))))) (.agg (.pair (.int .i64) (.pair (.slice (.agg (.pair (.int .i64) (.int .i64)))) (.slice (.int .i64)))))), nin := 2, outs := .bool, rs := [.dat .bool], nout := 1, F := fun x => F_track_Track_segment x.1 x.2 }
def hint_F_track_Track_segment : Hint := (.mk .plain [H0, (.mk .plain [H0, (.mk .plain [(.mk .plain [H0, (.mk .plain [(.mk (.loop [⟨.slot 32, (.int .i64), none⟩] [(0, 36), (0, 42), (0, 4), (0, 39), (0, 45), (0, 48), (0, 54), (0, 51), (0, 57), (0, 5), (0, 34), (0, 40), (0, 37), (0, 43), (0, 46), (0, 52), (0, 49), (0, 55), (0, 35), (0, 58), (0, 38), (0, 6), (0, 41), (0, 47), (0, 33), (0, 44), (0, 50), (0, 53), (0, 59), (0, 56), (0, 60)] [(.ret, [⟨.slot 4, .bool, none⟩]), (.exit 0, [])]) [])])])])])])
theorem run_F_track_Track_segment : runE ⟨tdGet tys, [con_F_grade_Check]⟩ con_F_track_Track_segment Try.f68 hint_F_track_Track_segment = con_F_track_Track_segment.F := by
  funext x
  kernel_rfl
theorem ok_F_track_Track_segment : ConOK Try.prog con_F_track_Track_segment :=
  con_of_run (Γ := ⟨tdGet tys, [con_F_grade_Check]⟩) ⟨fun T d h => tysB_ok tys tys_ok T d h, by simp [ok_F_grade_Check]⟩ (by kernel_rfl) Try.func68 rfl (by kernel_rfl) run_F_track_Track_segment
/-- (odograph/track.Track).group -/
noncomputable def F_track_Track_group (t_1 : ((List (Int × ((List (Int × Int)) × (List Int)))) × (List (Int × (Int × (Int × (Int × Int))))))) (i_2 : Int) (g_3 : (Int × (Int × (Int × (Int × Int))))) : Option Bool :=
  let t10_4 : Bool := (decide (g_3.1 < (1 : Int)))
  let t14_5 : Bool := (decide ((65535 : Int) < g_3.1))
  let t15_6 : Bool := (bif t10_4 then true else t14_5)
  let t18_7 : Bool := (decide ((0 : Int) < i_2))
  let t25_8 : Int := (IntKind.wrap .i64 (i_2 - (1 : Int)))
  chk none (((decide ((0 : Int) ≤ t25_8)) && (decide (t25_8 < (t_1.2.length : Int)))) || !(t18_7 && !t15_6)) <|
  let e_9 : (Int × (Int × (Int × (Int × Int)))) := (t_1.2.getD t25_8.toNat ((0 : Int), ((0 : Int), ((0 : Int), ((0 : Int), (0 : Int))))))
  let t30_10 : Bool := (bif t18_7 then (decide (g_3.1 ≤ e_9.1)) else false)
  let t31_11 : Bool := (bif t15_6 then true else t30_10)
  let t35_12 : Bool := (decide (g_3.2.1 < (0 : Int)))
  let t36_13 : Bool := (bif t31_11 then true else t35_12)
  let t43_14 : Bool := (decide ((t_1.1.length : Int) ≤ g_3.2.1))
  let t44_15 : Bool := (bif t36_13 then true else t43_14)
  (bif t44_15 then
    some false
  else
    let t47_16 : Bool := (decide ((0 : Int) ≤ g_3.2.2.1))
    chk none (((decide ((0 : Int) ≤ g_3.2.1)) && (decide (g_3.2.1 < (t_1.1.length : Int)))) || !t47_16) <|
    let e_17 : (Int × ((List (Int × Int)) × (List Int))) := (t_1.1.getD g_3.2.1.toNat ((0 : Int), ([], [])))
    let t58_18 : Bool := (decide (g_3.2.2.1 ≤ e_17.1))
    let t59_19 : Bool := (bif t47_16 then t58_18 else false)
    let t64_20 : Bool := (decide ((0 : Int) ≤ g_3.2.2.2.1))
    let t65_21 : Bool := (bif t59_19 then t64_20 else false)
    let t69_22 : Bool := (decide (g_3.2.2.2.1 ≤ (1048576 : Int)))
    let t70_23 : Bool := (bif t65_21 then t69_22 else false)
    let t74_24 : Bool := (decide ((0 : Int) ≤ g_3.2.2.2.2))
    let t75_25 : Bool := (bif t70_23 then t74_24 else false)
    let t79_26 : Bool := (decide (g_3.2.2.2.2 ≤ (16777216 : Int)))
    let t80_27 : Bool := (bif t75_25 then t79_26 else false)
    some t80_27)
noncomputable def con_F_track_Track_group : Con := { f := 69, ps := [.dat (.agg (.pair (.slice (.agg (.pair (.int .i64) (.pair (.slice (.agg (.pair (.int .i64) (.int .i64)))) (.slice (.int .i64)))))) (.slice (.agg (.pair (.int .i64) (.pair (.int .i64) (.pair (.int .i64) (.pair (.int .i64) (.int .i64))))))))), .dat (.int .i64), .dat (.agg (.pair (.int .i64) (.pair (.int .i64) (.pair (.int .i64) (.pair (.int .i64) (.int .i64))))))], boxes := [], ins := (.pair (.agg (.pair (.slice (.agg (.pair (.int .i64) (.pair (.slice (.agg (.pair (.int .i64) (.int .i64)))) (.slice (.int .i64)))))) (.slice (.agg (.pair (.int .i64) (.pair (.int .i64) (.pair (.int .i64) (.pair (.int .i64) (.int .i64))))))))) (.pair (.int .i64) (.agg (.pair (.int .i64) (.pair (.int .i64) (.pair (.int .i64) (.pair (.int .i64) (.int .i64)))))))), nin := 3, outs := .bool, rs := [.dat .bool], nout := 1, F := fun x => F_track_Track_group x.1 x.2.1 x.2.2 }
def hint_F_track_Track_group : Hint := H0
theorem run_F_track_Track_group : runE ⟨tdGet tys, []⟩ con_F_track_Track_group Try.f69 hint_F_track_Track_group = con_F_track_Track_group.F := by
  funext x
  kernel_rfl
theorem ok_F_track_Track_group : ConOK Try.prog con_F_track_Track_group :=
  con_of_run (Γ := ⟨tdGet tys, []⟩) ⟨fun T d h => tysB_ok tys tys_ok T d h, by simp []⟩ (by kernel_rfl) Try.func69 rfl (by kernel_rfl) run_F_track_Track_group
/-- (odograph/track.Track).Check -/
noncomputable def F_track_Track_Check (t_1 : ((List (Int × ((List (Int × Int)) × (List Int)))) × (List (Int × (Int × (Int × (Int × Int))))))) : Option (Int × Int) :=
  let t11_2 : Bool := ((t_1.1.length : Int) == (0 : Int))
  let t16_3 : Bool := (decide ((200 : Int) < (t_1.1.length : Int)))
  let t17_4 : Bool := (bif t11_2 then true else t16_3)
  let t22_5 : Bool := (decide ((400 : Int) < (t_1.2.length : Int)))
  let t23_6 : Bool := (bif t17_4 then true else t22_5)
  (bif t23_6 then
    some ((13 : Int), (0 : Int))
  else
    Option.bind (α := (Int × Int) ⊕ Unit) (
      loopO (X := (Int × Int) ⊕ Unit) (fun (s_7 : Int) =>
        let t28_8 : Bool := (decide (s_7 < (t_1.1.length : Int)))
        (bif t28_8 then
          chk none ((decide ((0 : Int) ≤ s_7)) && (decide (s_7 < (t_1.1.length : Int)))) <|
          let t31_9 : (Int × ((List (Int × Int)) × (List Int))) := (t_1.1.getD s_7.toNat ((0 : Int), ([], [])))
          (F_track_Track_segment t_1 t31_9).bind fun t34_10 =>
          (bif (!t34_10) then
            some (.inr (.inl (s_7, (11 : Int))))
          else
            let t37_11 : Int := (IntKind.wrap .i64 (s_7 + (1 : Int)))
            some (.inl t37_11))
        else
          some (.inr (.inr ())))) (0 : Int)) fun z => match z with
    | .inl r_12 =>
      let t3_13 : Int := r_12.1
      let t2_14 : Int := r_12.2
      some (t2_14, t3_13)
    | .inr _ =>
      Option.bind (α := (Int × Int) ⊕ Unit) (
        loopO (X := (Int × Int) ⊕ Unit) (fun (s_15 : Int) =>
          let t42_16 : Bool := (decide (s_15 < (t_1.2.length : Int)))
          (bif t42_16 then
            chk none ((decide ((0 : Int) ≤ s_15)) && (decide (s_15 < (t_1.2.length : Int)))) <|
            let t45_17 : (Int × (Int × (Int × (Int × Int)))) := (t_1.2.getD s_15.toNat ((0 : Int), ((0 : Int), ((0 : Int), ((0 : Int), (0 : Int))))))
            (F_track_Track_group t_1 s_15 t45_17).bind fun t49_18 =>
            (bif (!t49_18) then
              some (.inr (.inl ((16 : Int), s_15)))
            else
              let t52_19 : Int := (IntKind.wrap .i64 (s_15 + (1 : Int)))
              some (.inl t52_19))
          else
            some (.inr (.inr ())))) (0 : Int)) fun z => match z with
      | .inl r_20 =>
        let t2_21 : Int := r_20.1
        let t3_22 : Int := r_20.2
        some (t2_21, t3_22)
      | .inr _ =>
        some ((0 : Int), (0 : Int)))
noncomputable def con_F_track_Track_Check : Con := { f := 35, ps := [.dat (.agg (.pair (.slice (.agg (.pair (.int .i64) (.pair (.slice (.agg (.pair (.int .i64) (.int .i64)))) (.slice (.int .i64)))))) (.slice (.agg (.pair (.int .i64) (.pair (.int .i64) (.pair (.int .i64) (.pair (.int .i64) (.int .i64)))))))))], boxes := [], ins := (.agg (.pair (.slice (.agg (.pair (.int .i64) (.pair (.slice (.agg (.pair (.int .i64) (.int .i64)))) (.slice (.int .i64)))))) (.slice (.agg (.pair (.int .i64) (.pair (.int .i64) (.pair (.int .i64) (.pair (.int .i64) (.int .i64))))))))), nin := 1, outs := (.pair (.int .i64) (.int .i64)), rs := [.dat (.int .i64), .dat (.int .i64)], nout := 2, F := fun x => F_track_Track_Check x }
def hint_F_track_Track_Check : Hint := (.mk .plain [H0, (.mk .plain [H0, (.mk .plain [(.mk .plain [H0, (.mk .plain [(.mk (.loop [⟨.slot 27, (.int .i64), none⟩] [(0, 30), (0, 36), (0, 4), (0, 29), (0, 35), (0, 3), (0, 32), (0, 28), (0, 2), (0, 31), (0, 5), (0, 34), (0, 33), (0, 37)] [(.ret, [⟨.slot 3, (.int .i64), none⟩, ⟨.slot 2, (.int .i64), none⟩]), (.exit 0, [])]) [])])]), (.mk .plain [(.mk .plain [H0, (.mk .plain [(.mk (.loop [⟨.slot 41, (.int .i64), none⟩] [(0, 7), (0, 42), (0, 45), (0, 48), (0, 51), (0, 2), (0, 43), (0, 46), (0, 49), (0, 3), (0, 6), (0, 47), (0, 44), (0, 50), (0, 52)] [(.ret, [⟨.slot 2, (.int .i64), none⟩, ⟨.slot 3, (.int .i64), none⟩]), (.exit 2, [])]) [])])])])])])])
theorem run_F_track_Track_Check : runE ⟨tdGet tys, [con_F_track_Track_segment, con_F_track_Track_group]⟩ con_F_track_Track_Check Try.f35 hint_F_track_Track_Check = con_F_track_Track_Check.F := by
  funext x
  kernel_rfl
theorem ok_F_track_Track_Check : ConOK Try.prog con_F_track_Track_Check :=
  con_of_run (Γ := ⟨tdGet tys, [con_F_track_Track_segment, con_F_track_Track_group]⟩) ⟨fun T d h => tysB_ok tys tys_ok T d h, by simp [ok_F_track_Track_segment, ok_F_track_Track_group]⟩ (by kernel_rfl) Try.func35 rfl (by kernel_rfl) run_F_track_Track_Check
/-- cmp.isNaN[int] -/
noncomputable def F_cmp_isNaN_int (x_1 : Int) : Option Bool :=
  some (x_1 != x_1)
noncomputable def con_F_cmp_isNaN_int : Con := { f := 80, ps := [.dat (.int .i64)], boxes := [], ins := (.int .i64), nin := 1, outs := .bool, rs := [.dat .bool], nout := 1, F := fun x => F_cmp_isNaN_int x }
def hint_F_cmp_isNaN_int : Hint := H0
theorem run_F_cmp_isNaN_int : runE ⟨tdGet tys, []⟩ con_F_cmp_isNaN_int Try.f80 hint_F_cmp_isNaN_int = con_F_cmp_isNaN_int.F := by
  funext x
  kernel_rfl
theorem ok_F_cmp_isNaN_int : ConOK Try.prog con_F_cmp_isNaN_int :=
  con_of_run (Γ := ⟨tdGet tys, []⟩) ⟨fun T d h => tysB_ok tys tys_ok T d h, by simp []⟩ (by kernel_rfl) Try.func80 rfl (by kernel_rfl) run_F_cmp_isNaN_int
/-- cmp.Compare[int] -/
noncomputable def F_cmp_Compare_int (x_1 : Int) (y_2 : Int) : Option Int :=
  (F_cmp_isNaN_int x_1).bind fun t8_3 =>
  (F_cmp_isNaN_int y_2).bind fun t10_4 =>
  (bif t8_3 then
    (bif t10_4 then
      some (0 : Int)
    else
      some (-1 : Int))
  else
    (bif t10_4 then
      some (1 : Int)
    else
      (bif (decide (x_1 < y_2)) then
        some (-1 : Int)
      else
        (bif (decide (y_2 < x_1)) then
          some (1 : Int)
        else
          some (0 : Int)))))
noncomputable def con_F_cmp_Compare_int : Con := { f := 73, ps := [.dat (.int .i64), .dat (.int .i64)], boxes := [], ins := (.pair (.int .i64) (.int .i64)), nin := 2, outs := (.int .i64), rs := [.dat (.int .i64)], nout := 1, F := fun x => F_cmp_Compare_int x.1 x.2 }
def hint_F_cmp_Compare_int : Hint := H0
theorem run_F_cmp_Compare_int : runE ⟨tdGet tys, [con_F_cmp_isNaN_int]⟩ con_F_cmp_Compare_int Try.f73 hint_F_cmp_Compare_int = con_F_cmp_Compare_int.F := by
  funext x
  kernel_rfl
theorem ok_F_cmp_Compare_int : ConOK Try.prog con_F_cmp_Compare_int :=
  con_of_run (Γ := ⟨tdGet tys, [con_F_cmp_isNaN_int]⟩) ⟨fun T d h => tysB_ok tys tys_ok T d h, by simp [ok_F_cmp_isNaN_int]⟩ (by kernel_rfl) Try.func73 rfl (by kernel_rfl) run_F_cmp_Compare_int
/-- (odograph/track.Track).Find$1 -/
noncomputable def F_track_Track_Find_1 (g_1 : (Int × (Int × (Int × (Int × Int))))) (id_2 : Int) : Option Int :=
  (F_cmp_Compare_int g_1.1 id_2).bind fun t8_3 =>
  some t8_3
noncomputable def con_F_track_Track_Find_1 : Con := { f := 72, ps := [.dat (.agg (.pair (.int .i64) (.pair (.int .i64) (.pair (.int .i64) (.pair (.int .i64) (.int .i64)))))), .dat (.int .i64)], boxes := [], ins := (.pair (.agg (.pair (.int .i64) (.pair (.int .i64) (.pair (.int .i64) (.pair (.int .i64) (.int .i64)))))) (.int .i64)), nin := 2, outs := (.int .i64), rs := [.dat (.int .i64)], nout := 1, F := fun x => F_track_Track_Find_1 x.1 x.2 }
def hint_F_track_Track_Find_1 : Hint := H0
theorem run_F_track_Track_Find_1 : runE ⟨tdGet tys, [con_F_cmp_Compare_int]⟩ con_F_track_Track_Find_1 Try.f72 hint_F_track_Track_Find_1 = con_F_track_Track_Find_1.F := by
  funext x
  kernel_rfl
theorem ok_F_track_Track_Find_1 : ConOK Try.prog con_F_track_Track_Find_1 :=
  con_of_run (Γ := ⟨tdGet tys, [con_F_cmp_Compare_int]⟩) ⟨fun T d h => tysB_ok tys tys_ok T d h, by simp [ok_F_cmp_Compare_int]⟩ (by kernel_rfl) Try.func72 rfl (by kernel_rfl) run_F_track_Track_Find_1
/-- slices.BinarySearchFunc[[]odograph/track.Group,odograph/track.Group,int] -/
noncomputable def F_slices_BinarySearchFunc_track_Group_track_Group_int (x_1 : (List (Int × (Int × (Int × (Int × Int)))))) (target_2 : Int) : Option (Int × Bool) :=
  Option.bind (
    loopO (X := Int) (fun (s_3 : (Int × Int)) =>
      let j_4 : Int := s_3.1
      let i_5 : Int := s_3.2
      (bif (decide (i_5 < j_4)) then
        let t20_6 : Int := (IntKind.wrap .i64 (i_5 + j_4))
        let t21_7 : Int := (IntKind.wrap .u64 t20_6)
        let t23_8 : Int := (IntKind.wrap .i64 (t21_7.fdiv (2 ^ 1)))
        chk none ((decide ((0 : Int) ≤ t23_8)) && (decide (t23_8 < (x_1.length : Int)))) <|
        let t28_9 : (Int × (Int × (Int × (Int × Int)))) := (x_1.getD t23_8.toNat ((0 : Int), ((0 : Int), ((0 : Int), ((0 : Int), (0 : Int))))))
        (F_track_Track_Find_1 t28_9 target_2).bind fun t30_10 =>
        let t31_11 : Bool := (decide (t30_10 < (0 : Int)))
        Option.bind (
          (bif t31_11 then
            let t33_12 : Int := (IntKind.wrap .i64 (t23_8 + (1 : Int)))
            some (t33_12, j_4)
          else
            some (i_5, t23_8))) fun r_13 =>
        let i_14 : Int := r_13.1
        let j_15 : Int := r_13.2
        some (.inl (j_15, i_14))
      else
        some (.inr i_5))) ((x_1.length : Int), (0 : Int))) fun r_16 =>
  let t38_17 : Bool := (decide (r_16 < (x_1.length : Int)))
  chk none (((decide ((0 : Int) ≤ r_16)) && (decide (r_16 < (x_1.length : Int)))) || !t38_17) <|
  let t44_18 : (Int × (Int × (Int × (Int × Int)))) := (x_1.getD r_16.toNat ((0 : Int), ((0 : Int), ((0 : Int), ((0 : Int), (0 : Int))))))
  (bif t38_17 then F_track_Track_Find_1 t44_18 target_2 else some (0 : Int)).bind fun t46_19 =>
  let t48_20 : Bool := (bif t38_17 then (t46_19 == (0 : Int)) else false)
  some (r_16, t48_20)
noncomputable def con_F_slices_BinarySearchFunc_track_Group_track_Group_int : Con := { f := 71, ps := [.dat (.slice (.agg (.pair (.int .i64) (.pair (.int .i64) (.pair (.int .i64) (.pair (.int .i64) (.int .i64))))))), .dat (.int .i64), .clo 72 [] []], boxes := [], ins := (.pair (.slice (.agg (.pair (.int .i64) (.pair (.int .i64) (.pair (.int .i64) (.pair (.int .i64) (.int .i64))))))) (.int .i64)), nin := 2, outs := (.pair (.int .i64) .bool), rs := [.dat (.int .i64), .dat .bool], nout := 2, F := fun x => F_slices_BinarySearchFunc_track_Group_track_Group_int x.1 x.2 }
def hint_F_slices_BinarySearchFunc_track_Group_track_Group_int : Hint := (.mk .plain [H0, (.mk .plain [H0, (.mk .plain [H0, (.mk .plain [(.mk .plain [(.mk (.loop [⟨.slot 10, (.int .i64), none⟩, ⟨.slot 9, (.int .i64), none⟩] [(0, 30), (0, 16), (0, 19), (0, 22), (0, 28), (0, 25), (0, 31), (0, 34), (0, 11), (0, 17), (0, 23), (0, 20), (0, 26), (0, 29), (0, 32), (0, 15), (0, 21), (0, 18), (0, 24), (0, 27), (0, 33)] [(.exit 0, [⟨.slot 9, (.int .i64), none⟩])]) [(.mk .plain [H0, (.mk .plain [(.mk .plain [H0, (.mk .plain [H0, (.mk (.join [(0, 32), (0, 33), (0, 34)] [(.normal, [⟨.slot 9, (.int .i64), none⟩, ⟨.slot 10, (.int .i64), none⟩])]) [])])])])])])])])])])])
theorem run_F_slices_BinarySearchFunc_track_Group_track_Group_int : runE ⟨tdGet tys, [con_F_track_Track_Find_1]⟩ con_F_slices_BinarySearchFunc_track_Group_track_Group_int Try.f71 hint_F_slices_BinarySearchFunc_track_Group_track_Group_int = con_F_slices_BinarySearchFunc_track_Group_track_Group_int.F := by
  funext x
  kernel_rfl
theorem ok_F_slices_BinarySearchFunc_track_Group_track_Group_int : ConOK Try.prog con_F_slices_BinarySearchFunc_track_Group_track_Group_int :=
  con_of_run (Γ := ⟨tdGet tys, [con_F_track_Track_Find_1]⟩) ⟨fun T d h => tysB_ok tys tys_ok T d h, by simp [ok_F_track_Track_Find_1]⟩ (by kernel_rfl) Try.func71 rfl (by kernel_rfl) run_F_slices_BinarySearchFunc_track_Group_track_Group_int
/-- (odograph/track.Track).Find -/
noncomputable def F_track_Track_Find (t_1 : ((List (Int × ((List (Int × Int)) × (List Int)))) × (List (Int × (Int × (Int × (Int × Int))))))) (id_2 : Int) : Option (Int × Bool) :=
  (F_slices_BinarySearchFunc_track_Group_track_Group_int t_1.2 id_2).bind fun t9_3 =>
  some (t9_3.1, t9_3.2)
noncomputable def con_F_track_Track_Find : Con := { f := 38, ps := [.dat (.agg (.pair (.slice (.agg (.pair (.int .i64) (.pair (.slice (.agg (.pair (.int .i64) (.int .i64)))) (.slice (.int .i64)))))) (.slice (.agg (.pair (.int .i64) (.pair (.int .i64) (.pair (.int .i64) (.pair (.int .i64) (.int .i64))))))))), .dat (.int .i64)], boxes := [], ins := (.pair (.agg (.pair (.slice (.agg (.pair (.int .i64) (.pair (.slice (.agg (.pair (.int .i64) (.int .i64)))) (.slice (.int .i64)))))) (.slice (.agg (.pair (.int .i64) (.pair (.int .i64) (.pair (.int .i64) (.pair (.int .i64) (.int .i64))))))))) (.int .i64)), nin := 2, outs := (.pair (.int .i64) .bool), rs := [.dat (.int .i64), .dat .bool], nout := 2, F := fun x => F_track_Track_Find x.1 x.2 }
def hint_F_track_Track_Find : Hint := H0
theorem run_F_track_Track_Find : runE ⟨tdGet tys, [con_F_slices_BinarySearchFunc_track_Group_track_Group_int]⟩ con_F_track_Track_Find Try.f38 hint_F_track_Track_Find = con_F_track_Track_Find.F := by
  funext x
  kernel_rfl
theorem ok_F_track_Track_Find : ConOK Try.prog con_F_track_Track_Find :=
  con_of_run (Γ := ⟨tdGet tys, [con_F_slices_BinarySearchFunc_track_Group_track_Group_int]⟩) ⟨fun T d h => tysB_ok tys tys_ok T d h, by simp [ok_F_slices_BinarySearchFunc_track_Group_track_Group_int]⟩ (by kernel_rfl) Try.func38 rfl (by kernel_rfl) run_F_track_Track_Find
/-- odograph/odographlaw11.anchor -/
noncomputable def F_law11_anchor (_ : Unit) : Option Bool :=
  let t7_1 : (List (Int × Int)) := ([((0 : Int), (0 : Int))] : List (Int × Int))
  let t9_2 : (List (Int × ((List (Int × Int)) × (List Int)))) := ([((9 : Int), (t7_1, []))] : List (Int × ((List (Int × Int)) × (List Int))))
  let t10_3 : (Int × (Int × (Int × (Int × Int)))) := ((3 : Int), ((0 : Int), ((0 : Int), ((0 : Int), (0 : Int)))))
  let t11_4 : (Int × (Int × (Int × (Int × Int)))) := ((9 : Int), ((0 : Int), ((0 : Int), ((0 : Int), (0 : Int)))))
  let t12_5 : (List (Int × (Int × (Int × (Int × Int))))) := ([t10_3, t11_4] : List (Int × (Int × (Int × (Int × Int)))))
  let w_6 : ((List (Int × ((List (Int × Int)) × (List Int)))) × (List (Int × (Int × (Int × (Int × Int)))))) := (t9_2, t12_5)
  (F_track_Track_Check w_6).bind fun t16_7 =>
  (F_track_Track_Find w_6 (7 : Int)).bind fun t21_8 =>
  let t29_9 : Bool := (bif (t16_7.1 == (0 : Int)) then (t16_7.2 == (0 : Int)) else false)
  let t33_10 : Bool := (bif t29_9 then (t21_8.1 == (1 : Int)) else false)
  let t37_11 : Bool := (bif t33_10 then (!t21_8.2) else false)
  some t37_11
noncomputable def con_F_law11_anchor : Con := { f := 33, ps := [], boxes := [], ins := .unit, nin := 0, outs := .bool, rs := [.dat .bool], nout := 1, F := fun x => F_law11_anchor () }
def hint_F_law11_anchor : Hint := H0
theorem run_F_law11_anchor : runE ⟨tdGet tys, [con_F_track_Track_Check, con_F_track_Track_Find]⟩ con_F_law11_anchor Try.f33 hint_F_law11_anchor = con_F_law11_anchor.F := by
  funext x
  kernel_rfl
theorem ok_F_law11_anchor : ConOK Try.prog con_F_law11_anchor :=
  con_of_run (Γ := ⟨tdGet tys, [con_F_track_Track_Check, con_F_track_Track_Find]⟩) ⟨fun T d h => tysB_ok tys tys_ok T d h, by simp [ok_F_track_Track_Check, ok_F_track_Track_Find]⟩ (by kernel_rfl) Try.func33 rfl (by kernel_rfl) run_F_law11_anchor
/-- odograph/odographlaw11.great -/
noncomputable def F_law11_great (t_1 : ((List (Int × ((List (Int × Int)) × (List Int)))) × (List (Int × (Int × (Int × (Int × Int))))))) : Option Bool :=
  let t12_2 : Int := (IntKind.wrap .i64 ((t_1.1.length : Int) + (t_1.2.length : Int)))
  let t14_3 : Bool := (decide ((2000 : Int) < t12_2))
  (bif t14_3 then
    some true
  else
    Option.bind (α := Bool ⊕ Unit) (
      loopO (X := Bool ⊕ Unit) (fun (s_4 : (Int × Int)) =>
        let n_5 : Int := s_4.1
        let t18_6 : Int := s_4.2
        let t19_7 : Bool := (decide (t18_6 < (t_1.1.length : Int)))
        (bif t19_7 then
          chk none ((decide ((0 : Int) ≤ t18_6)) && (decide (t18_6 < (t_1.1.length : Int)))) <|
          let t21_8 : (Int × ((List (Int × Int)) × (List Int))) := (t_1.1.getD t18_6.toNat ((0 : Int), ([], [])))
          let t29_9 : Int := (IntKind.wrap .i64 ((t21_8.2.1.length : Int) + (t21_8.2.2.length : Int)))
          let t30_10 : Int := (IntKind.wrap .i64 (n_5 + t29_9))
          let t32_11 : Bool := (decide ((20000 : Int) < t30_10))
          (bif t32_11 then
            some (.inr (.inl true))
          else
            let t33_12 : Int := (IntKind.wrap .i64 (t18_6 + (1 : Int)))
            some (.inl (t30_10, t33_12)))
        else
          some (.inr (.inr ())))) (t12_2, (0 : Int))) fun z => match z with
    | .inl r_13 =>
      some r_13
    | .inr _ =>
      some false)
noncomputable def con_F_law11_great : Con := { f := 34, ps := [.dat (.agg (.pair (.slice (.agg (.pair (.int .i64) (.pair (.slice (.agg (.pair (.int .i64) (.int .i64)))) (.slice (.int .i64)))))) (.slice (.agg (.pair (.int .i64) (.pair (.int .i64) (.pair (.int .i64) (.pair (.int .i64) (.int .i64)))))))))], boxes := [], ins := (.agg (.pair (.slice (.agg (.pair (.int .i64) (.pair (.slice (.agg (.pair (.int .i64) (.int .i64)))) (.slice (.int .i64)))))) (.slice (.agg (.pair (.int .i64) (.pair (.int .i64) (.pair (.int .i64) (.pair (.int .i64) (.int .i64))))))))), nin := 1, outs := .bool, rs := [.dat .bool], nout := 1, F := fun x => F_law11_great x }
def hint_F_law11_great : Hint := (.mk .plain [H0, (.mk .plain [H0, (.mk .plain [H0, (.mk .plain [(.mk .plain [H0, (.mk .plain [(.mk (.loop [⟨.slot 3, (.int .i64), none⟩, ⟨.slot 18, (.int .i64), none⟩] [(0, 30), (0, 19), (0, 22), (0, 28), (0, 2), (0, 25), (0, 31), (0, 5), (0, 23), (0, 20), (0, 26), (0, 29), (0, 32), (0, 21), (0, 24), (0, 27), (0, 33)] [(.ret, [⟨.slot 2, .bool, none⟩]), (.exit 0, [])]) [])])])])])])])
theorem run_F_law11_great : runE ⟨tdGet tys, []⟩ con_F_law11_great Try.f34 hint_F_law11_great = con_F_law11_great.F := by
  funext x
  kernel_rfl
theorem ok_F_law11_great : ConOK Try.prog con_F_law11_great :=
  con_of_run (Γ := ⟨tdGet tys, []⟩) ⟨fun T d h => tysB_ok tys tys_ok T d h, by simp []⟩ (by kernel_rfl) Try.func34 rfl (by kernel_rfl) run_F_law11_great
/-- odograph/odographlaw11.TrackLess -/
noncomputable def F_law11_TrackLess (t_1 : ((List (Int × ((List (Int × Int)) × (List Int)))) × (List (Int × (Int × (Int × (Int × Int))))))) : Option Bool :=
  (F_law11_anchor ()).bind fun t8_2 =>
  (bif (!t8_2) then
    some false
  else
    (F_law11_great t_1).bind fun t11_3 =>
    let t16_4 : Bool := ((t_1.2.length : Int) == (0 : Int))
    let t17_5 : Bool := (bif t11_3 then true else t16_4)
    (bif t17_5 then
      some true
    else
      (F_track_Track_Check t_1).bind fun t20_6 =>
      let t30_7 : Int := (IntKind.wrap .i64 ((t_1.2.length : Int) - (1 : Int)))
      chk none (true && (decide ((0 : Int) ≤ t30_7)) && (decide (t30_7 ≤ (t_1.2.length : Int)))) <|
      let t31_8 : (List (Int × (Int × (Int × (Int × Int))))) := ((t_1.2.take t30_7.toNat).drop (0 : Int).toNat)
      let w_9 : ((List (Int × ((List (Int × Int)) × (List Int)))) × (List (Int × (Int × (Int × (Int × Int)))))) := (t_1.1, t31_8)
      (F_track_Track_Check w_9).bind fun t35_10 =>
      let t46_11 : Bool := (bif (t35_10.1 == (0 : Int)) then (t35_10.2 == (0 : Int)) else false)
      let t47_12 : Bool := (bif (t20_6.1 != (0 : Int)) then true else t46_11)
      some t47_12))
noncomputable def con_F_law11_TrackLess : Con := { f := 12, ps := [.dat (.agg (.pair (.slice (.agg (.pair (.int .i64) (.pair (.slice (.agg (.pair (.int .i64) (.int .i64)))) (.slice (.int .i64)))))) (.slice (.agg (.pair (.int .i64) (.pair (.int .i64) (.pair (.int .i64) (.pair (.int .i64) (.int .i64)))))))))], boxes := [], ins := (.agg (.pair (.slice (.agg (.pair (.int .i64) (.pair (.slice (.agg (.pair (.int .i64) (.int .i64)))) (.slice (.int .i64)))))) (.slice (.agg (.pair (.int .i64) (.pair (.int .i64) (.pair (.int .i64) (.pair (.int .i64) (.int .i64))))))))), nin := 1, outs := .bool, rs := [.dat .bool], nout := 1, F := fun x => F_law11_TrackLess x }
def hint_F_law11_TrackLess : Hint := H0
theorem run_F_law11_TrackLess : runE ⟨tdGet tys, [con_F_law11_anchor, con_F_law11_great, con_F_track_Track_Check]⟩ con_F_law11_TrackLess Try.f12 hint_F_law11_TrackLess = con_F_law11_TrackLess.F := by
  funext x
  kernel_rfl
theorem ok_F_law11_TrackLess : ConOK Try.prog con_F_law11_TrackLess :=
  con_of_run (Γ := ⟨tdGet tys, [con_F_law11_anchor, con_F_law11_great, con_F_track_Track_Check]⟩) ⟨fun T d h => tysB_ok tys tys_ok T d h, by simp [ok_F_law11_anchor, ok_F_law11_great, ok_F_track_Track_Check]⟩ (by kernel_rfl) Try.func12 rfl (by kernel_rfl) run_F_law11_TrackLess
end Go.Proofs.Ytckghclpdfbigaa
