/- The functional reading of the code (printed). -/
import Derived.Test.YtgogjcbfnnhaoaaFnsE
set_option linter.unusedSimpArgs false
set_option linter.unusedVariables false
namespace Go.Proofs.Ytgogjcbfnnhaoaa
open Go
/-- (*odograph/admit.judge).read -/
noncomputable def F_admit_judge_read (r_1 : Yd3) (ahead_2 : Int) (x_3 : Int) (x_4 : Int) (x_5 : Int) (x_6 : Int) (x_7 : Int) (x_8 : Int) (x_9 : Int) (x_10 : Int) (x_11 : Int) (x_12 : Int) (x_13 : Int) (x_14 : Int) (x_15 : Int) (x_16 : Int) (x_17 : (List Yd1)) (x_18 : (List Yd4)) (x_19 : (List Int)) (x_20 : Int) (x_21 : Int) (x_22 : Int) (x_23 : Int) (x_24 : Int) (x_25 : Int) (x_26 : (List Yd10)) (x_27 : (List Yd3)) (x_28 : (List Int)) (x_29 : (List Int)) (x_30 : (List Int)) : Option Yd112 :=
  let t17_31 : Bool := (decide (r_1.1 ≤ ahead_2))
  let t27_32 : Bool := (decide ((x_26.length : Int) ≤ r_1.1))
  let t28_33 : Bool := (bif t17_31 then true else t27_32)
  (bif t28_33 then
    some (false, x_3, x_4, x_5, x_6, x_7, x_8, x_9, x_10, x_11, x_12, x_13, x_14, x_15, x_16, x_17, x_18, x_19, x_20, x_21, x_22, x_23, x_24, x_25, x_26, x_27, x_28, x_29, x_30)
  else
    let t37_34 : Yd119 := (x_19, (x_20, (x_21, ((x_22, x_23), ((x_24, x_25), (x_26, x_27))))))
    (F_world_Nominal (x_17, x_18) t37_34 r_1).bind fun t39_35 =>
    (bif (!t39_35.2) then
      some (false, x_3, x_4, x_5, x_6, x_7, x_8, x_9, x_10, x_11, x_12, x_13, x_14, x_15, x_16, x_17, x_18, x_19, x_20, x_21, x_22, x_23, x_24, x_25, x_26, x_27, x_28, x_29, x_30)
    else
      chk none ((decide ((0 : Int) ≤ r_1.1)) && (decide (r_1.1 < (x_28.length : Int)))) <|
      let t56_36 : Int := (x_28.getD r_1.1.toNat (0 : Int))
      let t59_37 : Bool := (decide ((0 : Int) < r_1.1))
      Option.bind (
        (bif t59_37 then
          let t66_38 : Int := (IntKind.wrap .i64 (r_1.1 - (1 : Int)))
          chk none ((decide ((0 : Int) ≤ t66_38)) && (decide (t66_38 < (x_28.length : Int)))) <|
          let t68_39 : Int := (x_28.getD t66_38.toNat (0 : Int))
          some t68_39
        else
          some x_20)) fun r_40 =>
      (F_track_Track_Find (x_17, x_18) r_1.2.2.1).bind fun t76_41 =>
      chk none ((decide ((0 : Int) ≤ t76_41.1)) && (decide (t76_41.1 < (x_18.length : Int)))) <|
      let e_42 : Yd4 := (x_18.getD t76_41.1.toNat ((0 : Int), ((0 : Int), ((0 : Int), ((0 : Int), (0 : Int))))))
      let t93_43 : Int := (IntKind.wrap .i64 (e_42.2.2.2.1 + x_11))
      let t98_44 : Int := (if t56_36 < r_40 then t56_36 else r_40)
      let t99_45 : Bool := (decide (t98_44 ≤ r_1.2.2.2))
      let t105_46 : Int := (if t56_36 > r_40 then t56_36 else r_40)
      let t106_47 : Bool := (decide (r_1.2.2.2 ≤ t105_46))
      let t107_48 : Bool := (bif t99_45 then t106_47 else false)
      let t112_49 : Int := (IntKind.wrap .i64 (r_1.2.2.2 - t39_35.1))
      (bif t107_48 then F_admit_within t112_49 t93_43 else some false).bind fun t114_50 =>
      let t115_51 : Bool := (bif t107_48 then t114_50 else false)
      some (t115_51, x_3, x_4, x_5, x_6, x_7, x_8, x_9, x_10, x_11, x_12, x_13, x_14, x_15, x_16, x_17, x_18, x_19, x_20, x_21, x_22, x_23, x_24, x_25, x_26, x_27, x_28, x_29, x_30)))
noncomputable def con_F_admit_judge_read : Con := { f := 40, ps := [.ref 0 0, .dat (.agg Yt3), .dat (.int .i64)], boxes := [[.dat (.int .i64), .dat (.int .i64), .dat (.int .i64), .dat (.int .i64), .dat (.int .i64), .dat (.int .i64), .dat (.int .i64), .dat (.int .i64), .dat (.int .i64), .dat (.int .i64), .dat (.int .i64), .dat (.int .i64), .dat (.int .i64), .dat (.int .i64), .dat (.slice (.agg Yt1)), .dat (.slice (.agg Yt4)), .dat (.slice (.int .i64)), .dat (.int .i64), .dat (.int .i64), .dat (.int .i64), .dat (.int .i64), .dat (.int .i64), .dat (.int .i64), .dat (.slice (.agg Yt10)), .dat (.slice (.agg Yt3)), .dat (.slice (.int .i64)), .dat (.slice (.int .i64)), .dat (.slice (.int .i64))]], ins := Yt160, nin := 30, outs := Yt112, rs := [.dat .bool], nout := 29, F := fun x => F_admit_judge_read x.1 x.2.1 x.2.2.1 x.2.2.2.1 x.2.2.2.2.1 x.2.2.2.2.2.1 x.2.2.2.2.2.2.1 x.2.2.2.2.2.2.2.1 x.2.2.2.2.2.2.2.2.1 x.2.2.2.2.2.2.2.2.2.1 x.2.2.2.2.2.2.2.2.2.2.1 x.2.2.2.2.2.2.2.2.2.2.2.1 x.2.2.2.2.2.2.2.2.2.2.2.2.1 x.2.2.2.2.2.2.2.2.2.2.2.2.2.1 x.2.2.2.2.2.2.2.2.2.2.2.2.2.2.1 x.2.2.2.2.2.2.2.2.2.2.2.2.2.2.2.1 x.2.2.2.2.2.2.2.2.2.2.2.2.2.2.2.2.1 x.2.2.2.2.2.2.2.2.2.2.2.2.2.2.2.2.2.1 x.2.2.2.2.2.2.2.2.2.2.2.2.2.2.2.2.2.2.1 x.2.2.2.2.2.2.2.2.2.2.2.2.2.2.2.2.2.2.2.1 x.2.2.2.2.2.2.2.2.2.2.2.2.2.2.2.2.2.2.2.2.1 x.2.2.2.2.2.2.2.2.2.2.2.2.2.2.2.2.2.2.2.2.2.1 x.2.2.2.2.2.2.2.2.2.2.2.2.2.2.2.2.2.2.2.2.2.2.1 x.2.2.2.2.2.2.2.2.2.2.2.2.2.2.2.2.2.2.2.2.2.2.2.1 x.2.2.2.2.2.2.2.2.2.2.2.2.2.2.2.2.2.2.2.2.2.2.2.2.1 x.2.2.2.2.2.2.2.2.2.2.2.2.2.2.2.2.2.2.2.2.2.2.2.2.2.1 x.2.2.2.2.2.2.2.2.2.2.2.2.2.2.2.2.2.2.2.2.2.2.2.2.2.2.1 x.2.2.2.2.2.2.2.2.2.2.2.2.2.2.2.2.2.2.2.2.2.2.2.2.2.2.2.1 x.2.2.2.2.2.2.2.2.2.2.2.2.2.2.2.2.2.2.2.2.2.2.2.2.2.2.2.2.1 x.2.2.2.2.2.2.2.2.2.2.2.2.2.2.2.2.2.2.2.2.2.2.2.2.2.2.2.2.2 }
def hint_F_admit_judge_read : Hint := (.mk .plain [H0, (.mk .plain [H0, (.mk .plain [H0, (.mk .plain [H0, (.mk .plain [H0, (.mk .plain [(.mk .plain [H0, (.mk (.join [(0, 68), (0, 65), (0, 61), (0, 64), (0, 67), (0, 60), (0, 66), (0, 63), (0, 62)] [(.normal, [⟨.slot 9, (.int .i64), none⟩])]) [])])])])])])])])
theorem run_F_admit_judge_read : runE ⟨tdGet tys, [con_F_world_Nominal, con_F_track_Track_Find, con_F_admit_within], []⟩ con_F_admit_judge_read Try.f40 hint_F_admit_judge_read = con_F_admit_judge_read.F := by
  funext x
  kernel_rfl
theorem ok_F_admit_judge_read : ConOK Try.prog con_F_admit_judge_read :=
  con_of_run (Γ := ⟨tdGet tys, [con_F_world_Nominal, con_F_track_Track_Find, con_F_admit_within], []⟩) ⟨fun T d h => tysB_ok tys tys_ok T d h, by simp [ok_F_world_Nominal, ok_F_track_Track_Find, ok_F_admit_within], by simp []⟩ (by kernel_rfl) Try.func40 rfl (by kernel_rfl) run_F_admit_judge_read
/-- (*odograph/admit.judge).reads -/
noncomputable def F_admit_judge_reads (x_1 : Int) (x_2 : Int) (x_3 : Int) (x_4 : Int) (x_5 : Int) (x_6 : Int) (x_7 : Int) (x_8 : Int) (x_9 : Int) (x_10 : Int) (x_11 : Int) (x_12 : Int) (x_13 : Int) (x_14 : Int) (x_15 : (List Yd1)) (x_16 : (List Yd4)) (x_17 : (List Int)) (x_18 : Int) (x_19 : Int) (x_20 : Int) (x_21 : Int) (x_22 : Int) (x_23 : Int) (x_24 : (List Yd10)) (x_25 : (List Yd3)) (x_26 : (List Int)) (x_27 : (List Int)) (x_28 : (List Int)) : Option Yd112 :=
  Option.bind (α := Yd64 ⊕ Yd63) (
    loopO (X := Yd64 ⊕ Yd63) (fun (s_29 : Yd187) =>
      let b0_30 : Int := s_29.1
      let b0_31 : Int := s_29.2.1
      let b0_32 : Int := s_29.2.2.1
      let b0_33 : Int := s_29.2.2.2.1
      let b0_34 : Int := s_29.2.2.2.2.1
      let b0_35 : Int := s_29.2.2.2.2.2.1
      let b0_36 : (List Yd4) := s_29.2.2.2.2.2.2.1
      let b0_37 : Int := s_29.2.2.2.2.2.2.2.1
      let b0_38 : (List Yd3) := s_29.2.2.2.2.2.2.2.2.1
      let b0_39 : (List Int) := s_29.2.2.2.2.2.2.2.2.2.1
      let b0_40 : Int := s_29.2.2.2.2.2.2.2.2.2.2.1
      let b0_41 : Int := s_29.2.2.2.2.2.2.2.2.2.2.2.1
      let b0_42 : Int := s_29.2.2.2.2.2.2.2.2.2.2.2.2.1
      let b0_43 : Int := s_29.2.2.2.2.2.2.2.2.2.2.2.2.2.1
      let b0_44 : (List Yd1) := s_29.2.2.2.2.2.2.2.2.2.2.2.2.2.2.1
      let b0_45 : Int := s_29.2.2.2.2.2.2.2.2.2.2.2.2.2.2.2.1
      let b0_46 : Int := s_29.2.2.2.2.2.2.2.2.2.2.2.2.2.2.2.2.1
      let b0_47 : (List Yd10) := s_29.2.2.2.2.2.2.2.2.2.2.2.2.2.2.2.2.2.1
      let b0_48 : (List Int) := s_29.2.2.2.2.2.2.2.2.2.2.2.2.2.2.2.2.2.2.1
      let b0_49 : Int := s_29.2.2.2.2.2.2.2.2.2.2.2.2.2.2.2.2.2.2.2.1
      let b0_50 : Int := s_29.2.2.2.2.2.2.2.2.2.2.2.2.2.2.2.2.2.2.2.2.1
      let b0_51 : Int := s_29.2.2.2.2.2.2.2.2.2.2.2.2.2.2.2.2.2.2.2.2.2.1
      let b0_52 : Int := s_29.2.2.2.2.2.2.2.2.2.2.2.2.2.2.2.2.2.2.2.2.2.2.1
      let b0_53 : Int := s_29.2.2.2.2.2.2.2.2.2.2.2.2.2.2.2.2.2.2.2.2.2.2.2.1
      let b0_54 : (List Int) := s_29.2.2.2.2.2.2.2.2.2.2.2.2.2.2.2.2.2.2.2.2.2.2.2.2.1
      let b0_55 : Int := s_29.2.2.2.2.2.2.2.2.2.2.2.2.2.2.2.2.2.2.2.2.2.2.2.2.2.1
      let b0_56 : (List Int) := s_29.2.2.2.2.2.2.2.2.2.2.2.2.2.2.2.2.2.2.2.2.2.2.2.2.2.2.1
      let b0_57 : Int := s_29.2.2.2.2.2.2.2.2.2.2.2.2.2.2.2.2.2.2.2.2.2.2.2.2.2.2.2.1
      let ahead_58 : Int := s_29.2.2.2.2.2.2.2.2.2.2.2.2.2.2.2.2.2.2.2.2.2.2.2.2.2.2.2.2.1
      let t12_59 : Int := s_29.2.2.2.2.2.2.2.2.2.2.2.2.2.2.2.2.2.2.2.2.2.2.2.2.2.2.2.2.2
      let t13_60 : Bool := (decide (t12_59 < (x_25.length : Int)))
      (bif t13_60 then
        chk none ((decide ((0 : Int) ≤ t12_59)) && (decide (t12_59 < (x_25.length : Int)))) <|
        let t15_61 : Yd3 := (x_25.getD t12_59.toNat ((0 : Int), ((0 : Int), ((0 : Int), (0 : Int)))))
        (F_admit_judge_read t15_61 ahead_58 b0_30 b0_49 b0_40 b0_32 b0_50 b0_41 b0_31 b0_51 b0_43 b0_33 b0_53 b0_42 b0_34 b0_52 b0_44 b0_36 b0_54 b0_46 b0_35 b0_55 b0_45 b0_37 b0_57 b0_47 b0_38 b0_56 b0_48 b0_39).bind fun t19_62 =>
        (bif (!t19_62.1) then
          some (.inr (.inl (false, t19_62.2.1, t19_62.2.2.2.2.2.2.2.1, t19_62.2.2.2.2.1, t19_62.2.2.2.2.2.2.2.2.2.2.1, t19_62.2.2.2.2.2.2.2.2.2.2.2.2.2.1, t19_62.2.2.2.2.2.2.2.2.2.2.2.2.2.2.2.2.2.2.2.1, t19_62.2.2.2.2.2.2.2.2.2.2.2.2.2.2.2.2.1, t19_62.2.2.2.2.2.2.2.2.2.2.2.2.2.2.2.2.2.2.2.2.2.2.1, t19_62.2.2.2.2.2.2.2.2.2.2.2.2.2.2.2.2.2.2.2.2.2.2.2.2.2.1, t19_62.2.2.2.2.2.2.2.2.2.2.2.2.2.2.2.2.2.2.2.2.2.2.2.2.2.2.2.2, t19_62.2.2.2.1, t19_62.2.2.2.2.2.2.1, t19_62.2.2.2.2.2.2.2.2.2.2.2.2.1, t19_62.2.2.2.2.2.2.2.2.2.1, t19_62.2.2.2.2.2.2.2.2.2.2.2.2.2.2.2.1, t19_62.2.2.2.2.2.2.2.2.2.2.2.2.2.2.2.2.2.2.2.2.2.1, t19_62.2.2.2.2.2.2.2.2.2.2.2.2.2.2.2.2.2.2.1, t19_62.2.2.2.2.2.2.2.2.2.2.2.2.2.2.2.2.2.2.2.2.2.2.2.2.1, t19_62.2.2.2.2.2.2.2.2.2.2.2.2.2.2.2.2.2.2.2.2.2.2.2.2.2.2.2.1, t19_62.2.2.1, t19_62.2.2.2.2.2.1, t19_62.2.2.2.2.2.2.2.2.1, t19_62.2.2.2.2.2.2.2.2.2.2.2.2.2.2.1, t19_62.2.2.2.2.2.2.2.2.2.2.2.1, t19_62.2.2.2.2.2.2.2.2.2.2.2.2.2.2.2.2.2.1, t19_62.2.2.2.2.2.2.2.2.2.2.2.2.2.2.2.2.2.2.2.2.1, t19_62.2.2.2.2.2.2.2.2.2.2.2.2.2.2.2.2.2.2.2.2.2.2.2.2.2.2.1, t19_62.2.2.2.2.2.2.2.2.2.2.2.2.2.2.2.2.2.2.2.2.2.2.2.1)))
        else
          let t23_63 : Int := (IntKind.wrap .i64 (t12_59 + (1 : Int)))
          some (.inl (t19_62.2.1, t19_62.2.2.2.2.2.2.2.1, t19_62.2.2.2.2.1, t19_62.2.2.2.2.2.2.2.2.2.2.1, t19_62.2.2.2.2.2.2.2.2.2.2.2.2.2.1, t19_62.2.2.2.2.2.2.2.2.2.2.2.2.2.2.2.2.2.2.2.1, t19_62.2.2.2.2.2.2.2.2.2.2.2.2.2.2.2.2.1, t19_62.2.2.2.2.2.2.2.2.2.2.2.2.2.2.2.2.2.2.2.2.2.2.1, t19_62.2.2.2.2.2.2.2.2.2.2.2.2.2.2.2.2.2.2.2.2.2.2.2.2.2.1, t19_62.2.2.2.2.2.2.2.2.2.2.2.2.2.2.2.2.2.2.2.2.2.2.2.2.2.2.2.2, t19_62.2.2.2.1, t19_62.2.2.2.2.2.2.1, t19_62.2.2.2.2.2.2.2.2.2.2.2.2.1, t19_62.2.2.2.2.2.2.2.2.2.1, t19_62.2.2.2.2.2.2.2.2.2.2.2.2.2.2.2.1, t19_62.2.2.2.2.2.2.2.2.2.2.2.2.2.2.2.2.2.2.2.2.2.1, t19_62.2.2.2.2.2.2.2.2.2.2.2.2.2.2.2.2.2.2.1, t19_62.2.2.2.2.2.2.2.2.2.2.2.2.2.2.2.2.2.2.2.2.2.2.2.2.1, t19_62.2.2.2.2.2.2.2.2.2.2.2.2.2.2.2.2.2.2.2.2.2.2.2.2.2.2.2.1, t19_62.2.2.1, t19_62.2.2.2.2.2.1, t19_62.2.2.2.2.2.2.2.2.1, t19_62.2.2.2.2.2.2.2.2.2.2.2.2.2.2.1, t19_62.2.2.2.2.2.2.2.2.2.2.2.1, t19_62.2.2.2.2.2.2.2.2.2.2.2.2.2.2.2.2.2.1, t19_62.2.2.2.2.2.2.2.2.2.2.2.2.2.2.2.2.2.2.2.2.1, t19_62.2.2.2.2.2.2.2.2.2.2.2.2.2.2.2.2.2.2.2.2.2.2.2.2.2.2.1, t19_62.2.2.2.2.2.2.2.2.2.2.2.2.2.2.2.2.2.2.2.2.2.2.2.1, t15_61.1, t23_63)))
      else
        some (.inr (.inr (b0_30, b0_31, b0_32, b0_33, b0_34, b0_35, b0_36, b0_37, b0_38, b0_39, b0_40, b0_41, b0_42, b0_43, b0_44, b0_45, b0_46, b0_47, b0_48, b0_49, b0_50, b0_51, b0_52, b0_53, b0_54, b0_55, b0_56, b0_57))))) (x_1, x_7, x_4, x_10, x_13, x_19, x_16, x_22, x_25, x_28, x_3, x_6, x_12, x_9, x_15, x_21, x_18, x_24, x_27, x_2, x_5, x_8, x_14, x_11, x_17, x_20, x_26, x_23, (-1 : Int), (0 : Int))) fun z => match z with
  | .inl r_64 =>
    let t2_65 : Bool := r_64.1
    let b0_66 : Int := r_64.2.1
    let b0_67 : Int := r_64.2.2.1
    let b0_68 : Int := r_64.2.2.2.1
    let b0_69 : Int := r_64.2.2.2.2.1
    let b0_70 : Int := r_64.2.2.2.2.2.1
    let b0_71 : Int := r_64.2.2.2.2.2.2.1
    let b0_72 : (List Yd4) := r_64.2.2.2.2.2.2.2.1
    let b0_73 : Int := r_64.2.2.2.2.2.2.2.2.1
    let b0_74 : (List Yd3) := r_64.2.2.2.2.2.2.2.2.2.1
    let b0_75 : (List Int) := r_64.2.2.2.2.2.2.2.2.2.2.1
    let b0_76 : Int := r_64.2.2.2.2.2.2.2.2.2.2.2.1
    let b0_77 : Int := r_64.2.2.2.2.2.2.2.2.2.2.2.2.1
    let b0_78 : Int := r_64.2.2.2.2.2.2.2.2.2.2.2.2.2.1
    let b0_79 : Int := r_64.2.2.2.2.2.2.2.2.2.2.2.2.2.2.1
    let b0_80 : (List Yd1) := r_64.2.2.2.2.2.2.2.2.2.2.2.2.2.2.2.1
    let b0_81 : Int := r_64.2.2.2.2.2.2.2.2.2.2.2.2.2.2.2.2.1
    let b0_82 : Int := r_64.2.2.2.2.2.2.2.2.2.2.2.2.2.2.2.2.2.1
    let b0_83 : (List Yd10) := r_64.2.2.2.2.2.2.2.2.2.2.2.2.2.2.2.2.2.2.1
    let b0_84 : (List Int) := r_64.2.2.2.2.2.2.2.2.2.2.2.2.2.2.2.2.2.2.2.1
    let b0_85 : Int := r_64.2.2.2.2.2.2.2.2.2.2.2.2.2.2.2.2.2.2.2.2.1
    let b0_86 : Int := r_64.2.2.2.2.2.2.2.2.2.2.2.2.2.2.2.2.2.2.2.2.2.1
    let b0_87 : Int := r_64.2.2.2.2.2.2.2.2.2.2.2.2.2.2.2.2.2.2.2.2.2.2.1
    let b0_88 : Int := r_64.2.2.2.2.2.2.2.2.2.2.2.2.2.2.2.2.2.2.2.2.2.2.2.1
    let b0_89 : Int := r_64.2.2.2.2.2.2.2.2.2.2.2.2.2.2.2.2.2.2.2.2.2.2.2.2.1
    let b0_90 : (List Int) := r_64.2.2.2.2.2.2.2.2.2.2.2.2.2.2.2.2.2.2.2.2.2.2.2.2.2.1
    let b0_91 : Int := r_64.2.2.2.2.2.2.2.2.2.2.2.2.2.2.2.2.2.2.2.2.2.2.2.2.2.2.1
    let b0_92 : (List Int) := r_64.2.2.2.2.2.2.2.2.2.2.2.2.2.2.2.2.2.2.2.2.2.2.2.2.2.2.2.1
    let b0_93 : Int := r_64.2.2.2.2.2.2.2.2.2.2.2.2.2.2.2.2.2.2.2.2.2.2.2.2.2.2.2.2
    some (t2_65, b0_66, b0_85, b0_76, b0_68, b0_86, b0_77, b0_67, b0_87, b0_79, b0_69, b0_89, b0_78, b0_70, b0_88, b0_80, b0_72, b0_90, b0_82, b0_71, b0_91, b0_81, b0_73, b0_93, b0_83, b0_74, b0_92, b0_84, b0_75)
  | .inr r_94 =>
    let b0_95 : Int := r_94.1
    let b0_96 : Int := r_94.2.1
    let b0_97 : Int := r_94.2.2.1
    let b0_98 : Int := r_94.2.2.2.1
    let b0_99 : Int := r_94.2.2.2.2.1
    let b0_100 : Int := r_94.2.2.2.2.2.1
    let b0_101 : (List Yd4) := r_94.2.2.2.2.2.2.1
    let b0_102 : Int := r_94.2.2.2.2.2.2.2.1
    let b0_103 : (List Yd3) := r_94.2.2.2.2.2.2.2.2.1
    let b0_104 : (List Int) := r_94.2.2.2.2.2.2.2.2.2.1
    let b0_105 : Int := r_94.2.2.2.2.2.2.2.2.2.2.1
    let b0_106 : Int := r_94.2.2.2.2.2.2.2.2.2.2.2.1
    let b0_107 : Int := r_94.2.2.2.2.2.2.2.2.2.2.2.2.1
    let b0_108 : Int := r_94.2.2.2.2.2.2.2.2.2.2.2.2.2.1
    let b0_109 : (List Yd1) := r_94.2.2.2.2.2.2.2.2.2.2.2.2.2.2.1
    let b0_110 : Int := r_94.2.2.2.2.2.2.2.2.2.2.2.2.2.2.2.1
    let b0_111 : Int := r_94.2.2.2.2.2.2.2.2.2.2.2.2.2.2.2.2.1
    let b0_112 : (List Yd10) := r_94.2.2.2.2.2.2.2.2.2.2.2.2.2.2.2.2.2.1
    let b0_113 : (List Int) := r_94.2.2.2.2.2.2.2.2.2.2.2.2.2.2.2.2.2.2.1
    let b0_114 : Int := r_94.2.2.2.2.2.2.2.2.2.2.2.2.2.2.2.2.2.2.2.1
    let b0_115 : Int := r_94.2.2.2.2.2.2.2.2.2.2.2.2.2.2.2.2.2.2.2.2.1
    let b0_116 : Int := r_94.2.2.2.2.2.2.2.2.2.2.2.2.2.2.2.2.2.2.2.2.2.1
    let b0_117 : Int := r_94.2.2.2.2.2.2.2.2.2.2.2.2.2.2.2.2.2.2.2.2.2.2.1
    let b0_118 : Int := r_94.2.2.2.2.2.2.2.2.2.2.2.2.2.2.2.2.2.2.2.2.2.2.2.1
    let b0_119 : (List Int) := r_94.2.2.2.2.2.2.2.2.2.2.2.2.2.2.2.2.2.2.2.2.2.2.2.2.1
    let b0_120 : Int := r_94.2.2.2.2.2.2.2.2.2.2.2.2.2.2.2.2.2.2.2.2.2.2.2.2.2.1
    let b0_121 : (List Int) := r_94.2.2.2.2.2.2.2.2.2.2.2.2.2.2.2.2.2.2.2.2.2.2.2.2.2.2.1
    let b0_122 : Int := r_94.2.2.2.2.2.2.2.2.2.2.2.2.2.2.2.2.2.2.2.2.2.2.2.2.2.2.2
    some (true, b0_95, b0_114, b0_105, b0_97, b0_115, b0_106, b0_96, b0_116, b0_108, b0_98, b0_118, b0_107, b0_99, b0_117, b0_109, b0_101, b0_119, b0_111, b0_100, b0_120, b0_110, b0_102, b0_122, b0_112, b0_103, b0_121, b0_113, b0_104)
noncomputable def con_F_admit_judge_reads : Con := { f := 24, ps := [.ref 0 0], boxes := [[.dat (.int .i64), .dat (.int .i64), .dat (.int .i64), .dat (.int .i64), .dat (.int .i64), .dat (.int .i64), .dat (.int .i64), .dat (.int .i64), .dat (.int .i64), .dat (.int .i64), .dat (.int .i64), .dat (.int .i64), .dat (.int .i64), .dat (.int .i64), .dat (.slice (.agg Yt1)), .dat (.slice (.agg Yt4)), .dat (.slice (.int .i64)), .dat (.int .i64), .dat (.int .i64), .dat (.int .i64), .dat (.int .i64), .dat (.int .i64), .dat (.int .i64), .dat (.slice (.agg Yt10)), .dat (.slice (.agg Yt3)), .dat (.slice (.int .i64)), .dat (.slice (.int .i64)), .dat (.slice (.int .i64))]], ins := Yt111, nin := 28, outs := Yt112, rs := [.dat .bool], nout := 29, F := fun x => F_admit_judge_reads x.1 x.2.1 x.2.2.1 x.2.2.2.1 x.2.2.2.2.1 x.2.2.2.2.2.1 x.2.2.2.2.2.2.1 x.2.2.2.2.2.2.2.1 x.2.2.2.2.2.2.2.2.1 x.2.2.2.2.2.2.2.2.2.1 x.2.2.2.2.2.2.2.2.2.2.1 x.2.2.2.2.2.2.2.2.2.2.2.1 x.2.2.2.2.2.2.2.2.2.2.2.2.1 x.2.2.2.2.2.2.2.2.2.2.2.2.2.1 x.2.2.2.2.2.2.2.2.2.2.2.2.2.2.1 x.2.2.2.2.2.2.2.2.2.2.2.2.2.2.2.1 x.2.2.2.2.2.2.2.2.2.2.2.2.2.2.2.2.1 x.2.2.2.2.2.2.2.2.2.2.2.2.2.2.2.2.2.1 x.2.2.2.2.2.2.2.2.2.2.2.2.2.2.2.2.2.2.1 x.2.2.2.2.2.2.2.2.2.2.2.2.2.2.2.2.2.2.2.1 x.2.2.2.2.2.2.2.2.2.2.2.2.2.2.2.2.2.2.2.2.1 x.2.2.2.2.2.2.2.2.2.2.2.2.2.2.2.2.2.2.2.2.2.1 x.2.2.2.2.2.2.2.2.2.2.2.2.2.2.2.2.2.2.2.2.2.2.1 x.2.2.2.2.2.2.2.2.2.2.2.2.2.2.2.2.2.2.2.2.2.2.2.1 x.2.2.2.2.2.2.2.2.2.2.2.2.2.2.2.2.2.2.2.2.2.2.2.2.1 x.2.2.2.2.2.2.2.2.2.2.2.2.2.2.2.2.2.2.2.2.2.2.2.2.2.1 x.2.2.2.2.2.2.2.2.2.2.2.2.2.2.2.2.2.2.2.2.2.2.2.2.2.2.1 x.2.2.2.2.2.2.2.2.2.2.2.2.2.2.2.2.2.2.2.2.2.2.2.2.2.2.2 }
def hint_F_admit_judge_reads : Hint := (.mk .plain [H0, (.mk .plain [H0, (.mk .plain [(.mk .plain [H0, (.mk .plain [(.mk (.loop [⟨.cell 0 0, (.int .i64), none⟩, ⟨.cell 0 6, (.int .i64), none⟩, ⟨.cell 0 3, (.int .i64), none⟩, ⟨.cell 0 9, (.int .i64), none⟩, ⟨.cell 0 12, (.int .i64), none⟩, ⟨.cell 0 18, (.int .i64), none⟩, ⟨.cell 0 15, (.slice (.agg Yt4)), none⟩, ⟨.cell 0 21, (.int .i64), none⟩, ⟨.cell 0 24, (.slice (.agg Yt3)), none⟩, ⟨.cell 0 27, (.slice (.int .i64)), none⟩, ⟨.cell 0 2, (.int .i64), none⟩, ⟨.cell 0 5, (.int .i64), none⟩, ⟨.cell 0 11, (.int .i64), none⟩, ⟨.cell 0 8, (.int .i64), none⟩, ⟨.cell 0 14, (.slice (.agg Yt1)), none⟩, ⟨.cell 0 20, (.int .i64), none⟩, ⟨.cell 0 17, (.int .i64), none⟩, ⟨.cell 0 23, (.slice (.agg Yt10)), none⟩, ⟨.cell 0 26, (.slice (.int .i64)), none⟩, ⟨.cell 0 1, (.int .i64), none⟩, ⟨.cell 0 4, (.int .i64), none⟩, ⟨.cell 0 7, (.int .i64), none⟩, ⟨.cell 0 13, (.int .i64), none⟩, ⟨.cell 0 10, (.int .i64), none⟩, ⟨.cell 0 16, (.slice (.int .i64)), none⟩, ⟨.cell 0 19, (.int .i64), none⟩, ⟨.cell 0 25, (.slice (.int .i64)), none⟩, ⟨.cell 0 22, (.int .i64), none⟩, ⟨.slot 3, (.int .i64), none⟩, ⟨.slot 12, (.int .i64), none⟩] [(0, 2), (0, 5), (0, 14), (0, 17), (0, 20), (0, 16), (0, 13), (0, 19), (0, 15), (0, 18), (0, 23), (0, 22), (0, 21)] [(.ret, [⟨.slot 2, .bool, none⟩, ⟨.cell 0 0, (.int .i64), none⟩, ⟨.cell 0 6, (.int .i64), none⟩, ⟨.cell 0 3, (.int .i64), none⟩, ⟨.cell 0 9, (.int .i64), none⟩, ⟨.cell 0 12, (.int .i64), none⟩, ⟨.cell 0 18, (.int .i64), none⟩, ⟨.cell 0 15, (.slice (.agg Yt4)), none⟩, ⟨.cell 0 21, (.int .i64), none⟩, ⟨.cell 0 24, (.slice (.agg Yt3)), none⟩, ⟨.cell 0 27, (.slice (.int .i64)), none⟩, ⟨.cell 0 2, (.int .i64), none⟩, ⟨.cell 0 5, (.int .i64), none⟩, ⟨.cell 0 11, (.int .i64), none⟩, ⟨.cell 0 8, (.int .i64), none⟩, ⟨.cell 0 14, (.slice (.agg Yt1)), none⟩, ⟨.cell 0 20, (.int .i64), none⟩, ⟨.cell 0 17, (.int .i64), none⟩, ⟨.cell 0 23, (.slice (.agg Yt10)), none⟩, ⟨.cell 0 26, (.slice (.int .i64)), none⟩, ⟨.cell 0 1, (.int .i64), none⟩, ⟨.cell 0 4, (.int .i64), none⟩, ⟨.cell 0 7, (.int .i64), none⟩, ⟨.cell 0 13, (.int .i64), none⟩, ⟨.cell 0 10, (.int .i64), none⟩, ⟨.cell 0 16, (.slice (.int .i64)), none⟩, ⟨.cell 0 19, (.int .i64), none⟩, ⟨.cell 0 25, (.slice (.int .i64)), none⟩, ⟨.cell 0 22, (.int .i64), none⟩]), (.exit 0, [⟨.cell 0 0, (.int .i64), none⟩, ⟨.cell 0 6, (.int .i64), none⟩, ⟨.cell 0 3, (.int .i64), none⟩, ⟨.cell 0 9, (.int .i64), none⟩, ⟨.cell 0 12, (.int .i64), none⟩, ⟨.cell 0 18, (.int .i64), none⟩, ⟨.cell 0 15, (.slice (.agg Yt4)), none⟩, ⟨.cell 0 21, (.int .i64), none⟩, ⟨.cell 0 24, (.slice (.agg Yt3)), none⟩, ⟨.cell 0 27, (.slice (.int .i64)), none⟩, ⟨.cell 0 2, (.int .i64), none⟩, ⟨.cell 0 5, (.int .i64), none⟩, ⟨.cell 0 11, (.int .i64), none⟩, ⟨.cell 0 8, (.int .i64), none⟩, ⟨.cell 0 14, (.slice (.agg Yt1)), none⟩, ⟨.cell 0 20, (.int .i64), none⟩, ⟨.cell 0 17, (.int .i64), none⟩, ⟨.cell 0 23, (.slice (.agg Yt10)), none⟩, ⟨.cell 0 26, (.slice (.int .i64)), none⟩, ⟨.cell 0 1, (.int .i64), none⟩, ⟨.cell 0 4, (.int .i64), none⟩, ⟨.cell 0 7, (.int .i64), none⟩, ⟨.cell 0 13, (.int .i64), none⟩, ⟨.cell 0 10, (.int .i64), none⟩, ⟨.cell 0 16, (.slice (.int .i64)), none⟩, ⟨.cell 0 19, (.int .i64), none⟩, ⟨.cell 0 25, (.slice (.int .i64)), none⟩, ⟨.cell 0 22, (.int .i64), none⟩])]) [])])])])])])
theorem run_F_admit_judge_reads : runE ⟨tdGet tys, [con_F_admit_judge_read], []⟩ con_F_admit_judge_reads Try.f24 hint_F_admit_judge_reads = con_F_admit_judge_reads.F := by
  funext x
  kernel_rfl
theorem ok_F_admit_judge_reads : ConOK Try.prog con_F_admit_judge_reads :=
  con_of_run (Γ := ⟨tdGet tys, [con_F_admit_judge_read], []⟩) ⟨fun T d h => tysB_ok tys tys_ok T d h, by simp [ok_F_admit_judge_read], by simp []⟩ (by kernel_rfl) Try.func24 rfl (by kernel_rfl) run_F_admit_judge_reads
/-- odograph/frame.size -/
noncomputable def F_frame_size (kind_1 : Int) : Option Int :=
  Option.bind (
    (bif (kind_1 == (1 : Int)) then
      some (kind_1 == (1 : Int))
    else
      Option.bind (
        (bif (kind_1 == (2 : Int)) then
          some (kind_1 == (2 : Int))
        else
          some (kind_1 == (5 : Int)))) fun r_2 =>
      some r_2)) fun r_3 =>
  (bif r_3 then
    some (2 : Int)
  else
    Option.bind (
      (bif (kind_1 == (3 : Int)) then
        some (kind_1 == (3 : Int))
      else
        some (kind_1 == (4 : Int)))) fun r_4 =>
    (bif r_4 then
      some (4 : Int)
    else
      some (0 : Int)))
noncomputable def con_F_frame_size : Con := { f := 55, ps := [.dat (.int .i64)], boxes := [], ins := (.int .i64), nin := 1, outs := (.int .i64), rs := [.dat (.int .i64)], nout := 1, F := fun x => F_frame_size x }
def hint_F_frame_size : Hint := (.mk .plain [H0, (.mk .plain [(.mk .plain [H0, (.mk .plain [(.mk .plain [(.mk .plain [H0, (.mk (.join [(0, 7), (0, 6)] [(.normal, [⟨.slot 4, .bool, none⟩])]) [H0, (.mk .plain [H0, (.mk (.join [(0, 7)] [(.normal, [⟨.slot 4, .bool, none⟩])]) [])])])]), (.mk .plain [H0, (.mk .plain [(.mk .plain [H0, (.mk (.join [(0, 10)] [(.normal, [⟨.slot 8, .bool, none⟩])]) [])])])])])])])])])
theorem run_F_frame_size : runE ⟨tdGet tys, [], []⟩ con_F_frame_size Try.f55 hint_F_frame_size = con_F_frame_size.F := by
  funext x
  kernel_rfl
theorem ok_F_frame_size : ConOK Try.prog con_F_frame_size :=
  con_of_run (Γ := ⟨tdGet tys, [], []⟩) ⟨fun T d h => tysB_ok tys tys_ok T d h, by simp [], by simp []⟩ (by kernel_rfl) Try.func55 rfl (by kernel_rfl) run_F_frame_size
/-- odograph/crc.more -/
noncomputable def F_crc_more (sum_1 : Int) (b_2 : Int) : Option Int :=
  let t8_3 : Int := (IntKind.wrap .u16 ((IntKind.wrap .u16 b_2) * 2 ^ 8))
  let t9_4 : Int := (bits .u16 .xor sum_1 t8_3)
  Option.bind (
    loopO (X := Int) (fun (s_5 : (Int × Int)) =>
      let t10_6 : Int := s_5.1
      let sum_7 : Int := s_5.2
      let t11_8 : Bool := (decide (t10_6 < (8 : Int)))
      (bif t11_8 then
        let t13_9 : Int := (bits .u16 .and sum_7 (32768 : Int))
        Option.bind (
          (bif (t13_9 != (0 : Int)) then
            let t16_10 : Int := (IntKind.wrap .u16 (sum_7 * 2 ^ 1))
            let t17_11 : Int := (bits .u16 .xor t16_10 (4129 : Int))
            some t17_11
          else
            let t19_12 : Int := (IntKind.wrap .u16 (sum_7 * 2 ^ 1))
            some t19_12)) fun r_13 =>
        let t20_14 : Int := (IntKind.wrap .i64 (t10_6 + (1 : Int)))
        some (.inl (t20_14, r_13))
      else
        some (.inr sum_7))) ((0 : Int), t9_4)) fun r_15 =>
  some r_15
noncomputable def con_F_crc_more : Con := { f := 100, ps := [.dat (.int .u16), .dat (.int .u8)], boxes := [], ins := (.pair (.int .u16) (.int .u8)), nin := 2, outs := (.int .u16), rs := [.dat (.int .u16)], nout := 1, F := fun x => F_crc_more x.1 x.2 }
def hint_F_crc_more : Hint := (.mk .plain [H0, (.mk .plain [H0, (.mk .plain [(.mk .plain [H0, (.mk .plain [(.mk (.loop [⟨.slot 10, (.int .i64), none⟩, ⟨.slot 0, (.int .u16), none⟩] [(0, 20), (0, 16), (0, 13), (0, 19), (0, 12), (0, 15), (0, 18), (0, 14), (0, 11), (0, 17)] [(.exit 0, [⟨.slot 0, (.int .u16), none⟩])]) [(.mk .plain [H0, (.mk .plain [H0, (.mk .plain [(.mk .plain [(.mk .plain [H0, (.mk (.join [(0, 15), (0, 16), (0, 17), (0, 18), (0, 19)] [(.normal, [⟨.slot 0, (.int .u16), none⟩])]) [])])])])])])])])])])])])
theorem run_F_crc_more : runE ⟨tdGet tys, [], []⟩ con_F_crc_more Try.f100 hint_F_crc_more = con_F_crc_more.F := by
  funext x
  kernel_rfl
theorem ok_F_crc_more : ConOK Try.prog con_F_crc_more :=
  con_of_run (Γ := ⟨tdGet tys, [], []⟩) ⟨fun T d h => tysB_ok tys tys_ok T d h, by simp [], by simp []⟩ (by kernel_rfl) Try.func100 rfl (by kernel_rfl) run_F_crc_more
/-- odograph/crc.Go -/
noncomputable def F_crc_Go (sum_1 : Int) (b_2 : (List Int)) : Option Int :=
  Option.bind (
    loopO (X := Int) (fun (s_3 : (Int × Int)) =>
      let sum_4 : Int := s_3.1
      let t9_5 : Int := s_3.2
      let t10_6 : Bool := (decide (t9_5 < (b_2.length : Int)))
      (bif t10_6 then
        chk none ((decide ((0 : Int) ≤ t9_5)) && (decide (t9_5 < (b_2.length : Int)))) <|
        let t12_7 : Int := (b_2.getD t9_5.toNat (0 : Int))
        (F_crc_more sum_4 t12_7).bind fun t15_8 =>
        let t16_9 : Int := (IntKind.wrap .i64 (t9_5 + (1 : Int)))
        some (.inl (t15_8, t16_9))
      else
        some (.inr sum_4))) (sum_1, (0 : Int))) fun r_10 =>
  some r_10
noncomputable def con_F_crc_Go : Con := { f := 88, ps := [.dat (.int .u16), .dat (.slice (.int .u8))], boxes := [], ins := (.pair (.int .u16) (.slice (.int .u8))), nin := 2, outs := (.int .u16), rs := [.dat (.int .u16)], nout := 1, F := fun x => F_crc_Go x.1 x.2 }
def hint_F_crc_Go : Hint := (.mk .plain [H0, (.mk .plain [(.mk .plain [H0, (.mk .plain [(.mk (.loop [⟨.slot 0, (.int .u16), none⟩, ⟨.slot 9, (.int .i64), none⟩] [(0, 10), (0, 16), (0, 13), (0, 6), (0, 12), (0, 15), (0, 14), (0, 11)] [(.exit 0, [⟨.slot 0, (.int .u16), none⟩])]) [])])])])])
theorem run_F_crc_Go : runE ⟨tdGet tys, [con_F_crc_more], []⟩ con_F_crc_Go Try.f88 hint_F_crc_Go = con_F_crc_Go.F := by
  funext x
  kernel_rfl
theorem ok_F_crc_Go : ConOK Try.prog con_F_crc_Go :=
  con_of_run (Γ := ⟨tdGet tys, [con_F_crc_more], []⟩) ⟨fun T d h => tysB_ok tys tys_ok T d h, by simp [ok_F_crc_more], by simp []⟩ (by kernel_rfl) Try.func88 rfl (by kernel_rfl) run_F_crc_Go
/-- odograph/crc.Sum -/
noncomputable def F_crc_Sum (b_1 : (List Int)) : Option Int :=
  (F_crc_Go (65535 : Int) b_1).bind fun t4_2 =>
  some t4_2
noncomputable def con_F_crc_Sum : Con := { f := 56, ps := [.dat (.slice (.int .u8))], boxes := [], ins := (.slice (.int .u8)), nin := 1, outs := (.int .u16), rs := [.dat (.int .u16)], nout := 1, F := fun x => F_crc_Sum x }
def hint_F_crc_Sum : Hint := H0
theorem run_F_crc_Sum : runE ⟨tdGet tys, [con_F_crc_Go], []⟩ con_F_crc_Sum Try.f56 hint_F_crc_Sum = con_F_crc_Sum.F := by
  funext x
  kernel_rfl
theorem ok_F_crc_Sum : ConOK Try.prog con_F_crc_Sum :=
  con_of_run (Γ := ⟨tdGet tys, [con_F_crc_Go], []⟩) ⟨fun T d h => tysB_ok tys tys_ok T d h, by simp [ok_F_crc_Go], by simp []⟩ (by kernel_rfl) Try.func56 rfl (by kernel_rfl) run_F_crc_Sum
/-- odograph/frame.signed -/
noncomputable def F_frame_signed (kind_1 : Int) : Option Bool :=
  let t8_2 : Bool := (bif (kind_1 == (3 : Int)) then true else (kind_1 == (4 : Int)))
  some t8_2
noncomputable def con_F_frame_signed : Con := { f := 57, ps := [.dat (.int .i64)], boxes := [], ins := (.int .i64), nin := 1, outs := .bool, rs := [.dat .bool], nout := 1, F := fun x => F_frame_signed x }
def hint_F_frame_signed : Hint := H0
theorem run_F_frame_signed : runE ⟨tdGet tys, [], []⟩ con_F_frame_signed Try.f57 hint_F_frame_signed = con_F_frame_signed.F := by
  funext x
  kernel_rfl
theorem ok_F_frame_signed : ConOK Try.prog con_F_frame_signed :=
  con_of_run (Γ := ⟨tdGet tys, [], []⟩) ⟨fun T d h => tysB_ok tys tys_ok T d h, by simp [], by simp []⟩ (by kernel_rfl) Try.func57 rfl (by kernel_rfl) run_F_frame_signed
/-- odograph/frame.Get -/
noncomputable def F_frame_Get (b_1 : (List Int)) : Option Yd188 :=
  let t12_2 : Bool := (decide ((b_1.length : Int) < (5 : Int)))
  (bif t12_2 then
    let t13_3 : (Int × (Int × Int)) := ((0 : Int), ((0 : Int), (0 : Int)))
    some (t13_3, (14 : Int))
  else
    chk none (true && (decide ((0 : Int) < (b_1.length : Int)))) <|
    let t16_4 : Int := (b_1.getD (0 : Int).toNat (0 : Int))
    let t17_5 : Int := (IntKind.wrap .i64 t16_4)
    (F_frame_size t17_5).bind fun t19_6 =>
    (bif (t19_6 == (0 : Int)) then
      let t23_7 : (Int × (Int × Int)) := ((0 : Int), ((0 : Int), (0 : Int)))
      some (t23_7, (30 : Int))
    else
      chk none (true && (decide ((2 : Int) < (b_1.length : Int)))) <|
      let t27_8 : Int := (b_1.getD (2 : Int).toNat (0 : Int))
      let t28_9 : Int := (IntKind.wrap .i64 t27_8)
      let t35_10 : Int := (IntKind.wrap .i64 ((3 : Int) + t19_6))
      let t36_11 : Int := (IntKind.wrap .i64 (t35_10 + (2 : Int)))
      let t37_12 : Bool := ((b_1.length : Int) != t36_11)
      let t38_13 : Bool := (bif (t28_9 != t19_6) then true else t37_12)
      (bif t38_13 then
        let t39_14 : (Int × (Int × Int)) := ((0 : Int), ((0 : Int), (0 : Int)))
        some (t39_14, (11 : Int))
      else
        (F_crc_Sum b_1).bind fun t42_15 =>
        (bif (t42_15 != (0 : Int)) then
          let t44_16 : (Int × (Int × Int)) := ((0 : Int), ((0 : Int), (0 : Int)))
          some (t44_16, (31 : Int))
        else
          let t47_17 : Int := (IntKind.wrap .i64 ((3 : Int) + t19_6))
          chk none (true && (decide ((3 : Int) ≤ t47_17)) && (decide (t47_17 ≤ (b_1.length : Int)))) <|
          let t48_18 : (List Int) := ((b_1.take t47_17.toNat).drop (3 : Int).toNat)
          Option.bind (
            loopO (X := Int) (fun (s_19 : (Int × Int)) =>
              let v_20 : Int := s_19.1
              let t50_21 : Int := s_19.2
              let t51_22 : Bool := (decide (t50_21 < (t48_18.length : Int)))
              (bif t51_22 then
                chk none ((decide ((0 : Int) ≤ t50_21)) && (decide (t50_21 < (t48_18.length : Int)))) <|
                let t53_23 : Int := (t48_18.getD t50_21.toNat (0 : Int))
                let t55_24 : Int := (IntKind.wrap .u32 (v_20 * 2 ^ 8))
                let t57_25 : Int := (IntKind.wrap .u32 t53_23)
                let t58_26 : Int := (bits .u32 .or t55_24 t57_25)
                let t59_27 : Int := (IntKind.wrap .i64 (t50_21 + (1 : Int)))
                some (.inl (t58_26, t59_27))
              else
                some (.inr v_20))) ((0 : Int), (0 : Int))) fun r_28 =>
          chk none (true && (decide ((1 : Int) < (b_1.length : Int)))) <|
          let t63_29 : Int := (b_1.getD (1 : Int).toNat (0 : Int))
          let t64_30 : Int := (IntKind.wrap .i64 t63_29)
          let t67_31 : (Int × (Int × Int)) := (t17_5, (t64_30, (IntKind.wrap .i64 r_28)))
          (F_frame_signed t17_5).bind fun t69_32 =>
          Option.bind (
            (bif t69_32 then
              let t72_33 : Int := (IntKind.wrap .i64 (IntKind.wrap .i32 r_28))
              some t72_33
            else
              some t67_31.2.2)) fun r_34 =>
          let t74_35 : (Int × (Int × Int)) := (t67_31.1, (t67_31.2.1, r_34))
          some (t74_35, (0 : Int))))))
noncomputable def con_F_frame_Get : Con := { f := 41, ps := [.dat (.slice (.int .u8))], boxes := [], ins := (.slice (.int .u8)), nin := 1, outs := Yt188, rs := [.dat (.agg (.pair (.int .i64) (.pair (.int .i64) (.int .i64)))), .dat (.int .i64)], nout := 2, F := fun x => F_frame_Get x }
def hint_F_frame_Get : Hint := (.mk .plain [H0, (.mk .plain [H0, (.mk .plain [H0, (.mk .plain [H0, (.mk .plain [H0, (.mk .plain [H0, (.mk .plain [(.mk .plain [H0, (.mk .plain [(.mk (.loop [⟨.slot 6, (.int .u32), none⟩, ⟨.slot 50, (.int .i64), none⟩] [(0, 52), (0, 55), (0, 58), (0, 54), (0, 57), (0, 51), (0, 53), (0, 59), (0, 56), (0, 8)] [(.exit 1, [⟨.slot 6, (.int .u32), none⟩])]) [])])]), (.mk .plain [H0, (.mk .plain [(.mk .plain [H0, (.mk (.join [(0, 70), (0, 71), (0, 72), (0, 73)] [(.normal, [⟨.cell 1 2, (.int .i64), none⟩])]) [])])])])])])])])])])])
theorem run_F_frame_Get : runE ⟨tdGet tys, [con_F_frame_size, con_F_crc_Sum, con_F_frame_signed], []⟩ con_F_frame_Get Try.f41 hint_F_frame_Get = con_F_frame_Get.F := by
  funext x
  kernel_rfl
theorem ok_F_frame_Get : ConOK Try.prog con_F_frame_Get :=
  con_of_run (Γ := ⟨tdGet tys, [con_F_frame_size, con_F_crc_Sum, con_F_frame_signed], []⟩) ⟨fun T d h => tysB_ok tys tys_ok T d h, by simp [ok_F_frame_size, ok_F_crc_Sum, ok_F_frame_signed], by simp []⟩ (by kernel_rfl) Try.func41 rfl (by kernel_rfl) run_F_frame_Get
/-- (*odograph/admit.judge).junk -/
noncomputable def F_admit_judge_junk (x_1 : Int) (x_2 : Int) (x_3 : Int) (x_4 : Int) (x_5 : Int) (x_6 : Int) (x_7 : Int) (x_8 : Int) (x_9 : Int) (x_10 : Int) (x_11 : Int) (x_12 : Int) (x_13 : Int) (x_14 : Int) (x_15 : (List Yd1)) (x_16 : (List Yd4)) (x_17 : (List Int)) (x_18 : Int) (x_19 : Int) (x_20 : Int) (x_21 : Int) (x_22 : Int) (x_23 : Int) (x_24 : (List Yd10)) (x_25 : (List Yd3)) (x_26 : (List Int)) (x_27 : (List Int)) (x_28 : (List Int)) : Option Yd112 :=
  Option.bind (α := Bool ⊕ Unit) (
    loopO (X := Bool ⊕ Unit) (fun (s_29 : Int) =>
      let t16_30 : Bool := (decide (s_29 < (x_24.length : Int)))
      (bif t16_30 then
        chk none ((decide ((0 : Int) ≤ s_29)) && (decide (s_29 < (x_24.length : Int)))) <|
        let t19_31 : Yd10 := (x_24.getD s_29.toNat ((0 : Int), (((0 : Int), (0 : Int)), ((0 : Int), ((0 : Int), ((false, (false, (false, false))), ([], false)))))))
        let t22_32 : Int := (t19_31.2.2.2.2.2.1.length : Int)
        let t23_33 : Bool := (decide ((27 : Int) < t22_32))
        (bif t23_33 then
          some (.inr (.inl false))
        else
          let t26_34 : Int := (t19_31.2.2.2.2.2.1.length : Int)
          Option.bind (α := Bool ⊕ Unit) (
            loopO (X := Bool ⊕ Unit) (fun (s_35 : Int) =>
              (bif (decide (s_35 < t26_34)) then
                chk none ((decide ((0 : Int) ≤ s_35)) && (decide (s_35 < (t19_31.2.2.2.2.2.1.length : Int)))) <|
                let t30_36 : (List Int) := (t19_31.2.2.2.2.2.1.getD s_35.toNat [])
                (F_frame_Get t30_36).bind fun t33_37 =>
                let t42_38 : Int := (bits .i64 .and s_29 (255 : Int))
                let t44_39 : Bool := (bif (t33_37.2 == (0 : Int)) then (t33_37.1.2.1 == t42_38) else false)
                (bif t44_39 then
                  some (.inr (.inl false))
                else
                  let t45_40 : Int := (IntKind.wrap .i64 (s_35 + (1 : Int)))
                  some (.inl t45_40))
              else
                some (.inr (.inr ())))) (0 : Int)) fun z => match z with
          | .inl r_41 =>
            some (.inr (.inl r_41))
          | .inr _ =>
            let t46_42 : Int := (IntKind.wrap .i64 (s_29 + (1 : Int)))
            some (.inl t46_42))
      else
        some (.inr (.inr ())))) (0 : Int)) fun z => match z with
  | .inl r_43 =>
    some (r_43, x_1, x_2, x_3, x_4, x_5, x_6, x_7, x_8, x_9, x_10, x_11, x_12, x_13, x_14, x_15, x_16, x_17, x_18, x_19, x_20, x_21, x_22, x_23, x_24, x_25, x_26, x_27, x_28)
  | .inr _ =>
    some (true, x_1, x_2, x_3, x_4, x_5, x_6, x_7, x_8, x_9, x_10, x_11, x_12, x_13, x_14, x_15, x_16, x_17, x_18, x_19, x_20, x_21, x_22, x_23, x_24, x_25, x_26, x_27, x_28)
noncomputable def con_F_admit_judge_junk : Con := { f := 25, ps := [.ref 0 0], boxes := [[.dat (.int .i64), .dat (.int .i64), .dat (.int .i64), .dat (.int .i64), .dat (.int .i64), .dat (.int .i64), .dat (.int .i64), .dat (.int .i64), .dat (.int .i64), .dat (.int .i64), .dat (.int .i64), .dat (.int .i64), .dat (.int .i64), .dat (.int .i64), .dat (.slice (.agg Yt1)), .dat (.slice (.agg Yt4)), .dat (.slice (.int .i64)), .dat (.int .i64), .dat (.int .i64), .dat (.int .i64), .dat (.int .i64), .dat (.int .i64), .dat (.int .i64), .dat (.slice (.agg Yt10)), .dat (.slice (.agg Yt3)), .dat (.slice (.int .i64)), .dat (.slice (.int .i64)), .dat (.slice (.int .i64))]], ins := Yt111, nin := 28, outs := Yt112, rs := [.dat .bool], nout := 29, F := fun x => F_admit_judge_junk x.1 x.2.1 x.2.2.1 x.2.2.2.1 x.2.2.2.2.1 x.2.2.2.2.2.1 x.2.2.2.2.2.2.1 x.2.2.2.2.2.2.2.1 x.2.2.2.2.2.2.2.2.1 x.2.2.2.2.2.2.2.2.2.1 x.2.2.2.2.2.2.2.2.2.2.1 x.2.2.2.2.2.2.2.2.2.2.2.1 x.2.2.2.2.2.2.2.2.2.2.2.2.1 x.2.2.2.2.2.2.2.2.2.2.2.2.2.1 x.2.2.2.2.2.2.2.2.2.2.2.2.2.2.1 x.2.2.2.2.2.2.2.2.2.2.2.2.2.2.2.1 x.2.2.2.2.2.2.2.2.2.2.2.2.2.2.2.2.1 x.2.2.2.2.2.2.2.2.2.2.2.2.2.2.2.2.2.1 x.2.2.2.2.2.2.2.2.2.2.2.2.2.2.2.2.2.2.1 x.2.2.2.2.2.2.2.2.2.2.2.2.2.2.2.2.2.2.2.1 x.2.2.2.2.2.2.2.2.2.2.2.2.2.2.2.2.2.2.2.2.1 x.2.2.2.2.2.2.2.2.2.2.2.2.2.2.2.2.2.2.2.2.2.1 x.2.2.2.2.2.2.2.2.2.2.2.2.2.2.2.2.2.2.2.2.2.2.1 x.2.2.2.2.2.2.2.2.2.2.2.2.2.2.2.2.2.2.2.2.2.2.2.1 x.2.2.2.2.2.2.2.2.2.2.2.2.2.2.2.2.2.2.2.2.2.2.2.2.1 x.2.2.2.2.2.2.2.2.2.2.2.2.2.2.2.2.2.2.2.2.2.2.2.2.2.1 x.2.2.2.2.2.2.2.2.2.2.2.2.2.2.2.2.2.2.2.2.2.2.2.2.2.2.1 x.2.2.2.2.2.2.2.2.2.2.2.2.2.2.2.2.2.2.2.2.2.2.2.2.2.2.2 }
def hint_F_admit_judge_junk : Hint := (.mk .plain [H0, (.mk .plain [(.mk .plain [H0, (.mk .plain [(.mk (.loop [⟨.slot 15, (.int .i64), none⟩] [(0, 4), (0, 16), (0, 19), (0, 22), (0, 2), (0, 17), (0, 23), (0, 20), (0, 3), (0, 21), (0, 18), (0, 30), (0, 36), (0, 42), (0, 39), (0, 45), (0, 8), (0, 26), (0, 29), (0, 35), (0, 32), (0, 38), (0, 41), (0, 44), (0, 7), (0, 28), (0, 25), (0, 31), (0, 34), (0, 40), (0, 37), (0, 43), (0, 6), (0, 24), (0, 27), (0, 33), (0, 46)] [(.ret, [⟨.slot 2, .bool, none⟩]), (.exit 0, [])]) [(.mk .plain [H0, (.mk .plain [H0, (.mk .plain [(.mk .plain [(.mk .plain [H0, (.mk .plain [H0, (.mk .plain [H0, (.mk .plain [(.mk (.loop [⟨.slot 27, (.int .i64), none⟩] [(0, 30), (0, 36), (0, 42), (0, 7), (0, 39), (0, 28), (0, 2), (0, 31), (0, 34), (0, 40), (0, 8), (0, 37), (0, 43), (0, 29), (0, 35), (0, 32), (0, 38), (0, 6), (0, 41), (0, 44), (0, 33), (0, 45)] [(.ret, [⟨.slot 2, .bool, none⟩]), (.exit 2, [])]) [])])])])])])])])])])])])])])
theorem run_F_admit_judge_junk : runE ⟨tdGet tys, [con_F_frame_Get], []⟩ con_F_admit_judge_junk Try.f25 hint_F_admit_judge_junk = con_F_admit_judge_junk.F := by
  funext x
  kernel_rfl
theorem ok_F_admit_judge_junk : ConOK Try.prog con_F_admit_judge_junk :=
  con_of_run (Γ := ⟨tdGet tys, [con_F_frame_Get], []⟩) ⟨fun T d h => tysB_ok tys tys_ok T d h, by simp [ok_F_frame_Get], by simp []⟩ (by kernel_rfl) Try.func25 rfl (by kernel_rfl) run_F_admit_judge_junk
/-- odograph/admit.Check -/
noncomputable def F_admit_Check (c_1 : Yd73) (t_2 : Yd80) (s_3 : Yd119) : Option Int :=
  (F_conf_Config_Fits c_1 t_2).bind fun t17_4 =>
  (bif (t17_4.1 != (0 : Int)) then
    some (1 : Int)
  else
    (F_admit_judge_route c_1.1 c_1.2.1 c_1.2.2.1 c_1.2.2.2.1 c_1.2.2.2.2.1 c_1.2.2.2.2.2.1 c_1.2.2.2.2.2.2.1 c_1.2.2.2.2.2.2.2.1 c_1.2.2.2.2.2.2.2.2.1 c_1.2.2.2.2.2.2.2.2.2.1 c_1.2.2.2.2.2.2.2.2.2.2.1 c_1.2.2.2.2.2.2.2.2.2.2.2.1 c_1.2.2.2.2.2.2.2.2.2.2.2.2.1 c_1.2.2.2.2.2.2.2.2.2.2.2.2.2 t_2.1 t_2.2 s_3.1 s_3.2.1 s_3.2.2.1 s_3.2.2.2.1.1 s_3.2.2.2.1.2 s_3.2.2.2.2.1.1 s_3.2.2.2.2.1.2 s_3.2.2.2.2.2.1 s_3.2.2.2.2.2.2 [] [] []).bind fun t45_5 =>
    (bif (!t45_5.1) then
      some (2 : Int)
    else
      (F_admit_judge_on t45_5.2.1 t45_5.2.2.1 t45_5.2.2.2.1 t45_5.2.2.2.2.1 t45_5.2.2.2.2.2.1 t45_5.2.2.2.2.2.2.1 t45_5.2.2.2.2.2.2.2.1 t45_5.2.2.2.2.2.2.2.2.1 t45_5.2.2.2.2.2.2.2.2.2.1 t45_5.2.2.2.2.2.2.2.2.2.2.1 t45_5.2.2.2.2.2.2.2.2.2.2.2.1 t45_5.2.2.2.2.2.2.2.2.2.2.2.2.1 t45_5.2.2.2.2.2.2.2.2.2.2.2.2.2.1 t45_5.2.2.2.2.2.2.2.2.2.2.2.2.2.2.1 t45_5.2.2.2.2.2.2.2.2.2.2.2.2.2.2.2.1 t45_5.2.2.2.2.2.2.2.2.2.2.2.2.2.2.2.2.1 t45_5.2.2.2.2.2.2.2.2.2.2.2.2.2.2.2.2.2.1 t45_5.2.2.2.2.2.2.2.2.2.2.2.2.2.2.2.2.2.2.1 t45_5.2.2.2.2.2.2.2.2.2.2.2.2.2.2.2.2.2.2.2.1 t45_5.2.2.2.2.2.2.2.2.2.2.2.2.2.2.2.2.2.2.2.2.1 t45_5.2.2.2.2.2.2.2.2.2.2.2.2.2.2.2.2.2.2.2.2.2.1 t45_5.2.2.2.2.2.2.2.2.2.2.2.2.2.2.2.2.2.2.2.2.2.2.1 t45_5.2.2.2.2.2.2.2.2.2.2.2.2.2.2.2.2.2.2.2.2.2.2.2.1 t45_5.2.2.2.2.2.2.2.2.2.2.2.2.2.2.2.2.2.2.2.2.2.2.2.2.1 t45_5.2.2.2.2.2.2.2.2.2.2.2.2.2.2.2.2.2.2.2.2.2.2.2.2.2.1 t45_5.2.2.2.2.2.2.2.2.2.2.2.2.2.2.2.2.2.2.2.2.2.2.2.2.2.2.1 t45_5.2.2.2.2.2.2.2.2.2.2.2.2.2.2.2.2.2.2.2.2.2.2.2.2.2.2.2.1 t45_5.2.2.2.2.2.2.2.2.2.2.2.2.2.2.2.2.2.2.2.2.2.2.2.2.2.2.2.2).bind fun t45_6 =>
      (bif (!t45_6.1) then
        some (3 : Int)
      else
        (F_admit_judge_speeds t45_6.2.1 t45_6.2.2.1 t45_6.2.2.2.1 t45_6.2.2.2.2.1 t45_6.2.2.2.2.2.1 t45_6.2.2.2.2.2.2.1 t45_6.2.2.2.2.2.2.2.1 t45_6.2.2.2.2.2.2.2.2.1 t45_6.2.2.2.2.2.2.2.2.2.1 t45_6.2.2.2.2.2.2.2.2.2.2.1 t45_6.2.2.2.2.2.2.2.2.2.2.2.1 t45_6.2.2.2.2.2.2.2.2.2.2.2.2.1 t45_6.2.2.2.2.2.2.2.2.2.2.2.2.2.1 t45_6.2.2.2.2.2.2.2.2.2.2.2.2.2.2.1 t45_6.2.2.2.2.2.2.2.2.2.2.2.2.2.2.2.1 t45_6.2.2.2.2.2.2.2.2.2.2.2.2.2.2.2.2.1 t45_6.2.2.2.2.2.2.2.2.2.2.2.2.2.2.2.2.2.1 t45_6.2.2.2.2.2.2.2.2.2.2.2.2.2.2.2.2.2.2.1 t45_6.2.2.2.2.2.2.2.2.2.2.2.2.2.2.2.2.2.2.2.1 t45_6.2.2.2.2.2.2.2.2.2.2.2.2.2.2.2.2.2.2.2.2.1 t45_6.2.2.2.2.2.2.2.2.2.2.2.2.2.2.2.2.2.2.2.2.2.1 t45_6.2.2.2.2.2.2.2.2.2.2.2.2.2.2.2.2.2.2.2.2.2.2.1 t45_6.2.2.2.2.2.2.2.2.2.2.2.2.2.2.2.2.2.2.2.2.2.2.2.1 t45_6.2.2.2.2.2.2.2.2.2.2.2.2.2.2.2.2.2.2.2.2.2.2.2.2.1 t45_6.2.2.2.2.2.2.2.2.2.2.2.2.2.2.2.2.2.2.2.2.2.2.2.2.2.1 t45_6.2.2.2.2.2.2.2.2.2.2.2.2.2.2.2.2.2.2.2.2.2.2.2.2.2.2.1 t45_6.2.2.2.2.2.2.2.2.2.2.2.2.2.2.2.2.2.2.2.2.2.2.2.2.2.2.2.1 t45_6.2.2.2.2.2.2.2.2.2.2.2.2.2.2.2.2.2.2.2.2.2.2.2.2.2.2.2.2).bind fun t45_7 =>
        (bif (!t45_7.1) then
          some (4 : Int)
        else
          (F_admit_judge_wheels t45_7.2.1 t45_7.2.2.1 t45_7.2.2.2.1 t45_7.2.2.2.2.1 t45_7.2.2.2.2.2.1 t45_7.2.2.2.2.2.2.1 t45_7.2.2.2.2.2.2.2.1 t45_7.2.2.2.2.2.2.2.2.1 t45_7.2.2.2.2.2.2.2.2.2.1 t45_7.2.2.2.2.2.2.2.2.2.2.1 t45_7.2.2.2.2.2.2.2.2.2.2.2.1 t45_7.2.2.2.2.2.2.2.2.2.2.2.2.1 t45_7.2.2.2.2.2.2.2.2.2.2.2.2.2.1 t45_7.2.2.2.2.2.2.2.2.2.2.2.2.2.2.1 t45_7.2.2.2.2.2.2.2.2.2.2.2.2.2.2.2.1 t45_7.2.2.2.2.2.2.2.2.2.2.2.2.2.2.2.2.1 t45_7.2.2.2.2.2.2.2.2.2.2.2.2.2.2.2.2.2.1 t45_7.2.2.2.2.2.2.2.2.2.2.2.2.2.2.2.2.2.2.1 t45_7.2.2.2.2.2.2.2.2.2.2.2.2.2.2.2.2.2.2.2.1 t45_7.2.2.2.2.2.2.2.2.2.2.2.2.2.2.2.2.2.2.2.2.1 t45_7.2.2.2.2.2.2.2.2.2.2.2.2.2.2.2.2.2.2.2.2.2.1 t45_7.2.2.2.2.2.2.2.2.2.2.2.2.2.2.2.2.2.2.2.2.2.2.1 t45_7.2.2.2.2.2.2.2.2.2.2.2.2.2.2.2.2.2.2.2.2.2.2.2.1 t45_7.2.2.2.2.2.2.2.2.2.2.2.2.2.2.2.2.2.2.2.2.2.2.2.2.1 t45_7.2.2.2.2.2.2.2.2.2.2.2.2.2.2.2.2.2.2.2.2.2.2.2.2.2.1 t45_7.2.2.2.2.2.2.2.2.2.2.2.2.2.2.2.2.2.2.2.2.2.2.2.2.2.2.1 t45_7.2.2.2.2.2.2.2.2.2.2.2.2.2.2.2.2.2.2.2.2.2.2.2.2.2.2.2.1 t45_7.2.2.2.2.2.2.2.2.2.2.2.2.2.2.2.2.2.2.2.2.2.2.2.2.2.2.2.2).bind fun t45_8 =>
          (bif (!t45_8.1) then
            some (5 : Int)
          else
            (F_admit_judge_numbers t45_8.2.1 t45_8.2.2.1 t45_8.2.2.2.1 t45_8.2.2.2.2.1 t45_8.2.2.2.2.2.1 t45_8.2.2.2.2.2.2.1 t45_8.2.2.2.2.2.2.2.1 t45_8.2.2.2.2.2.2.2.2.1 t45_8.2.2.2.2.2.2.2.2.2.1 t45_8.2.2.2.2.2.2.2.2.2.2.1 t45_8.2.2.2.2.2.2.2.2.2.2.2.1 t45_8.2.2.2.2.2.2.2.2.2.2.2.2.1 t45_8.2.2.2.2.2.2.2.2.2.2.2.2.2.1 t45_8.2.2.2.2.2.2.2.2.2.2.2.2.2.2.1 t45_8.2.2.2.2.2.2.2.2.2.2.2.2.2.2.2.1 t45_8.2.2.2.2.2.2.2.2.2.2.2.2.2.2.2.2.1 t45_8.2.2.2.2.2.2.2.2.2.2.2.2.2.2.2.2.2.1 t45_8.2.2.2.2.2.2.2.2.2.2.2.2.2.2.2.2.2.2.1 t45_8.2.2.2.2.2.2.2.2.2.2.2.2.2.2.2.2.2.2.2.1 t45_8.2.2.2.2.2.2.2.2.2.2.2.2.2.2.2.2.2.2.2.2.1 t45_8.2.2.2.2.2.2.2.2.2.2.2.2.2.2.2.2.2.2.2.2.2.1 t45_8.2.2.2.2.2.2.2.2.2.2.2.2.2.2.2.2.2.2.2.2.2.2.1 t45_8.2.2.2.2.2.2.2.2.2.2.2.2.2.2.2.2.2.2.2.2.2.2.2.1 t45_8.2.2.2.2.2.2.2.2.2.2.2.2.2.2.2.2.2.2.2.2.2.2.2.2.1 t45_8.2.2.2.2.2.2.2.2.2.2.2.2.2.2.2.2.2.2.2.2.2.2.2.2.2.1 t45_8.2.2.2.2.2.2.2.2.2.2.2.2.2.2.2.2.2.2.2.2.2.2.2.2.2.2.1 t45_8.2.2.2.2.2.2.2.2.2.2.2.2.2.2.2.2.2.2.2.2.2.2.2.2.2.2.2.1 t45_8.2.2.2.2.2.2.2.2.2.2.2.2.2.2.2.2.2.2.2.2.2.2.2.2.2.2.2.2).bind fun t45_9 =>
            (bif (!t45_9.1) then
              some (6 : Int)
            else
              (F_world_Script_Places s_3).bind fun t53_10 =>
              (F_world_Script_Counts s_3 c_1 (0 : Int)).bind fun t56_11 =>
              (F_world_Script_Counts s_3 c_1 (1 : Int)).bind fun t59_12 =>
              let w_13 : ((List Int) × (List Int)) := (t56_11, t59_12)
              (F_admit_judge_all t45_9.2.1 t45_9.2.2.1 t45_9.2.2.2.1 t45_9.2.2.2.2.1 t45_9.2.2.2.2.2.1 t45_9.2.2.2.2.2.2.1 t45_9.2.2.2.2.2.2.2.1 t45_9.2.2.2.2.2.2.2.2.1 t45_9.2.2.2.2.2.2.2.2.2.1 t45_9.2.2.2.2.2.2.2.2.2.2.1 t45_9.2.2.2.2.2.2.2.2.2.2.2.1 t45_9.2.2.2.2.2.2.2.2.2.2.2.2.1 t45_9.2.2.2.2.2.2.2.2.2.2.2.2.2.1 t45_9.2.2.2.2.2.2.2.2.2.2.2.2.2.2.1 t45_9.2.2.2.2.2.2.2.2.2.2.2.2.2.2.2.1 t45_9.2.2.2.2.2.2.2.2.2.2.2.2.2.2.2.2.1 t45_9.2.2.2.2.2.2.2.2.2.2.2.2.2.2.2.2.2.1 t45_9.2.2.2.2.2.2.2.2.2.2.2.2.2.2.2.2.2.2.1 t45_9.2.2.2.2.2.2.2.2.2.2.2.2.2.2.2.2.2.2.2.1 t45_9.2.2.2.2.2.2.2.2.2.2.2.2.2.2.2.2.2.2.2.2.1 t45_9.2.2.2.2.2.2.2.2.2.2.2.2.2.2.2.2.2.2.2.2.2.1 t45_9.2.2.2.2.2.2.2.2.2.2.2.2.2.2.2.2.2.2.2.2.2.2.1 t45_9.2.2.2.2.2.2.2.2.2.2.2.2.2.2.2.2.2.2.2.2.2.2.2.1 t45_9.2.2.2.2.2.2.2.2.2.2.2.2.2.2.2.2.2.2.2.2.2.2.2.2.1 t45_9.2.2.2.2.2.2.2.2.2.2.2.2.2.2.2.2.2.2.2.2.2.2.2.2.2.1 t53_10 w_13.1 w_13.2).bind fun t79_14 =>
              (bif (!t79_14.1) then
                some (7 : Int)
              else
                (F_admit_judge_reads t79_14.2.1 t79_14.2.2.1 t79_14.2.2.2.1 t79_14.2.2.2.2.1 t79_14.2.2.2.2.2.1 t79_14.2.2.2.2.2.2.1 t79_14.2.2.2.2.2.2.2.1 t79_14.2.2.2.2.2.2.2.2.1 t79_14.2.2.2.2.2.2.2.2.2.1 t79_14.2.2.2.2.2.2.2.2.2.2.1 t79_14.2.2.2.2.2.2.2.2.2.2.2.1 t79_14.2.2.2.2.2.2.2.2.2.2.2.2.1 t79_14.2.2.2.2.2.2.2.2.2.2.2.2.2.1 t79_14.2.2.2.2.2.2.2.2.2.2.2.2.2.2.1 t79_14.2.2.2.2.2.2.2.2.2.2.2.2.2.2.2.1 t79_14.2.2.2.2.2.2.2.2.2.2.2.2.2.2.2.2.1 t79_14.2.2.2.2.2.2.2.2.2.2.2.2.2.2.2.2.2.1 t79_14.2.2.2.2.2.2.2.2.2.2.2.2.2.2.2.2.2.2.1 t79_14.2.2.2.2.2.2.2.2.2.2.2.2.2.2.2.2.2.2.2.1 t79_14.2.2.2.2.2.2.2.2.2.2.2.2.2.2.2.2.2.2.2.2.1 t79_14.2.2.2.2.2.2.2.2.2.2.2.2.2.2.2.2.2.2.2.2.2.1 t79_14.2.2.2.2.2.2.2.2.2.2.2.2.2.2.2.2.2.2.2.2.2.2.1 t79_14.2.2.2.2.2.2.2.2.2.2.2.2.2.2.2.2.2.2.2.2.2.2.2.1 t79_14.2.2.2.2.2.2.2.2.2.2.2.2.2.2.2.2.2.2.2.2.2.2.2.2.1 t79_14.2.2.2.2.2.2.2.2.2.2.2.2.2.2.2.2.2.2.2.2.2.2.2.2.2.1 t79_14.2.2.2.2.2.2.2.2.2.2.2.2.2.2.2.2.2.2.2.2.2.2.2.2.2.2.1 t79_14.2.2.2.2.2.2.2.2.2.2.2.2.2.2.2.2.2.2.2.2.2.2.2.2.2.2.2.1 t79_14.2.2.2.2.2.2.2.2.2.2.2.2.2.2.2.2.2.2.2.2.2.2.2.2.2.2.2.2).bind fun t79_15 =>
                (bif (!t79_15.1) then
                  some (8 : Int)
                else
                  (F_admit_judge_junk t79_15.2.1 t79_15.2.2.1 t79_15.2.2.2.1 t79_15.2.2.2.2.1 t79_15.2.2.2.2.2.1 t79_15.2.2.2.2.2.2.1 t79_15.2.2.2.2.2.2.2.1 t79_15.2.2.2.2.2.2.2.2.1 t79_15.2.2.2.2.2.2.2.2.2.1 t79_15.2.2.2.2.2.2.2.2.2.2.1 t79_15.2.2.2.2.2.2.2.2.2.2.2.1 t79_15.2.2.2.2.2.2.2.2.2.2.2.2.1 t79_15.2.2.2.2.2.2.2.2.2.2.2.2.2.1 t79_15.2.2.2.2.2.2.2.2.2.2.2.2.2.2.1 t79_15.2.2.2.2.2.2.2.2.2.2.2.2.2.2.2.1 t79_15.2.2.2.2.2.2.2.2.2.2.2.2.2.2.2.2.1 t79_15.2.2.2.2.2.2.2.2.2.2.2.2.2.2.2.2.2.1 t79_15.2.2.2.2.2.2.2.2.2.2.2.2.2.2.2.2.2.2.1 t79_15.2.2.2.2.2.2.2.2.2.2.2.2.2.2.2.2.2.2.2.1 t79_15.2.2.2.2.2.2.2.2.2.2.2.2.2.2.2.2.2.2.2.2.1 t79_15.2.2.2.2.2.2.2.2.2.2.2.2.2.2.2.2.2.2.2.2.2.1 t79_15.2.2.2.2.2.2.2.2.2.2.2.2.2.2.2.2.2.2.2.2.2.2.1 t79_15.2.2.2.2.2.2.2.2.2.2.2.2.2.2.2.2.2.2.2.2.2.2.2.1 t79_15.2.2.2.2.2.2.2.2.2.2.2.2.2.2.2.2.2.2.2.2.2.2.2.2.1 t79_15.2.2.2.2.2.2.2.2.2.2.2.2.2.2.2.2.2.2.2.2.2.2.2.2.2.1 t79_15.2.2.2.2.2.2.2.2.2.2.2.2.2.2.2.2.2.2.2.2.2.2.2.2.2.2.1 t79_15.2.2.2.2.2.2.2.2.2.2.2.2.2.2.2.2.2.2.2.2.2.2.2.2.2.2.2.1 t79_15.2.2.2.2.2.2.2.2.2.2.2.2.2.2.2.2.2.2.2.2.2.2.2.2.2.2.2.2).bind fun t79_16 =>
                  (bif (!t79_16.1) then
                    some (9 : Int)
                  else
                    some (0 : Int))))))))))
noncomputable def con_F_admit_Check : Con := { f := 10, ps := [.dat (.agg Yt73), .dat (.agg Yt80), .dat (.agg Yt119)], boxes := [], ins := Yt190, nin := 3, outs := (.int .i64), rs := [.dat (.int .i64)], nout := 1, F := fun x => F_admit_Check x.1 x.2.1 x.2.2 }
def hint_F_admit_Check : Hint := (.mk .plain [H0, (.mk .plain [H0, (.mk .plain [H0, (.mk .plain [(.mk .plain [H0, (.mk .plain [(.mk (.unroll 6) [])])]), (.mk .plain [H0, (.mk .plain [(.mk .plain [H0, (.mk .plain [(.mk (.unroll 4) [])])])])])])])])])
theorem run_F_admit_Check : runE ⟨tdGet tys, [con_F_conf_Config_Fits, con_F_admit_judge_route, con_F_admit_judge_on, con_F_admit_judge_speeds, con_F_admit_judge_wheels, con_F_admit_judge_numbers, con_F_world_Script_Places, con_F_world_Script_Counts, con_F_admit_judge_all, con_F_admit_judge_reads, con_F_admit_judge_junk], []⟩ con_F_admit_Check Try.f10 hint_F_admit_Check = con_F_admit_Check.F := by
  funext x
  kernel_rfl
theorem ok_F_admit_Check : ConOK Try.prog con_F_admit_Check :=
  con_of_run (Γ := ⟨tdGet tys, [con_F_conf_Config_Fits, con_F_admit_judge_route, con_F_admit_judge_on, con_F_admit_judge_speeds, con_F_admit_judge_wheels, con_F_admit_judge_numbers, con_F_world_Script_Places, con_F_world_Script_Counts, con_F_admit_judge_all, con_F_admit_judge_reads, con_F_admit_judge_junk], []⟩) ⟨fun T d h => tysB_ok tys tys_ok T d h, by simp [ok_F_conf_Config_Fits, ok_F_admit_judge_route, ok_F_admit_judge_on, ok_F_admit_judge_speeds, ok_F_admit_judge_wheels, ok_F_admit_judge_numbers, ok_F_world_Script_Places, ok_F_world_Script_Counts, ok_F_admit_judge_all, ok_F_admit_judge_reads, ok_F_admit_judge_junk], by simp []⟩ (by kernel_rfl) Try.func10 rfl (by kernel_rfl) run_F_admit_Check
/-- odograph/odographlaw28.anchor -/
noncomputable def F_law28_anchor (_ : Unit) : Option Bool :=
  let t4_1 : (List (Int × Int)) := ([((0 : Int), (0 : Int))] : List (Int × Int))
  let t6_2 : (List Yd1) := ([((9 : Int), (t4_1, []))] : List Yd1)
  let t9_3 : (Int × Int) := ((131072 : Int), (131072 : Int))
  (F_law28_usual ()).bind fun t11_4 =>
  let t13_5 : Yd119 := (([(0 : Int)] : List Int), ((0 : Int), ((0 : Int), (t9_3, (((0 : Int), (0 : Int)), ([], []))))))
  (F_admit_Check t11_4 (t6_2, []) t13_5).bind fun t14_6 =>
  let t17_7 : Yd73 := ((0 : Int), ((0 : Int), ((0 : Int), ((0 : Int), ((0 : Int), ((0 : Int), ((0 : Int), ((0 : Int), ((0 : Int), ((0 : Int), ((0 : Int), ((0 : Int), ((0 : Int), (0 : Int))))))))))))))
  let t19_8 : Yd119 := (([(0 : Int)] : List Int), ((0 : Int), ((0 : Int), (t9_3, (((0 : Int), (0 : Int)), ([], []))))))
  (bif (t14_6 == (0 : Int)) then F_admit_Check t17_7 (t6_2, []) t19_8 else some (0 : Int)).bind fun t20_9 =>
  let t22_10 : Bool := (bif (t14_6 == (0 : Int)) then (t20_9 == (1 : Int)) else false)
  (bif t22_10 then F_law28_usual () else some ((0 : Int), ((0 : Int), ((0 : Int), ((0 : Int), ((0 : Int), ((0 : Int), ((0 : Int), ((0 : Int), ((0 : Int), ((0 : Int), ((0 : Int), ((0 : Int), ((0 : Int), (0 : Int))))))))))))))).bind fun t24_11 =>
  (bif t22_10 then F_admit_Check t24_11 (t6_2, []) ([], ((0 : Int), ((0 : Int), (((0 : Int), (0 : Int)), (((0 : Int), (0 : Int)), ([], [])))))) else some (0 : Int)).bind fun t27_12 =>
  let t29_13 : Bool := (bif t22_10 then (t27_12 == (2 : Int)) else false)
  some t29_13
noncomputable def con_F_law28_anchor : Con := { f := 8, ps := [], boxes := [], ins := .unit, nin := 0, outs := .bool, rs := [.dat .bool], nout := 1, F := fun x => F_law28_anchor () }
def hint_F_law28_anchor : Hint := H0
theorem run_F_law28_anchor : runE ⟨tdGet tys, [con_F_law28_usual, con_F_admit_Check], []⟩ con_F_law28_anchor Try.f8 hint_F_law28_anchor = con_F_law28_anchor.F := by
  funext x
  kernel_rfl
theorem ok_F_law28_anchor : ConOK Try.prog con_F_law28_anchor :=
  con_of_run (Γ := ⟨tdGet tys, [con_F_law28_usual, con_F_admit_Check], []⟩) ⟨fun T d h => tysB_ok tys tys_ok T d h, by simp [ok_F_law28_usual, ok_F_admit_Check], by simp []⟩ (by kernel_rfl) Try.func8 rfl (by kernel_rfl) run_F_law28_anchor
/-- odograph/odographlaw28.great -/
noncomputable def F_law28_great (t_1 : Yd80) (s_2 : Yd119) : Option Bool :=
  let t14_3 : Bool := (decide ((50 : Int) < (t_1.1.length : Int)))
  let t19_4 : Bool := (decide ((100 : Int) < (t_1.2.length : Int)))
  let t20_5 : Bool := (bif t14_3 then true else t19_4)
  let t24_6 : Int := (s_2.2.2.2.2.2.1.length : Int)
  let t25_7 : Bool := (decide ((120 : Int) < t24_6))
  let t26_8 : Bool := (bif t20_5 then true else t25_7)
  let t30_9 : Int := (s_2.2.2.2.2.2.2.length : Int)
  let t31_10 : Bool := (decide ((120 : Int) < t30_9))
  let t32_11 : Bool := (bif t26_8 then true else t31_10)
  let t37_12 : Bool := (decide ((500 : Int) < (s_2.1.length : Int)))
  let t38_13 : Bool := (bif t32_11 then true else t37_12)
  (bif t38_13 then
    some true
  else
    Option.bind (α := Bool ⊕ Unit) (
      loopO (X := Bool ⊕ Unit) (fun (s_14 : Int) =>
        let t43_15 : Bool := (decide (s_14 < (t_1.1.length : Int)))
        (bif t43_15 then
          chk none ((decide ((0 : Int) ≤ s_14)) && (decide (s_14 < (t_1.1.length : Int)))) <|
          let t45_16 : Yd1 := (t_1.1.getD s_14.toNat ((0 : Int), ([], [])))
          let t48_17 : Int := (t45_16.2.1.length : Int)
          let t49_18 : Bool := (decide ((100 : Int) < t48_17))
          let t53_19 : Int := (t45_16.2.2.length : Int)
          let t54_20 : Bool := (decide ((3 : Int) < t53_19))
          let t55_21 : Bool := (bif t49_18 then true else t54_20)
          (bif t55_21 then
            some (.inr (.inl true))
          else
            let t56_22 : Int := (IntKind.wrap .i64 (s_14 + (1 : Int)))
            some (.inl t56_22))
        else
          some (.inr (.inr ())))) (0 : Int)) fun z => match z with
    | .inl r_23 =>
      some r_23
    | .inr _ =>
      let t59_24 : Int := (s_2.2.2.2.2.2.1.length : Int)
      Option.bind (α := Bool ⊕ Unit) (
        loopO (X := Bool ⊕ Unit) (fun (s_25 : Int) =>
          (bif (decide (s_25 < t59_24)) then
            chk none ((decide ((0 : Int) ≤ s_25)) && (decide (s_25 < (s_2.2.2.2.2.2.1.length : Int)))) <|
            let t63_26 : Yd10 := (s_2.2.2.2.2.2.1.getD s_25.toNat ((0 : Int), (((0 : Int), (0 : Int)), ((0 : Int), ((0 : Int), ((false, (false, (false, false))), ([], false)))))))
            let t66_27 : Int := (t63_26.2.2.2.2.2.1.length : Int)
            let t67_28 : Bool := (decide ((50 : Int) < t66_27))
            (bif t67_28 then
              some (.inr (.inl true))
            else
              let t70_29 : Int := (t63_26.2.2.2.2.2.1.length : Int)
              Option.bind (α := Bool ⊕ Unit) (
                loopO (X := Bool ⊕ Unit) (fun (s_30 : Int) =>
                  (bif (decide (s_30 < t70_29)) then
                    chk none ((decide ((0 : Int) ≤ s_30)) && (decide (s_30 < (t63_26.2.2.2.2.2.1.length : Int)))) <|
                    let t74_31 : (List Int) := (t63_26.2.2.2.2.2.1.getD s_30.toNat [])
                    let t77_32 : Bool := (decide ((200 : Int) < (t74_31.length : Int)))
                    (bif t77_32 then
                      some (.inr (.inl true))
                    else
                      let t78_33 : Int := (IntKind.wrap .i64 (s_30 + (1 : Int)))
                      some (.inl t78_33))
                  else
                    some (.inr (.inr ())))) (0 : Int)) fun z => match z with
              | .inl r_34 =>
                some (.inr (.inl r_34))
              | .inr _ =>
                let t79_35 : Int := (IntKind.wrap .i64 (s_25 + (1 : Int)))
                some (.inl t79_35))
          else
            some (.inr (.inr ())))) (0 : Int)) fun z => match z with
      | .inl r_36 =>
        some r_36
      | .inr _ =>
        some false)
noncomputable def con_F_law28_great : Con := { f := 9, ps := [.dat (.agg Yt80), .dat (.agg Yt119)], boxes := [], ins := Yt189, nin := 2, outs := .bool, rs := [.dat .bool], nout := 1, F := fun x => F_law28_great x.1 x.2 }
def hint_F_law28_great : Hint := (.mk .plain [H0, (.mk .plain [H0, (.mk .plain [(.mk .plain [H0, (.mk .plain [(.mk (.loop [⟨.slot 42, (.int .i64), none⟩] [(0, 4), (0, 45), (0, 48), (0, 54), (0, 51), (0, 43), (0, 46), (0, 52), (0, 49), (0, 55), (0, 6), (0, 47), (0, 44), (0, 50), (0, 53), (0, 56)] [(.ret, [⟨.slot 4, .bool, none⟩]), (.exit 0, [])]) [])])]), (.mk .plain [(.mk .plain [H0, (.mk .plain [(.mk (.loop [⟨.slot 60, (.int .i64), none⟩] [(0, 65), (0, 4), (0, 66), (0, 63), (0, 8), (0, 61), (0, 64), (0, 67), (0, 62), (0, 68), (0, 71), (0, 10), (0, 74), (0, 77), (0, 69), (0, 72), (0, 78), (0, 75), (0, 73), (0, 70), (0, 76), (0, 79)] [(.ret, [⟨.slot 4, .bool, none⟩]), (.exit 2, [])]) [(.mk .plain [H0, (.mk .plain [H0, (.mk .plain [(.mk .plain [(.mk .plain [H0, (.mk .plain [H0, (.mk .plain [H0, (.mk .plain [(.mk (.loop [⟨.slot 71, (.int .i64), none⟩] [(0, 75), (0, 76), (0, 4), (0, 10), (0, 74), (0, 77), (0, 72), (0, 73), (0, 78)] [(.ret, [⟨.slot 4, .bool, none⟩]), (.exit 4, [])]) [])])])])])])])])])])])])])])])])
theorem run_F_law28_great : runE ⟨tdGet tys, [], []⟩ con_F_law28_great Try.f9 hint_F_law28_great = con_F_law28_great.F := by
  funext x
  kernel_rfl
theorem ok_F_law28_great : ConOK Try.prog con_F_law28_great :=
  con_of_run (Γ := ⟨tdGet tys, [], []⟩) ⟨fun T d h => tysB_ok tys tys_ok T d h, by simp [], by simp []⟩ (by kernel_rfl) Try.func9 rfl (by kernel_rfl) run_F_law28_great
/-- odograph/odographlaw28.AdmitCut -/
noncomputable def F_law28_AdmitCut (c_1 : Yd73) (t_2 : Yd80) (s_3 : Yd119) (n_4 : Int) : Option Bool :=
  (F_law28_anchor ()).bind fun t12_5 =>
  (bif (!t12_5) then
    some false
  else
    (F_law28_great t_2 s_3).bind fun t16_6 =>
    let t19_7 : Bool := (decide (n_4 < (0 : Int)))
    let t20_8 : Bool := (bif t16_6 then true else t19_7)
    let t25_9 : Int := (s_3.2.2.2.2.2.1.length : Int)
    let t27_10 : Bool := (bif t20_8 then true else (decide (t25_9 < n_4)))
    (bif !t27_10 then F_admit_Check c_1 t_2 s_3 else some (0 : Int)).bind fun t32_11 =>
    let t34_12 : Bool := (bif t27_10 then true else (t32_11 != (0 : Int)))
    (bif t34_12 then
      some true
    else
      let t37_13 : Int := (s_3.2.2.2.2.2.2.length : Int)
      Option.bind (
        loopO (X := (List Yd3)) (fun (s_14 : Yd191) =>
          let reads_15 : (List Yd3) := s_14.1
          let t38_16 : Int := s_14.2
          let t39_17 : Bool := (decide (t38_16 < t37_13))
          (bif t39_17 then
            chk none ((decide ((0 : Int) ≤ t38_16)) && (decide (t38_16 < (s_3.2.2.2.2.2.2.length : Int)))) <|
            let t41_18 : Yd3 := (s_3.2.2.2.2.2.2.getD t38_16.toNat ((0 : Int), ((0 : Int), ((0 : Int), (0 : Int)))))
            let t45_19 : Bool := (decide (t41_18.1 < n_4))
            Option.bind (
              (bif t45_19 then
                chk none (decide ((reads_15.length + ([t41_18] : List Yd3).length) * 32 ≤ 140737488355328)) <|
                let t49_20 : (List Yd3) := (reads_15 ++ ([t41_18] : List Yd3))
                some t49_20
              else
                some reads_15)) fun r_21 =>
            let t50_22 : Int := (IntKind.wrap .i64 (t38_16 + (1 : Int)))
            some (.inl (r_21, t50_22))
          else
            some (.inr reads_15))) ([], (0 : Int))) fun r_23 =>
      chk none (true && (decide ((0 : Int) ≤ n_4)) && (decide (n_4 ≤ (s_3.2.2.2.2.2.1.length : Int)))) <|
      let t54_24 : (List Yd10) := ((s_3.2.2.2.2.2.1.take n_4.toNat).drop (0 : Int).toNat)
      let t60_25 : Yd119 := (s_3.1, (s_3.2.1, (s_3.2.2.1, (s_3.2.2.2.1, (s_3.2.2.2.2.1, (t54_24, r_23))))))
      (F_admit_Check c_1 t_2 t60_25).bind fun t61_26 =>
      some (t61_26 == (0 : Int))))
noncomputable def con_F_law28_AdmitCut : Con := { f := 4, ps := [.dat (.agg Yt73), .dat (.agg Yt80), .dat (.agg Yt119), .dat (.int .i64)], boxes := [], ins := Yt194, nin := 4, outs := .bool, rs := [.dat .bool], nout := 1, F := fun x => F_law28_AdmitCut x.1 x.2.1 x.2.2.1 x.2.2.2 }
def hint_F_law28_AdmitCut : Hint := (.mk .plain [H0, (.mk .plain [H0, (.mk .plain [H0, (.mk .plain [H0, (.mk .plain [(.mk .plain [H0, (.mk .plain [(.mk (.loop [⟨.slot 9, (.slice (.agg Yt3)), some 4900043⟩, ⟨.slot 38, (.int .i64), none⟩] [(0, 42), (0, 39), (0, 45), (0, 48), (0, 40), (0, 43), (0, 11), (0, 46), (0, 49), (0, 41), (0, 47), (0, 44), (0, 50)] [(.exit 0, [⟨.slot 9, (.slice (.agg Yt3)), some 4900043⟩])]) [(.mk .plain [H0, (.mk .plain [H0, (.mk .plain [(.mk .plain [(.mk .plain [H0, (.mk .plain [H0, (.mk (.join [(0, 46), (0, 47), (0, 49), (0, 48)] [(.normal, [⟨.slot 9, (.slice (.agg Yt3)), some 4900043⟩])]) [])])])])])])])])])])])])])])])
theorem run_F_law28_AdmitCut : runE ⟨tdGet tys, [con_F_law28_anchor, con_F_law28_great, con_F_admit_Check], []⟩ con_F_law28_AdmitCut Try.f4 hint_F_law28_AdmitCut = con_F_law28_AdmitCut.F := by
  funext x
  kernel_rfl
theorem ok_F_law28_AdmitCut : ConOK Try.prog con_F_law28_AdmitCut :=
  con_of_run (Γ := ⟨tdGet tys, [con_F_law28_anchor, con_F_law28_great, con_F_admit_Check], []⟩) ⟨fun T d h => tysB_ok tys tys_ok T d h, by simp [ok_F_law28_anchor, ok_F_law28_great, ok_F_admit_Check], by simp []⟩ (by kernel_rfl) Try.func4 rfl (by kernel_rfl) run_F_law28_AdmitCut
/-- odograph/odographlaw28.AdmitFaultless -/
noncomputable def F_law28_AdmitFaultless (c_1 : Yd73) (t_2 : Yd80) (s_3 : Yd119) : Option Bool :=
  (F_law28_anchor ()).bind fun t10_4 =>
  (bif (!t10_4) then
    some false
  else
    (F_law28_great t_2 s_3).bind fun t14_5 =>
    (bif !t14_5 then F_admit_Check c_1 t_2 s_3 else some (0 : Int)).bind fun t19_6 =>
    let t21_7 : Bool := (bif t14_5 then true else (t19_6 != (0 : Int)))
    (bif t21_7 then
      some true
    else
      let t24_8 : Int := (s_3.2.2.2.2.2.1.length : Int)
      Option.bind (
        loopO (X := (List Yd10)) (fun (s_9 : Yd195) =>
          let calm_10 : (List Yd10) := s_9.1
          let t25_11 : Int := s_9.2
          let t26_12 : Bool := (decide (t25_11 < t24_8))
          (bif t26_12 then
            chk none ((decide ((0 : Int) ≤ t25_11)) && (decide (t25_11 < (s_3.2.2.2.2.2.1.length : Int)))) <|
            let t28_13 : Yd10 := (s_3.2.2.2.2.2.1.getD t25_11.toNat ((0 : Int), (((0 : Int), (0 : Int)), ((0 : Int), ((0 : Int), ((false, (false, (false, false))), ([], false)))))))
            let t35_14 : (List Yd10) := ([(t28_13.1, (((0 : Int), (0 : Int)), ((0 : Int), ((0 : Int), ((false, (false, (false, false))), ([], t28_13.2.2.2.2.2.2))))))] : List Yd10)
            chk none (decide ((calm_10.length + t35_14.length) * 80 ≤ 140737488355328)) <|
            let t36_15 : (List Yd10) := (calm_10 ++ t35_14)
            let t37_16 : Int := (IntKind.wrap .i64 (t25_11 + (1 : Int)))
            some (.inl (t36_15, t37_16))
          else
            some (.inr calm_10))) ([], (0 : Int))) fun r_17 =>
      let t43_18 : Yd119 := (s_3.1, (s_3.2.1, (s_3.2.2.1, (s_3.2.2.2.1, (s_3.2.2.2.2.1, (r_17, []))))))
      (F_admit_Check c_1 t_2 t43_18).bind fun t44_19 =>
      some (t44_19 == (0 : Int))))
noncomputable def con_F_law28_AdmitFaultless : Con := { f := 5, ps := [.dat (.agg Yt73), .dat (.agg Yt80), .dat (.agg Yt119)], boxes := [], ins := Yt190, nin := 3, outs := .bool, rs := [.dat .bool], nout := 1, F := fun x => F_law28_AdmitFaultless x.1 x.2.1 x.2.2 }
def hint_F_law28_AdmitFaultless : Hint := (.mk .plain [H0, (.mk .plain [H0, (.mk .plain [H0, (.mk .plain [H0, (.mk .plain [(.mk .plain [H0, (.mk .plain [(.mk (.loop [⟨.slot 7, (.slice (.agg Yt10)), some 3600041⟩, ⟨.slot 25, (.int .i64), none⟩] [(0, 30), (0, 36), (0, 28), (0, 31), (0, 34), (0, 37), (0, 26), (0, 29), (0, 35), (0, 32), (0, 9), (0, 27), (0, 33)] [(.exit 0, [⟨.slot 7, (.slice (.agg Yt10)), some 3600041⟩])]) [])])])])])])])])
theorem run_F_law28_AdmitFaultless : runE ⟨tdGet tys, [con_F_law28_anchor, con_F_law28_great, con_F_admit_Check], []⟩ con_F_law28_AdmitFaultless Try.f5 hint_F_law28_AdmitFaultless = con_F_law28_AdmitFaultless.F := by
  funext x
  kernel_rfl
theorem ok_F_law28_AdmitFaultless : ConOK Try.prog con_F_law28_AdmitFaultless :=
  con_of_run (Γ := ⟨tdGet tys, [con_F_law28_anchor, con_F_law28_great, con_F_admit_Check], []⟩) ⟨fun T d h => tysB_ok tys tys_ok T d h, by simp [ok_F_law28_anchor, ok_F_law28_great, ok_F_admit_Check], by simp []⟩ (by kernel_rfl) Try.func5 rfl (by kernel_rfl) run_F_law28_AdmitFaultless
end Go.Proofs.Ytgogjcbfnnhaoaa
