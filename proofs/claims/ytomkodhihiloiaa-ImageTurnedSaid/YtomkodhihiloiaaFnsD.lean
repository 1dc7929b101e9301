/- The functional reading of the code (printed). -/
import Derived.Test.YtomkodhihiloiaaTysD
set_option linter.unusedSimpArgs false
set_option linter.unusedVariables false
namespace Go.Proofs.Ytomkodhihiloiaa
open Go
/-- odograph/grade.Check -/
noncomputable def F_grade_Check (l_1 : (List (Int × Int))) (length_2 : Int) : Option Int :=
  let t9_3 : Bool := ((l_1.length : Int) == (0 : Int))
  let t13_4 : Bool := (decide ((64 : Int) < (l_1.length : Int)))
  let t14_5 : Bool := (bif t9_3 then true else t13_4)
  chk none ((true && (decide ((0 : Int) < (l_1.length : Int)))) || !(!t14_5)) <|
  let e_6 : (Int × Int) := (l_1.getD (0 : Int).toNat ((0 : Int), (0 : Int)))
  let t21_7 : Bool := (bif t14_5 then true else (e_6.1 != (0 : Int)))
  (bif t21_7 then
    some (11 : Int)
  else
    Option.bind (α := Int ⊕ Unit) (
      loopO (X := Int ⊕ Unit) (fun (s_8 : Int) =>
        let t25_9 : Bool := (decide (s_8 < (l_1.length : Int)))
        (bif t25_9 then
          chk none ((decide ((0 : Int) ≤ s_8)) && (decide (s_8 < (l_1.length : Int)))) <|
          let t28_10 : (Int × Int) := (l_1.getD s_8.toNat ((0 : Int), (0 : Int)))
          let t31_11 : Bool := (decide (t28_10.2 < (-1048576 : Int)))
          let t35_12 : Bool := (decide ((1048576 : Int) < t28_10.2))
          let t36_13 : Bool := (bif t31_11 then true else t35_12)
          let t41_14 : Bool := (decide (length_2 ≤ t28_10.1))
          let t42_15 : Bool := (bif t36_13 then true else t41_14)
          let t45_16 : Bool := (decide ((0 : Int) < s_8))
          let t51_17 : Int := (IntKind.wrap .i64 (s_8 - (1 : Int)))
          chk none (((decide ((0 : Int) ≤ t51_17)) && (decide (t51_17 < (l_1.length : Int)))) || !(t45_16 && !t42_15)) <|
          let e_18 : (Int × Int) := (l_1.getD t51_17.toNat ((0 : Int), (0 : Int)))
          let t55_19 : Bool := (decide (t28_10.1 ≤ e_18.1))
          let t56_20 : Bool := (bif t45_16 then t55_19 else false)
          let t57_21 : Bool := (bif t42_15 then true else t56_20)
          (bif t57_21 then
            some (.inr (.inl (11 : Int)))
          else
            let t58_22 : Int := (IntKind.wrap .i64 (s_8 + (1 : Int)))
            some (.inl t58_22))
        else
          some (.inr (.inr ())))) (0 : Int)) fun z => match z with
    | .inl r_23 =>
      some r_23
    | .inr _ =>
      some (0 : Int))
noncomputable def con_F_grade_Check : Con := { f := 26, ps := [.dat (.slice (.agg (.pair (.int .i64) (.int .i64)))), .dat (.int .i64)], boxes := [], ins := (.pair (.slice (.agg (.pair (.int .i64) (.int .i64)))) (.int .i64)), nin := 2, outs := (.int .i64), rs := [.dat (.int .i64)], nout := 1, F := fun x => F_grade_Check x.1 x.2 }
def hint_F_grade_Check : Hint := (.mk .plain [H0, (.mk .plain [H0, (.mk .plain [(.mk .plain [H0, (.mk .plain [(.mk (.loop [⟨.slot 24, (.int .i64), none⟩] [(0, 30), (0, 36), (0, 42), (0, 39), (0, 45), (0, 48), (0, 54), (0, 51), (0, 57), (0, 5), (0, 26), (0, 29), (0, 35), (0, 32), (0, 38), (0, 41), (0, 47), (0, 44), (0, 50), (0, 53), (0, 56), (0, 4), (0, 28), (0, 25), (0, 31), (0, 34), (0, 40), (0, 37), (0, 43), (0, 46), (0, 52), (0, 49), (0, 55), (0, 6), (0, 27), (0, 33), (0, 58)] [(.ret, [⟨.slot 4, (.int .i64), none⟩]), (.exit 0, [])]) [])])])])])])
theorem run_F_grade_Check : runE ⟨tdGet tys, [], [], [], []⟩ con_F_grade_Check Try.f26 hint_F_grade_Check = con_F_grade_Check.F := by
  funext x
  kernel_rfl
theorem ok_F_grade_Check : ConOK Try.prog con_F_grade_Check :=
  con_of_run (Γ := ⟨tdGet tys, [], [], [], []⟩) ⟨fun T d h => tysB_ok tys tys_ok T d h, by simp [], by simp [], by simp [], ptrs_ok Try.prog [] (by kernel_rfl)⟩ (by kernel_rfl) Try.func26 rfl (by kernel_rfl) run_F_grade_Check
/-- (odograph/track.Track).segment -/
noncomputable def F_track_Track_segment (t_1 : ((List (Int × ((List (Int × Int)) × (List Int)))) × (List (Int × (Int × (Int × (Int × Int))))))) (s_2 : (Int × ((List (Int × Int)) × (List Int)))) : Option Bool :=
  let t9_3 : Bool := (decide (s_2.1 < (1 : Int)))
  let t13_4 : Bool := (decide ((1099511627776 : Int) < s_2.1))
  let t14_5 : Bool := (bif t9_3 then true else t13_4)
  (bif !t14_5 then F_grade_Check s_2.2.1 s_2.1 else some (0 : Int)).bind fun t20_6 =>
  let t22_7 : Bool := (bif t14_5 then true else (t20_6 != (0 : Int)))
  let t27_8 : Bool := (decide ((2 : Int) < (s_2.2.2.length : Int)))
  let t28_9 : Bool := (bif t22_7 then true else t27_8)
  (bif t28_9 then
    some false
  else
    Option.bind (α := Bool ⊕ Unit) (
      loopO (X := Bool ⊕ Unit) (fun (s_10 : Int) =>
        let t33_11 : Bool := (decide (s_10 < (s_2.2.2.length : Int)))
        (bif t33_11 then
          chk none ((decide ((0 : Int) ≤ s_10)) && (decide (s_10 < (s_2.2.2.length : Int)))) <|
          let t36_12 : Int := (s_2.2.2.getD s_10.toNat (0 : Int))
          let t38_13 : Bool := (decide (t36_12 < (0 : Int)))
          let t44_14 : Bool := (decide ((t_1.1.length : Int) ≤ t36_12))
          let t45_15 : Bool := (bif t38_13 then true else t44_14)
          let t48_16 : Bool := (decide ((0 : Int) < s_10))
          let t54_17 : Int := (IntKind.wrap .i64 (s_10 - (1 : Int)))
          chk none (((decide ((0 : Int) ≤ t54_17)) && (decide (t54_17 < (s_2.2.2.length : Int)))) || !(t48_16 && !t45_15)) <|
          let t56_18 : Int := (s_2.2.2.getD t54_17.toNat (0 : Int))
          let t57_19 : Bool := (decide (t36_12 ≤ t56_18))
          let t58_20 : Bool := (bif t48_16 then t57_19 else false)
          let t59_21 : Bool := (bif t45_15 then true else t58_20)
          (bif t59_21 then
            some (.inr (.inl false))
          else
            let t60_22 : Int := (IntKind.wrap .i64 (s_10 + (1 : Int)))
            some (.inl t60_22))
        else
          some (.inr (.inr ())))) (0 : Int)) fun z => match z with
    | .inl r_23 =>
      some r_23
    | .inr _ =>
      some true)
noncomputable def con_F_track_Track_segment : Con := { f := 18, ps := [.dat (.agg (.pair (.slice (.agg (.pair (.int .i64) (.pair (.slice (.agg (.pair (.int .i64) (.int .i64)))) (.slice (.int .i64)))))) (.slice (.agg (.pair (.int .i64) (.pair (.int .i64) (.pair (.int .i64) (.pair (.int .i64) (.int .i64))))))))), .dat (.agg (.pair (.int .i64) (.pair (.slice (.agg (.pair (.int .i64) (.int .i64)))) (.slice (.int .i64)))))], boxes := [], ins := (.pair (.agg (.pair (.slice (.agg (.pair (.int .i64) (.pair (.slice (.agg (.pair (.int .i64) (.int .i64)))) (.slice (.int .i64)))))) (.slice (.agg (.pair (.int .i64) (.pair (.int .i64) (.pair (.int .i64) (.pair (.int .i64) (.int .i64))))))))) (.agg (.pair (.int .i64) (.pair (.slice (.agg (.pair (.int .i64) (.int .i64)))) (.slice (.int .i64)))))), nin := 2, outs := .bool, rs := [.dat .bool], nout := 1, F := fun x => F_track_Track_segment x.1 x.2 }
def hint_F_track_Track_segment : Hint := (.mk .plain [H0, (.mk .plain [H0, (.mk .plain [(.mk .plain [H0, (.mk .plain [(.mk (.loop [⟨.slot 32, (.int .i64), none⟩] [(0, 36), (0, 42), (0, 4), (0, 39), (0, 45), (0, 48), (0, 54), (0, 51), (0, 57), (0, 5), (0, 34), (0, 40), (0, 37), (0, 43), (0, 46), (0, 52), (0, 49), (0, 55), (0, 35), (0, 58), (0, 38), (0, 6), (0, 41), (0, 47), (0, 33), (0, 44), (0, 50), (0, 53), (0, 59), (0, 56), (0, 60)] [(.ret, [⟨.slot 4, .bool, none⟩]), (.exit 0, [])]) [])])])])])])
theorem run_F_track_Track_segment : runE ⟨tdGet tys, [con_F_grade_Check], [], [], []⟩ con_F_track_Track_segment Try.f18 hint_F_track_Track_segment = con_F_track_Track_segment.F := by
  funext x
  kernel_rfl
theorem ok_F_track_Track_segment : ConOK Try.prog con_F_track_Track_segment :=
  con_of_run (Γ := ⟨tdGet tys, [con_F_grade_Check], [], [], []⟩) ⟨fun T d h => tysB_ok tys tys_ok T d h, by simp [ok_F_grade_Check], by simp [], by simp [], ptrs_ok Try.prog [] (by kernel_rfl)⟩ (by kernel_rfl) Try.func18 rfl (by kernel_rfl) run_F_track_Track_segment
/-- (odograph/track.Track).group -/
noncomputable def F_track_Track_group (t_1 : ((List (Int × ((List (Int × Int)) × (List Int)))) × (List (Int × (Int × (Int × (Int × Int))))))) (i_2 : Int) (g_3 : (Int × (Int × (Int × (Int × Int))))) : Option Bool :=
  let t10_4 : Bool := (decide (g_3.1 < (1 : Int)))
  let t14_5 : Bool := (decide ((65535 : Int) < g_3.1))
  let t15_6 : Bool := (bif t10_4 then true else t14_5)
  let t18_7 : Bool := (decide ((0 : Int) < i_2))
  let t25_8 : Int := (IntKind.wrap .i64 (i_2 - (1 : Int)))
  chk none (((decide ((0 : Int) ≤ t25_8)) && (decide (t25_8 < (t_1.2.length : Int)))) || !(t18_7 && !t15_6)) <|
  let e_9 : (Int × (Int × (Int × (Int × Int)))) := (t_1.2.getD t25_8.toNat ((0 : Int), ((0 : Int), ((0 : Int), ((0 : Int), (0 : Int))))))
  let t30_10 : Bool := (bif t18_7 then (decide (g_3.1 ≤ e_9.1)) else false)
  let t31_11 : Bool := (bif t15_6 then true else t30_10)
  let t35_12 : Bool := (decide (g_3.2.1 < (0 : Int)))
  let t36_13 : Bool := (bif t31_11 then true else t35_12)
  let t43_14 : Bool := (decide ((t_1.1.length : Int) ≤ g_3.2.1))
  let t44_15 : Bool := (bif t36_13 then true else t43_14)
  (bif t44_15 then
    some false
  else
    let t47_16 : Bool := (decide ((0 : Int) ≤ g_3.2.2.1))
    chk none (((decide ((0 : Int) ≤ g_3.2.1)) && (decide (g_3.2.1 < (t_1.1.length : Int)))) || !t47_16) <|
    let e_17 : (Int × ((List (Int × Int)) × (List Int))) := (t_1.1.getD g_3.2.1.toNat ((0 : Int), ([], [])))
    let t58_18 : Bool := (decide (g_3.2.2.1 ≤ e_17.1))
    let t59_19 : Bool := (bif t47_16 then t58_18 else false)
    let t64_20 : Bool := (decide ((0 : Int) ≤ g_3.2.2.2.1))
    let t65_21 : Bool := (bif t59_19 then t64_20 else false)
    let t69_22 : Bool := (decide (g_3.2.2.2.1 ≤ (1048576 : Int)))
    let t70_23 : Bool := (bif t65_21 then t69_22 else false)
    let t74_24 : Bool := (decide ((0 : Int) ≤ g_3.2.2.2.2))
    let t75_25 : Bool := (bif t70_23 then t74_24 else false)
    let t79_26 : Bool := (decide (g_3.2.2.2.2 ≤ (16777216 : Int)))
    let t80_27 : Bool := (bif t75_25 then t79_26 else false)
    some t80_27)
noncomputable def con_F_track_Track_group : Con := { f := 19, ps := [.dat (.agg (.pair (.slice (.agg (.pair (.int .i64) (.pair (.slice (.agg (.pair (.int .i64) (.int .i64)))) (.slice (.int .i64)))))) (.slice (.agg (.pair (.int .i64) (.pair (.int .i64) (.pair (.int .i64) (.pair (.int .i64) (.int .i64))))))))), .dat (.int .i64), .dat (.agg (.pair (.int .i64) (.pair (.int .i64) (.pair (.int .i64) (.pair (.int .i64) (.int .i64))))))], boxes := [], ins := (.pair (.agg (.pair (.slice (.agg (.pair (.int .i64) (.pair (.slice (.agg (.pair (.int .i64) (.int .i64)))) (.slice (.int .i64)))))) (.slice (.agg (.pair (.int .i64) (.pair (.int .i64) (.pair (.int .i64) (.pair (.int .i64) (.int .i64))))))))) (.pair (.int .i64) (.agg (.pair (.int .i64) (.pair (.int .i64) (.pair (.int .i64) (.pair (.int .i64) (.int .i64)))))))), nin := 3, outs := .bool, rs := [.dat .bool], nout := 1, F := fun x => F_track_Track_group x.1 x.2.1 x.2.2 }
def hint_F_track_Track_group : Hint := H0
theorem run_F_track_Track_group : runE ⟨tdGet tys, [], [], [], []⟩ con_F_track_Track_group Try.f19 hint_F_track_Track_group = con_F_track_Track_group.F := by
  funext x
  kernel_rfl
theorem ok_F_track_Track_group : ConOK Try.prog con_F_track_Track_group :=
  con_of_run (Γ := ⟨tdGet tys, [], [], [], []⟩) ⟨fun T d h => tysB_ok tys tys_ok T d h, by simp [], by simp [], by simp [], ptrs_ok Try.prog [] (by kernel_rfl)⟩ (by kernel_rfl) Try.func19 rfl (by kernel_rfl) run_F_track_Track_group
/-- (odograph/track.Track).Check -/
noncomputable def F_track_Track_Check (t_1 : ((List (Int × ((List (Int × Int)) × (List Int)))) × (List (Int × (Int × (Int × (Int × Int))))))) : Option (Int × Int) :=
  let t11_2 : Bool := ((t_1.1.length : Int) == (0 : Int))
  let t16_3 : Bool := (decide ((200 : Int) < (t_1.1.length : Int)))
  let t17_4 : Bool := (bif t11_2 then true else t16_3)
  let t22_5 : Bool := (decide ((400 : Int) < (t_1.2.length : Int)))
  let t23_6 : Bool := (bif t17_4 then true else t22_5)
  (bif t23_6 then
    some ((13 : Int), (0 : Int))
  else
    Option.bind (α := (Int × Int) ⊕ Unit) (
      loopO (X := (Int × Int) ⊕ Unit) (fun (s_7 : Int) =>
        let t28_8 : Bool := (decide (s_7 < (t_1.1.length : Int)))
        (bif t28_8 then
          chk none ((decide ((0 : Int) ≤ s_7)) && (decide (s_7 < (t_1.1.length : Int)))) <|
          let t31_9 : (Int × ((List (Int × Int)) × (List Int))) := (t_1.1.getD s_7.toNat ((0 : Int), ([], [])))
          (F_track_Track_segment t_1 t31_9).bind fun t34_10 =>
          (bif (!t34_10) then
            some (.inr (.inl (s_7, (11 : Int))))
          else
            let t37_11 : Int := (IntKind.wrap .i64 (s_7 + (1 : Int)))
            some (.inl t37_11))
        else
          some (.inr (.inr ())))) (0 : Int)) fun z => match z with
    | .inl r_12 =>
      let t3_13 : Int := r_12.1
      let t2_14 : Int := r_12.2
      some (t2_14, t3_13)
    | .inr _ =>
      Option.bind (α := (Int × Int) ⊕ Unit) (
        loopO (X := (Int × Int) ⊕ Unit) (fun (s_15 : Int) =>
          let t42_16 : Bool := (decide (s_15 < (t_1.2.length : Int)))
          (bif t42_16 then
            chk none ((decide ((0 : Int) ≤ s_15)) && (decide (s_15 < (t_1.2.length : Int)))) <|
            let t45_17 : (Int × (Int × (Int × (Int × Int)))) := (t_1.2.getD s_15.toNat ((0 : Int), ((0 : Int), ((0 : Int), ((0 : Int), (0 : Int))))))
            (F_track_Track_group t_1 s_15 t45_17).bind fun t49_18 =>
            (bif (!t49_18) then
              some (.inr (.inl ((16 : Int), s_15)))
            else
              let t52_19 : Int := (IntKind.wrap .i64 (s_15 + (1 : Int)))
              some (.inl t52_19))
          else
            some (.inr (.inr ())))) (0 : Int)) fun z => match z with
      | .inl r_20 =>
        let t2_21 : Int := r_20.1
        let t3_22 : Int := r_20.2
        some (t2_21, t3_22)
      | .inr _ =>
        some ((0 : Int), (0 : Int)))
noncomputable def con_F_track_Track_Check : Con := { f := 9, ps := [.dat (.agg (.pair (.slice (.agg (.pair (.int .i64) (.pair (.slice (.agg (.pair (.int .i64) (.int .i64)))) (.slice (.int .i64)))))) (.slice (.agg (.pair (.int .i64) (.pair (.int .i64) (.pair (.int .i64) (.pair (.int .i64) (.int .i64)))))))))], boxes := [], ins := (.agg (.pair (.slice (.agg (.pair (.int .i64) (.pair (.slice (.agg (.pair (.int .i64) (.int .i64)))) (.slice (.int .i64)))))) (.slice (.agg (.pair (.int .i64) (.pair (.int .i64) (.pair (.int .i64) (.pair (.int .i64) (.int .i64))))))))), nin := 1, outs := (.pair (.int .i64) (.int .i64)), rs := [.dat (.int .i64), .dat (.int .i64)], nout := 2, F := fun x => F_track_Track_Check x }
def hint_F_track_Track_Check : Hint := (.mk .plain [H0, (.mk .plain [H0, (.mk .plain [(.mk .plain [H0, (.mk .plain [(.mk (.loop [⟨.slot 27, (.int .i64), none⟩] [(0, 30), (0, 36), (0, 4), (0, 29), (0, 35), (0, 3), (0, 32), (0, 28), (0, 2), (0, 31), (0, 5), (0, 34), (0, 33), (0, 37)] [(.ret, [⟨.slot 3, (.int .i64), none⟩, ⟨.slot 2, (.int .i64), none⟩]), (.exit 0, [])]) [])])]), (.mk .plain [(.mk .plain [H0, (.mk .plain [(.mk (.loop [⟨.slot 41, (.int .i64), none⟩] [(0, 7), (0, 42), (0, 45), (0, 48), (0, 51), (0, 2), (0, 43), (0, 46), (0, 49), (0, 3), (0, 6), (0, 47), (0, 44), (0, 50), (0, 52)] [(.ret, [⟨.slot 2, (.int .i64), none⟩, ⟨.slot 3, (.int .i64), none⟩]), (.exit 2, [])]) [])])])])])])])
theorem run_F_track_Track_Check : runE ⟨tdGet tys, [con_F_track_Track_segment, con_F_track_Track_group], [], [], []⟩ con_F_track_Track_Check Try.f9 hint_F_track_Track_Check = con_F_track_Track_Check.F := by
  funext x
  kernel_rfl
theorem ok_F_track_Track_Check : ConOK Try.prog con_F_track_Track_Check :=
  con_of_run (Γ := ⟨tdGet tys, [con_F_track_Track_segment, con_F_track_Track_group], [], [], []⟩) ⟨fun T d h => tysB_ok tys tys_ok T d h, by simp [ok_F_track_Track_segment, ok_F_track_Track_group], by simp [], by simp [], ptrs_ok Try.prog [] (by kernel_rfl)⟩ (by kernel_rfl) Try.func9 rfl (by kernel_rfl) run_F_track_Track_Check
/-- odograph/image.put -/
noncomputable def F_image_put (out_1 : (List Int)) (v_2 : Int) (n_3 : Int) : Option (List Int) :=
  let t9_4 : Int := (IntKind.wrap .i64 (n_3 - (1 : Int)))
  Option.bind (
    loopO (X := (List Int)) (fun (s_5 : (Int × (List Int))) =>
      let i_6 : Int := s_5.1
      let out_7 : (List Int) := s_5.2
      let t11_8 : Bool := (decide ((0 : Int) ≤ i_6))
      (bif t11_8 then
        let t17_9 : Int := (IntKind.wrap .i64 ((8 : Int) * i_6))
        let t18_10 : Int := (IntKind.wrap .u64 t17_9)
        chk none (decide ((0 : Int) ≤ t18_10)) <|
        let t19_11 : Int := (v_2.fdiv (2 ^ (min t18_10.toNat 64)))
        let t20_12 : Int := (IntKind.wrap .u8 t19_11)
        chk none (decide ((out_7.length + ([t20_12] : List Int).length) * 1 ≤ 140737488355328)) <|
        let t22_13 : (List Int) := (out_7 ++ ([t20_12] : List Int))
        let t13_14 : Int := (IntKind.wrap .i64 (i_6 - (1 : Int)))
        some (.inl (t13_14, t22_13))
      else
        some (.inr out_7))) (t9_4, out_1)) fun r_15 =>
  some r_15
noncomputable def con_F_image_put : OCon := { f := 10, ps := [.own 500000005 (.int .u8), .dat (.int .i64), .dat (.int .i64)], boxes := [], ins := (.pair (.slice (.int .u8)) (.pair (.int .i64) (.int .i64))), nin := 3, outs := (.slice (.int .u8)), rs := [.own 500000005 (.int .u8)], aft := [], nout := 1, F := fun x => F_image_put x.1 x.2.1 x.2.2 }
def hint_F_image_put : Hint := (.mk .plain [H0, (.mk .plain [(.mk .plain [H0, (.mk .plain [(.mk (.loop [⟨.slot 7, (.int .i64), none⟩, ⟨.slot 0, (.slice (.int .u8)), some 500000005⟩] [(0, 20), (0, 10), (0, 16), (0, 13), (0, 19), (0, 22), (0, 12), (0, 15), (0, 21), (0, 18), (0, 14), (0, 11), (0, 17)] [(.exit 0, [⟨.slot 0, (.slice (.int .u8)), some 500000005⟩])]) [])])])])])
theorem run_F_image_put : runO ⟨tdGet tys, [], [], [], []⟩ con_F_image_put Try.f10 hint_F_image_put = con_F_image_put.F := by
  funext x
  kernel_rfl
theorem ok_F_image_put : OConOK Try.prog con_F_image_put :=
  ocon_of_run (Γ := ⟨tdGet tys, [], [], [], []⟩) ⟨fun T d h => tysB_ok tys tys_ok T d h, by simp [], by simp [], by simp [], ptrs_ok Try.prog [] (by kernel_rfl)⟩ (by kernel_rfl) Try.func10 rfl (by kernel_rfl) rfl run_F_image_put
/-- odograph/crc.more -/
noncomputable def F_crc_more (sum_1 : Int) (b_2 : Int) : Option Int :=
  let t8_3 : Int := (IntKind.wrap .u16 ((IntKind.wrap .u16 b_2) * 2 ^ 8))
  let t9_4 : Int := (bits .u16 .xor sum_1 t8_3)
  Option.bind (
    loopO (X := Int) (fun (s_5 : (Int × Int)) =>
      let t10_6 : Int := s_5.1
      let sum_7 : Int := s_5.2
      let t11_8 : Bool := (decide (t10_6 < (8 : Int)))
      (bif t11_8 then
        let t13_9 : Int := (bits .u16 .and sum_7 (32768 : Int))
        Option.bind (
          (bif (t13_9 != (0 : Int)) then
            let t16_10 : Int := (IntKind.wrap .u16 (sum_7 * 2 ^ 1))
            let t17_11 : Int := (bits .u16 .xor t16_10 (4129 : Int))
            some t17_11
          else
            let t19_12 : Int := (IntKind.wrap .u16 (sum_7 * 2 ^ 1))
            some t19_12)) fun r_13 =>
        let t20_14 : Int := (IntKind.wrap .i64 (t10_6 + (1 : Int)))
        some (.inl (t20_14, r_13))
      else
        some (.inr sum_7))) ((0 : Int), t9_4)) fun r_15 =>
  some r_15
noncomputable def con_F_crc_more : Con := { f := 27, ps := [.dat (.int .u16), .dat (.int .u8)], boxes := [], ins := (.pair (.int .u16) (.int .u8)), nin := 2, outs := (.int .u16), rs := [.dat (.int .u16)], nout := 1, F := fun x => F_crc_more x.1 x.2 }
def hint_F_crc_more : Hint := (.mk .plain [H0, (.mk .plain [H0, (.mk .plain [(.mk .plain [H0, (.mk .plain [(.mk (.loop [⟨.slot 10, (.int .i64), none⟩, ⟨.slot 0, (.int .u16), none⟩] [(0, 20), (0, 16), (0, 13), (0, 19), (0, 12), (0, 15), (0, 18), (0, 14), (0, 11), (0, 17)] [(.exit 0, [⟨.slot 0, (.int .u16), none⟩])]) [(.mk .plain [H0, (.mk .plain [H0, (.mk .plain [(.mk .plain [(.mk .plain [H0, (.mk (.join [(0, 15), (0, 16), (0, 17), (0, 18), (0, 19)] [(.normal, [⟨.slot 0, (.int .u16), none⟩])]) [])])])])])])])])])])])])
theorem run_F_crc_more : runE ⟨tdGet tys, [], [], [], []⟩ con_F_crc_more Try.f27 hint_F_crc_more = con_F_crc_more.F := by
  funext x
  kernel_rfl
theorem ok_F_crc_more : ConOK Try.prog con_F_crc_more :=
  con_of_run (Γ := ⟨tdGet tys, [], [], [], []⟩) ⟨fun T d h => tysB_ok tys tys_ok T d h, by simp [], by simp [], by simp [], ptrs_ok Try.prog [] (by kernel_rfl)⟩ (by kernel_rfl) Try.func27 rfl (by kernel_rfl) run_F_crc_more
/-- odograph/crc.Go -/
noncomputable def F_crc_Go (sum_1 : Int) (b_2 : (List Int)) : Option Int :=
  Option.bind (
    loopO (X := Int) (fun (s_3 : (Int × Int)) =>
      let sum_4 : Int := s_3.1
      let t9_5 : Int := s_3.2
      let t10_6 : Bool := (decide (t9_5 < (b_2.length : Int)))
      (bif t10_6 then
        chk none ((decide ((0 : Int) ≤ t9_5)) && (decide (t9_5 < (b_2.length : Int)))) <|
        let t12_7 : Int := (b_2.getD t9_5.toNat (0 : Int))
        (F_crc_more sum_4 t12_7).bind fun t15_8 =>
        let t16_9 : Int := (IntKind.wrap .i64 (t9_5 + (1 : Int)))
        some (.inl (t15_8, t16_9))
      else
        some (.inr sum_4))) (sum_1, (0 : Int))) fun r_10 =>
  some r_10
noncomputable def con_F_crc_Go : Con := { f := 20, ps := [.dat (.int .u16), .dat (.slice (.int .u8))], boxes := [], ins := (.pair (.int .u16) (.slice (.int .u8))), nin := 2, outs := (.int .u16), rs := [.dat (.int .u16)], nout := 1, F := fun x => F_crc_Go x.1 x.2 }
def hint_F_crc_Go : Hint := (.mk .plain [H0, (.mk .plain [(.mk .plain [H0, (.mk .plain [(.mk (.loop [⟨.slot 0, (.int .u16), none⟩, ⟨.slot 9, (.int .i64), none⟩] [(0, 10), (0, 16), (0, 13), (0, 6), (0, 12), (0, 15), (0, 14), (0, 11)] [(.exit 0, [⟨.slot 0, (.int .u16), none⟩])]) [])])])])])
theorem run_F_crc_Go : runE ⟨tdGet tys, [con_F_crc_more], [], [], []⟩ con_F_crc_Go Try.f20 hint_F_crc_Go = con_F_crc_Go.F := by
  funext x
  kernel_rfl
theorem ok_F_crc_Go : ConOK Try.prog con_F_crc_Go :=
  con_of_run (Γ := ⟨tdGet tys, [con_F_crc_more], [], [], []⟩) ⟨fun T d h => tysB_ok tys tys_ok T d h, by simp [ok_F_crc_more], by simp [], by simp [], ptrs_ok Try.prog [] (by kernel_rfl)⟩ (by kernel_rfl) Try.func20 rfl (by kernel_rfl) run_F_crc_Go
/-- odograph/crc.Sum -/
noncomputable def F_crc_Sum (b_1 : (List Int)) : Option Int :=
  (F_crc_Go (65535 : Int) b_1).bind fun t4_2 =>
  some t4_2
noncomputable def con_F_crc_Sum : Con := { f := 12, ps := [.dat (.slice (.int .u8))], boxes := [], ins := (.slice (.int .u8)), nin := 1, outs := (.int .u16), rs := [.dat (.int .u16)], nout := 1, F := fun x => F_crc_Sum x }
def hint_F_crc_Sum : Hint := H0
theorem run_F_crc_Sum : runE ⟨tdGet tys, [con_F_crc_Go], [], [], []⟩ con_F_crc_Sum Try.f12 hint_F_crc_Sum = con_F_crc_Sum.F := by
  funext x
  kernel_rfl
theorem ok_F_crc_Sum : ConOK Try.prog con_F_crc_Sum :=
  con_of_run (Γ := ⟨tdGet tys, [con_F_crc_Go], [], [], []⟩) ⟨fun T d h => tysB_ok tys tys_ok T d h, by simp [ok_F_crc_Go], by simp [], by simp [], ptrs_ok Try.prog [] (by kernel_rfl)⟩ (by kernel_rfl) Try.func12 rfl (by kernel_rfl) run_F_crc_Sum
/-- odograph/crc.Seal -/
noncomputable def F_crc_Seal (b_1 : (List Int)) : Option (List Int) :=
  (F_crc_Sum b_1).bind fun t6_2 =>
  let t11_3 : Int := (IntKind.wrap .i64 ((b_1.length : Int) + (2 : Int)))
  chk none ((decide ((0 : Int) ≤ (b_1.length : Int))) && (decide ((b_1.length : Int) ≤ t11_3)) && (decide (t11_3 * 1 ≤ (140737488355328 : Int))) && (decide (t11_3 ≤ (140737488355328 : Int)))) <|
  chk none (decide (0 < (List.replicate (b_1.length : Int).toNat (0 : Int)).length)) <|
  let l_4 : (List Int) := (b_1.take (List.replicate (b_1.length : Int).toNat (0 : Int)).length ++ (List.replicate (b_1.length : Int).toNat (0 : Int)).drop b_1.length)
  let t19_5 : Int := (IntKind.wrap .u8 (t6_2.fdiv (2 ^ 8)))
  chk none (decide ((l_4.length + ([t19_5, (IntKind.wrap .u8 t6_2)] : List Int).length) * 1 ≤ 140737488355328)) <|
  let t23_6 : (List Int) := (l_4 ++ ([t19_5, (IntKind.wrap .u8 t6_2)] : List Int))
  some t23_6
noncomputable def con_F_crc_Seal : Con := { f := 11, ps := [.dat (.slice (.int .u8))], boxes := [], ins := (.slice (.int .u8)), nin := 1, outs := (.slice (.int .u8)), rs := [.dat (.slice (.int .u8))], nout := 1, F := fun x => F_crc_Seal x }
def hint_F_crc_Seal : Hint := H0
theorem run_F_crc_Seal : runE ⟨tdGet tys, [con_F_crc_Sum], [], [], []⟩ con_F_crc_Seal Try.f11 hint_F_crc_Seal = con_F_crc_Seal.F := by
  funext x
  kernel_rfl
theorem ok_F_crc_Seal : ConOK Try.prog con_F_crc_Seal :=
  con_of_run (Γ := ⟨tdGet tys, [con_F_crc_Sum], [], [], []⟩) ⟨fun T d h => tysB_ok tys tys_ok T d h, by simp [ok_F_crc_Sum], by simp [], by simp [], ptrs_ok Try.prog [] (by kernel_rfl)⟩ (by kernel_rfl) Try.func11 rfl (by kernel_rfl) run_F_crc_Seal
/-- odograph/image.Pack -/
noncomputable def F_image_Pack (t_1 : ((List (Int × ((List (Int × Int)) × (List Int)))) × (List (Int × (Int × (Int × (Int × Int))))))) : Option ((List Int) × Int) :=
  (F_track_Track_Check t_1).bind fun t17_2 =>
  (bif (t17_2.1 != (0 : Int)) then
    some ([], (51 : Int))
  else
    (F_image_put ([(79 : Int), (68 : Int), (79 : Int), (49 : Int)] : List Int) (t_1.1.length : Int) (2 : Int)).bind fun t27_3 =>
    Option.bind (
      loopO (X := (List Int)) (fun (s_4 : (Int × (List Int))) =>
        let t31_5 : Int := s_4.1
        let out_6 : (List Int) := s_4.2
        let t32_7 : Bool := (decide (t31_5 < (t_1.1.length : Int)))
        (bif t32_7 then
          chk none ((decide ((0 : Int) ≤ t31_5)) && (decide (t31_5 < (t_1.1.length : Int)))) <|
          let t34_8 : (Int × ((List (Int × Int)) × (List Int))) := (t_1.1.getD t31_5.toNat ((0 : Int), ([], [])))
          (F_image_put out_6 t34_8.1 (8 : Int)).bind fun t38_9 =>
          (F_image_put t38_9 (t34_8.2.1.length : Int) (1 : Int)).bind fun t42_10 =>
          Option.bind (
            loopO (X := (List Int)) (fun (s_11 : (Int × (List Int))) =>
              let t46_12 : Int := s_11.1
              let out_13 : (List Int) := s_11.2
              let t47_14 : Bool := (decide (t46_12 < (t34_8.2.1.length : Int)))
              (bif t47_14 then
                chk none ((decide ((0 : Int) ≤ t46_12)) && (decide (t46_12 < (t34_8.2.1.length : Int)))) <|
                let t49_15 : (Int × Int) := (t34_8.2.1.getD t46_12.toNat ((0 : Int), (0 : Int)))
                (F_image_put out_13 t49_15.1 (8 : Int)).bind fun t53_16 =>
                (F_image_put t53_16 t49_15.2 (4 : Int)).bind fun t56_17 =>
                let t57_18 : Int := (IntKind.wrap .i64 (t46_12 + (1 : Int)))
                some (.inl (t57_18, t56_17))
              else
                some (.inr out_13))) ((0 : Int), t42_10)) fun r_19 =>
          (F_image_put r_19 (t34_8.2.2.length : Int) (1 : Int)).bind fun t62_20 =>
          Option.bind (
            loopO (X := (List Int)) (fun (s_21 : ((List Int) × Int)) =>
              let out_22 : (List Int) := s_21.1
              let t66_23 : Int := s_21.2
              let t67_24 : Bool := (decide (t66_23 < (t34_8.2.2.length : Int)))
              (bif t67_24 then
                chk none ((decide ((0 : Int) ≤ t66_23)) && (decide (t66_23 < (t34_8.2.2.length : Int)))) <|
                let t69_25 : Int := (t34_8.2.2.getD t66_23.toNat (0 : Int))
                (F_image_put out_22 t69_25 (1 : Int)).bind fun t72_26 =>
                let t73_27 : Int := (IntKind.wrap .i64 (t66_23 + (1 : Int)))
                some (.inl (t72_26, t73_27))
              else
                some (.inr out_22))) (t62_20, (0 : Int))) fun r_28 =>
          let t74_29 : Int := (IntKind.wrap .i64 (t31_5 + (1 : Int)))
          some (.inl (t74_29, r_28))
        else
          some (.inr out_6))) ((0 : Int), t27_3)) fun r_30 =>
    (F_image_put r_30 (t_1.2.length : Int) (2 : Int)).bind fun t79_31 =>
    Option.bind (
      loopO (X := (List Int)) (fun (s_32 : (Int × (List Int))) =>
        let t83_33 : Int := s_32.1
        let out_34 : (List Int) := s_32.2
        let t84_35 : Bool := (decide (t83_33 < (t_1.2.length : Int)))
        (bif t84_35 then
          chk none ((decide ((0 : Int) ≤ t83_33)) && (decide (t83_33 < (t_1.2.length : Int)))) <|
          let t86_36 : (Int × (Int × (Int × (Int × Int)))) := (t_1.2.getD t83_33.toNat ((0 : Int), ((0 : Int), ((0 : Int), ((0 : Int), (0 : Int))))))
          (F_image_put out_34 t86_36.1 (2 : Int)).bind fun t90_37 =>
          (F_image_put t90_37 t86_36.2.1 (1 : Int)).bind fun t93_38 =>
          (F_image_put t93_38 t86_36.2.2.1 (8 : Int)).bind fun t97_39 =>
          (F_image_put t97_39 t86_36.2.2.2.1 (4 : Int)).bind fun t100_40 =>
          (F_image_put t100_40 t86_36.2.2.2.2 (4 : Int)).bind fun t103_41 =>
          let t104_42 : Int := (IntKind.wrap .i64 (t83_33 + (1 : Int)))
          some (.inl (t104_42, t103_41))
        else
          some (.inr out_34))) ((0 : Int), t79_31)) fun r_43 =>
    (F_crc_Seal r_43).bind fun t106_44 =>
    some (t106_44, (0 : Int)))
noncomputable def con_F_image_Pack : Con := { f := 6, ps := [.dat (.agg (.pair (.slice (.agg (.pair (.int .i64) (.pair (.slice (.agg (.pair (.int .i64) (.int .i64)))) (.slice (.int .i64)))))) (.slice (.agg (.pair (.int .i64) (.pair (.int .i64) (.pair (.int .i64) (.pair (.int .i64) (.int .i64)))))))))], boxes := [], ins := (.agg (.pair (.slice (.agg (.pair (.int .i64) (.pair (.slice (.agg (.pair (.int .i64) (.int .i64)))) (.slice (.int .i64)))))) (.slice (.agg (.pair (.int .i64) (.pair (.int .i64) (.pair (.int .i64) (.pair (.int .i64) (.int .i64))))))))), nin := 1, outs := (.pair (.slice (.int .u8)) (.int .i64)), rs := [.dat (.slice (.int .u8)), .dat (.int .i64)], nout := 2, F := fun x => F_image_Pack x }
def hint_F_image_Pack : Hint := (.mk .plain [H0, (.mk .plain [H0, (.mk .plain [H0, (.mk .plain [(.mk .plain [H0, (.mk .plain [(.mk (.loop [⟨.slot 31, (.int .i64), none⟩, ⟨.slot 6, (.slice (.int .u8)), some 900000005⟩] [(0, 36), (0, 42), (0, 39), (0, 45), (0, 48), (0, 54), (0, 51), (0, 57), (0, 60), (0, 66), (0, 63), (0, 69), (0, 8), (0, 72), (0, 35), (0, 32), (0, 38), (0, 41), (0, 47), (0, 44), (0, 50), (0, 53), (0, 59), (0, 56), (0, 62), (0, 68), (0, 65), (0, 71), (0, 10), (0, 74), (0, 34), (0, 40), (0, 37), (0, 43), (0, 46), (0, 52), (0, 49), (0, 55), (0, 61), (0, 58), (0, 64), (0, 67), (0, 12), (0, 73), (0, 70), (0, 27), (0, 33)] [(.exit 0, [⟨.slot 6, (.slice (.int .u8)), some 900000005⟩])]) [(.mk .plain [H0, (.mk .plain [H0, (.mk .plain [(.mk .plain [(.mk .plain [H0, (.mk .plain [H0, (.mk .plain [(.mk .plain [H0, (.mk .plain [(.mk (.loop [⟨.slot 46, (.int .i64), none⟩, ⟨.slot 6, (.slice (.int .u8)), some 900000005⟩] [(0, 42), (0, 10), (0, 48), (0, 54), (0, 51), (0, 57), (0, 52), (0, 49), (0, 55), (0, 47), (0, 50), (0, 53), (0, 56)] [(.exit 2, [⟨.slot 6, (.slice (.int .u8)), some 900000005⟩])]) [])])]), (.mk .plain [H0, (.mk .plain [H0, (.mk .plain [(.mk (.loop [⟨.slot 6, (.slice (.int .u8)), some 900000005⟩, ⟨.slot 66, (.int .i64), none⟩] [(0, 68), (0, 71), (0, 67), (0, 12), (0, 73), (0, 70), (0, 69), (0, 72), (0, 62)] [(.exit 4, [⟨.slot 6, (.slice (.int .u8)), some 900000005⟩])]) [])])])])])])])])])])])])])]), (.mk .plain [H0, (.mk .plain [(.mk .plain [H0, (.mk .plain [(.mk (.loop [⟨.slot 83, (.int .i64), none⟩, ⟨.slot 6, (.slice (.int .u8)), some 900000005⟩] [(0, 91), (0, 97), (0, 94), (0, 100), (0, 103), (0, 86), (0, 92), (0, 89), (0, 95), (0, 98), (0, 14), (0, 104), (0, 101), (0, 87), (0, 84), (0, 90), (0, 93), (0, 99), (0, 96), (0, 102), (0, 79), (0, 85), (0, 88)] [(.exit 6, [⟨.slot 6, (.slice (.int .u8)), some 900000005⟩])]) [])])])])])])])])])
theorem run_F_image_Pack : runE ⟨tdGet tys, [con_F_track_Track_Check, con_F_crc_Seal], [], [con_F_image_put], []⟩ con_F_image_Pack Try.f6 hint_F_image_Pack = con_F_image_Pack.F := by
  funext x
  kernel_rfl
theorem ok_F_image_Pack : ConOK Try.prog con_F_image_Pack :=
  con_of_run (Γ := ⟨tdGet tys, [con_F_track_Track_Check, con_F_crc_Seal], [], [con_F_image_put], []⟩) ⟨fun T d h => tysB_ok tys tys_ok T d h, by simp [ok_F_track_Track_Check, ok_F_crc_Seal], by simp [], by simp [ok_F_image_put], ptrs_ok Try.prog [] (by kernel_rfl)⟩ (by kernel_rfl) Try.func6 rfl (by kernel_rfl) run_F_image_Pack
/-- (*odograph/image.reader).num -/
noncomputable def F_image_reader_num (n_1 : Int) (x_2 : (List Int)) (x_3 : Bool) : Option (Int × ((List Int) × Bool)) :=
  let t20_4 : Bool := (decide ((x_2.length : Int) < n_1))
  let t21_5 : Bool := (bif x_3 then true else t20_4)
  (bif t21_5 then
    some ((0 : Int), x_2, t21_5)
  else
    chk none (true && (decide ((0 : Int) ≤ n_1)) && (decide (n_1 ≤ (x_2.length : Int)))) <|
    let t33_6 : (List Int) := ((x_2.take n_1.toNat).drop (0 : Int).toNat)
    Option.bind (
      loopO (X := Int) (fun (s_7 : (Int × Int)) =>
        let t35_8 : Int := s_7.1
        let v_9 : Int := s_7.2
        let t36_10 : Bool := (decide (t35_8 < (t33_6.length : Int)))
        (bif t36_10 then
          chk none ((decide ((0 : Int) ≤ t35_8)) && (decide (t35_8 < (t33_6.length : Int)))) <|
          let t38_11 : Int := (t33_6.getD t35_8.toNat (0 : Int))
          let t40_12 : Int := (IntKind.wrap .u64 (v_9 * 2 ^ 8))
          let t42_13 : Int := (IntKind.wrap .u64 t38_11)
          let t43_14 : Int := (bits .u64 .or t40_12 t42_13)
          let t44_15 : Int := (IntKind.wrap .i64 (t35_8 + (1 : Int)))
          some (.inl (t44_15, t43_14))
        else
          some (.inr v_9))) ((0 : Int), (0 : Int))) fun r_16 =>
    chk none ((decide ((0 : Int) ≤ n_1)) && (decide (n_1 ≤ (x_2.length : Int))) && (decide ((x_2.length : Int) ≤ (x_2.length : Int)))) <|
    let t51_17 : (List Int) := ((x_2.take (x_2.length : Int).toNat).drop n_1.toNat)
    some ((IntKind.wrap .i64 r_16), t51_17, t21_5))
noncomputable def con_F_image_reader_num : Con := { f := 21, ps := [.ref 0 0, .dat (.int .i64)], boxes := [[.dat (.slice (.int .u8)), .dat .bool]], ins := (.pair (.int .i64) (.pair (.slice (.int .u8)) .bool)), nin := 3, outs := (.pair (.int .i64) (.pair (.slice (.int .u8)) .bool)), rs := [.dat (.int .i64)], nout := 3, F := fun x => F_image_reader_num x.1 x.2.1 x.2.2 }
def hint_F_image_reader_num : Hint := (.mk .plain [H0, (.mk .plain [H0, (.mk .plain [H0, (.mk .plain [(.mk .plain [H0, (.mk .plain [(.mk (.loop [⟨.slot 35, (.int .i64), none⟩, ⟨.slot 5, (.int .u64), none⟩] [(0, 7), (0, 36), (0, 42), (0, 39), (0, 38), (0, 41), (0, 44), (0, 40), (0, 37), (0, 43)] [(.exit 0, [⟨.slot 5, (.int .u64), none⟩])]) [])])])])])])])
theorem run_F_image_reader_num : runE ⟨tdGet tys, [], [], [], []⟩ con_F_image_reader_num Try.f21 hint_F_image_reader_num = con_F_image_reader_num.F := by
  funext x
  kernel_rfl
theorem ok_F_image_reader_num : ConOK Try.prog con_F_image_reader_num :=
  con_of_run (Γ := ⟨tdGet tys, [], [], [], []⟩) ⟨fun T d h => tysB_ok tys tys_ok T d h, by simp [], by simp [], by simp [], ptrs_ok Try.prog [] (by kernel_rfl)⟩ (by kernel_rfl) Try.func21 rfl (by kernel_rfl) run_F_image_reader_num
/-- (*odograph/image.reader).count -/
noncomputable def F_image_reader_count (n_1 : Int) (most_2 : Int) (x_3 : (List Int)) (x_4 : Bool) : Option (Int × ((List Int) × Bool)) :=
  (F_image_reader_num n_1 x_3 x_4).bind fun t10_5 =>
  let t13_6 : Bool := (decide (most_2 < t10_5.1))
  (bif t13_6 then
    some ((0 : Int), t10_5.2.1, true)
  else
    some (t10_5.1, t10_5.2.1, t10_5.2.2))
noncomputable def con_F_image_reader_count : Con := { f := 14, ps := [.ref 0 0, .dat (.int .i64), .dat (.int .i64)], boxes := [[.dat (.slice (.int .u8)), .dat .bool]], ins := (.pair (.int .i64) (.pair (.int .i64) (.pair (.slice (.int .u8)) .bool))), nin := 4, outs := (.pair (.int .i64) (.pair (.slice (.int .u8)) .bool)), rs := [.dat (.int .i64)], nout := 3, F := fun x => F_image_reader_count x.1 x.2.1 x.2.2.1 x.2.2.2 }
def hint_F_image_reader_count : Hint := H0
theorem run_F_image_reader_count : runE ⟨tdGet tys, [con_F_image_reader_num], [], [], []⟩ con_F_image_reader_count Try.f14 hint_F_image_reader_count = con_F_image_reader_count.F := by
  funext x
  kernel_rfl
theorem ok_F_image_reader_count : ConOK Try.prog con_F_image_reader_count :=
  con_of_run (Γ := ⟨tdGet tys, [con_F_image_reader_num], [], [], []⟩) ⟨fun T d h => tysB_ok tys tys_ok T d h, by simp [ok_F_image_reader_num], by simp [], by simp [], ptrs_ok Try.prog [] (by kernel_rfl)⟩ (by kernel_rfl) Try.func14 rfl (by kernel_rfl) run_F_image_reader_count
/-- (*odograph/image.reader).piece -/
noncomputable def F_image_reader_piece (x_1 : (List Int)) (x_2 : Bool) : Option ((Int × Int) × ((List Int) × Bool)) :=
  (F_image_reader_num (8 : Int) x_1 x_2).bind fun t5_3 =>
  (F_image_reader_num (4 : Int) t5_3.2.1 t5_3.2.2).bind fun t8_4 =>
  let t9_5 : Int := (IntKind.wrap .i32 t8_4.1)
  let t11_6 : (Int × Int) := (t5_3.1, (IntKind.wrap .i64 t9_5))
  some (t11_6, t8_4.2.1, t8_4.2.2)
noncomputable def con_F_image_reader_piece : Con := { f := 23, ps := [.ref 0 0], boxes := [[.dat (.slice (.int .u8)), .dat .bool]], ins := (.pair (.slice (.int .u8)) .bool), nin := 2, outs := (.pair (.agg (.pair (.int .i64) (.int .i64))) (.pair (.slice (.int .u8)) .bool)), rs := [.dat (.agg (.pair (.int .i64) (.int .i64)))], nout := 3, F := fun x => F_image_reader_piece x.1 x.2 }
def hint_F_image_reader_piece : Hint := H0
theorem run_F_image_reader_piece : runE ⟨tdGet tys, [con_F_image_reader_num], [], [], []⟩ con_F_image_reader_piece Try.f23 hint_F_image_reader_piece = con_F_image_reader_piece.F := by
  funext x
  kernel_rfl
theorem ok_F_image_reader_piece : ConOK Try.prog con_F_image_reader_piece :=
  con_of_run (Γ := ⟨tdGet tys, [con_F_image_reader_num], [], [], []⟩) ⟨fun T d h => tysB_ok tys tys_ok T d h, by simp [ok_F_image_reader_num], by simp [], by simp [], ptrs_ok Try.prog [] (by kernel_rfl)⟩ (by kernel_rfl) Try.func23 rfl (by kernel_rfl) run_F_image_reader_piece
/-- odograph/image.many[odograph/grade.Piece] -/
noncomputable def F_image_many_grade_Piece (n_1 : Int) (x_2 : (List Int)) (x_3 : Bool) : Option ((List (Int × Int)) × ((List Int) × Bool)) :=
  Option.bind (
    loopO (X := (Bool × ((List Int) × (List (Int × Int))))) (fun (s_4 : (Int × (Bool × ((List (Int × Int)) × (List Int))))) =>
      let t7_5 : Int := s_4.1
      let b0_6 : Bool := s_4.2.1
      let out_7 : (List (Int × Int)) := s_4.2.2.1
      let b0_8 : (List Int) := s_4.2.2.2
      (bif (decide (t7_5 < n_1)) then
        (F_image_reader_piece b0_8 b0_6).bind fun t11_9 =>
        let t12_10 : (List (Int × Int)) := ([t11_9.1] : List (Int × Int))
        chk none (decide ((out_7.length + t12_10.length) * 16 ≤ 140737488355328)) <|
        let t13_11 : (List (Int × Int)) := (out_7 ++ t12_10)
        let t14_12 : Int := (IntKind.wrap .i64 (t7_5 + (1 : Int)))
        some (.inl (t14_12, t11_9.2.2, t13_11, t11_9.2.1))
      else
        some (.inr (b0_6, b0_8, out_7)))) ((0 : Int), x_3, [], x_2)) fun r_13 =>
  let b0_14 : Bool := r_13.1
  let b0_15 : (List Int) := r_13.2.1
  let out_16 : (List (Int × Int)) := r_13.2.2
  some (out_16, b0_15, b0_14)
noncomputable def con_F_image_many_grade_Piece : Con := { f := 22, ps := [.dat (.int .i64), .clo 23 [.ref 0 0] []], boxes := [[.dat (.slice (.int .u8)), .dat .bool]], ins := (.pair (.int .i64) (.pair (.slice (.int .u8)) .bool)), nin := 3, outs := (.pair (.slice (.agg (.pair (.int .i64) (.int .i64)))) (.pair (.slice (.int .u8)) .bool)), rs := [.dat (.slice (.agg (.pair (.int .i64) (.int .i64))))], nout := 3, F := fun x => F_image_many_grade_Piece x.1 x.2.1 x.2.2 }
def hint_F_image_many_grade_Piece : Hint := (.mk .plain [H0, (.mk .plain [H0, (.mk .plain [(.mk .plain [H0, (.mk .plain [(.mk (.loop [⟨.slot 7, (.int .i64), none⟩, ⟨.cell 0 1, .bool, none⟩, ⟨.slot 5, (.slice (.agg (.pair (.int .i64) (.int .i64)))), some 1300038⟩, ⟨.cell 0 0, (.slice (.int .u8)), none⟩] [(0, 10), (0, 13), (0, 9), (0, 12), (0, 8), (0, 14), (0, 11)] [(.exit 0, [⟨.cell 0 1, .bool, none⟩, ⟨.cell 0 0, (.slice (.int .u8)), none⟩, ⟨.slot 5, (.slice (.agg (.pair (.int .i64) (.int .i64)))), some 1300038⟩])]) [])])])])])])
theorem run_F_image_many_grade_Piece : runE ⟨tdGet tys, [con_F_image_reader_piece], [], [], []⟩ con_F_image_many_grade_Piece Try.f22 hint_F_image_many_grade_Piece = con_F_image_many_grade_Piece.F := by
  funext x
  kernel_rfl
theorem ok_F_image_many_grade_Piece : ConOK Try.prog con_F_image_many_grade_Piece :=
  con_of_run (Γ := ⟨tdGet tys, [con_F_image_reader_piece], [], [], []⟩) ⟨fun T d h => tysB_ok tys tys_ok T d h, by simp [ok_F_image_reader_piece], by simp [], by simp [], ptrs_ok Try.prog [] (by kernel_rfl)⟩ (by kernel_rfl) Try.func22 rfl (by kernel_rfl) run_F_image_many_grade_Piece
/-- (*odograph/image.reader).next -/
noncomputable def F_image_reader_next (x_1 : (List Int)) (x_2 : Bool) : Option (Int × ((List Int) × Bool)) :=
  (F_image_reader_num (1 : Int) x_1 x_2).bind fun t4_3 =>
  some (t4_3.1, t4_3.2.1, t4_3.2.2)
noncomputable def con_F_image_reader_next : Con := { f := 25, ps := [.ref 0 0], boxes := [[.dat (.slice (.int .u8)), .dat .bool]], ins := (.pair (.slice (.int .u8)) .bool), nin := 2, outs := (.pair (.int .i64) (.pair (.slice (.int .u8)) .bool)), rs := [.dat (.int .i64)], nout := 3, F := fun x => F_image_reader_next x.1 x.2 }
def hint_F_image_reader_next : Hint := H0
theorem run_F_image_reader_next : runE ⟨tdGet tys, [con_F_image_reader_num], [], [], []⟩ con_F_image_reader_next Try.f25 hint_F_image_reader_next = con_F_image_reader_next.F := by
  funext x
  kernel_rfl
theorem ok_F_image_reader_next : ConOK Try.prog con_F_image_reader_next :=
  con_of_run (Γ := ⟨tdGet tys, [con_F_image_reader_num], [], [], []⟩) ⟨fun T d h => tysB_ok tys tys_ok T d h, by simp [ok_F_image_reader_num], by simp [], by simp [], ptrs_ok Try.prog [] (by kernel_rfl)⟩ (by kernel_rfl) Try.func25 rfl (by kernel_rfl) run_F_image_reader_next
/-- odograph/image.many[int] -/
noncomputable def F_image_many_int (n_1 : Int) (x_2 : (List Int)) (x_3 : Bool) : Option ((List Int) × ((List Int) × Bool)) :=
  Option.bind (
    loopO (X := (Bool × ((List Int) × (List Int)))) (fun (s_4 : (Int × (Bool × ((List Int) × (List Int))))) =>
      let t7_5 : Int := s_4.1
      let b0_6 : Bool := s_4.2.1
      let out_7 : (List Int) := s_4.2.2.1
      let b0_8 : (List Int) := s_4.2.2.2
      (bif (decide (t7_5 < n_1)) then
        (F_image_reader_next b0_8 b0_6).bind fun t11_9 =>
        chk none (decide ((out_7.length + ([t11_9.1] : List Int).length) * 8 ≤ 140737488355328)) <|
        let t13_10 : (List Int) := (out_7 ++ ([t11_9.1] : List Int))
        let t14_11 : Int := (IntKind.wrap .i64 (t7_5 + (1 : Int)))
        some (.inl (t14_11, t11_9.2.2, t13_10, t11_9.2.1))
      else
        some (.inr (b0_6, b0_8, out_7)))) ((0 : Int), x_3, [], x_2)) fun r_12 =>
  let b0_13 : Bool := r_12.1
  let b0_14 : (List Int) := r_12.2.1
  let out_15 : (List Int) := r_12.2.2
  some (out_15, b0_14, b0_13)
noncomputable def con_F_image_many_int : Con := { f := 24, ps := [.dat (.int .i64), .clo 25 [.ref 0 0] []], boxes := [[.dat (.slice (.int .u8)), .dat .bool]], ins := (.pair (.int .i64) (.pair (.slice (.int .u8)) .bool)), nin := 3, outs := (.pair (.slice (.int .i64)) (.pair (.slice (.int .u8)) .bool)), rs := [.dat (.slice (.int .i64))], nout := 3, F := fun x => F_image_many_int x.1 x.2.1 x.2.2 }
def hint_F_image_many_int : Hint := (.mk .plain [H0, (.mk .plain [H0, (.mk .plain [(.mk .plain [H0, (.mk .plain [(.mk (.loop [⟨.slot 7, (.int .i64), none⟩, ⟨.cell 0 1, .bool, none⟩, ⟨.slot 5, (.slice (.int .i64)), some 1300003⟩, ⟨.cell 0 0, (.slice (.int .u8)), none⟩] [(0, 10), (0, 13), (0, 9), (0, 12), (0, 8), (0, 14), (0, 11)] [(.exit 0, [⟨.cell 0 1, .bool, none⟩, ⟨.cell 0 0, (.slice (.int .u8)), none⟩, ⟨.slot 5, (.slice (.int .i64)), some 1300003⟩])]) [])])])])])])
theorem run_F_image_many_int : runE ⟨tdGet tys, [con_F_image_reader_next], [], [], []⟩ con_F_image_many_int Try.f24 hint_F_image_many_int = con_F_image_many_int.F := by
  funext x
  kernel_rfl
theorem ok_F_image_many_int : ConOK Try.prog con_F_image_many_int :=
  con_of_run (Γ := ⟨tdGet tys, [con_F_image_reader_next], [], [], []⟩) ⟨fun T d h => tysB_ok tys tys_ok T d h, by simp [ok_F_image_reader_next], by simp [], by simp [], ptrs_ok Try.prog [] (by kernel_rfl)⟩ (by kernel_rfl) Try.func24 rfl (by kernel_rfl) run_F_image_many_int
/-- (*odograph/image.reader).segment -/
noncomputable def F_image_reader_segment (x_1 : (List Int)) (x_2 : Bool) : Option ((Int × ((List (Int × Int)) × (List Int))) × ((List Int) × Bool)) :=
  (F_image_reader_num (8 : Int) x_1 x_2).bind fun t5_3 =>
  (F_image_reader_count (1 : Int) (64 : Int) t5_3.2.1 t5_3.2.2).bind fun t8_4 =>
  (F_image_many_grade_Piece t8_4.1 t8_4.2.1 t8_4.2.2).bind fun t11_5 =>
  (F_image_reader_count (1 : Int) (2 : Int) t11_5.2.1 t11_5.2.2).bind fun t14_6 =>
  (F_image_many_int t14_6.1 t14_6.2.1 t14_6.2.2).bind fun t17_7 =>
  let t19_8 : (Int × ((List (Int × Int)) × (List Int))) := (t5_3.1, (t11_5.1, t17_7.1))
  some (t19_8, t17_7.2.1, t17_7.2.2)
noncomputable def con_F_image_reader_segment : Con := { f := 15, ps := [.ref 0 0], boxes := [[.dat (.slice (.int .u8)), .dat .bool]], ins := (.pair (.slice (.int .u8)) .bool), nin := 2, outs := (.pair (.agg (.pair (.int .i64) (.pair (.slice (.agg (.pair (.int .i64) (.int .i64)))) (.slice (.int .i64))))) (.pair (.slice (.int .u8)) .bool)), rs := [.dat (.agg (.pair (.int .i64) (.pair (.slice (.agg (.pair (.int .i64) (.int .i64)))) (.slice (.int .i64)))))], nout := 3, F := fun x => F_image_reader_segment x.1 x.2 }
def hint_F_image_reader_segment : Hint := H0
theorem run_F_image_reader_segment : runE ⟨tdGet tys, [con_F_image_reader_num, con_F_image_reader_count, con_F_image_many_grade_Piece, con_F_image_many_int], [], [], []⟩ con_F_image_reader_segment Try.f15 hint_F_image_reader_segment = con_F_image_reader_segment.F := by
  funext x
  kernel_rfl
theorem ok_F_image_reader_segment : ConOK Try.prog con_F_image_reader_segment :=
  con_of_run (Γ := ⟨tdGet tys, [con_F_image_reader_num, con_F_image_reader_count, con_F_image_many_grade_Piece, con_F_image_many_int], [], [], []⟩) ⟨fun T d h => tysB_ok tys tys_ok T d h, by simp [ok_F_image_reader_num, ok_F_image_reader_count, ok_F_image_many_grade_Piece, ok_F_image_many_int], by simp [], by simp [], ptrs_ok Try.prog [] (by kernel_rfl)⟩ (by kernel_rfl) Try.func15 rfl (by kernel_rfl) run_F_image_reader_segment
/-- odograph/image.many[odograph/track.Segment] -/
noncomputable def F_image_many_track_Segment (n_1 : Int) (x_2 : (List Int)) (x_3 : Bool) : Option ((List (Int × ((List (Int × Int)) × (List Int)))) × ((List Int) × Bool)) :=
  Option.bind (
    loopO (X := (Bool × ((List Int) × (List (Int × ((List (Int × Int)) × (List Int))))))) (fun (s_4 : (Int × (Bool × ((List (Int × ((List (Int × Int)) × (List Int)))) × (List Int))))) =>
      let t7_5 : Int := s_4.1
      let b0_6 : Bool := s_4.2.1
      let out_7 : (List (Int × ((List (Int × Int)) × (List Int)))) := s_4.2.2.1
      let b0_8 : (List Int) := s_4.2.2.2
      (bif (decide (t7_5 < n_1)) then
        (F_image_reader_segment b0_8 b0_6).bind fun t11_9 =>
        let t12_10 : (List (Int × ((List (Int × Int)) × (List Int)))) := ([t11_9.1] : List (Int × ((List (Int × Int)) × (List Int))))
        chk none (decide ((out_7.length + t12_10.length) * 56 ≤ 140737488355328)) <|
        let t13_11 : (List (Int × ((List (Int × Int)) × (List Int)))) := (out_7 ++ t12_10)
        let t14_12 : Int := (IntKind.wrap .i64 (t7_5 + (1 : Int)))
        some (.inl (t14_12, t11_9.2.2, t13_11, t11_9.2.1))
      else
        some (.inr (b0_6, b0_8, out_7)))) ((0 : Int), x_3, [], x_2)) fun r_13 =>
  let b0_14 : Bool := r_13.1
  let b0_15 : (List Int) := r_13.2.1
  let out_16 : (List (Int × ((List (Int × Int)) × (List Int)))) := r_13.2.2
  some (out_16, b0_15, b0_14)
noncomputable def con_F_image_many_track_Segment : Con := { f := 13, ps := [.dat (.int .i64), .clo 15 [.ref 0 0] []], boxes := [[.dat (.slice (.int .u8)), .dat .bool]], ins := (.pair (.int .i64) (.pair (.slice (.int .u8)) .bool)), nin := 3, outs := (.pair (.slice (.agg (.pair (.int .i64) (.pair (.slice (.agg (.pair (.int .i64) (.int .i64)))) (.slice (.int .i64)))))) (.pair (.slice (.int .u8)) .bool)), rs := [.dat (.slice (.agg (.pair (.int .i64) (.pair (.slice (.agg (.pair (.int .i64) (.int .i64)))) (.slice (.int .i64))))))], nout := 3, F := fun x => F_image_many_track_Segment x.1 x.2.1 x.2.2 }
def hint_F_image_many_track_Segment : Hint := (.mk .plain [H0, (.mk .plain [H0, (.mk .plain [(.mk .plain [H0, (.mk .plain [(.mk (.loop [⟨.slot 7, (.int .i64), none⟩, ⟨.cell 0 1, .bool, none⟩, ⟨.slot 5, (.slice (.agg (.pair (.int .i64) (.pair (.slice (.agg (.pair (.int .i64) (.int .i64)))) (.slice (.int .i64)))))), some 1300042⟩, ⟨.cell 0 0, (.slice (.int .u8)), none⟩] [(0, 10), (0, 13), (0, 9), (0, 12), (0, 8), (0, 14), (0, 11)] [(.exit 0, [⟨.cell 0 1, .bool, none⟩, ⟨.cell 0 0, (.slice (.int .u8)), none⟩, ⟨.slot 5, (.slice (.agg (.pair (.int .i64) (.pair (.slice (.agg (.pair (.int .i64) (.int .i64)))) (.slice (.int .i64)))))), some 1300042⟩])]) [])])])])])])
theorem run_F_image_many_track_Segment : runE ⟨tdGet tys, [con_F_image_reader_segment], [], [], []⟩ con_F_image_many_track_Segment Try.f13 hint_F_image_many_track_Segment = con_F_image_many_track_Segment.F := by
  funext x
  kernel_rfl
theorem ok_F_image_many_track_Segment : ConOK Try.prog con_F_image_many_track_Segment :=
  con_of_run (Γ := ⟨tdGet tys, [con_F_image_reader_segment], [], [], []⟩) ⟨fun T d h => tysB_ok tys tys_ok T d h, by simp [ok_F_image_reader_segment], by simp [], by simp [], ptrs_ok Try.prog [] (by kernel_rfl)⟩ (by kernel_rfl) Try.func13 rfl (by kernel_rfl) run_F_image_many_track_Segment
/-- (*odograph/image.reader).group -/
noncomputable def F_image_reader_group (x_1 : (List Int)) (x_2 : Bool) : Option ((Int × (Int × (Int × (Int × Int)))) × ((List Int) × Bool)) :=
  (F_image_reader_num (2 : Int) x_1 x_2).bind fun t5_3 =>
  (F_image_reader_num (1 : Int) t5_3.2.1 t5_3.2.2).bind fun t7_4 =>
  let t8_5 : (Int × (Int × (Int × (Int × Int)))) := (t5_3.1, (t7_4.1, ((0 : Int), ((0 : Int), (0 : Int)))))
  (F_image_reader_num (8 : Int) t7_4.2.1 t7_4.2.2).bind fun t10_6 =>
  (F_image_reader_num (4 : Int) t10_6.2.1 t10_6.2.2).bind fun t13_7 =>
  (F_image_reader_num (4 : Int) t13_7.2.1 t13_7.2.2).bind fun t15_8 =>
  let t18_9 : (Int × (Int × (Int × (Int × Int)))) := (t8_5.1, (t8_5.2.1, (t10_6.1, (t13_7.1, t15_8.1))))
  some (t18_9, t15_8.2.1, t15_8.2.2)
noncomputable def con_F_image_reader_group : Con := { f := 17, ps := [.ref 0 0], boxes := [[.dat (.slice (.int .u8)), .dat .bool]], ins := (.pair (.slice (.int .u8)) .bool), nin := 2, outs := (.pair (.agg (.pair (.int .i64) (.pair (.int .i64) (.pair (.int .i64) (.pair (.int .i64) (.int .i64)))))) (.pair (.slice (.int .u8)) .bool)), rs := [.dat (.agg (.pair (.int .i64) (.pair (.int .i64) (.pair (.int .i64) (.pair (.int .i64) (.int .i64))))))], nout := 3, F := fun x => F_image_reader_group x.1 x.2 }
def hint_F_image_reader_group : Hint := H0
theorem run_F_image_reader_group : runE ⟨tdGet tys, [con_F_image_reader_num], [], [], []⟩ con_F_image_reader_group Try.f17 hint_F_image_reader_group = con_F_image_reader_group.F := by
  funext x
  kernel_rfl
theorem ok_F_image_reader_group : ConOK Try.prog con_F_image_reader_group :=
  con_of_run (Γ := ⟨tdGet tys, [con_F_image_reader_num], [], [], []⟩) ⟨fun T d h => tysB_ok tys tys_ok T d h, by simp [ok_F_image_reader_num], by simp [], by simp [], ptrs_ok Try.prog [] (by kernel_rfl)⟩ (by kernel_rfl) Try.func17 rfl (by kernel_rfl) run_F_image_reader_group
/-- odograph/image.many[odograph/track.Group] -/
noncomputable def F_image_many_track_Group (n_1 : Int) (x_2 : (List Int)) (x_3 : Bool) : Option ((List (Int × (Int × (Int × (Int × Int))))) × ((List Int) × Bool)) :=
  Option.bind (
    loopO (X := (Bool × ((List Int) × (List (Int × (Int × (Int × (Int × Int)))))))) (fun (s_4 : (Int × (Bool × ((List (Int × (Int × (Int × (Int × Int))))) × (List Int))))) =>
      let t7_5 : Int := s_4.1
      let b0_6 : Bool := s_4.2.1
      let out_7 : (List (Int × (Int × (Int × (Int × Int))))) := s_4.2.2.1
      let b0_8 : (List Int) := s_4.2.2.2
      (bif (decide (t7_5 < n_1)) then
        (F_image_reader_group b0_8 b0_6).bind fun t11_9 =>
        let t12_10 : (List (Int × (Int × (Int × (Int × Int))))) := ([t11_9.1] : List (Int × (Int × (Int × (Int × Int)))))
        chk none (decide ((out_7.length + t12_10.length) * 40 ≤ 140737488355328)) <|
        let t13_11 : (List (Int × (Int × (Int × (Int × Int))))) := (out_7 ++ t12_10)
        let t14_12 : Int := (IntKind.wrap .i64 (t7_5 + (1 : Int)))
        some (.inl (t14_12, t11_9.2.2, t13_11, t11_9.2.1))
      else
        some (.inr (b0_6, b0_8, out_7)))) ((0 : Int), x_3, [], x_2)) fun r_13 =>
  let b0_14 : Bool := r_13.1
  let b0_15 : (List Int) := r_13.2.1
  let out_16 : (List (Int × (Int × (Int × (Int × Int))))) := r_13.2.2
  some (out_16, b0_15, b0_14)
noncomputable def con_F_image_many_track_Group : Con := { f := 16, ps := [.dat (.int .i64), .clo 17 [.ref 0 0] []], boxes := [[.dat (.slice (.int .u8)), .dat .bool]], ins := (.pair (.int .i64) (.pair (.slice (.int .u8)) .bool)), nin := 3, outs := (.pair (.slice (.agg (.pair (.int .i64) (.pair (.int .i64) (.pair (.int .i64) (.pair (.int .i64) (.int .i64))))))) (.pair (.slice (.int .u8)) .bool)), rs := [.dat (.slice (.agg (.pair (.int .i64) (.pair (.int .i64) (.pair (.int .i64) (.pair (.int .i64) (.int .i64)))))))], nout := 3, F := fun x => F_image_many_track_Group x.1 x.2.1 x.2.2 }
def hint_F_image_many_track_Group : Hint := (.mk .plain [H0, (.mk .plain [H0, (.mk .plain [(.mk .plain [H0, (.mk .plain [(.mk (.loop [⟨.slot 7, (.int .i64), none⟩, ⟨.cell 0 1, .bool, none⟩, ⟨.slot 5, (.slice (.agg (.pair (.int .i64) (.pair (.int .i64) (.pair (.int .i64) (.pair (.int .i64) (.int .i64))))))), some 1300048⟩, ⟨.cell 0 0, (.slice (.int .u8)), none⟩] [(0, 10), (0, 13), (0, 9), (0, 12), (0, 8), (0, 14), (0, 11)] [(.exit 0, [⟨.cell 0 1, .bool, none⟩, ⟨.cell 0 0, (.slice (.int .u8)), none⟩, ⟨.slot 5, (.slice (.agg (.pair (.int .i64) (.pair (.int .i64) (.pair (.int .i64) (.pair (.int .i64) (.int .i64))))))), some 1300048⟩])]) [])])])])])])
theorem run_F_image_many_track_Group : runE ⟨tdGet tys, [con_F_image_reader_group], [], [], []⟩ con_F_image_many_track_Group Try.f16 hint_F_image_many_track_Group = con_F_image_many_track_Group.F := by
  funext x
  kernel_rfl
theorem ok_F_image_many_track_Group : ConOK Try.prog con_F_image_many_track_Group :=
  con_of_run (Γ := ⟨tdGet tys, [con_F_image_reader_group], [], [], []⟩) ⟨fun T d h => tysB_ok tys tys_ok T d h, by simp [ok_F_image_reader_group], by simp [], by simp [], ptrs_ok Try.prog [] (by kernel_rfl)⟩ (by kernel_rfl) Try.func16 rfl (by kernel_rfl) run_F_image_many_track_Group
/-- odograph/image.Open -/
noncomputable def F_image_Open (b_1 : (List Int)) : Option (((List (Int × ((List (Int × Int)) × (List Int)))) × (List (Int × (Int × (Int × (Int × Int)))))) × Int) :=
  let t11_2 : Bool := (decide ((1048576 : Int) < (b_1.length : Int)))
  (bif t11_2 then
    some (([], []), (15 : Int))
  else
    let t16_3 : Bool := (decide ((b_1.length : Int) < (6 : Int)))
    chk none ((true && true && (decide ((4 : Int) ≤ (b_1.length : Int)))) || !(!t16_3)) <|
    let t19_4 : (List Int) := ((b_1.take (4 : Int).toNat).drop (0 : Int).toNat)
    let t21_5 : Bool := (!((bytesOf t19_4).toList == (⟨#[79, 68, 79, 49]⟩ : ByteArray).toList))
    let t22_6 : Bool := (bif t16_3 then true else t21_5)
    (bif t22_6 then
      some (([], []), (11 : Int))
    else
      (F_crc_Sum b_1).bind fun t26_7 =>
      (bif (t26_7 != (0 : Int)) then
        some (([], []), (31 : Int))
      else
        let t32_8 : Int := (IntKind.wrap .i64 ((b_1.length : Int) - (2 : Int)))
        chk none (true && (decide ((4 : Int) ≤ t32_8)) && (decide (t32_8 ≤ (b_1.length : Int)))) <|
        let t33_9 : (List Int) := ((b_1.take t32_8.toNat).drop (4 : Int).toNat)
        (F_image_reader_count (2 : Int) (200 : Int) ((t33_9, false).1) ((t33_9, false).2)).bind fun t37_10 =>
        (F_image_many_track_Segment t37_10.1 t37_10.2.1 t37_10.2.2).bind fun t40_11 =>
        (F_image_reader_count (2 : Int) (400 : Int) t40_11.2.1 t40_11.2.2).bind fun t43_12 =>
        (F_image_many_track_Group t43_12.1 t43_12.2.1 t43_12.2.2).bind fun t46_13 =>
        let t57_14 : Int := (t46_13.2.1.length : Int)
        let t58_15 : Bool := (decide ((0 : Int) < t57_14))
        let t59_16 : Bool := (bif t46_13.2.2 then true else t58_15)
        (bif t59_16 then
          some (([], []), (14 : Int))
        else
          (F_track_Track_Check (t40_11.1, t46_13.1)).bind fun t63_17 =>
          (bif (t63_17.1 != (0 : Int)) then
            some (([], []), (51 : Int))
          else
            let w_18 : ((List (Int × ((List (Int × Int)) × (List Int)))) × (List (Int × (Int × (Int × (Int × Int)))))) := (t40_11.1, t46_13.1)
            some (w_18, (0 : Int)))))))
noncomputable def con_F_image_Open : Con := { f := 7, ps := [.dat (.slice (.int .u8))], boxes := [], ins := (.slice (.int .u8)), nin := 1, outs := (.pair (.agg (.pair (.slice (.agg (.pair (.int .i64) (.pair (.slice (.agg (.pair (.int .i64) (.int .i64)))) (.slice (.int .i64)))))) (.slice (.agg (.pair (.int .i64) (.pair (.int .i64) (.pair (.int .i64) (.pair (.int .i64) (.int .i64))))))))) (.int .i64)), rs := [.dat (.agg (.pair (.slice (.agg (.pair (.int .i64) (.pair (.slice (.agg (.pair (.int .i64) (.int .i64)))) (.slice (.int .i64)))))) (.slice (.agg (.pair (.int .i64) (.pair (.int .i64) (.pair (.int .i64) (.pair (.int .i64) (.int .i64))))))))), .dat (.int .i64)], nout := 2, F := fun x => F_image_Open x }
def hint_F_image_Open : Hint := H0
theorem run_F_image_Open : runE ⟨tdGet tys, [con_F_crc_Sum, con_F_image_reader_count, con_F_image_many_track_Segment, con_F_image_many_track_Group, con_F_track_Track_Check], [], [], []⟩ con_F_image_Open Try.f7 hint_F_image_Open = con_F_image_Open.F := by
  funext x
  kernel_rfl
theorem ok_F_image_Open : ConOK Try.prog con_F_image_Open :=
  con_of_run (Γ := ⟨tdGet tys, [con_F_crc_Sum, con_F_image_reader_count, con_F_image_many_track_Segment, con_F_image_many_track_Group, con_F_track_Track_Check], [], [], []⟩) ⟨fun T d h => tysB_ok tys tys_ok T d h, by simp [ok_F_crc_Sum, ok_F_image_reader_count, ok_F_image_many_track_Segment, ok_F_image_many_track_Group, ok_F_track_Track_Check], by simp [], by simp [], ptrs_ok Try.prog [] (by kernel_rfl)⟩ (by kernel_rfl) Try.func7 rfl (by kernel_rfl) run_F_image_Open
/-- odograph/odographlaw12.same -/
noncomputable def F_law12_same (a_1 : ((List (Int × ((List (Int × Int)) × (List Int)))) × (List (Int × (Int × (Int × (Int × Int))))))) (b_2 : ((List (Int × ((List (Int × Int)) × (List Int)))) × (List (Int × (Int × (Int × (Int × Int))))))) : Option Bool :=
  let t18_3 : Bool := ((a_1.1.length : Int) != (b_2.1.length : Int))
  let t26_4 : Bool := ((a_1.2.length : Int) != (b_2.2.length : Int))
  let t27_5 : Bool := (bif t18_3 then true else t26_4)
  (bif t27_5 then
    some false
  else
    Option.bind (α := Bool ⊕ Unit) (
      loopO (X := Bool ⊕ Unit) (fun (s_6 : Int) =>
        let t32_7 : Bool := (decide (s_6 < (a_1.1.length : Int)))
        (bif t32_7 then
          chk none ((decide ((0 : Int) ≤ s_6)) && (decide (s_6 < (a_1.1.length : Int)))) <|
          let t35_8 : (Int × ((List (Int × Int)) × (List Int))) := (a_1.1.getD s_6.toNat ((0 : Int), ([], [])))
          chk none ((decide ((0 : Int) ≤ s_6)) && (decide (s_6 < (b_2.1.length : Int)))) <|
          let t40_9 : (Int × ((List (Int × Int)) × (List Int))) := (b_2.1.getD s_6.toNat ((0 : Int), ([], [])))
          let t53_10 : Bool := ((t35_8.2.1.length : Int) != (t40_9.2.1.length : Int))
          let t54_11 : Bool := (bif (t35_8.1 != t40_9.1) then true else t53_10)
          let t62_12 : Bool := ((t35_8.2.2.length : Int) != (t40_9.2.2.length : Int))
          let t63_13 : Bool := (bif t54_11 then true else t62_12)
          (bif t63_13 then
            some (.inr (.inl false))
          else
            Option.bind (α := Bool ⊕ Unit) (
              loopO (X := Bool ⊕ Unit) (fun (s_14 : Int) =>
                let t68_15 : Bool := (decide (s_14 < (t35_8.2.1.length : Int)))
                (bif t68_15 then
                  chk none ((decide ((0 : Int) ≤ s_14)) && (decide (s_14 < (t35_8.2.1.length : Int)))) <|
                  let t74_16 : (Int × Int) := (t35_8.2.1.getD s_14.toNat ((0 : Int), (0 : Int)))
                  chk none ((decide ((0 : Int) ≤ s_14)) && (decide (s_14 < (t40_9.2.1.length : Int)))) <|
                  let t79_17 : (Int × Int) := (t40_9.2.1.getD s_14.toNat ((0 : Int), (0 : Int)))
                  let t80_18 : Bool := (!(eqT (.agg (.pair (.int .i64) (.int .i64))) t74_16 t79_17))
                  (bif t80_18 then
                    some (.inr (.inl false))
                  else
                    let t81_19 : Int := (IntKind.wrap .i64 (s_14 + (1 : Int)))
                    some (.inl t81_19))
                else
                  some (.inr (.inr ())))) (0 : Int)) fun z => match z with
            | .inl r_20 =>
              some (.inr (.inl r_20))
            | .inr _ =>
              Option.bind (α := Bool ⊕ Unit) (
                loopO (X := Bool ⊕ Unit) (fun (s_21 : Int) =>
                  let t86_22 : Bool := (decide (s_21 < (t35_8.2.2.length : Int)))
                  (bif t86_22 then
                    chk none ((decide ((0 : Int) ≤ s_21)) && (decide (s_21 < (t35_8.2.2.length : Int)))) <|
                    let t92_23 : Int := (t35_8.2.2.getD s_21.toNat (0 : Int))
                    chk none ((decide ((0 : Int) ≤ s_21)) && (decide (s_21 < (t40_9.2.2.length : Int)))) <|
                    let t97_24 : Int := (t40_9.2.2.getD s_21.toNat (0 : Int))
                    (bif (t92_23 != t97_24) then
                      some (.inr (.inl false))
                    else
                      let t99_25 : Int := (IntKind.wrap .i64 (s_21 + (1 : Int)))
                      some (.inl t99_25))
                  else
                    some (.inr (.inr ())))) (0 : Int)) fun z => match z with
              | .inl r_26 =>
                some (.inr (.inl r_26))
              | .inr _ =>
                let t100_27 : Int := (IntKind.wrap .i64 (s_6 + (1 : Int)))
                some (.inl t100_27))
        else
          some (.inr (.inr ())))) (0 : Int)) fun z => match z with
    | .inl r_28 =>
      some r_28
    | .inr _ =>
      Option.bind (α := Bool ⊕ Unit) (
        loopO (X := Bool ⊕ Unit) (fun (s_29 : Int) =>
          let t105_30 : Bool := (decide (s_29 < (a_1.2.length : Int)))
          (bif t105_30 then
            chk none ((decide ((0 : Int) ≤ s_29)) && (decide (s_29 < (a_1.2.length : Int)))) <|
            let t108_31 : (Int × (Int × (Int × (Int × Int)))) := (a_1.2.getD s_29.toNat ((0 : Int), ((0 : Int), ((0 : Int), ((0 : Int), (0 : Int))))))
            chk none ((decide ((0 : Int) ≤ s_29)) && (decide (s_29 < (b_2.2.length : Int)))) <|
            let t114_32 : (Int × (Int × (Int × (Int × Int)))) := (b_2.2.getD s_29.toNat ((0 : Int), ((0 : Int), ((0 : Int), ((0 : Int), (0 : Int))))))
            let t115_33 : Bool := (!(eqT (.agg (.pair (.int .i64) (.pair (.int .i64) (.pair (.int .i64) (.pair (.int .i64) (.int .i64)))))) t108_31 t114_32))
            (bif t115_33 then
              some (.inr (.inl false))
            else
              let t116_34 : Int := (IntKind.wrap .i64 (s_29 + (1 : Int)))
              some (.inl t116_34))
          else
            some (.inr (.inr ())))) (0 : Int)) fun z => match z with
      | .inl r_35 =>
        some r_35
      | .inr _ =>
        some true)
noncomputable def con_F_law12_same : Con := { f := 8, ps := [.dat (.agg (.pair (.slice (.agg (.pair (.int .i64) (.pair (.slice (.agg (.pair (.int .i64) (.int .i64)))) (.slice (.int .i64)))))) (.slice (.agg (.pair (.int .i64) (.pair (.int .i64) (.pair (.int .i64) (.pair (.int .i64) (.int .i64))))))))), .dat (.agg (.pair (.slice (.agg (.pair (.int .i64) (.pair (.slice (.agg (.pair (.int .i64) (.int .i64)))) (.slice (.int .i64)))))) (.slice (.agg (.pair (.int .i64) (.pair (.int .i64) (.pair (.int .i64) (.pair (.int .i64) (.int .i64)))))))))], boxes := [], ins := (.pair (.agg (.pair (.slice (.agg (.pair (.int .i64) (.pair (.slice (.agg (.pair (.int .i64) (.int .i64)))) (.slice (.int .i64)))))) (.slice (.agg (.pair (.int .i64) (.pair (.int .i64) (.pair (.int .i64) (.pair (.int .i64) (.int .i64))))))))) (.agg (.pair (.slice (.agg (.pair (.int .i64) (.pair (.slice (.agg (.pair (.int .i64) (.int .i64)))) (.slice (.int .i64)))))) (.slice (.agg (.pair (.int .i64) (.pair (.int .i64) (.pair (.int .i64) (.pair (.int .i64) (.int .i64)))))))))), nin := 2, outs := .bool, rs := [.dat .bool], nout := 1, F := fun x => F_law12_same x.1 x.2 }
def hint_F_law12_same : Hint := (.mk .plain [H0, (.mk .plain [H0, (.mk .plain [(.mk .plain [H0, (.mk .plain [(.mk (.loop [⟨.slot 31, (.int .i64), none⟩] [(0, 36), (0, 42), (0, 39), (0, 45), (0, 48), (0, 54), (0, 51), (0, 57), (0, 60), (0, 5), (0, 63), (0, 35), (0, 32), (0, 38), (0, 41), (0, 47), (0, 44), (0, 50), (0, 53), (0, 59), (0, 56), (0, 62), (0, 7), (0, 4), (0, 34), (0, 40), (0, 37), (0, 43), (0, 46), (0, 52), (0, 49), (0, 55), (0, 61), (0, 58), (0, 6), (0, 33), (0, 66), (0, 69), (0, 8), (0, 72), (0, 78), (0, 75), (0, 81), (0, 68), (0, 65), (0, 71), (0, 74), (0, 80), (0, 77), (0, 64), (0, 67), (0, 73), (0, 70), (0, 76), (0, 79), (0, 91), (0, 87), (0, 84), (0, 93), (0, 86), (0, 95), (0, 9), (0, 88), (0, 97), (0, 94), (0, 90), (0, 99), (0, 96), (0, 83), (0, 92), (0, 89), (0, 98), (0, 85), (0, 82), (0, 100)] [(.ret, [⟨.slot 4, .bool, none⟩]), (.exit 0, [])]) [(.mk .plain [H0, (.mk .plain [H0, (.mk .plain [(.mk .plain [(.mk .plain [H0, (.mk .plain [H0, (.mk .plain [H0, (.mk .plain [(.mk .plain [H0, (.mk .plain [(.mk (.loop [⟨.slot 67, (.int .i64), none⟩] [(0, 68), (0, 75), (0, 4), (0, 71), (0, 74), (0, 80), (0, 77), (0, 73), (0, 70), (0, 76), (0, 79), (0, 69), (0, 8), (0, 72), (0, 78), (0, 81)] [(.ret, [⟨.slot 4, .bool, none⟩]), (.exit 2, [])]) [])])]), (.mk .plain [H0, (.mk .plain [(.mk (.loop [⟨.slot 85, (.int .i64), none⟩] [(0, 91), (0, 97), (0, 87), (0, 4), (0, 94), (0, 90), (0, 93), (0, 9), (0, 96), (0, 86), (0, 92), (0, 89), (0, 95), (0, 98), (0, 88), (0, 99)] [(.ret, [⟨.slot 4, .bool, none⟩]), (.exit 4, [])]) [])])])])])])])])])])])])])]), (.mk .plain [(.mk .plain [H0, (.mk .plain [(.mk (.loop [⟨.slot 104, (.int .i64), none⟩] [(0, 4), (0, 106), (0, 10), (0, 109), (0, 112), (0, 115), (0, 11), (0, 107), (0, 113), (0, 110), (0, 105), (0, 111), (0, 108), (0, 114), (0, 116)] [(.ret, [⟨.slot 4, .bool, none⟩]), (.exit 6, [])]) [])])])])])])])
theorem run_F_law12_same : runE ⟨tdGet tys, [], [], [], []⟩ con_F_law12_same Try.f8 hint_F_law12_same = con_F_law12_same.F := by
  funext x
  kernel_rfl
theorem ok_F_law12_same : ConOK Try.prog con_F_law12_same :=
  con_of_run (Γ := ⟨tdGet tys, [], [], [], []⟩) ⟨fun T d h => tysB_ok tys tys_ok T d h, by simp [], by simp [], by simp [], ptrs_ok Try.prog [] (by kernel_rfl)⟩ (by kernel_rfl) Try.func8 rfl (by kernel_rfl) run_F_law12_same
/-- odograph/odographlaw12.anchor -/
noncomputable def F_law12_anchor (_ : Unit) : Option Bool :=
  let t7_1 : (List (Int × Int)) := ([((0 : Int), (0 : Int))] : List (Int × Int))
  let t9_2 : (List (Int × ((List (Int × Int)) × (List Int)))) := ([((1 : Int), (t7_1, []))] : List (Int × ((List (Int × Int)) × (List Int))))
  (F_image_Pack (t9_2, [])).bind fun t13_3 =>
  (F_image_Open t13_3.1).bind fun t18_4 =>
  let t26_5 : Bool := (bif (t13_3.2 == (0 : Int)) then (t18_4.2 == (0 : Int)) else false)
  let t30_6 : Bool := ((t13_3.1.length : Int) == (32 : Int))
  let t31_7 : Bool := (bif t26_5 then t30_6 else false)
  (bif t31_7 then F_law12_same (t9_2, []) t18_4.1 else some false).bind fun t35_8 =>
  let t36_9 : Bool := (bif t31_7 then t35_8 else false)
  some t36_9
noncomputable def con_F_law12_anchor : Con := { f := 4, ps := [], boxes := [], ins := .unit, nin := 0, outs := .bool, rs := [.dat .bool], nout := 1, F := fun x => F_law12_anchor () }
def hint_F_law12_anchor : Hint := H0
theorem run_F_law12_anchor : runE ⟨tdGet tys, [con_F_image_Pack, con_F_image_Open, con_F_law12_same], [], [], []⟩ con_F_law12_anchor Try.f4 hint_F_law12_anchor = con_F_law12_anchor.F := by
  funext x
  kernel_rfl
theorem ok_F_law12_anchor : ConOK Try.prog con_F_law12_anchor :=
  con_of_run (Γ := ⟨tdGet tys, [con_F_image_Pack, con_F_image_Open, con_F_law12_same], [], [], []⟩) ⟨fun T d h => tysB_ok tys tys_ok T d h, by simp [ok_F_image_Pack, ok_F_image_Open, ok_F_law12_same], by simp [], by simp [], ptrs_ok Try.prog [] (by kernel_rfl)⟩ (by kernel_rfl) Try.func4 rfl (by kernel_rfl) run_F_law12_anchor
/-- odograph/odographlaw12.great -/
noncomputable def F_law12_great (t_1 : ((List (Int × ((List (Int × Int)) × (List Int)))) × (List (Int × (Int × (Int × (Int × Int))))))) : Option Bool :=
  let t12_2 : Int := (IntKind.wrap .i64 ((t_1.1.length : Int) + (t_1.2.length : Int)))
  let t14_3 : Bool := (decide ((700 : Int) < t12_2))
  (bif t14_3 then
    some true
  else
    Option.bind (α := Bool ⊕ Unit) (
      loopO (X := Bool ⊕ Unit) (fun (s_4 : (Int × Int)) =>
        let n_5 : Int := s_4.1
        let t18_6 : Int := s_4.2
        let t19_7 : Bool := (decide (t18_6 < (t_1.1.length : Int)))
        (bif t19_7 then
          chk none ((decide ((0 : Int) ≤ t18_6)) && (decide (t18_6 < (t_1.1.length : Int)))) <|
          let t21_8 : (Int × ((List (Int × Int)) × (List Int))) := (t_1.1.getD t18_6.toNat ((0 : Int), ([], [])))
          let t29_9 : Int := (IntKind.wrap .i64 ((t21_8.2.1.length : Int) + (t21_8.2.2.length : Int)))
          let t30_10 : Int := (IntKind.wrap .i64 (n_5 + t29_9))
          let t32_11 : Bool := (decide ((3000 : Int) < t30_10))
          (bif t32_11 then
            some (.inr (.inl true))
          else
            let t33_12 : Int := (IntKind.wrap .i64 (t18_6 + (1 : Int)))
            some (.inl (t30_10, t33_12)))
        else
          some (.inr (.inr ())))) (t12_2, (0 : Int))) fun z => match z with
    | .inl r_13 =>
      some r_13
    | .inr _ =>
      some false)
noncomputable def con_F_law12_great : Con := { f := 5, ps := [.dat (.agg (.pair (.slice (.agg (.pair (.int .i64) (.pair (.slice (.agg (.pair (.int .i64) (.int .i64)))) (.slice (.int .i64)))))) (.slice (.agg (.pair (.int .i64) (.pair (.int .i64) (.pair (.int .i64) (.pair (.int .i64) (.int .i64)))))))))], boxes := [], ins := (.agg (.pair (.slice (.agg (.pair (.int .i64) (.pair (.slice (.agg (.pair (.int .i64) (.int .i64)))) (.slice (.int .i64)))))) (.slice (.agg (.pair (.int .i64) (.pair (.int .i64) (.pair (.int .i64) (.pair (.int .i64) (.int .i64))))))))), nin := 1, outs := .bool, rs := [.dat .bool], nout := 1, F := fun x => F_law12_great x }
def hint_F_law12_great : Hint := (.mk .plain [H0, (.mk .plain [H0, (.mk .plain [H0, (.mk .plain [(.mk .plain [H0, (.mk .plain [(.mk (.loop [⟨.slot 3, (.int .i64), none⟩, ⟨.slot 18, (.int .i64), none⟩] [(0, 30), (0, 19), (0, 22), (0, 28), (0, 2), (0, 25), (0, 31), (0, 5), (0, 23), (0, 20), (0, 26), (0, 29), (0, 32), (0, 21), (0, 24), (0, 27), (0, 33)] [(.ret, [⟨.slot 2, .bool, none⟩]), (.exit 0, [])]) [])])])])])])])
theorem run_F_law12_great : runE ⟨tdGet tys, [], [], [], []⟩ con_F_law12_great Try.f5 hint_F_law12_great = con_F_law12_great.F := by
  funext x
  kernel_rfl
theorem ok_F_law12_great : ConOK Try.prog con_F_law12_great :=
  con_of_run (Γ := ⟨tdGet tys, [], [], [], []⟩) ⟨fun T d h => tysB_ok tys tys_ok T d h, by simp [], by simp [], by simp [], ptrs_ok Try.prog [] (by kernel_rfl)⟩ (by kernel_rfl) Try.func5 rfl (by kernel_rfl) run_F_law12_great
/-- odograph/odographlaw12.ImageTurned -/
noncomputable def F_law12_ImageTurned (t_1 : ((List (Int × ((List (Int × Int)) × (List Int)))) × (List (Int × (Int × (Int × (Int × Int))))))) (at_2 : Int) (turned_3 : Int) : Option Bool :=
  (F_law12_anchor ()).bind fun t13_4 =>
  (bif (!t13_4) then
    some false
  else
    (F_law12_great t_1).bind fun t16_5 =>
    let t20_6 : Bool := (bif t16_5 then true else (turned_3 == (0 : Int)))
    (bif t20_6 then
      some true
    else
      (F_image_Pack t_1).bind fun t23_7 =>
      let t31_8 : Bool := (decide ((t23_7.1.length : Int) < (32 : Int)))
      let t32_9 : Bool := (bif (t23_7.2 != (0 : Int)) then true else t31_8)
      let t35_10 : Bool := (decide (at_2 < (0 : Int)))
      let t36_11 : Bool := (bif t32_9 then true else t35_10)
      let t41_12 : Int := (IntKind.wrap .i64 ((8 : Int) * (t23_7.1.length : Int)))
      let t42_13 : Int := (IntKind.wrap .i64 (t41_12 - (16 : Int)))
      let t44_14 : Bool := (bif t36_11 then true else (decide (t42_13 < at_2)))
      (bif t44_14 then
        some true
      else
        chk none (decide ((([] : List Int).length + t23_7.1.length) * 1 ≤ 140737488355328)) <|
        let t47_15 : (List Int) := (([] : List Int) ++ t23_7.1)
        Option.bind (
          loopO (X := (List Int)) (fun (s_16 : (Int × (List Int))) =>
            let t48_17 : Int := s_16.1
            let c_18 : (List Int) := s_16.2
            let t49_19 : Bool := (decide (t48_17 < (16 : Int)))
            (bif t49_19 then
              let t53_20 : Int := (IntKind.wrap .i64 ((15 : Int) - t48_17))
              let t54_21 : Int := (IntKind.wrap .u64 t53_20)
              chk none (decide ((0 : Int) ≤ t54_21)) <|
              let t55_22 : Int := (turned_3.fdiv (2 ^ (min t54_21.toNat 16)))
              let t56_23 : Int := (bits .u16 .and t55_22 (1 : Int))
              Option.bind (
                (bif (t56_23 == (1 : Int)) then
                  let t61_24 : Int := (IntKind.wrap .i64 (at_2 + t48_17))
                  let t62_25 : Int := (IntKind.wrap .i64 (t61_24.tdiv (8 : Int)))
                  chk none ((decide ((0 : Int) ≤ t62_25)) && (decide (t62_25 < (c_18.length : Int)))) <|
                  let t67_26 : Int := (IntKind.wrap .i64 (at_2 + t48_17))
                  let t69_27 : Int := (IntKind.wrap .u64 (t67_26.tmod (8 : Int)))
                  chk none (decide ((0 : Int) ≤ t69_27)) <|
                  let t70_28 : Int := ((128 : Int).fdiv (2 ^ (min t69_27.toNat 8)))
                  let t71_29 : Int := (bits .u8 .xor (c_18.getD t62_25.toNat (0 : Int)) t70_28)
                  chk none ((decide ((0 : Int) ≤ t62_25)) && (decide (t62_25 < (c_18.length : Int)))) <|
                  let l_30 : (List Int) := (c_18.set t62_25.toNat t71_29)
                  let l_31 : (List Int) := (bif Nat.beq c_18.length l_30.length then l_30 else [])
                  some l_31
                else
                  some c_18)) fun r_32 =>
              let t73_33 : Int := (IntKind.wrap .i64 (t48_17 + (1 : Int)))
              some (.inl (t73_33, r_32))
            else
              some (.inr c_18))) ((0 : Int), t47_15)) fun r_34 =>
        (F_image_Open r_34).bind fun t76_35 =>
        let t84_36 : Bool := (bif (t76_35.2 == (31 : Int)) then true else (t76_35.2 == (11 : Int)))
        some t84_36)))
noncomputable def con_F_law12_ImageTurned : Con := { f := 3, ps := [.dat (.agg (.pair (.slice (.agg (.pair (.int .i64) (.pair (.slice (.agg (.pair (.int .i64) (.int .i64)))) (.slice (.int .i64)))))) (.slice (.agg (.pair (.int .i64) (.pair (.int .i64) (.pair (.int .i64) (.pair (.int .i64) (.int .i64))))))))), .dat (.int .i64), .dat (.int .u16)], boxes := [], ins := (.pair (.agg (.pair (.slice (.agg (.pair (.int .i64) (.pair (.slice (.agg (.pair (.int .i64) (.int .i64)))) (.slice (.int .i64)))))) (.slice (.agg (.pair (.int .i64) (.pair (.int .i64) (.pair (.int .i64) (.pair (.int .i64) (.int .i64))))))))) (.pair (.int .i64) (.int .u16))), nin := 3, outs := .bool, rs := [.dat .bool], nout := 1, F := fun x => F_law12_ImageTurned x.1 x.2.1 x.2.2 }
def hint_F_law12_ImageTurned : Hint := (.mk .plain [H0, (.mk .plain [H0, (.mk .plain [H0, (.mk .plain [H0, (.mk .plain [H0, (.mk .plain [H0, (.mk .plain [(.mk .plain [H0, (.mk .plain [(.mk (.loop [⟨.slot 48, (.int .i64), none⟩, ⟨.slot 9, (.slice (.int .u8)), some 4750005⟩] [(0, 68), (0, 65), (0, 71), (0, 10), (0, 54), (0, 51), (0, 57), (0, 60), (0, 66), (0, 63), (0, 69), (0, 72), (0, 52), (0, 49), (0, 55), (0, 61), (0, 58), (0, 64), (0, 67), (0, 73), (0, 70), (0, 47), (0, 50), (0, 53), (0, 59), (0, 56), (0, 62)] [(.exit 0, [⟨.slot 9, (.slice (.int .u8)), some 4750005⟩])]) [(.mk .plain [H0, (.mk .plain [H0, (.mk .plain [(.mk .plain [(.mk .plain [H0, (.mk .plain [H0, (.mk (.join [(0, 68), (0, 65), (0, 71), (0, 60), (0, 66), (0, 63), (0, 69), (0, 72), (0, 61), (0, 58), (0, 64), (0, 67), (0, 70), (0, 47), (0, 59), (0, 62)] [(.normal, [⟨.slot 9, (.slice (.int .u8)), some 4750005⟩])]) [])])])])])])])])])])])])])])])])])
theorem run_F_law12_ImageTurned : runE ⟨tdGet tys, [con_F_law12_anchor, con_F_law12_great, con_F_image_Pack, con_F_image_Open], [], [], []⟩ con_F_law12_ImageTurned Try.f3 hint_F_law12_ImageTurned = con_F_law12_ImageTurned.F := by
  funext x
  kernel_rfl
theorem ok_F_law12_ImageTurned : ConOK Try.prog con_F_law12_ImageTurned :=
  con_of_run (Γ := ⟨tdGet tys, [con_F_law12_anchor, con_F_law12_great, con_F_image_Pack, con_F_image_Open], [], [], []⟩) ⟨fun T d h => tysB_ok tys tys_ok T d h, by simp [ok_F_law12_anchor, ok_F_law12_great, ok_F_image_Pack, ok_F_image_Open], by simp [], by simp [], ptrs_ok Try.prog [] (by kernel_rfl)⟩ (by kernel_rfl) Try.func3 rfl (by kernel_rfl) run_F_law12_ImageTurned
end Go.Proofs.Ytomkodhihiloiaa
