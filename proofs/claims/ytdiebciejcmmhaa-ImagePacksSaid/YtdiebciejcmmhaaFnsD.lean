/- The functional reading of the code (printed). -/
import Derived.Test.YtdiebciejcmmhaaTysD
set_option linter.unusedSimpArgs false
set_option linter.unusedVariables false
namespace Go.Proofs.Ytdiebciejcmmhaa
open Go
/-- odograph/grade.Check -/
noncomputable def F_grade_Check (l_1 : (List (Int × Int))) (length_2 : Int) : Option Int :=
  let t9_3 : Bool := ((l_1.length : Int) == (0 : Int))
  let t13_4 : Bool := (decide ((64 : Int) < (l_1.length : Int)))
  let t14_5 : Bool := (bif t9_3 then true else t13_4)
  chk none ((true && (decide ((0 : Int) < (l_1.length : Int)))) || !(!t14_5)) <|
  let e_6 : (Int × Int) := (l_1.getD (0 : Int).toNat ((0 : Int), (0 : Int)))
  let t21_7 : Bool := (bif t14_5 then true else (e_6.1 != (0 : Int)))
  (bif t21_7 then
    some (11 : Int)
  else
    Option.bind (α := Int ⊕ Unit) (
      loopO (X := Int ⊕ Unit) (fun (s_8 : Int) =>
        let t25_9 : Bool := (decide (s_8 < (l_1.length : Int)))
        (bif t25_9 then
          chk none ((decide ((0 : Int) ≤ s_8)) && (decide (s_8 < (l_1.length : Int)))) <|
          let t28_10 : (Int × Int) := (l_1.getD s_8.toNat ((0 : Int), (0 : Int)))
          let t31_11 : Bool := (decide (t28_10.2 < (-1048576 : Int)))
          let t35_12 : Bool := (decide ((1048576 : Int) < t28_10.2))
          let t36_13 : Bool := (bif t31_11 then true else t35_12)
          let t41_14 : Bool := (decide (length_2 ≤ t28_10.1))
          let t42_15 : Bool := (bif t36_13 then true else t41_14)
          let t45_16 : Bool := (decide ((0 : Int) < s_8))
          let t51_17 : Int := (IntKind.wrap .i64 (s_8 - (1 : Int)))
          chk none (((decide ((0 : Int) ≤ t51_17)) && (decide (t51_17 < (l_1.length : Int)))) || !(t45_16 && !t42_15)) <|
          let e_18 : (Int × Int) := (l_1.getD t51_17.toNat ((0 : Int), (0 : Int)))
          let t55_19 : Bool := (decide (t28_10.1 ≤ e_18.1))
          let t56_20 : Bool := (bif t45_16 then t55_19 else false)
          let t57_21 : Bool := (bif t42_15 then true else t56_20)
          (bif t57_21 then
            some (.inr (.inl (11 : Int)))
          else
            let t58_22 : Int := (IntKind.wrap .i64 (s_8 + (1 : Int)))
            some (.inl t58_22))
        else
          some (.inr (.inr ())))) (0 : Int)) fun z => match z with
    | .inl r_23 =>
      some r_23
    | .inr _ =>
      some (0 : Int))
noncomputable def con_F_grade_Check : Con := { f := 42, ps := [.dat (.slice (.agg (.pair (.int .i64) (.int .i64)))), .dat (.int .i64)], boxes := [], ins := (.pair (.slice (.agg (.pair (.int .i64) (.int .i64)))) (.int .i64)), nin := 2, outs := (.int .i64), rs := [.dat (.int .i64)], nout := 1, F := fun x => F_grade_Check x.1 x.2 }
def hint_F_grade_Check : Hint := (.mk .plain [H0, (.mk .plain [H0, (.mk .plain [(.mk .plain [H0, (.mk .plain [(.mk (.loop [⟨.slot 24, (.int .i64), none⟩] [(0, 30), (0, 36), (0, 42), (0, 39), (0, 45), (0, 48), (0, 54), (0, 51), (0, 57), (0, 5), (0, 26), (0, 29), (0, 35), (0, 32), (0, 38), (0, 41), (0, 47), (0, 44), (0, 50), (0, 53), (0, 56), (0, 4), (0, 28), (0, 25), (0, 31), (0, 34), (0, 40), (0, 37), (0, 43), (0, 46), (0, 52), (0, 49), (0, 55), (0, 6), (0, 27), (0, 33), (0, 58)] [(.ret, [⟨.slot 4, (.int .i64), none⟩]), (.exit 0, [])]) [])])])])])])
theorem run_F_grade_Check : runE ⟨tdGet tys, [], [], []⟩ con_F_grade_Check Try.f42 hint_F_grade_Check = con_F_grade_Check.F := by
  funext x
  kernel_rfl
theorem ok_F_grade_Check : ConOK Try.prog con_F_grade_Check :=
  con_of_run (Γ := ⟨tdGet tys, [], [], []⟩) ⟨fun T d h => tysB_ok tys tys_ok T d h, by simp [], by simp [], by simp []⟩ (by kernel_rfl) Try.func42 rfl (by kernel_rfl) run_F_grade_Check
/-- (odograph/track.Track).segment -/
noncomputable def F_track_Track_segment (t_1 : ((List (Int × ((List (Int × Int)) × (List Int)))) × (List (Int × (Int × (Int × (Int × Int))))))) (s_2 : (Int × ((List (Int × Int)) × (List Int)))) : Option Bool :=
  let t9_3 : Bool := (decide (s_2.1 < (1 : Int)))
  let t13_4 : Bool := (decide ((1099511627776 : Int) < s_2.1))
  let t14_5 : Bool := (bif t9_3 then true else t13_4)
  (bif !t14_5 then F_grade_Check s_2.2.1 s_2.1 else some (0 : Int)).bind fun t20_6 =>
  let t22_7 : Bool := (bif t14_5 then true else (t20_6 != (0 : Int)))
  let t27_8 : Bool := (decide ((2 : Int) < (s_2.2.2.length : Int)))
  let t28_9 : Bool := (bif t22_7 then true else t27_8)
  (bif t28_9 then
    some false
  else
    Option.bind (α := Bool ⊕ Unit) (
      loopO (X := Bool ⊕ Unit) (fun (s_10 : Int) =>
        let t33_11 : Bool := (decide (s_10 < (s_2.2.2.length : Int)))
        (bif t33_11 then
          chk none ((decide ((0 : Int) ≤ s_10)) && (decide (s_10 < (s_2.2.2.length : Int)))) <|
          let t36_12 : Int := (s_2.2.2.getD s_10.toNat (0 : Int))
          let t38_13 : Bool := (decide (t36_12 < (0 : Int)))
          let t44_14 : Bool := (decide ((t_1.1.length : Int) ≤ t36_12))
          let t45_15 : Bool := (bif t38_13 then true else t44_14)
          let t48_16 : Bool := (decide ((0 : Int) < s_10))
          let t54_17 : Int := (IntKind.wrap .i64 (s_10 - (1 : Int)))
          chk none (((decide ((0 : Int) ≤ t54_17)) && (decide (t54_17 < (s_2.2.2.length : Int)))) || !(t48_16 && !t45_15)) <|
          let t56_18 : Int := (s_2.2.2.getD t54_17.toNat (0 : Int))
          let t57_19 : Bool := (decide (t36_12 ≤ t56_18))
          let t58_20 : Bool := (bif t48_16 then t57_19 else false)
          let t59_21 : Bool := (bif t45_15 then true else t58_20)
          (bif t59_21 then
            some (.inr (.inl false))
          else
            let t60_22 : Int := (IntKind.wrap .i64 (s_10 + (1 : Int)))
            some (.inl t60_22))
        else
          some (.inr (.inr ())))) (0 : Int)) fun z => match z with
    | .inl r_23 =>
      some r_23
    | .inr _ =>
      some true)
noncomputable def con_F_track_Track_segment : Con := { f := 31, ps := [.dat (.agg (.pair (.slice (.agg (.pair (.int .i64) (.pair (.slice (.agg (.pair (.int .i64) (.int .i64)))) (.slice (.int .i64)))))) (.slice (.agg (.pair (.int .i64) (.pair (.int .i64) (.pair (.int .i64) (.pair (.int .i64) (.int .i64))))))))), .dat (.agg (.pair (.int .i64) (.pair (.slice (.agg (.pair (.int .i64) (.int .i64)))) (.slice (.int .i64)))))], boxes := [], ins := (.pair (.agg (.pair (.slice (.agg (.pair (.int .i64) (.pair (.slice (.agg (.pair (.int .i64) (.int .i64)))) (.slice (.int .i64)))))) (.slice (.agg (.pair (.int .i64) (.pair (.int .i64) (.pair (.int .i64) (.pair (.int .i64) (.int .i64))))))))) (.agg (.pair (.int .i64) (.pair (.slice (.agg (.pair (.int .i64) (.int .i64)))) (.slice (.int .i64)))))), nin := 2, outs := .bool, rs := [.dat .bool], nout := 1, F := fun x => F_track_Track_segment x.1 x.2 }
def hint_F_track_Track_segment : Hint := (.mk .plain [H0, (.mk .plain [H0, (.mk .plain [(.mk .plain [H0, (.mk .plain [(.mk (.loop [⟨.slot 32, (.int .i64), none⟩] [(0, 36), (0, 42), (0, 4), (0, 39), (0, 45), (0, 48), (0, 54), (0, 51), (0, 57), (0, 5), (0, 34), (0, 40), (0, 37), (0, 43), (0, 46), (0, 52), (0, 49), (0, 55), (0, 35), (0, 58), (0, 38), (0, 6), (0, 41), (0, 47), (0, 33), (0, 44), (0, 50), (0, 53), (0, 59), (0, 56), (0, 60)] [(.ret, [⟨.slot 4, .bool, none⟩]), (.exit 0, [])]) [])])])])])])
theorem run_F_track_Track_segment : runE ⟨tdGet tys, [con_F_grade_Check], [], []⟩ con_F_track_Track_segment Try.f31 hint_F_track_Track_segment = con_F_track_Track_segment.F := by
  funext x
  kernel_rfl
theorem ok_F_track_Track_segment : ConOK Try.prog con_F_track_Track_segment :=
  con_of_run (Γ := ⟨tdGet tys, [con_F_grade_Check], [], []⟩) ⟨fun T d h => tysB_ok tys tys_ok T d h, by simp [ok_F_grade_Check], by simp [], by simp []⟩ (by kernel_rfl) Try.func31 rfl (by kernel_rfl) run_F_track_Track_segment
/-- (odograph/track.Track).group -/
noncomputable def F_track_Track_group (t_1 : ((List (Int × ((List (Int × Int)) × (List Int)))) × (List (Int × (Int × (Int × (Int × Int))))))) (i_2 : Int) (g_3 : (Int × (Int × (Int × (Int × Int))))) : Option Bool :=
  let t10_4 : Bool := (decide (g_3.1 < (1 : Int)))
  let t14_5 : Bool := (decide ((65535 : Int) < g_3.1))
  let t15_6 : Bool := (bif t10_4 then true else t14_5)
  let t18_7 : Bool := (decide ((0 : Int) < i_2))
  let t25_8 : Int := (IntKind.wrap .i64 (i_2 - (1 : Int)))
  chk none (((decide ((0 : Int) ≤ t25_8)) && (decide (t25_8 < (t_1.2.length : Int)))) || !(t18_7 && !t15_6)) <|
  let e_9 : (Int × (Int × (Int × (Int × Int)))) := (t_1.2.getD t25_8.toNat ((0 : Int), ((0 : Int), ((0 : Int), ((0 : Int), (0 : Int))))))
  let t30_10 : Bool := (bif t18_7 then (decide (g_3.1 ≤ e_9.1)) else false)
  let t31_11 : Bool := (bif t15_6 then true else t30_10)
  let t35_12 : Bool := (decide (g_3.2.1 < (0 : Int)))
  let t36_13 : Bool := (bif t31_11 then true else t35_12)
  let t43_14 : Bool := (decide ((t_1.1.length : Int) ≤ g_3.2.1))
  let t44_15 : Bool := (bif t36_13 then true else t43_14)
  (bif t44_15 then
    some false
  else
    let t47_16 : Bool := (decide ((0 : Int) ≤ g_3.2.2.1))
    chk none (((decide ((0 : Int) ≤ g_3.2.1)) && (decide (g_3.2.1 < (t_1.1.length : Int)))) || !t47_16) <|
    let e_17 : (Int × ((List (Int × Int)) × (List Int))) := (t_1.1.getD g_3.2.1.toNat ((0 : Int), ([], [])))
    let t58_18 : Bool := (decide (g_3.2.2.1 ≤ e_17.1))
    let t59_19 : Bool := (bif t47_16 then t58_18 else false)
    let t64_20 : Bool := (decide ((0 : Int) ≤ g_3.2.2.2.1))
    let t65_21 : Bool := (bif t59_19 then t64_20 else false)
    let t69_22 : Bool := (decide (g_3.2.2.2.1 ≤ (1048576 : Int)))
    let t70_23 : Bool := (bif t65_21 then t69_22 else false)
    let t74_24 : Bool := (decide ((0 : Int) ≤ g_3.2.2.2.2))
    let t75_25 : Bool := (bif t70_23 then t74_24 else false)
    let t79_26 : Bool := (decide (g_3.2.2.2.2 ≤ (16777216 : Int)))
    let t80_27 : Bool := (bif t75_25 then t79_26 else false)
    some t80_27)
noncomputable def con_F_track_Track_group : Con := { f := 32, ps := [.dat (.agg (.pair (.slice (.agg (.pair (.int .i64) (.pair (.slice (.agg (.pair (.int .i64) (.int .i64)))) (.slice (.int .i64)))))) (.slice (.agg (.pair (.int .i64) (.pair (.int .i64) (.pair (.int .i64) (.pair (.int .i64) (.int .i64))))))))), .dat (.int .i64), .dat (.agg (.pair (.int .i64) (.pair (.int .i64) (.pair (.int .i64) (.pair (.int .i64) (.int .i64))))))], boxes := [], ins := (.pair (.agg (.pair (.slice (.agg (.pair (.int .i64) (.pair (.slice (.agg (.pair (.int .i64) (.int .i64)))) (.slice (.int .i64)))))) (.slice (.agg (.pair (.int .i64) (.pair (.int .i64) (.pair (.int .i64) (.pair (.int .i64) (.int .i64))))))))) (.pair (.int .i64) (.agg (.pair (.int .i64) (.pair (.int .i64) (.pair (.int .i64) (.pair (.int .i64) (.int .i64)))))))), nin := 3, outs := .bool, rs := [.dat .bool], nout := 1, F := fun x => F_track_Track_group x.1 x.2.1 x.2.2 }
def hint_F_track_Track_group : Hint := H0
theorem run_F_track_Track_group : runE ⟨tdGet tys, [], [], []⟩ con_F_track_Track_group Try.f32 hint_F_track_Track_group = con_F_track_Track_group.F := by
  funext x
  kernel_rfl
theorem ok_F_track_Track_group : ConOK Try.prog con_F_track_Track_group :=
  con_of_run (Γ := ⟨tdGet tys, [], [], []⟩) ⟨fun T d h => tysB_ok tys tys_ok T d h, by simp [], by simp [], by simp []⟩ (by kernel_rfl) Try.func32 rfl (by kernel_rfl) run_F_track_Track_group
/-- (odograph/track.Track).Check -/
noncomputable def F_track_Track_Check (t_1 : ((List (Int × ((List (Int × Int)) × (List Int)))) × (List (Int × (Int × (Int × (Int × Int))))))) : Option (Int × Int) :=
  let t11_2 : Bool := ((t_1.1.length : Int) == (0 : Int))
  let t16_3 : Bool := (decide ((200 : Int) < (t_1.1.length : Int)))
  let t17_4 : Bool := (bif t11_2 then true else t16_3)
  let t22_5 : Bool := (decide ((400 : Int) < (t_1.2.length : Int)))
  let t23_6 : Bool := (bif t17_4 then true else t22_5)
  (bif t23_6 then
    some ((13 : Int), (0 : Int))
  else
    Option.bind (α := (Int × Int) ⊕ Unit) (
      loopO (X := (Int × Int) ⊕ Unit) (fun (s_7 : Int) =>
        let t28_8 : Bool := (decide (s_7 < (t_1.1.length : Int)))
        (bif t28_8 then
          chk none ((decide ((0 : Int) ≤ s_7)) && (decide (s_7 < (t_1.1.length : Int)))) <|
          let t31_9 : (Int × ((List (Int × Int)) × (List Int))) := (t_1.1.getD s_7.toNat ((0 : Int), ([], [])))
          (F_track_Track_segment t_1 t31_9).bind fun t34_10 =>
          (bif (!t34_10) then
            some (.inr (.inl (s_7, (11 : Int))))
          else
            let t37_11 : Int := (IntKind.wrap .i64 (s_7 + (1 : Int)))
            some (.inl t37_11))
        else
          some (.inr (.inr ())))) (0 : Int)) fun z => match z with
    | .inl r_12 =>
      let t3_13 : Int := r_12.1
      let t2_14 : Int := r_12.2
      some (t2_14, t3_13)
    | .inr _ =>
      Option.bind (α := (Int × Int) ⊕ Unit) (
        loopO (X := (Int × Int) ⊕ Unit) (fun (s_15 : Int) =>
          let t42_16 : Bool := (decide (s_15 < (t_1.2.length : Int)))
          (bif t42_16 then
            chk none ((decide ((0 : Int) ≤ s_15)) && (decide (s_15 < (t_1.2.length : Int)))) <|
            let t45_17 : (Int × (Int × (Int × (Int × Int)))) := (t_1.2.getD s_15.toNat ((0 : Int), ((0 : Int), ((0 : Int), ((0 : Int), (0 : Int))))))
            (F_track_Track_group t_1 s_15 t45_17).bind fun t49_18 =>
            (bif (!t49_18) then
              some (.inr (.inl ((16 : Int), s_15)))
            else
              let t52_19 : Int := (IntKind.wrap .i64 (s_15 + (1 : Int)))
              some (.inl t52_19))
          else
            some (.inr (.inr ())))) (0 : Int)) fun z => match z with
      | .inl r_20 =>
        let t2_21 : Int := r_20.1
        let t3_22 : Int := r_20.2
        some (t2_21, t3_22)
      | .inr _ =>
        some ((0 : Int), (0 : Int)))
noncomputable def con_F_track_Track_Check : Con := { f := 16, ps := [.dat (.agg (.pair (.slice (.agg (.pair (.int .i64) (.pair (.slice (.agg (.pair (.int .i64) (.int .i64)))) (.slice (.int .i64)))))) (.slice (.agg (.pair (.int .i64) (.pair (.int .i64) (.pair (.int .i64) (.pair (.int .i64) (.int .i64)))))))))], boxes := [], ins := (.agg (.pair (.slice (.agg (.pair (.int .i64) (.pair (.slice (.agg (.pair (.int .i64) (.int .i64)))) (.slice (.int .i64)))))) (.slice (.agg (.pair (.int .i64) (.pair (.int .i64) (.pair (.int .i64) (.pair (.int .i64) (.int .i64))))))))), nin := 1, outs := (.pair (.int .i64) (.int .i64)), rs := [.dat (.int .i64), .dat (.int .i64)], nout := 2, F := fun x => F_track_Track_Check x }
def hint_F_track_Track_Check : Hint := (.mk .plain [H0, (.mk .plain [H0, (.mk .plain [(.mk .plain [H0, (.mk .plain [(.mk (.loop [⟨.slot 27, (.int .i64), none⟩] [(0, 30), (0, 36), (0, 4), (0, 29), (0, 35), (0, 3), (0, 32), (0, 28), (0, 2), (0, 31), (0, 5), (0, 34), (0, 33), (0, 37)] [(.ret, [⟨.slot 3, (.int .i64), none⟩, ⟨.slot 2, (.int .i64), none⟩]), (.exit 0, [])]) [])])]), (.mk .plain [(.mk .plain [H0, (.mk .plain [(.mk (.loop [⟨.slot 41, (.int .i64), none⟩] [(0, 7), (0, 42), (0, 45), (0, 48), (0, 51), (0, 2), (0, 43), (0, 46), (0, 49), (0, 3), (0, 6), (0, 47), (0, 44), (0, 50), (0, 52)] [(.ret, [⟨.slot 2, (.int .i64), none⟩, ⟨.slot 3, (.int .i64), none⟩]), (.exit 2, [])]) [])])])])])])])
theorem run_F_track_Track_Check : runE ⟨tdGet tys, [con_F_track_Track_segment, con_F_track_Track_group], [], []⟩ con_F_track_Track_Check Try.f16 hint_F_track_Track_Check = con_F_track_Track_Check.F := by
  funext x
  kernel_rfl
theorem ok_F_track_Track_Check : ConOK Try.prog con_F_track_Track_Check :=
  con_of_run (Γ := ⟨tdGet tys, [con_F_track_Track_segment, con_F_track_Track_group], [], []⟩) ⟨fun T d h => tysB_ok tys tys_ok T d h, by simp [ok_F_track_Track_segment, ok_F_track_Track_group], by simp [], by simp []⟩ (by kernel_rfl) Try.func16 rfl (by kernel_rfl) run_F_track_Track_Check
/-- odograph/image.put -/
noncomputable def F_image_put (out_1 : (List Int)) (v_2 : Int) (n_3 : Int) : Option (List Int) :=
  let t9_4 : Int := (IntKind.wrap .i64 (n_3 - (1 : Int)))
  Option.bind (
    loopO (X := (List Int)) (fun (s_5 : (Int × (List Int))) =>
      let i_6 : Int := s_5.1
      let out_7 : (List Int) := s_5.2
      let t11_8 : Bool := (decide ((0 : Int) ≤ i_6))
      (bif t11_8 then
        let t17_9 : Int := (IntKind.wrap .i64 ((8 : Int) * i_6))
        let t18_10 : Int := (IntKind.wrap .u64 t17_9)
        chk none (decide ((0 : Int) ≤ t18_10)) <|
        let t19_11 : Int := (v_2.fdiv (2 ^ (min t18_10.toNat 64)))
        let t20_12 : Int := (IntKind.wrap .u8 t19_11)
        chk none (decide ((out_7.length + ([t20_12] : List Int).length) * 1 ≤ 140737488355328)) <|
        let t22_13 : (List Int) := (out_7 ++ ([t20_12] : List Int))
        let t13_14 : Int := (IntKind.wrap .i64 (i_6 - (1 : Int)))
        some (.inl (t13_14, t22_13))
      else
        some (.inr out_7))) (t9_4, out_1)) fun r_15 =>
  some r_15
noncomputable def con_F_image_put : OCon := { f := 17, ps := [.own 500000005 (.int .u8), .dat (.int .i64), .dat (.int .i64)], boxes := [], ins := (.pair (.slice (.int .u8)) (.pair (.int .i64) (.int .i64))), nin := 3, outs := (.slice (.int .u8)), rs := [.own 500000005 (.int .u8)], aft := [], nout := 1, F := fun x => F_image_put x.1 x.2.1 x.2.2 }
def hint_F_image_put : Hint := (.mk .plain [H0, (.mk .plain [(.mk .plain [H0, (.mk .plain [(.mk (.loop [⟨.slot 7, (.int .i64), none⟩, ⟨.slot 0, (.slice (.int .u8)), some 500000005⟩] [(0, 20), (0, 10), (0, 16), (0, 13), (0, 19), (0, 22), (0, 12), (0, 15), (0, 21), (0, 18), (0, 14), (0, 11), (0, 17)] [(.exit 0, [⟨.slot 0, (.slice (.int .u8)), some 500000005⟩])]) [])])])])])
theorem run_F_image_put : runO ⟨tdGet tys, [], [], []⟩ con_F_image_put Try.f17 hint_F_image_put = con_F_image_put.F := by
  funext x
  kernel_rfl
theorem ok_F_image_put : OConOK Try.prog con_F_image_put :=
  ocon_of_run (Γ := ⟨tdGet tys, [], [], []⟩) ⟨fun T d h => tysB_ok tys tys_ok T d h, by simp [], by simp [], by simp []⟩ (by kernel_rfl) Try.func17 rfl (by kernel_rfl) rfl run_F_image_put
/-- odograph/crc.more -/
noncomputable def F_crc_more (sum_1 : Int) (b_2 : Int) : Option Int :=
  let t8_3 : Int := (IntKind.wrap .u16 ((IntKind.wrap .u16 b_2) * 2 ^ 8))
  let t9_4 : Int := (bits .u16 .xor sum_1 t8_3)
  Option.bind (
    loopO (X := Int) (fun (s_5 : (Int × Int)) =>
      let t10_6 : Int := s_5.1
      let sum_7 : Int := s_5.2
      let t11_8 : Bool := (decide (t10_6 < (8 : Int)))
      (bif t11_8 then
        let t13_9 : Int := (bits .u16 .and sum_7 (32768 : Int))
        Option.bind (
          (bif (t13_9 != (0 : Int)) then
            let t16_10 : Int := (IntKind.wrap .u16 (sum_7 * 2 ^ 1))
            let t17_11 : Int := (bits .u16 .xor t16_10 (4129 : Int))
            some t17_11
          else
            let t19_12 : Int := (IntKind.wrap .u16 (sum_7 * 2 ^ 1))
            some t19_12)) fun r_13 =>
        let t20_14 : Int := (IntKind.wrap .i64 (t10_6 + (1 : Int)))
        some (.inl (t20_14, r_13))
      else
        some (.inr sum_7))) ((0 : Int), t9_4)) fun r_15 =>
  some r_15
noncomputable def con_F_crc_more : Con := { f := 43, ps := [.dat (.int .u16), .dat (.int .u8)], boxes := [], ins := (.pair (.int .u16) (.int .u8)), nin := 2, outs := (.int .u16), rs := [.dat (.int .u16)], nout := 1, F := fun x => F_crc_more x.1 x.2 }
def hint_F_crc_more : Hint := (.mk .plain [H0, (.mk .plain [H0, (.mk .plain [(.mk .plain [H0, (.mk .plain [(.mk (.loop [⟨.slot 10, (.int .i64), none⟩, ⟨.slot 0, (.int .u16), none⟩] [(0, 20), (0, 16), (0, 13), (0, 19), (0, 12), (0, 15), (0, 18), (0, 14), (0, 11), (0, 17)] [(.exit 0, [⟨.slot 0, (.int .u16), none⟩])]) [(.mk .plain [H0, (.mk .plain [H0, (.mk .plain [(.mk .plain [(.mk .plain [H0, (.mk (.join [(0, 15), (0, 16), (0, 17), (0, 18), (0, 19)] [(.normal, [⟨.slot 0, (.int .u16), none⟩])]) [])])])])])])])])])])])])
theorem run_F_crc_more : runE ⟨tdGet tys, [], [], []⟩ con_F_crc_more Try.f43 hint_F_crc_more = con_F_crc_more.F := by
  funext x
  kernel_rfl
theorem ok_F_crc_more : ConOK Try.prog con_F_crc_more :=
  con_of_run (Γ := ⟨tdGet tys, [], [], []⟩) ⟨fun T d h => tysB_ok tys tys_ok T d h, by simp [], by simp [], by simp []⟩ (by kernel_rfl) Try.func43 rfl (by kernel_rfl) run_F_crc_more
/-- odograph/crc.Go -/
noncomputable def F_crc_Go (sum_1 : Int) (b_2 : (List Int)) : Option Int :=
  Option.bind (
    loopO (X := Int) (fun (s_3 : (Int × Int)) =>
      let sum_4 : Int := s_3.1
      let t9_5 : Int := s_3.2
      let t10_6 : Bool := (decide (t9_5 < (b_2.length : Int)))
      (bif t10_6 then
        chk none ((decide ((0 : Int) ≤ t9_5)) && (decide (t9_5 < (b_2.length : Int)))) <|
        let t12_7 : Int := (b_2.getD t9_5.toNat (0 : Int))
        (F_crc_more sum_4 t12_7).bind fun t15_8 =>
        let t16_9 : Int := (IntKind.wrap .i64 (t9_5 + (1 : Int)))
        some (.inl (t15_8, t16_9))
      else
        some (.inr sum_4))) (sum_1, (0 : Int))) fun r_10 =>
  some r_10
noncomputable def con_F_crc_Go : Con := { f := 34, ps := [.dat (.int .u16), .dat (.slice (.int .u8))], boxes := [], ins := (.pair (.int .u16) (.slice (.int .u8))), nin := 2, outs := (.int .u16), rs := [.dat (.int .u16)], nout := 1, F := fun x => F_crc_Go x.1 x.2 }
def hint_F_crc_Go : Hint := (.mk .plain [H0, (.mk .plain [(.mk .plain [H0, (.mk .plain [(.mk (.loop [⟨.slot 0, (.int .u16), none⟩, ⟨.slot 9, (.int .i64), none⟩] [(0, 10), (0, 16), (0, 13), (0, 6), (0, 12), (0, 15), (0, 14), (0, 11)] [(.exit 0, [⟨.slot 0, (.int .u16), none⟩])]) [])])])])])
theorem run_F_crc_Go : runE ⟨tdGet tys, [con_F_crc_more], [], []⟩ con_F_crc_Go Try.f34 hint_F_crc_Go = con_F_crc_Go.F := by
  funext x
  kernel_rfl
theorem ok_F_crc_Go : ConOK Try.prog con_F_crc_Go :=
  con_of_run (Γ := ⟨tdGet tys, [con_F_crc_more], [], []⟩) ⟨fun T d h => tysB_ok tys tys_ok T d h, by simp [ok_F_crc_more], by simp [], by simp []⟩ (by kernel_rfl) Try.func34 rfl (by kernel_rfl) run_F_crc_Go
/-- odograph/crc.Sum -/
noncomputable def F_crc_Sum (b_1 : (List Int)) : Option Int :=
  (F_crc_Go (65535 : Int) b_1).bind fun t4_2 =>
  some t4_2
noncomputable def con_F_crc_Sum : Con := { f := 20, ps := [.dat (.slice (.int .u8))], boxes := [], ins := (.slice (.int .u8)), nin := 1, outs := (.int .u16), rs := [.dat (.int .u16)], nout := 1, F := fun x => F_crc_Sum x }
def hint_F_crc_Sum : Hint := H0
theorem run_F_crc_Sum : runE ⟨tdGet tys, [con_F_crc_Go], [], []⟩ con_F_crc_Sum Try.f20 hint_F_crc_Sum = con_F_crc_Sum.F := by
  funext x
  kernel_rfl
theorem ok_F_crc_Sum : ConOK Try.prog con_F_crc_Sum :=
  con_of_run (Γ := ⟨tdGet tys, [con_F_crc_Go], [], []⟩) ⟨fun T d h => tysB_ok tys tys_ok T d h, by simp [ok_F_crc_Go], by simp [], by simp []⟩ (by kernel_rfl) Try.func20 rfl (by kernel_rfl) run_F_crc_Sum
/-- odograph/crc.Seal -/
noncomputable def F_crc_Seal (b_1 : (List Int)) : Option (List Int) :=
  (F_crc_Sum b_1).bind fun t6_2 =>
  let t11_3 : Int := (IntKind.wrap .i64 ((b_1.length : Int) + (2 : Int)))
  chk none ((decide ((0 : Int) ≤ (b_1.length : Int))) && (decide ((b_1.length : Int) ≤ t11_3)) && (decide (t11_3 * 1 ≤ (140737488355328 : Int))) && (decide (t11_3 ≤ (140737488355328 : Int)))) <|
  chk none (decide (0 < (List.replicate (b_1.length : Int).toNat (0 : Int)).length)) <|
  let l_4 : (List Int) := (b_1.take (List.replicate (b_1.length : Int).toNat (0 : Int)).length ++ (List.replicate (b_1.length : Int).toNat (0 : Int)).drop b_1.length)
  let t19_5 : Int := (IntKind.wrap .u8 (t6_2.fdiv (2 ^ 8)))
  chk none (decide ((l_4.length + ([t19_5, (IntKind.wrap .u8 t6_2)] : List Int).length) * 1 ≤ 140737488355328)) <|
  let t23_6 : (List Int) := (l_4 ++ ([t19_5, (IntKind.wrap .u8 t6_2)] : List Int))
  some t23_6
noncomputable def con_F_crc_Seal : Con := { f := 18, ps := [.dat (.slice (.int .u8))], boxes := [], ins := (.slice (.int .u8)), nin := 1, outs := (.slice (.int .u8)), rs := [.dat (.slice (.int .u8))], nout := 1, F := fun x => F_crc_Seal x }
def hint_F_crc_Seal : Hint := H0
theorem run_F_crc_Seal : runE ⟨tdGet tys, [con_F_crc_Sum], [], []⟩ con_F_crc_Seal Try.f18 hint_F_crc_Seal = con_F_crc_Seal.F := by
  funext x
  kernel_rfl
theorem ok_F_crc_Seal : ConOK Try.prog con_F_crc_Seal :=
  con_of_run (Γ := ⟨tdGet tys, [con_F_crc_Sum], [], []⟩) ⟨fun T d h => tysB_ok tys tys_ok T d h, by simp [ok_F_crc_Sum], by simp [], by simp []⟩ (by kernel_rfl) Try.func18 rfl (by kernel_rfl) run_F_crc_Seal
/-- odograph/image.Pack -/
noncomputable def F_image_Pack (t_1 : ((List (Int × ((List (Int × Int)) × (List Int)))) × (List (Int × (Int × (Int × (Int × Int))))))) : Option ((List Int) × Int) :=
  (F_track_Track_Check t_1).bind fun t17_2 =>
  (bif (t17_2.1 != (0 : Int)) then
    some ([], (51 : Int))
  else
    (F_image_put ([(79 : Int), (68 : Int), (79 : Int), (49 : Int)] : List Int) (t_1.1.length : Int) (2 : Int)).bind fun t27_3 =>
    Option.bind (
      loopO (X := (List Int)) (fun (s_4 : (Int × (List Int))) =>
        let t31_5 : Int := s_4.1
        let out_6 : (List Int) := s_4.2
        let t32_7 : Bool := (decide (t31_5 < (t_1.1.length : Int)))
        (bif t32_7 then
          chk none ((decide ((0 : Int) ≤ t31_5)) && (decide (t31_5 < (t_1.1.length : Int)))) <|
          let t34_8 : (Int × ((List (Int × Int)) × (List Int))) := (t_1.1.getD t31_5.toNat ((0 : Int), ([], [])))
          (F_image_put out_6 t34_8.1 (8 : Int)).bind fun t38_9 =>
          (F_image_put t38_9 (t34_8.2.1.length : Int) (1 : Int)).bind fun t42_10 =>
          Option.bind (
            loopO (X := (List Int)) (fun (s_11 : (Int × (List Int))) =>
              let t46_12 : Int := s_11.1
              let out_13 : (List Int) := s_11.2
              let t47_14 : Bool := (decide (t46_12 < (t34_8.2.1.length : Int)))
              (bif t47_14 then
                chk none ((decide ((0 : Int) ≤ t46_12)) && (decide (t46_12 < (t34_8.2.1.length : Int)))) <|
                let t49_15 : (Int × Int) := (t34_8.2.1.getD t46_12.toNat ((0 : Int), (0 : Int)))
                (F_image_put out_13 t49_15.1 (8 : Int)).bind fun t53_16 =>
                (F_image_put t53_16 t49_15.2 (4 : Int)).bind fun t56_17 =>
                let t57_18 : Int := (IntKind.wrap .i64 (t46_12 + (1 : Int)))
                some (.inl (t57_18, t56_17))
              else
                some (.inr out_13))) ((0 : Int), t42_10)) fun r_19 =>
          (F_image_put r_19 (t34_8.2.2.length : Int) (1 : Int)).bind fun t62_20 =>
          Option.bind (
            loopO (X := (List Int)) (fun (s_21 : ((List Int) × Int)) =>
              let out_22 : (List Int) := s_21.1
              let t66_23 : Int := s_21.2
              let t67_24 : Bool := (decide (t66_23 < (t34_8.2.2.length : Int)))
              (bif t67_24 then
                chk none ((decide ((0 : Int) ≤ t66_23)) && (decide (t66_23 < (t34_8.2.2.length : Int)))) <|
                let t69_25 : Int := (t34_8.2.2.getD t66_23.toNat (0 : Int))
                (F_image_put out_22 t69_25 (1 : Int)).bind fun t72_26 =>
                let t73_27 : Int := (IntKind.wrap .i64 (t66_23 + (1 : Int)))
                some (.inl (t72_26, t73_27))
              else
                some (.inr out_22))) (t62_20, (0 : Int))) fun r_28 =>
          let t74_29 : Int := (IntKind.wrap .i64 (t31_5 + (1 : Int)))
          some (.inl (t74_29, r_28))
        else
          some (.inr out_6))) ((0 : Int), t27_3)) fun r_30 =>
    (F_image_put r_30 (t_1.2.length : Int) (2 : Int)).bind fun t79_31 =>
    Option.bind (
      loopO (X := (List Int)) (fun (s_32 : (Int × (List Int))) =>
        let t83_33 : Int := s_32.1
        let out_34 : (List Int) := s_32.2
        let t84_35 : Bool := (decide (t83_33 < (t_1.2.length : Int)))
        (bif t84_35 then
          chk none ((decide ((0 : Int) ≤ t83_33)) && (decide (t83_33 < (t_1.2.length : Int)))) <|
          let t86_36 : (Int × (Int × (Int × (Int × Int)))) := (t_1.2.getD t83_33.toNat ((0 : Int), ((0 : Int), ((0 : Int), ((0 : Int), (0 : Int))))))
          (F_image_put out_34 t86_36.1 (2 : Int)).bind fun t90_37 =>
          (F_image_put t90_37 t86_36.2.1 (1 : Int)).bind fun t93_38 =>
          (F_image_put t93_38 t86_36.2.2.1 (8 : Int)).bind fun t97_39 =>
          (F_image_put t97_39 t86_36.2.2.2.1 (4 : Int)).bind fun t100_40 =>
          (F_image_put t100_40 t86_36.2.2.2.2 (4 : Int)).bind fun t103_41 =>
          let t104_42 : Int := (IntKind.wrap .i64 (t83_33 + (1 : Int)))
          some (.inl (t104_42, t103_41))
        else
          some (.inr out_34))) ((0 : Int), t79_31)) fun r_43 =>
    (F_crc_Seal r_43).bind fun t106_44 =>
    some (t106_44, (0 : Int)))
noncomputable def con_F_image_Pack : Con := { f := 9, ps := [.dat (.agg (.pair (.slice (.agg (.pair (.int .i64) (.pair (.slice (.agg (.pair (.int .i64) (.int .i64)))) (.slice (.int .i64)))))) (.slice (.agg (.pair (.int .i64) (.pair (.int .i64) (.pair (.int .i64) (.pair (.int .i64) (.int .i64)))))))))], boxes := [], ins := (.agg (.pair (.slice (.agg (.pair (.int .i64) (.pair (.slice (.agg (.pair (.int .i64) (.int .i64)))) (.slice (.int .i64)))))) (.slice (.agg (.pair (.int .i64) (.pair (.int .i64) (.pair (.int .i64) (.pair (.int .i64) (.int .i64))))))))), nin := 1, outs := (.pair (.slice (.int .u8)) (.int .i64)), rs := [.dat (.slice (.int .u8)), .dat (.int .i64)], nout := 2, F := fun x => F_image_Pack x }
def hint_F_image_Pack : Hint := (.mk .plain [H0, (.mk .plain [H0, (.mk .plain [H0, (.mk .plain [(.mk .plain [H0, (.mk .plain [(.mk (.loop [⟨.slot 31, (.int .i64), none⟩, ⟨.slot 6, (.slice (.int .u8)), some 900000005⟩] [(0, 36), (0, 42), (0, 39), (0, 45), (0, 48), (0, 54), (0, 51), (0, 57), (0, 60), (0, 66), (0, 63), (0, 69), (0, 8), (0, 72), (0, 35), (0, 32), (0, 38), (0, 41), (0, 47), (0, 44), (0, 50), (0, 53), (0, 59), (0, 56), (0, 62), (0, 68), (0, 65), (0, 71), (0, 10), (0, 74), (0, 34), (0, 40), (0, 37), (0, 43), (0, 46), (0, 52), (0, 49), (0, 55), (0, 61), (0, 58), (0, 64), (0, 67), (0, 12), (0, 73), (0, 70), (0, 27), (0, 33)] [(.exit 0, [⟨.slot 6, (.slice (.int .u8)), some 900000005⟩])]) [(.mk .plain [H0, (.mk .plain [H0, (.mk .plain [(.mk .plain [(.mk .plain [H0, (.mk .plain [H0, (.mk .plain [(.mk .plain [H0, (.mk .plain [(.mk (.loop [⟨.slot 46, (.int .i64), none⟩, ⟨.slot 6, (.slice (.int .u8)), some 900000005⟩] [(0, 42), (0, 10), (0, 48), (0, 54), (0, 51), (0, 57), (0, 52), (0, 49), (0, 55), (0, 47), (0, 50), (0, 53), (0, 56)] [(.exit 2, [⟨.slot 6, (.slice (.int .u8)), some 900000005⟩])]) [])])]), (.mk .plain [H0, (.mk .plain [H0, (.mk .plain [(.mk (.loop [⟨.slot 6, (.slice (.int .u8)), some 900000005⟩, ⟨.slot 66, (.int .i64), none⟩] [(0, 68), (0, 71), (0, 67), (0, 12), (0, 73), (0, 70), (0, 69), (0, 72), (0, 62)] [(.exit 4, [⟨.slot 6, (.slice (.int .u8)), some 900000005⟩])]) [])])])])])])])])])])])])])]), (.mk .plain [H0, (.mk .plain [(.mk .plain [H0, (.mk .plain [(.mk (.loop [⟨.slot 83, (.int .i64), none⟩, ⟨.slot 6, (.slice (.int .u8)), some 900000005⟩] [(0, 91), (0, 97), (0, 94), (0, 100), (0, 103), (0, 86), (0, 92), (0, 89), (0, 95), (0, 98), (0, 14), (0, 104), (0, 101), (0, 87), (0, 84), (0, 90), (0, 93), (0, 99), (0, 96), (0, 102), (0, 79), (0, 85), (0, 88)] [(.exit 6, [⟨.slot 6, (.slice (.int .u8)), some 900000005⟩])]) [])])])])])])])])])
theorem run_F_image_Pack : runE ⟨tdGet tys, [con_F_track_Track_Check, con_F_crc_Seal], [], [con_F_image_put]⟩ con_F_image_Pack Try.f9 hint_F_image_Pack = con_F_image_Pack.F := by
  funext x
  kernel_rfl
theorem ok_F_image_Pack : ConOK Try.prog con_F_image_Pack :=
  con_of_run (Γ := ⟨tdGet tys, [con_F_track_Track_Check, con_F_crc_Seal], [], [con_F_image_put]⟩) ⟨fun T d h => tysB_ok tys tys_ok T d h, by simp [ok_F_track_Track_Check, ok_F_crc_Seal], by simp [], by simp [ok_F_image_put]⟩ (by kernel_rfl) Try.func9 rfl (by kernel_rfl) run_F_image_Pack
/-- (*odograph/image.reader).num -/
noncomputable def F_image_reader_num (n_1 : Int) (x_2 : (List Int)) (x_3 : Bool) : Option (Int × ((List Int) × Bool)) :=
  let t20_4 : Bool := (decide ((x_2.length : Int) < n_1))
  let t21_5 : Bool := (bif x_3 then true else t20_4)
  (bif t21_5 then
    some ((0 : Int), x_2, t21_5)
  else
    chk none (true && (decide ((0 : Int) ≤ n_1)) && (decide (n_1 ≤ (x_2.length : Int)))) <|
    let t33_6 : (List Int) := ((x_2.take n_1.toNat).drop (0 : Int).toNat)
    Option.bind (
      loopO (X := Int) (fun (s_7 : (Int × Int)) =>
        let t35_8 : Int := s_7.1
        let v_9 : Int := s_7.2
        let t36_10 : Bool := (decide (t35_8 < (t33_6.length : Int)))
        (bif t36_10 then
          chk none ((decide ((0 : Int) ≤ t35_8)) && (decide (t35_8 < (t33_6.length : Int)))) <|
          let t38_11 : Int := (t33_6.getD t35_8.toNat (0 : Int))
          let t40_12 : Int := (IntKind.wrap .u64 (v_9 * 2 ^ 8))
          let t42_13 : Int := (IntKind.wrap .u64 t38_11)
          let t43_14 : Int := (bits .u64 .or t40_12 t42_13)
          let t44_15 : Int := (IntKind.wrap .i64 (t35_8 + (1 : Int)))
          some (.inl (t44_15, t43_14))
        else
          some (.inr v_9))) ((0 : Int), (0 : Int))) fun r_16 =>
    chk none ((decide ((0 : Int) ≤ n_1)) && (decide (n_1 ≤ (x_2.length : Int))) && (decide ((x_2.length : Int) ≤ (x_2.length : Int)))) <|
    let t51_17 : (List Int) := ((x_2.take (x_2.length : Int).toNat).drop n_1.toNat)
    some ((IntKind.wrap .i64 r_16), t51_17, t21_5))
noncomputable def con_F_image_reader_num : Con := { f := 35, ps := [.ref 0 0, .dat (.int .i64)], boxes := [[.dat (.slice (.int .u8)), .dat .bool]], ins := (.pair (.int .i64) (.pair (.slice (.int .u8)) .bool)), nin := 3, outs := (.pair (.int .i64) (.pair (.slice (.int .u8)) .bool)), rs := [.dat (.int .i64)], nout := 3, F := fun x => F_image_reader_num x.1 x.2.1 x.2.2 }
def hint_F_image_reader_num : Hint := (.mk .plain [H0, (.mk .plain [H0, (.mk .plain [H0, (.mk .plain [(.mk .plain [H0, (.mk .plain [(.mk (.loop [⟨.slot 35, (.int .i64), none⟩, ⟨.slot 5, (.int .u64), none⟩] [(0, 7), (0, 36), (0, 42), (0, 39), (0, 38), (0, 41), (0, 44), (0, 40), (0, 37), (0, 43)] [(.exit 0, [⟨.slot 5, (.int .u64), none⟩])]) [])])])])])])])
theorem run_F_image_reader_num : runE ⟨tdGet tys, [], [], []⟩ con_F_image_reader_num Try.f35 hint_F_image_reader_num = con_F_image_reader_num.F := by
  funext x
  kernel_rfl
theorem ok_F_image_reader_num : ConOK Try.prog con_F_image_reader_num :=
  con_of_run (Γ := ⟨tdGet tys, [], [], []⟩) ⟨fun T d h => tysB_ok tys tys_ok T d h, by simp [], by simp [], by simp []⟩ (by kernel_rfl) Try.func35 rfl (by kernel_rfl) run_F_image_reader_num
/-- (*odograph/image.reader).count -/
noncomputable def F_image_reader_count (n_1 : Int) (most_2 : Int) (x_3 : (List Int)) (x_4 : Bool) : Option (Int × ((List Int) × Bool)) :=
  (F_image_reader_num n_1 x_3 x_4).bind fun t10_5 =>
  let t13_6 : Bool := (decide (most_2 < t10_5.1))
  (bif t13_6 then
    some ((0 : Int), t10_5.2.1, true)
  else
    some (t10_5.1, t10_5.2.1, t10_5.2.2))
noncomputable def con_F_image_reader_count : Con := { f := 22, ps := [.ref 0 0, .dat (.int .i64), .dat (.int .i64)], boxes := [[.dat (.slice (.int .u8)), .dat .bool]], ins := (.pair (.int .i64) (.pair (.int .i64) (.pair (.slice (.int .u8)) .bool))), nin := 4, outs := (.pair (.int .i64) (.pair (.slice (.int .u8)) .bool)), rs := [.dat (.int .i64)], nout := 3, F := fun x => F_image_reader_count x.1 x.2.1 x.2.2.1 x.2.2.2 }
def hint_F_image_reader_count : Hint := H0
theorem run_F_image_reader_count : runE ⟨tdGet tys, [con_F_image_reader_num], [], []⟩ con_F_image_reader_count Try.f22 hint_F_image_reader_count = con_F_image_reader_count.F := by
  funext x
  kernel_rfl
theorem ok_F_image_reader_count : ConOK Try.prog con_F_image_reader_count :=
  con_of_run (Γ := ⟨tdGet tys, [con_F_image_reader_num], [], []⟩) ⟨fun T d h => tysB_ok tys tys_ok T d h, by simp [ok_F_image_reader_num], by simp [], by simp []⟩ (by kernel_rfl) Try.func22 rfl (by kernel_rfl) run_F_image_reader_count
/-- (*odograph/image.reader).piece -/
noncomputable def F_image_reader_piece (x_1 : (List Int)) (x_2 : Bool) : Option ((Int × Int) × ((List Int) × Bool)) :=
  (F_image_reader_num (8 : Int) x_1 x_2).bind fun t5_3 =>
  (F_image_reader_num (4 : Int) t5_3.2.1 t5_3.2.2).bind fun t8_4 =>
  let t9_5 : Int := (IntKind.wrap .i32 t8_4.1)
  let t11_6 : (Int × Int) := (t5_3.1, (IntKind.wrap .i64 t9_5))
  some (t11_6, t8_4.2.1, t8_4.2.2)
noncomputable def con_F_image_reader_piece : Con := { f := 37, ps := [.ref 0 0], boxes := [[.dat (.slice (.int .u8)), .dat .bool]], ins := (.pair (.slice (.int .u8)) .bool), nin := 2, outs := (.pair (.agg (.pair (.int .i64) (.int .i64))) (.pair (.slice (.int .u8)) .bool)), rs := [.dat (.agg (.pair (.int .i64) (.int .i64)))], nout := 3, F := fun x => F_image_reader_piece x.1 x.2 }
def hint_F_image_reader_piece : Hint := H0
theorem run_F_image_reader_piece : runE ⟨tdGet tys, [con_F_image_reader_num], [], []⟩ con_F_image_reader_piece Try.f37 hint_F_image_reader_piece = con_F_image_reader_piece.F := by
  funext x
  kernel_rfl
theorem ok_F_image_reader_piece : ConOK Try.prog con_F_image_reader_piece :=
  con_of_run (Γ := ⟨tdGet tys, [con_F_image_reader_num], [], []⟩) ⟨fun T d h => tysB_ok tys tys_ok T d h, by simp [ok_F_image_reader_num], by simp [], by simp []⟩ (by kernel_rfl) Try.func37 rfl (by kernel_rfl) run_F_image_reader_piece
/-- odograph/image.many[odograph/grade.Piece] -/
noncomputable def F_image_many_grade_Piece (n_1 : Int) (x_2 : (List Int)) (x_3 : Bool) : Option ((List (Int × Int)) × ((List Int) × Bool)) :=
  Option.bind (
    loopO (X := (Bool × ((List Int) × (List (Int × Int))))) (fun (s_4 : (Int × (Bool × ((List (Int × Int)) × (List Int))))) =>
      let t7_5 : Int := s_4.1
      let b0_6 : Bool := s_4.2.1
      let out_7 : (List (Int × Int)) := s_4.2.2.1
      let b0_8 : (List Int) := s_4.2.2.2
      (bif (decide (t7_5 < n_1)) then
        (F_image_reader_piece b0_8 b0_6).bind fun t11_9 =>
        let t12_10 : (List (Int × Int)) := ([t11_9.1] : List (Int × Int))
        chk none (decide ((out_7.length + t12_10.length) * 16 ≤ 140737488355328)) <|
        let t13_11 : (List (Int × Int)) := (out_7 ++ t12_10)
        let t14_12 : Int := (IntKind.wrap .i64 (t7_5 + (1 : Int)))
        some (.inl (t14_12, t11_9.2.2, t13_11, t11_9.2.1))
      else
        some (.inr (b0_6, b0_8, out_7)))) ((0 : Int), x_3, [], x_2)) fun r_13 =>
  let b0_14 : Bool := r_13.1
  let b0_15 : (List Int) := r_13.2.1
  let out_16 : (List (Int × Int)) := r_13.2.2
  some (out_16, b0_15, b0_14)
noncomputable def con_F_image_many_grade_Piece : Con := { f := 36, ps := [.dat (.int .i64), .clo 37 [.ref 0 0] []], boxes := [[.dat (.slice (.int .u8)), .dat .bool]], ins := (.pair (.int .i64) (.pair (.slice (.int .u8)) .bool)), nin := 3, outs := (.pair (.slice (.agg (.pair (.int .i64) (.int .i64)))) (.pair (.slice (.int .u8)) .bool)), rs := [.dat (.slice (.agg (.pair (.int .i64) (.int .i64))))], nout := 3, F := fun x => F_image_many_grade_Piece x.1 x.2.1 x.2.2 }
def hint_F_image_many_grade_Piece : Hint := (.mk .plain [H0, (.mk .plain [H0, (.mk .plain [(.mk .plain [H0, (.mk .plain [(.mk (.loop [⟨.slot 7, (.int .i64), none⟩, ⟨.cell 0 1, .bool, none⟩, ⟨.slot 5, (.slice (.agg (.pair (.int .i64) (.int .i64)))), some 1300050⟩, ⟨.cell 0 0, (.slice (.int .u8)), none⟩] [(0, 10), (0, 13), (0, 9), (0, 12), (0, 8), (0, 14), (0, 11)] [(.exit 0, [⟨.cell 0 1, .bool, none⟩, ⟨.cell 0 0, (.slice (.int .u8)), none⟩, ⟨.slot 5, (.slice (.agg (.pair (.int .i64) (.int .i64)))), some 1300050⟩])]) [])])])])])])
theorem run_F_image_many_grade_Piece : runE ⟨tdGet tys, [con_F_image_reader_piece], [], []⟩ con_F_image_many_grade_Piece Try.f36 hint_F_image_many_grade_Piece = con_F_image_many_grade_Piece.F := by
  funext x
  kernel_rfl
theorem ok_F_image_many_grade_Piece : ConOK Try.prog con_F_image_many_grade_Piece :=
  con_of_run (Γ := ⟨tdGet tys, [con_F_image_reader_piece], [], []⟩) ⟨fun T d h => tysB_ok tys tys_ok T d h, by simp [ok_F_image_reader_piece], by simp [], by simp []⟩ (by kernel_rfl) Try.func36 rfl (by kernel_rfl) run_F_image_many_grade_Piece
/-- (*odograph/image.reader).next -/
noncomputable def F_image_reader_next (x_1 : (List Int)) (x_2 : Bool) : Option (Int × ((List Int) × Bool)) :=
  (F_image_reader_num (1 : Int) x_1 x_2).bind fun t4_3 =>
  some (t4_3.1, t4_3.2.1, t4_3.2.2)
noncomputable def con_F_image_reader_next : Con := { f := 39, ps := [.ref 0 0], boxes := [[.dat (.slice (.int .u8)), .dat .bool]], ins := (.pair (.slice (.int .u8)) .bool), nin := 2, outs := (.pair (.int .i64) (.pair (.slice (.int .u8)) .bool)), rs := [.dat (.int .i64)], nout := 3, F := fun x => F_image_reader_next x.1 x.2 }
def hint_F_image_reader_next : Hint := H0
theorem run_F_image_reader_next : runE ⟨tdGet tys, [con_F_image_reader_num], [], []⟩ con_F_image_reader_next Try.f39 hint_F_image_reader_next = con_F_image_reader_next.F := by
  funext x
  kernel_rfl
theorem ok_F_image_reader_next : ConOK Try.prog con_F_image_reader_next :=
  con_of_run (Γ := ⟨tdGet tys, [con_F_image_reader_num], [], []⟩) ⟨fun T d h => tysB_ok tys tys_ok T d h, by simp [ok_F_image_reader_num], by simp [], by simp []⟩ (by kernel_rfl) Try.func39 rfl (by kernel_rfl) run_F_image_reader_next
/-- odograph/image.many[int] -/
noncomputable def F_image_many_int (n_1 : Int) (x_2 : (List Int)) (x_3 : Bool) : Option ((List Int) × ((List Int) × Bool)) :=
  Option.bind (
    loopO (X := (Bool × ((List Int) × (List Int)))) (fun (s_4 : (Int × (Bool × ((List Int) × (List Int))))) =>
      let t7_5 : Int := s_4.1
      let b0_6 : Bool := s_4.2.1
      let out_7 : (List Int) := s_4.2.2.1
      let b0_8 : (List Int) := s_4.2.2.2
      (bif (decide (t7_5 < n_1)) then
        (F_image_reader_next b0_8 b0_6).bind fun t11_9 =>
        chk none (decide ((out_7.length + ([t11_9.1] : List Int).length) * 8 ≤ 140737488355328)) <|
        let t13_10 : (List Int) := (out_7 ++ ([t11_9.1] : List Int))
        let t14_11 : Int := (IntKind.wrap .i64 (t7_5 + (1 : Int)))
        some (.inl (t14_11, t11_9.2.2, t13_10, t11_9.2.1))
      else
        some (.inr (b0_6, b0_8, out_7)))) ((0 : Int), x_3, [], x_2)) fun r_12 =>
  let b0_13 : Bool := r_12.1
  let b0_14 : (List Int) := r_12.2.1
  let out_15 : (List Int) := r_12.2.2
  some (out_15, b0_14, b0_13)
noncomputable def con_F_image_many_int : Con := { f := 38, ps := [.dat (.int .i64), .clo 39 [.ref 0 0] []], boxes := [[.dat (.slice (.int .u8)), .dat .bool]], ins := (.pair (.int .i64) (.pair (.slice (.int .u8)) .bool)), nin := 3, outs := (.pair (.slice (.int .i64)) (.pair (.slice (.int .u8)) .bool)), rs := [.dat (.slice (.int .i64))], nout := 3, F := fun x => F_image_many_int x.1 x.2.1 x.2.2 }
def hint_F_image_many_int : Hint := (.mk .plain [H0, (.mk .plain [H0, (.mk .plain [(.mk .plain [H0, (.mk .plain [(.mk (.loop [⟨.slot 7, (.int .i64), none⟩, ⟨.cell 0 1, .bool, none⟩, ⟨.slot 5, (.slice (.int .i64)), some 1300003⟩, ⟨.cell 0 0, (.slice (.int .u8)), none⟩] [(0, 10), (0, 13), (0, 9), (0, 12), (0, 8), (0, 14), (0, 11)] [(.exit 0, [⟨.cell 0 1, .bool, none⟩, ⟨.cell 0 0, (.slice (.int .u8)), none⟩, ⟨.slot 5, (.slice (.int .i64)), some 1300003⟩])]) [])])])])])])
theorem run_F_image_many_int : runE ⟨tdGet tys, [con_F_image_reader_next], [], []⟩ con_F_image_many_int Try.f38 hint_F_image_many_int = con_F_image_many_int.F := by
  funext x
  kernel_rfl
theorem ok_F_image_many_int : ConOK Try.prog con_F_image_many_int :=
  con_of_run (Γ := ⟨tdGet tys, [con_F_image_reader_next], [], []⟩) ⟨fun T d h => tysB_ok tys tys_ok T d h, by simp [ok_F_image_reader_next], by simp [], by simp []⟩ (by kernel_rfl) Try.func38 rfl (by kernel_rfl) run_F_image_many_int
/-- (*odograph/image.reader).segment -/
noncomputable def F_image_reader_segment (x_1 : (List Int)) (x_2 : Bool) : Option ((Int × ((List (Int × Int)) × (List Int))) × ((List Int) × Bool)) :=
  (F_image_reader_num (8 : Int) x_1 x_2).bind fun t5_3 =>
  (F_image_reader_count (1 : Int) (64 : Int) t5_3.2.1 t5_3.2.2).bind fun t8_4 =>
  (F_image_many_grade_Piece t8_4.1 t8_4.2.1 t8_4.2.2).bind fun t11_5 =>
  (F_image_reader_count (1 : Int) (2 : Int) t11_5.2.1 t11_5.2.2).bind fun t14_6 =>
  (F_image_many_int t14_6.1 t14_6.2.1 t14_6.2.2).bind fun t17_7 =>
  let t19_8 : (Int × ((List (Int × Int)) × (List Int))) := (t5_3.1, (t11_5.1, t17_7.1))
  some (t19_8, t17_7.2.1, t17_7.2.2)
noncomputable def con_F_image_reader_segment : Con := { f := 23, ps := [.ref 0 0], boxes := [[.dat (.slice (.int .u8)), .dat .bool]], ins := (.pair (.slice (.int .u8)) .bool), nin := 2, outs := (.pair (.agg (.pair (.int .i64) (.pair (.slice (.agg (.pair (.int .i64) (.int .i64)))) (.slice (.int .i64))))) (.pair (.slice (.int .u8)) .bool)), rs := [.dat (.agg (.pair (.int .i64) (.pair (.slice (.agg (.pair (.int .i64) (.int .i64)))) (.slice (.int .i64)))))], nout := 3, F := fun x => F_image_reader_segment x.1 x.2 }
def hint_F_image_reader_segment : Hint := H0
theorem run_F_image_reader_segment : runE ⟨tdGet tys, [con_F_image_reader_num, con_F_image_reader_count, con_F_image_many_grade_Piece, con_F_image_many_int], [], []⟩ con_F_image_reader_segment Try.f23 hint_F_image_reader_segment = con_F_image_reader_segment.F := by
  funext x
  kernel_rfl
theorem ok_F_image_reader_segment : ConOK Try.prog con_F_image_reader_segment :=
  con_of_run (Γ := ⟨tdGet tys, [con_F_image_reader_num, con_F_image_reader_count, con_F_image_many_grade_Piece, con_F_image_many_int], [], []⟩) ⟨fun T d h => tysB_ok tys tys_ok T d h, by simp [ok_F_image_reader_num, ok_F_image_reader_count, ok_F_image_many_grade_Piece, ok_F_image_many_int], by simp [], by simp []⟩ (by kernel_rfl) Try.func23 rfl (by kernel_rfl) run_F_image_reader_segment
/-- odograph/image.many[odograph/track.Segment] -/
noncomputable def F_image_many_track_Segment (n_1 : Int) (x_2 : (List Int)) (x_3 : Bool) : Option ((List (Int × ((List (Int × Int)) × (List Int)))) × ((List Int) × Bool)) :=
  Option.bind (
    loopO (X := (Bool × ((List Int) × (List (Int × ((List (Int × Int)) × (List Int))))))) (fun (s_4 : (Int × (Bool × ((List (Int × ((List (Int × Int)) × (List Int)))) × (List Int))))) =>
      let t7_5 : Int := s_4.1
      let b0_6 : Bool := s_4.2.1
      let out_7 : (List (Int × ((List (Int × Int)) × (List Int)))) := s_4.2.2.1
      let b0_8 : (List Int) := s_4.2.2.2
      (bif (decide (t7_5 < n_1)) then
        (F_image_reader_segment b0_8 b0_6).bind fun t11_9 =>
        let t12_10 : (List (Int × ((List (Int × Int)) × (List Int)))) := ([t11_9.1] : List (Int × ((List (Int × Int)) × (List Int))))
        chk none (decide ((out_7.length + t12_10.length) * 56 ≤ 140737488355328)) <|
        let t13_11 : (List (Int × ((List (Int × Int)) × (List Int)))) := (out_7 ++ t12_10)
        let t14_12 : Int := (IntKind.wrap .i64 (t7_5 + (1 : Int)))
        some (.inl (t14_12, t11_9.2.2, t13_11, t11_9.2.1))
      else
        some (.inr (b0_6, b0_8, out_7)))) ((0 : Int), x_3, [], x_2)) fun r_13 =>
  let b0_14 : Bool := r_13.1
  let b0_15 : (List Int) := r_13.2.1
  let out_16 : (List (Int × ((List (Int × Int)) × (List Int)))) := r_13.2.2
  some (out_16, b0_15, b0_14)
noncomputable def con_F_image_many_track_Segment : Con := { f := 21, ps := [.dat (.int .i64), .clo 23 [.ref 0 0] []], boxes := [[.dat (.slice (.int .u8)), .dat .bool]], ins := (.pair (.int .i64) (.pair (.slice (.int .u8)) .bool)), nin := 3, outs := (.pair (.slice (.agg (.pair (.int .i64) (.pair (.slice (.agg (.pair (.int .i64) (.int .i64)))) (.slice (.int .i64)))))) (.pair (.slice (.int .u8)) .bool)), rs := [.dat (.slice (.agg (.pair (.int .i64) (.pair (.slice (.agg (.pair (.int .i64) (.int .i64)))) (.slice (.int .i64))))))], nout := 3, F := fun x => F_image_many_track_Segment x.1 x.2.1 x.2.2 }
def hint_F_image_many_track_Segment : Hint := (.mk .plain [H0, (.mk .plain [H0, (.mk .plain [(.mk .plain [H0, (.mk .plain [(.mk (.loop [⟨.slot 7, (.int .i64), none⟩, ⟨.cell 0 1, .bool, none⟩, ⟨.slot 5, (.slice (.agg (.pair (.int .i64) (.pair (.slice (.agg (.pair (.int .i64) (.int .i64)))) (.slice (.int .i64)))))), some 1300054⟩, ⟨.cell 0 0, (.slice (.int .u8)), none⟩] [(0, 10), (0, 13), (0, 9), (0, 12), (0, 8), (0, 14), (0, 11)] [(.exit 0, [⟨.cell 0 1, .bool, none⟩, ⟨.cell 0 0, (.slice (.int .u8)), none⟩, ⟨.slot 5, (.slice (.agg (.pair (.int .i64) (.pair (.slice (.agg (.pair (.int .i64) (.int .i64)))) (.slice (.int .i64)))))), some 1300054⟩])]) [])])])])])])
theorem run_F_image_many_track_Segment : runE ⟨tdGet tys, [con_F_image_reader_segment], [], []⟩ con_F_image_many_track_Segment Try.f21 hint_F_image_many_track_Segment = con_F_image_many_track_Segment.F := by
  funext x
  kernel_rfl
theorem ok_F_image_many_track_Segment : ConOK Try.prog con_F_image_many_track_Segment :=
  con_of_run (Γ := ⟨tdGet tys, [con_F_image_reader_segment], [], []⟩) ⟨fun T d h => tysB_ok tys tys_ok T d h, by simp [ok_F_image_reader_segment], by simp [], by simp []⟩ (by kernel_rfl) Try.func21 rfl (by kernel_rfl) run_F_image_many_track_Segment
/-- (*odograph/image.reader).group -/
noncomputable def F_image_reader_group (x_1 : (List Int)) (x_2 : Bool) : Option ((Int × (Int × (Int × (Int × Int)))) × ((List Int) × Bool)) :=
  (F_image_reader_num (2 : Int) x_1 x_2).bind fun t5_3 =>
  (F_image_reader_num (1 : Int) t5_3.2.1 t5_3.2.2).bind fun t7_4 =>
  let t8_5 : (Int × (Int × (Int × (Int × Int)))) := (t5_3.1, (t7_4.1, ((0 : Int), ((0 : Int), (0 : Int)))))
  (F_image_reader_num (8 : Int) t7_4.2.1 t7_4.2.2).bind fun t10_6 =>
  (F_image_reader_num (4 : Int) t10_6.2.1 t10_6.2.2).bind fun t13_7 =>
  (F_image_reader_num (4 : Int) t13_7.2.1 t13_7.2.2).bind fun t15_8 =>
  let t18_9 : (Int × (Int × (Int × (Int × Int)))) := (t8_5.1, (t8_5.2.1, (t10_6.1, (t13_7.1, t15_8.1))))
  some (t18_9, t15_8.2.1, t15_8.2.2)
noncomputable def con_F_image_reader_group : Con := { f := 25, ps := [.ref 0 0], boxes := [[.dat (.slice (.int .u8)), .dat .bool]], ins := (.pair (.slice (.int .u8)) .bool), nin := 2, outs := (.pair (.agg (.pair (.int .i64) (.pair (.int .i64) (.pair (.int .i64) (.pair (.int .i64) (.int .i64)))))) (.pair (.slice (.int .u8)) .bool)), rs := [.dat (.agg (.pair (.int .i64) (.pair (.int .i64) (.pair (.int .i64) (.pair (.int .i64) (.int .i64))))))], nout := 3, F := fun x => F_image_reader_group x.1 x.2 }
def hint_F_image_reader_group : Hint := H0
theorem run_F_image_reader_group : runE ⟨tdGet tys, [con_F_image_reader_num], [], []⟩ con_F_image_reader_group Try.f25 hint_F_image_reader_group = con_F_image_reader_group.F := by
  funext x
  kernel_rfl
theorem ok_F_image_reader_group : ConOK Try.prog con_F_image_reader_group :=
  con_of_run (Γ := ⟨tdGet tys, [con_F_image_reader_num], [], []⟩) ⟨fun T d h => tysB_ok tys tys_ok T d h, by simp [ok_F_image_reader_num], by simp [], by simp []⟩ (by kernel_rfl) Try.func25 rfl (by kernel_rfl) run_F_image_reader_group
/-- odograph/image.many[odograph/track.Group] -/
noncomputable def F_image_many_track_Group (n_1 : Int) (x_2 : (List Int)) (x_3 : Bool) : Option ((List (Int × (Int × (Int × (Int × Int))))) × ((List Int) × Bool)) :=
  Option.bind (
    loopO (X := (Bool × ((List Int) × (List (Int × (Int × (Int × (Int × Int)))))))) (fun (s_4 : (Int × (Bool × ((List (Int × (Int × (Int × (Int × Int))))) × (List Int))))) =>
      let t7_5 : Int := s_4.1
      let b0_6 : Bool := s_4.2.1
      let out_7 : (List (Int × (Int × (Int × (Int × Int))))) := s_4.2.2.1
      let b0_8 : (List Int) := s_4.2.2.2
      (bif (decide (t7_5 < n_1)) then
        (F_image_reader_group b0_8 b0_6).bind fun t11_9 =>
        let t12_10 : (List (Int × (Int × (Int × (Int × Int))))) := ([t11_9.1] : List (Int × (Int × (Int × (Int × Int)))))
        chk none (decide ((out_7.length + t12_10.length) * 40 ≤ 140737488355328)) <|
        let t13_11 : (List (Int × (Int × (Int × (Int × Int))))) := (out_7 ++ t12_10)
        let t14_12 : Int := (IntKind.wrap .i64 (t7_5 + (1 : Int)))
        some (.inl (t14_12, t11_9.2.2, t13_11, t11_9.2.1))
      else
        some (.inr (b0_6, b0_8, out_7)))) ((0 : Int), x_3, [], x_2)) fun r_13 =>
  let b0_14 : Bool := r_13.1
  let b0_15 : (List Int) := r_13.2.1
  let out_16 : (List (Int × (Int × (Int × (Int × Int))))) := r_13.2.2
  some (out_16, b0_15, b0_14)
noncomputable def con_F_image_many_track_Group : Con := { f := 24, ps := [.dat (.int .i64), .clo 25 [.ref 0 0] []], boxes := [[.dat (.slice (.int .u8)), .dat .bool]], ins := (.pair (.int .i64) (.pair (.slice (.int .u8)) .bool)), nin := 3, outs := (.pair (.slice (.agg (.pair (.int .i64) (.pair (.int .i64) (.pair (.int .i64) (.pair (.int .i64) (.int .i64))))))) (.pair (.slice (.int .u8)) .bool)), rs := [.dat (.slice (.agg (.pair (.int .i64) (.pair (.int .i64) (.pair (.int .i64) (.pair (.int .i64) (.int .i64)))))))], nout := 3, F := fun x => F_image_many_track_Group x.1 x.2.1 x.2.2 }
def hint_F_image_many_track_Group : Hint := (.mk .plain [H0, (.mk .plain [H0, (.mk .plain [(.mk .plain [H0, (.mk .plain [(.mk (.loop [⟨.slot 7, (.int .i64), none⟩, ⟨.cell 0 1, .bool, none⟩, ⟨.slot 5, (.slice (.agg (.pair (.int .i64) (.pair (.int .i64) (.pair (.int .i64) (.pair (.int .i64) (.int .i64))))))), some 1300059⟩, ⟨.cell 0 0, (.slice (.int .u8)), none⟩] [(0, 10), (0, 13), (0, 9), (0, 12), (0, 8), (0, 14), (0, 11)] [(.exit 0, [⟨.cell 0 1, .bool, none⟩, ⟨.cell 0 0, (.slice (.int .u8)), none⟩, ⟨.slot 5, (.slice (.agg (.pair (.int .i64) (.pair (.int .i64) (.pair (.int .i64) (.pair (.int .i64) (.int .i64))))))), some 1300059⟩])]) [])])])])])])
theorem run_F_image_many_track_Group : runE ⟨tdGet tys, [con_F_image_reader_group], [], []⟩ con_F_image_many_track_Group Try.f24 hint_F_image_many_track_Group = con_F_image_many_track_Group.F := by
  funext x
  kernel_rfl
theorem ok_F_image_many_track_Group : ConOK Try.prog con_F_image_many_track_Group :=
  con_of_run (Γ := ⟨tdGet tys, [con_F_image_reader_group], [], []⟩) ⟨fun T d h => tysB_ok tys tys_ok T d h, by simp [ok_F_image_reader_group], by simp [], by simp []⟩ (by kernel_rfl) Try.func24 rfl (by kernel_rfl) run_F_image_many_track_Group
/-- odograph/image.Open -/
noncomputable def F_image_Open (b_1 : (List Int)) : Option (((List (Int × ((List (Int × Int)) × (List Int)))) × (List (Int × (Int × (Int × (Int × Int)))))) × Int) :=
  let t11_2 : Bool := (decide ((1048576 : Int) < (b_1.length : Int)))
  (bif t11_2 then
    some (([], []), (15 : Int))
  else
    let t16_3 : Bool := (decide ((b_1.length : Int) < (6 : Int)))
    chk none ((true && true && (decide ((4 : Int) ≤ (b_1.length : Int)))) || !(!t16_3)) <|
    let t19_4 : (List Int) := ((b_1.take (4 : Int).toNat).drop (0 : Int).toNat)
    let t21_5 : Bool := (!((bytesOf t19_4).toList == (⟨#[79, 68, 79, 49]⟩ : ByteArray).toList))
    let t22_6 : Bool := (bif t16_3 then true else t21_5)
    (bif t22_6 then
      some (([], []), (11 : Int))
    else
      (F_crc_Sum b_1).bind fun t26_7 =>
      (bif (t26_7 != (0 : Int)) then
        some (([], []), (31 : Int))
      else
        let t32_8 : Int := (IntKind.wrap .i64 ((b_1.length : Int) - (2 : Int)))
        chk none (true && (decide ((4 : Int) ≤ t32_8)) && (decide (t32_8 ≤ (b_1.length : Int)))) <|
        let t33_9 : (List Int) := ((b_1.take t32_8.toNat).drop (4 : Int).toNat)
        (F_image_reader_count (2 : Int) (200 : Int) ((t33_9, false).1) ((t33_9, false).2)).bind fun t37_10 =>
        (F_image_many_track_Segment t37_10.1 t37_10.2.1 t37_10.2.2).bind fun t40_11 =>
        (F_image_reader_count (2 : Int) (400 : Int) t40_11.2.1 t40_11.2.2).bind fun t43_12 =>
        (F_image_many_track_Group t43_12.1 t43_12.2.1 t43_12.2.2).bind fun t46_13 =>
        let t57_14 : Int := (t46_13.2.1.length : Int)
        let t58_15 : Bool := (decide ((0 : Int) < t57_14))
        let t59_16 : Bool := (bif t46_13.2.2 then true else t58_15)
        (bif t59_16 then
          some (([], []), (14 : Int))
        else
          (F_track_Track_Check (t40_11.1, t46_13.1)).bind fun t63_17 =>
          (bif (t63_17.1 != (0 : Int)) then
            some (([], []), (51 : Int))
          else
            let w_18 : ((List (Int × ((List (Int × Int)) × (List Int)))) × (List (Int × (Int × (Int × (Int × Int)))))) := (t40_11.1, t46_13.1)
            some (w_18, (0 : Int)))))))
noncomputable def con_F_image_Open : Con := { f := 12, ps := [.dat (.slice (.int .u8))], boxes := [], ins := (.slice (.int .u8)), nin := 1, outs := (.pair (.agg (.pair (.slice (.agg (.pair (.int .i64) (.pair (.slice (.agg (.pair (.int .i64) (.int .i64)))) (.slice (.int .i64)))))) (.slice (.agg (.pair (.int .i64) (.pair (.int .i64) (.pair (.int .i64) (.pair (.int .i64) (.int .i64))))))))) (.int .i64)), rs := [.dat (.agg (.pair (.slice (.agg (.pair (.int .i64) (.pair (.slice (.agg (.pair (.int .i64) (.int .i64)))) (.slice (.int .i64)))))) (.slice (.agg (.pair (.int .i64) (.pair (.int .i64) (.pair (.int .i64) (.pair (.int .i64) (.int .i64))))))))), .dat (.int .i64)], nout := 2, F := fun x => F_image_Open x }
def hint_F_image_Open : Hint := H0
theorem run_F_image_Open : runE ⟨tdGet tys, [con_F_crc_Sum, con_F_image_reader_count, con_F_image_many_track_Segment, con_F_image_many_track_Group, con_F_track_Track_Check], [], []⟩ con_F_image_Open Try.f12 hint_F_image_Open = con_F_image_Open.F := by
  funext x
  kernel_rfl
theorem ok_F_image_Open : ConOK Try.prog con_F_image_Open :=
  con_of_run (Γ := ⟨tdGet tys, [con_F_crc_Sum, con_F_image_reader_count, con_F_image_many_track_Segment, con_F_image_many_track_Group, con_F_track_Track_Check], [], []⟩) ⟨fun T d h => tysB_ok tys tys_ok T d h, by simp [ok_F_crc_Sum, ok_F_image_reader_count, ok_F_image_many_track_Segment, ok_F_image_many_track_Group, ok_F_track_Track_Check], by simp [], by simp []⟩ (by kernel_rfl) Try.func12 rfl (by kernel_rfl) run_F_image_Open
/-- odograph/odographlaw12.same -/
noncomputable def F_law12_same (a_1 : ((List (Int × ((List (Int × Int)) × (List Int)))) × (List (Int × (Int × (Int × (Int × Int))))))) (b_2 : ((List (Int × ((List (Int × Int)) × (List Int)))) × (List (Int × (Int × (Int × (Int × Int))))))) : Option Bool :=
  let t18_3 : Bool := ((a_1.1.length : Int) != (b_2.1.length : Int))
  let t26_4 : Bool := ((a_1.2.length : Int) != (b_2.2.length : Int))
  let t27_5 : Bool := (bif t18_3 then true else t26_4)
  (bif t27_5 then
    some false
  else
    Option.bind (α := Bool ⊕ Unit) (
      loopO (X := Bool ⊕ Unit) (fun (s_6 : Int) =>
        let t32_7 : Bool := (decide (s_6 < (a_1.1.length : Int)))
        (bif t32_7 then
          chk none ((decide ((0 : Int) ≤ s_6)) && (decide (s_6 < (a_1.1.length : Int)))) <|
          let t35_8 : (Int × ((List (Int × Int)) × (List Int))) := (a_1.1.getD s_6.toNat ((0 : Int), ([], [])))
          chk none ((decide ((0 : Int) ≤ s_6)) && (decide (s_6 < (b_2.1.length : Int)))) <|
          let t40_9 : (Int × ((List (Int × Int)) × (List Int))) := (b_2.1.getD s_6.toNat ((0 : Int), ([], [])))
          let t53_10 : Bool := ((t35_8.2.1.length : Int) != (t40_9.2.1.length : Int))
          let t54_11 : Bool := (bif (t35_8.1 != t40_9.1) then true else t53_10)
          let t62_12 : Bool := ((t35_8.2.2.length : Int) != (t40_9.2.2.length : Int))
          let t63_13 : Bool := (bif t54_11 then true else t62_12)
          (bif t63_13 then
            some (.inr (.inl false))
          else
            Option.bind (α := Bool ⊕ Unit) (
              loopO (X := Bool ⊕ Unit) (fun (s_14 : Int) =>
                let t68_15 : Bool := (decide (s_14 < (t35_8.2.1.length : Int)))
                (bif t68_15 then
                  chk none ((decide ((0 : Int) ≤ s_14)) && (decide (s_14 < (t35_8.2.1.length : Int)))) <|
                  let t74_16 : (Int × Int) := (t35_8.2.1.getD s_14.toNat ((0 : Int), (0 : Int)))
                  chk none ((decide ((0 : Int) ≤ s_14)) && (decide (s_14 < (t40_9.2.1.length : Int)))) <|
                  let t79_17 : (Int × Int) := (t40_9.2.1.getD s_14.toNat ((0 : Int), (0 : Int)))
                  let t80_18 : Bool := (!(eqT (.agg (.pair (.int .i64) (.int .i64))) t74_16 t79_17))
                  (bif t80_18 then
                    some (.inr (.inl false))
                  else
                    let t81_19 : Int := (IntKind.wrap .i64 (s_14 + (1 : Int)))
                    some (.inl t81_19))
                else
                  some (.inr (.inr ())))) (0 : Int)) fun z => match z with
            | .inl r_20 =>
              some (.inr (.inl r_20))
            | .inr _ =>
              Option.bind (α := Bool ⊕ Unit) (
                loopO (X := Bool ⊕ Unit) (fun (s_21 : Int) =>
                  let t86_22 : Bool := (decide (s_21 < (t35_8.2.2.length : Int)))
                  (bif t86_22 then
                    chk none ((decide ((0 : Int) ≤ s_21)) && (decide (s_21 < (t35_8.2.2.length : Int)))) <|
                    let t92_23 : Int := (t35_8.2.2.getD s_21.toNat (0 : Int))
                    chk none ((decide ((0 : Int) ≤ s_21)) && (decide (s_21 < (t40_9.2.2.length : Int)))) <|
                    let t97_24 : Int := (t40_9.2.2.getD s_21.toNat (0 : Int))
                    (bif (t92_23 != t97_24) then
                      some (.inr (.inl false))
                    else
                      let t99_25 : Int := (IntKind.wrap .i64 (s_21 + (1 : Int)))
                      some (.inl t99_25))
                  else
                    some (.inr (.inr ())))) (0 : Int)) fun z => match z with
              | .inl r_26 =>
                some (.inr (.inl r_26))
              | .inr _ =>
                let t100_27 : Int := (IntKind.wrap .i64 (s_6 + (1 : Int)))
                some (.inl t100_27))
        else
          some (.inr (.inr ())))) (0 : Int)) fun z => match z with
    | .inl r_28 =>
      some r_28
    | .inr _ =>
      Option.bind (α := Bool ⊕ Unit) (
        loopO (X := Bool ⊕ Unit) (fun (s_29 : Int) =>
          let t105_30 : Bool := (decide (s_29 < (a_1.2.length : Int)))
          (bif t105_30 then
            chk none ((decide ((0 : Int) ≤ s_29)) && (decide (s_29 < (a_1.2.length : Int)))) <|
            let t108_31 : (Int × (Int × (Int × (Int × Int)))) := (a_1.2.getD s_29.toNat ((0 : Int), ((0 : Int), ((0 : Int), ((0 : Int), (0 : Int))))))
            chk none ((decide ((0 : Int) ≤ s_29)) && (decide (s_29 < (b_2.2.length : Int)))) <|
            let t114_32 : (Int × (Int × (Int × (Int × Int)))) := (b_2.2.getD s_29.toNat ((0 : Int), ((0 : Int), ((0 : Int), ((0 : Int), (0 : Int))))))
            let t115_33 : Bool := (!(eqT (.agg (.pair (.int .i64) (.pair (.int .i64) (.pair (.int .i64) (.pair (.int .i64) (.int .i64)))))) t108_31 t114_32))
            (bif t115_33 then
              some (.inr (.inl false))
            else
              let t116_34 : Int := (IntKind.wrap .i64 (s_29 + (1 : Int)))
              some (.inl t116_34))
          else
            some (.inr (.inr ())))) (0 : Int)) fun z => match z with
      | .inl r_35 =>
        some r_35
      | .inr _ =>
        some true)
noncomputable def con_F_law12_same : Con := { f := 14, ps := [.dat (.agg (.pair (.slice (.agg (.pair (.int .i64) (.pair (.slice (.agg (.pair (.int .i64) (.int .i64)))) (.slice (.int .i64)))))) (.slice (.agg (.pair (.int .i64) (.pair (.int .i64) (.pair (.int .i64) (.pair (.int .i64) (.int .i64))))))))), .dat (.agg (.pair (.slice (.agg (.pair (.int .i64) (.pair (.slice (.agg (.pair (.int .i64) (.int .i64)))) (.slice (.int .i64)))))) (.slice (.agg (.pair (.int .i64) (.pair (.int .i64) (.pair (.int .i64) (.pair (.int .i64) (.int .i64)))))))))], boxes := [], ins := (.pair (.agg (.pair (.slice (.agg (.pair (.int .i64) (.pair (.slice (.agg (.pair (.int .i64) (.int .i64)))) (.slice (.int .i64)))))) (.slice (.agg (.pair (.int .i64) (.pair (.int .i64) (.pair (.int .i64) (.pair (.int .i64) (.int .i64))))))))) (.agg (.pair (.slice (.agg (.pair (.int .i64) (.pair (.slice (.agg (.pair (.int .i64) (.int .i64)))) (.slice (.int .i64)))))) (.slice (.agg (.pair (.int .i64) (.pair (.int .i64) (.pair (.int .i64) (.pair (.int .i64) (.int .i64)))))))))), nin := 2, outs := .bool, rs := [.dat .bool], nout := 1, F := fun x => F_law12_same x.1 x.2 }
def hint_F_law12_same : Hint := (.mk .plain [H0, (.mk .plain [H0, (.mk .plain [(.mk .plain [H0, (.mk .plain [(.mk (.loop [⟨.slot 31, (.int .i64), none⟩] [(0, 36), (0, 42), (0, 39), (0, 45), (0, 48), (0, 54), (0, 51), (0, 57), (0, 60), (0, 5), (0, 63), (0, 35), (0, 32), (0, 38), (0, 41), (0, 47), (0, 44), (0, 50), (0, 53), (0, 59), (0, 56), (0, 62), (0, 7), (0, 4), (0, 34), (0, 40), (0, 37), (0, 43), (0, 46), (0, 52), (0, 49), (0, 55), (0, 61), (0, 58), (0, 6), (0, 33), (0, 66), (0, 69), (0, 8), (0, 72), (0, 78), (0, 75), (0, 81), (0, 68), (0, 65), (0, 71), (0, 74), (0, 80), (0, 77), (0, 64), (0, 67), (0, 73), (0, 70), (0, 76), (0, 79), (0, 91), (0, 87), (0, 84), (0, 93), (0, 86), (0, 95), (0, 9), (0, 88), (0, 97), (0, 94), (0, 90), (0, 99), (0, 96), (0, 83), (0, 92), (0, 89), (0, 98), (0, 85), (0, 82), (0, 100)] [(.ret, [⟨.slot 4, .bool, none⟩]), (.exit 0, [])]) [(.mk .plain [H0, (.mk .plain [H0, (.mk .plain [(.mk .plain [(.mk .plain [H0, (.mk .plain [H0, (.mk .plain [H0, (.mk .plain [(.mk .plain [H0, (.mk .plain [(.mk (.loop [⟨.slot 67, (.int .i64), none⟩] [(0, 68), (0, 75), (0, 4), (0, 71), (0, 74), (0, 80), (0, 77), (0, 73), (0, 70), (0, 76), (0, 79), (0, 69), (0, 8), (0, 72), (0, 78), (0, 81)] [(.ret, [⟨.slot 4, .bool, none⟩]), (.exit 2, [])]) [])])]), (.mk .plain [H0, (.mk .plain [(.mk (.loop [⟨.slot 85, (.int .i64), none⟩] [(0, 91), (0, 97), (0, 87), (0, 4), (0, 94), (0, 90), (0, 93), (0, 9), (0, 96), (0, 86), (0, 92), (0, 89), (0, 95), (0, 98), (0, 88), (0, 99)] [(.ret, [⟨.slot 4, .bool, none⟩]), (.exit 4, [])]) [])])])])])])])])])])])])])]), (.mk .plain [(.mk .plain [H0, (.mk .plain [(.mk (.loop [⟨.slot 104, (.int .i64), none⟩] [(0, 4), (0, 106), (0, 10), (0, 109), (0, 112), (0, 115), (0, 11), (0, 107), (0, 113), (0, 110), (0, 105), (0, 111), (0, 108), (0, 114), (0, 116)] [(.ret, [⟨.slot 4, .bool, none⟩]), (.exit 6, [])]) [])])])])])])])
theorem run_F_law12_same : runE ⟨tdGet tys, [], [], []⟩ con_F_law12_same Try.f14 hint_F_law12_same = con_F_law12_same.F := by
  funext x
  kernel_rfl
theorem ok_F_law12_same : ConOK Try.prog con_F_law12_same :=
  con_of_run (Γ := ⟨tdGet tys, [], [], []⟩) ⟨fun T d h => tysB_ok tys tys_ok T d h, by simp [], by simp [], by simp []⟩ (by kernel_rfl) Try.func14 rfl (by kernel_rfl) run_F_law12_same
/-- odograph/odographlaw12.anchor -/
noncomputable def F_law12_anchor (_ : Unit) : Option Bool :=
  let t7_1 : (List (Int × Int)) := ([((0 : Int), (0 : Int))] : List (Int × Int))
  let t9_2 : (List (Int × ((List (Int × Int)) × (List Int)))) := ([((1 : Int), (t7_1, []))] : List (Int × ((List (Int × Int)) × (List Int))))
  (F_image_Pack (t9_2, [])).bind fun t13_3 =>
  (F_image_Open t13_3.1).bind fun t18_4 =>
  let t26_5 : Bool := (bif (t13_3.2 == (0 : Int)) then (t18_4.2 == (0 : Int)) else false)
  let t30_6 : Bool := ((t13_3.1.length : Int) == (32 : Int))
  let t31_7 : Bool := (bif t26_5 then t30_6 else false)
  (bif t31_7 then F_law12_same (t9_2, []) t18_4.1 else some false).bind fun t35_8 =>
  let t36_9 : Bool := (bif t31_7 then t35_8 else false)
  some t36_9
noncomputable def con_F_law12_anchor : Con := { f := 7, ps := [], boxes := [], ins := .unit, nin := 0, outs := .bool, rs := [.dat .bool], nout := 1, F := fun x => F_law12_anchor () }
def hint_F_law12_anchor : Hint := H0
theorem run_F_law12_anchor : runE ⟨tdGet tys, [con_F_image_Pack, con_F_image_Open, con_F_law12_same], [], []⟩ con_F_law12_anchor Try.f7 hint_F_law12_anchor = con_F_law12_anchor.F := by
  funext x
  kernel_rfl
theorem ok_F_law12_anchor : ConOK Try.prog con_F_law12_anchor :=
  con_of_run (Γ := ⟨tdGet tys, [con_F_image_Pack, con_F_image_Open, con_F_law12_same], [], []⟩) ⟨fun T d h => tysB_ok tys tys_ok T d h, by simp [ok_F_image_Pack, ok_F_image_Open, ok_F_law12_same], by simp [], by simp []⟩ (by kernel_rfl) Try.func7 rfl (by kernel_rfl) run_F_law12_anchor
/-- odograph/odographlaw12.great -/
noncomputable def F_law12_great (t_1 : ((List (Int × ((List (Int × Int)) × (List Int)))) × (List (Int × (Int × (Int × (Int × Int))))))) : Option Bool :=
  let t12_2 : Int := (IntKind.wrap .i64 ((t_1.1.length : Int) + (t_1.2.length : Int)))
  let t14_3 : Bool := (decide ((700 : Int) < t12_2))
  (bif t14_3 then
    some true
  else
    Option.bind (α := Bool ⊕ Unit) (
      loopO (X := Bool ⊕ Unit) (fun (s_4 : (Int × Int)) =>
        let n_5 : Int := s_4.1
        let t18_6 : Int := s_4.2
        let t19_7 : Bool := (decide (t18_6 < (t_1.1.length : Int)))
        (bif t19_7 then
          chk none ((decide ((0 : Int) ≤ t18_6)) && (decide (t18_6 < (t_1.1.length : Int)))) <|
          let t21_8 : (Int × ((List (Int × Int)) × (List Int))) := (t_1.1.getD t18_6.toNat ((0 : Int), ([], [])))
          let t29_9 : Int := (IntKind.wrap .i64 ((t21_8.2.1.length : Int) + (t21_8.2.2.length : Int)))
          let t30_10 : Int := (IntKind.wrap .i64 (n_5 + t29_9))
          let t32_11 : Bool := (decide ((3000 : Int) < t30_10))
          (bif t32_11 then
            some (.inr (.inl true))
          else
            let t33_12 : Int := (IntKind.wrap .i64 (t18_6 + (1 : Int)))
            some (.inl (t30_10, t33_12)))
        else
          some (.inr (.inr ())))) (t12_2, (0 : Int))) fun z => match z with
    | .inl r_13 =>
      some r_13
    | .inr _ =>
      some false)
noncomputable def con_F_law12_great : Con := { f := 8, ps := [.dat (.agg (.pair (.slice (.agg (.pair (.int .i64) (.pair (.slice (.agg (.pair (.int .i64) (.int .i64)))) (.slice (.int .i64)))))) (.slice (.agg (.pair (.int .i64) (.pair (.int .i64) (.pair (.int .i64) (.pair (.int .i64) (.int .i64)))))))))], boxes := [], ins := (.agg (.pair (.slice (.agg (.pair (.int .i64) (.pair (.slice (.agg (.pair (.int .i64) (.int .i64)))) (.slice (.int .i64)))))) (.slice (.agg (.pair (.int .i64) (.pair (.int .i64) (.pair (.int .i64) (.pair (.int .i64) (.int .i64))))))))), nin := 1, outs := .bool, rs := [.dat .bool], nout := 1, F := fun x => F_law12_great x }
def hint_F_law12_great : Hint := (.mk .plain [H0, (.mk .plain [H0, (.mk .plain [H0, (.mk .plain [(.mk .plain [H0, (.mk .plain [(.mk (.loop [⟨.slot 3, (.int .i64), none⟩, ⟨.slot 18, (.int .i64), none⟩] [(0, 30), (0, 19), (0, 22), (0, 28), (0, 2), (0, 25), (0, 31), (0, 5), (0, 23), (0, 20), (0, 26), (0, 29), (0, 32), (0, 21), (0, 24), (0, 27), (0, 33)] [(.ret, [⟨.slot 2, .bool, none⟩]), (.exit 0, [])]) [])])])])])])])
theorem run_F_law12_great : runE ⟨tdGet tys, [], [], []⟩ con_F_law12_great Try.f8 hint_F_law12_great = con_F_law12_great.F := by
  funext x
  kernel_rfl
theorem ok_F_law12_great : ConOK Try.prog con_F_law12_great :=
  con_of_run (Γ := ⟨tdGet tys, [], [], []⟩) ⟨fun T d h => tysB_ok tys tys_ok T d h, by simp [], by simp [], by simp []⟩ (by kernel_rfl) Try.func8 rfl (by kernel_rfl) run_F_law12_great
/-- odograph/odographlaw12.refs -/
noncomputable def F_law12_refs (t_1 : ((List (Int × ((List (Int × Int)) × (List Int)))) × (List (Int × (Int × (Int × (Int × Int))))))) : Option ((List (Int × ((List (Int × Int)) × (List Int)))) × (List (Int × (Int × (Int × (Int × Int)))))) :=
  Option.bind (
    loopO (X := (List (Int × ((List (Int × Int)) × (List Int))))) (fun (s_2 : (Int × (List (Int × ((List (Int × Int)) × (List Int)))))) =>
      let t14_3 : Int := s_2.1
      let b2_4 : (List (Int × ((List (Int × Int)) × (List Int)))) := s_2.2
      let t15_5 : Bool := (decide (t14_3 < (t_1.1.length : Int)))
      (bif t15_5 then
        chk none ((decide ((0 : Int) ≤ t14_3)) && (decide (t14_3 < (t_1.1.length : Int)))) <|
        let t17_6 : (Int × ((List (Int × Int)) × (List Int))) := (t_1.1.getD t14_3.toNat ((0 : Int), ([], [])))
        Option.bind (
          loopO (X := (List (Int × Int))) (fun (s_7 : ((List (Int × Int)) × Int)) =>
            let b4_8 : (List (Int × Int)) := s_7.1
            let t26_9 : Int := s_7.2
            let t27_10 : Bool := (decide (t26_9 < (t17_6.2.1.length : Int)))
            (bif t27_10 then
              chk none ((decide ((0 : Int) ≤ t26_9)) && (decide (t26_9 < (t17_6.2.1.length : Int)))) <|
              let t29_11 : (Int × Int) := (t17_6.2.1.getD t26_9.toNat ((0 : Int), (0 : Int)))
              let t37_12 : (List (Int × Int)) := ([t29_11] : List (Int × Int))
              chk none (decide ((b4_8.length + t37_12.length) * 16 ≤ 140737488355328)) <|
              let t38_13 : (List (Int × Int)) := (b4_8 ++ t37_12)
              let t40_14 : Int := (IntKind.wrap .i64 (t26_9 + (1 : Int)))
              some (.inl (t38_13, t40_14))
            else
              some (.inr b4_8))) ([], (0 : Int))) fun r_15 =>
        let t43_16 : (Int × ((List (Int × Int)) × (List Int))) := (t17_6.1, (r_15, t17_6.2.2))
        let t44_17 : (List (Int × ((List (Int × Int)) × (List Int)))) := ([t43_16] : List (Int × ((List (Int × Int)) × (List Int))))
        chk none (decide ((b2_4.length + t44_17.length) * 56 ≤ 140737488355328)) <|
        let t45_18 : (List (Int × ((List (Int × Int)) × (List Int)))) := (b2_4 ++ t44_17)
        let t47_19 : Int := (IntKind.wrap .i64 (t14_3 + (1 : Int)))
        some (.inl (t47_19, t45_18))
      else
        some (.inr b2_4))) ((0 : Int), [])) fun r_20 =>
  Option.bind (
    loopO (X := (List (Int × (Int × (Int × (Int × Int)))))) (fun (s_21 : ((List (Int × (Int × (Int × (Int × Int))))) × Int)) =>
      let b2_22 : (List (Int × (Int × (Int × (Int × Int))))) := s_21.1
      let t51_23 : Int := s_21.2
      let t52_24 : Bool := (decide (t51_23 < (t_1.2.length : Int)))
      (bif t52_24 then
        chk none ((decide ((0 : Int) ≤ t51_23)) && (decide (t51_23 < (t_1.2.length : Int)))) <|
        let t54_25 : (Int × (Int × (Int × (Int × Int)))) := (t_1.2.getD t51_23.toNat ((0 : Int), ((0 : Int), ((0 : Int), ((0 : Int), (0 : Int))))))
        let t58_26 : (List (Int × (Int × (Int × (Int × Int))))) := ([t54_25] : List (Int × (Int × (Int × (Int × Int)))))
        chk none (decide ((b2_22.length + t58_26.length) * 40 ≤ 140737488355328)) <|
        let t59_27 : (List (Int × (Int × (Int × (Int × Int))))) := (b2_22 ++ t58_26)
        let t61_28 : Int := (IntKind.wrap .i64 (t51_23 + (1 : Int)))
        some (.inl (t59_27, t61_28))
      else
        some (.inr b2_22))) ([], (0 : Int))) fun r_29 =>
  let w_30 : ((List (Int × ((List (Int × Int)) × (List Int)))) × (List (Int × (Int × (Int × (Int × Int)))))) := (r_20, r_29)
  some w_30
noncomputable def con_F_law12_refs : Con := { f := 11, ps := [.dat (.agg (.pair (.slice (.agg (.pair (.int .i64) (.pair (.slice (.agg (.pair (.int .i64) (.int .i64)))) (.slice (.int .i64)))))) (.slice (.agg (.pair (.int .i64) (.pair (.int .i64) (.pair (.int .i64) (.pair (.int .i64) (.int .i64)))))))))], boxes := [], ins := (.agg (.pair (.slice (.agg (.pair (.int .i64) (.pair (.slice (.agg (.pair (.int .i64) (.int .i64)))) (.slice (.int .i64)))))) (.slice (.agg (.pair (.int .i64) (.pair (.int .i64) (.pair (.int .i64) (.pair (.int .i64) (.int .i64))))))))), nin := 1, outs := (.agg (.pair (.slice (.agg (.pair (.int .i64) (.pair (.slice (.agg (.pair (.int .i64) (.int .i64)))) (.slice (.int .i64)))))) (.slice (.agg (.pair (.int .i64) (.pair (.int .i64) (.pair (.int .i64) (.pair (.int .i64) (.int .i64))))))))), rs := [.dat (.agg (.pair (.slice (.agg (.pair (.int .i64) (.pair (.slice (.agg (.pair (.int .i64) (.int .i64)))) (.slice (.int .i64)))))) (.slice (.agg (.pair (.int .i64) (.pair (.int .i64) (.pair (.int .i64) (.pair (.int .i64) (.int .i64)))))))))], nout := 1, F := fun x => F_law12_refs x }
def hint_F_law12_refs : Hint := (.mk .plain [H0, (.mk .plain [H0, (.mk .plain [(.mk .plain [H0, (.mk .plain [(.mk (.loop [⟨.slot 14, (.int .i64), none⟩, ⟨.cell 2 0, (.slice (.agg (.pair (.int .i64) (.pair (.slice (.agg (.pair (.int .i64) (.int .i64)))) (.slice (.int .i64)))))), some 4500064⟩] [(0, 30), (0, 36), (0, 42), (0, 39), (0, 45), (0, 5), (0, 8), (0, 17), (0, 23), (0, 20), (0, 26), (0, 29), (0, 35), (0, 32), (0, 38), (0, 41), (0, 47), (0, 44), (0, 16), (0, 19), (0, 22), (0, 28), (0, 25), (0, 31), (0, 34), (0, 40), (0, 37), (0, 43), (0, 46), (0, 6), (0, 15), (0, 21), (0, 18), (0, 24), (0, 27), (0, 33)] [(.exit 0, [⟨.cell 2 0, (.slice (.agg (.pair (.int .i64) (.pair (.slice (.agg (.pair (.int .i64) (.int .i64)))) (.slice (.int .i64)))))), some 4500064⟩])]) [(.mk .plain [H0, (.mk .plain [H0, (.mk .plain [(.mk .plain [(.mk .plain [H0, (.mk .plain [H0, (.mk .plain [(.mk .plain [H0, (.mk .plain [(.mk (.loop [⟨.cell 4 1, (.slice (.agg (.pair (.int .i64) (.int .i64)))), some 3800066⟩, ⟨.slot 26, (.int .i64), none⟩] [(0, 30), (0, 36), (0, 39), (0, 28), (0, 31), (0, 34), (0, 40), (0, 8), (0, 37), (0, 29), (0, 35), (0, 32), (0, 38), (0, 27), (0, 33)] [(.exit 2, [⟨.cell 4 1, (.slice (.agg (.pair (.int .i64) (.int .i64)))), some 3800066⟩])]) [])])])])])])])])])])])])]), (.mk .plain [(.mk .plain [H0, (.mk .plain [(.mk (.loop [⟨.cell 2 1, (.slice (.agg (.pair (.int .i64) (.pair (.int .i64) (.pair (.int .i64) (.pair (.int .i64) (.int .i64))))))), some 5900065⟩, ⟨.slot 51, (.int .i64), none⟩] [(0, 10), (0, 54), (0, 57), (0, 60), (0, 52), (0, 55), (0, 61), (0, 58), (0, 53), (0, 59), (0, 56)] [(.exit 4, [⟨.cell 2 1, (.slice (.agg (.pair (.int .i64) (.pair (.int .i64) (.pair (.int .i64) (.pair (.int .i64) (.int .i64))))))), some 5900065⟩])]) [])])])])])])])
theorem run_F_law12_refs : runE ⟨tdGet tys, [], [], []⟩ con_F_law12_refs Try.f11 hint_F_law12_refs = con_F_law12_refs.F := by
  funext x
  kernel_rfl
theorem ok_F_law12_refs : ConOK Try.prog con_F_law12_refs :=
  con_of_run (Γ := ⟨tdGet tys, [], [], []⟩) ⟨fun T d h => tysB_ok tys tys_ok T d h, by simp [], by simp [], by simp []⟩ (by kernel_rfl) Try.func11 rfl (by kernel_rfl) run_F_law12_refs
/-- odograph/odographref10.May -/
noncomputable def F_ref10_May (l_1 : (List (Int × Int))) (length_2 : Int) : Option Bool :=
  let t8_3 : Bool := (decide ((l_1.length : Int) < (1 : Int)))
  let t12_4 : Bool := (decide ((64 : Int) < (l_1.length : Int)))
  let t13_5 : Bool := (bif t8_3 then true else t12_4)
  chk none ((true && (decide ((0 : Int) < (l_1.length : Int)))) || !(!t13_5)) <|
  let e_6 : (Int × Int) := (l_1.getD (0 : Int).toNat ((0 : Int), (0 : Int)))
  let t20_7 : Bool := (bif t13_5 then true else (e_6.1 != (0 : Int)))
  (bif t20_7 then
    some false
  else
    Option.bind (α := Bool ⊕ Unit) (
      loopO (X := Bool ⊕ Unit) (fun (s_8 : Int) =>
        let t24_9 : Bool := (decide (s_8 < (l_1.length : Int)))
        (bif t24_9 then
          chk none ((decide ((0 : Int) ≤ s_8)) && (decide (s_8 < (l_1.length : Int)))) <|
          let e_10 : (Int × Int) := (l_1.getD s_8.toNat ((0 : Int), (0 : Int)))
          let t32_11 : Bool := (decide (e_10.2 < (-1048576 : Int)))
          chk none (((decide ((0 : Int) ≤ s_8)) && (decide (s_8 < (l_1.length : Int)))) || !(!t32_11)) <|
          let e_12 : (Int × Int) := (l_1.getD s_8.toNat ((0 : Int), (0 : Int)))
          let t39_13 : Bool := (decide ((1048576 : Int) < e_12.2))
          let t40_14 : Bool := (bif t32_11 then true else t39_13)
          chk none (((decide ((0 : Int) ≤ s_8)) && (decide (s_8 < (l_1.length : Int)))) || !(!t40_14)) <|
          let e_15 : (Int × Int) := (l_1.getD s_8.toNat ((0 : Int), (0 : Int)))
          let t48_16 : Bool := (decide (length_2 ≤ e_15.1))
          let t49_17 : Bool := (bif t40_14 then true else t48_16)
          (bif t49_17 then
            some (.inr (.inl false))
          else
            let t51_18 : Bool := (decide ((0 : Int) < s_8))
            chk none (((decide ((0 : Int) ≤ s_8)) && (decide (s_8 < (l_1.length : Int)))) || !t51_18) <|
            let e_19 : (Int × Int) := (l_1.getD s_8.toNat ((0 : Int), (0 : Int)))
            let t60_20 : Int := (IntKind.wrap .i64 (s_8 - (1 : Int)))
            chk none (((decide ((0 : Int) ≤ t60_20)) && (decide (t60_20 < (l_1.length : Int)))) || !t51_18) <|
            let e_21 : (Int × Int) := (l_1.getD t60_20.toNat ((0 : Int), (0 : Int)))
            let t64_22 : Bool := (decide (e_19.1 ≤ e_21.1))
            let t65_23 : Bool := (bif t51_18 then t64_22 else false)
            (bif t65_23 then
              some (.inr (.inl false))
            else
              let t26_24 : Int := (IntKind.wrap .i64 (s_8 + (1 : Int)))
              some (.inl t26_24)))
        else
          some (.inr (.inr ())))) (0 : Int)) fun z => match z with
    | .inl r_25 =>
      some r_25
    | .inr _ =>
      some true)
noncomputable def con_F_ref10_May : Con := { f := 33, ps := [.dat (.slice (.agg (.pair (.int .i64) (.int .i64)))), .dat (.int .i64)], boxes := [], ins := (.pair (.slice (.agg (.pair (.int .i64) (.int .i64)))) (.int .i64)), nin := 2, outs := .bool, rs := [.dat .bool], nout := 1, F := fun x => F_ref10_May x.1 x.2 }
def hint_F_ref10_May : Hint := (.mk .plain [H0, (.mk .plain [H0, (.mk .plain [(.mk .plain [H0, (.mk .plain [(.mk (.loop [⟨.slot 5, (.int .i64), none⟩] [(0, 30), (0, 36), (0, 42), (0, 4), (0, 39), (0, 45), (0, 48), (0, 22), (0, 28), (0, 31), (0, 34), (0, 40), (0, 37), (0, 43), (0, 46), (0, 23), (0, 49), (0, 29), (0, 35), (0, 32), (0, 38), (0, 41), (0, 47), (0, 44), (0, 21), (0, 24), (0, 27), (0, 33), (0, 54), (0, 51), (0, 57), (0, 60), (0, 63), (0, 26), (0, 50), (0, 53), (0, 59), (0, 56), (0, 62), (0, 65), (0, 25), (0, 52), (0, 55), (0, 61), (0, 58), (0, 64)] [(.ret, [⟨.slot 4, .bool, none⟩]), (.exit 0, [])]) [])])])])])])
theorem run_F_ref10_May : runE ⟨tdGet tys, [], [], []⟩ con_F_ref10_May Try.f33 hint_F_ref10_May = con_F_ref10_May.F := by
  funext x
  kernel_rfl
theorem ok_F_ref10_May : ConOK Try.prog con_F_ref10_May :=
  con_of_run (Γ := ⟨tdGet tys, [], [], []⟩) ⟨fun T d h => tysB_ok tys tys_ok T d h, by simp [], by simp [], by simp []⟩ (by kernel_rfl) Try.func33 rfl (by kernel_rfl) run_F_ref10_May
/-- odograph/odographref11.segment -/
noncomputable def F_ref11_segment (s_1 : (Int × ((List (Int × Int)) × (List Int)))) (many_2 : Int) : Option Bool :=
  let t8_3 : Bool := (decide (s_1.1 < (1 : Int)))
  let t12_4 : Bool := (decide ((1099511627776 : Int) < s_1.1))
  let t13_5 : Bool := (bif t8_3 then true else t12_4)
  (bif !t13_5 then F_ref10_May s_1.2.1 s_1.1 else some false).bind fun t19_6 =>
  let t21_7 : Bool := (bif t13_5 then true else (!t19_6))
  let t26_8 : Bool := (decide ((2 : Int) < (s_1.2.2.length : Int)))
  let t27_9 : Bool := (bif t21_7 then true else t26_8)
  (bif t27_9 then
    some false
  else
    Option.bind (α := Bool ⊕ Unit) (
      loopO (X := Bool ⊕ Unit) (fun (s_10 : Int) =>
        let t32_11 : Bool := (decide (s_10 < (s_1.2.2.length : Int)))
        (bif t32_11 then
          chk none ((decide ((0 : Int) ≤ s_10)) && (decide (s_10 < (s_1.2.2.length : Int)))) <|
          let t39_12 : Int := (s_1.2.2.getD s_10.toNat (0 : Int))
          let t40_13 : Bool := (decide (t39_12 < (0 : Int)))
          chk none (((decide ((0 : Int) ≤ s_10)) && (decide (s_10 < (s_1.2.2.length : Int)))) || !(!t40_13)) <|
          let t46_14 : Int := (s_1.2.2.getD s_10.toNat (0 : Int))
          let t48_15 : Bool := (decide (many_2 ≤ t46_14))
          let t49_16 : Bool := (bif t40_13 then true else t48_15)
          (bif t49_16 then
            some (.inr (.inl false))
          else
            let t34_17 : Int := (IntKind.wrap .i64 (s_10 + (1 : Int)))
            some (.inl t34_17))
        else
          some (.inr (.inr ())))) (0 : Int)) fun z => match z with
    | .inl r_18 =>
      some r_18
    | .inr _ =>
      let t53_19 : Bool := (decide ((s_1.2.2.length : Int) < (2 : Int)))
      chk none ((true && (decide ((0 : Int) < (s_1.2.2.length : Int)))) || !(!t53_19)) <|
      let t58_20 : Int := (s_1.2.2.getD (0 : Int).toNat (0 : Int))
      chk none ((true && (decide ((1 : Int) < (s_1.2.2.length : Int)))) || !(!t53_19)) <|
      let t62_21 : Int := (s_1.2.2.getD (1 : Int).toNat (0 : Int))
      let t63_22 : Bool := (decide (t58_20 < t62_21))
      let t64_23 : Bool := (bif t53_19 then true else t63_22)
      some t64_23)
noncomputable def con_F_ref11_segment : Con := { f := 19, ps := [.dat (.agg (.pair (.int .i64) (.pair (.slice (.agg (.pair (.int .i64) (.int .i64)))) (.slice (.int .i64))))), .dat (.int .i64)], boxes := [], ins := (.pair (.agg (.pair (.int .i64) (.pair (.slice (.agg (.pair (.int .i64) (.int .i64)))) (.slice (.int .i64))))) (.int .i64)), nin := 2, outs := .bool, rs := [.dat .bool], nout := 1, F := fun x => F_ref11_segment x.1 x.2 }
def hint_F_ref11_segment : Hint := (.mk .plain [H0, (.mk .plain [H0, (.mk .plain [(.mk .plain [H0, (.mk .plain [(.mk (.loop [⟨.slot 5, (.int .i64), none⟩] [(0, 30), (0, 36), (0, 42), (0, 4), (0, 39), (0, 45), (0, 48), (0, 28), (0, 31), (0, 40), (0, 37), (0, 43), (0, 46), (0, 49), (0, 29), (0, 35), (0, 32), (0, 38), (0, 41), (0, 47), (0, 44), (0, 34), (0, 33)] [(.ret, [⟨.slot 4, .bool, none⟩]), (.exit 0, [])]) [])])])])])])
theorem run_F_ref11_segment : runE ⟨tdGet tys, [con_F_ref10_May], [], []⟩ con_F_ref11_segment Try.f19 hint_F_ref11_segment = con_F_ref11_segment.F := by
  funext x
  kernel_rfl
theorem ok_F_ref11_segment : ConOK Try.prog con_F_ref11_segment :=
  con_of_run (Γ := ⟨tdGet tys, [con_F_ref10_May], [], []⟩) ⟨fun T d h => tysB_ok tys tys_ok T d h, by simp [ok_F_ref10_May], by simp [], by simp []⟩ (by kernel_rfl) Try.func19 rfl (by kernel_rfl) run_F_ref11_segment
/-- odograph/odographref11.Check -/
noncomputable def F_ref11_Check (t_1 : ((List (Int × ((List (Int × Int)) × (List Int)))) × (List (Int × (Int × (Int × (Int × Int))))))) : Option (Int × Int) :=
  let t11_2 : Bool := (decide ((t_1.1.length : Int) < (1 : Int)))
  let t16_3 : Bool := (decide ((200 : Int) < (t_1.1.length : Int)))
  let t17_4 : Bool := (bif t11_2 then true else t16_3)
  let t22_5 : Bool := (decide ((400 : Int) < (t_1.2.length : Int)))
  let t23_6 : Bool := (bif t17_4 then true else t22_5)
  (bif t23_6 then
    some ((13 : Int), (0 : Int))
  else
    Option.bind (α := (Int × Int) ⊕ Unit) (
      loopO (X := (Int × Int) ⊕ Unit) (fun (s_7 : Int) =>
        let t28_8 : Bool := (decide (s_7 < (t_1.1.length : Int)))
        (bif t28_8 then
          chk none ((decide ((0 : Int) ≤ s_7)) && (decide (s_7 < (t_1.1.length : Int)))) <|
          let t35_9 : (Int × ((List (Int × Int)) × (List Int))) := (t_1.1.getD s_7.toNat ((0 : Int), ([], [])))
          (F_ref11_segment t35_9 (t_1.1.length : Int)).bind fun t39_10 =>
          (bif (!t39_10) then
            some (.inr (.inl (s_7, (11 : Int))))
          else
            let t30_11 : Int := (IntKind.wrap .i64 (s_7 + (1 : Int)))
            some (.inl t30_11))
        else
          some (.inr (.inr ())))) (0 : Int)) fun z => match z with
    | .inl r_12 =>
      let t3_13 : Int := r_12.1
      let t2_14 : Int := r_12.2
      some (t2_14, t3_13)
    | .inr _ =>
      Option.bind (α := (Int × Int) ⊕ Unit) (
        loopO (X := (Int × Int) ⊕ Unit) (fun (s_15 : (Int × Int)) =>
          let last_16 : Int := s_15.1
          let i_17 : Int := s_15.2
          let t46_18 : Bool := (decide (i_17 < (t_1.2.length : Int)))
          (bif t46_18 then
            chk none ((decide ((0 : Int) ≤ i_17)) && (decide (i_17 < (t_1.2.length : Int)))) <|
            let t53_19 : (Int × (Int × (Int × (Int × Int)))) := (t_1.2.getD i_17.toNat ((0 : Int), ((0 : Int), ((0 : Int), ((0 : Int), (0 : Int))))))
            let t57_20 : Bool := (decide (t53_19.1 ≤ last_16))
            let t61_21 : Bool := (decide ((65535 : Int) < t53_19.1))
            let t62_22 : Bool := (bif t57_20 then true else t61_21)
            let t66_23 : Bool := (decide (t53_19.2.1 < (0 : Int)))
            let t67_24 : Bool := (bif t62_22 then true else t66_23)
            let t74_25 : Bool := (decide ((t_1.1.length : Int) ≤ t53_19.2.1))
            let t75_26 : Bool := (bif t67_24 then true else t74_25)
            (bif t75_26 then
              some (.inr (.inl ((16 : Int), i_17)))
            else
              let t79_27 : Bool := (decide (t53_19.2.2.1 < (0 : Int)))
              chk none (((decide ((0 : Int) ≤ t53_19.2.1)) && (decide (t53_19.2.1 < (t_1.1.length : Int)))) || !(!t79_27)) <|
              let e_28 : (Int × ((List (Int × Int)) × (List Int))) := (t_1.1.getD t53_19.2.1.toNat ((0 : Int), ([], [])))
              let t90_29 : Bool := (decide (e_28.1 < t53_19.2.2.1))
              let t91_30 : Bool := (bif t79_27 then true else t90_29)
              let t95_31 : Bool := (decide (t53_19.2.2.2.1 < (0 : Int)))
              let t96_32 : Bool := (bif t91_30 then true else t95_31)
              let t100_33 : Bool := (decide ((1048576 : Int) < t53_19.2.2.2.1))
              let t101_34 : Bool := (bif t96_32 then true else t100_33)
              let t105_35 : Bool := (decide (t53_19.2.2.2.2 < (0 : Int)))
              let t106_36 : Bool := (bif t101_34 then true else t105_35)
              let t110_37 : Bool := (decide ((16777216 : Int) < t53_19.2.2.2.2))
              let t111_38 : Bool := (bif t106_36 then true else t110_37)
              (bif t111_38 then
                some (.inr (.inl ((16 : Int), i_17)))
              else
                let t48_39 : Int := (IntKind.wrap .i64 (i_17 + (1 : Int)))
                some (.inl (t53_19.1, t48_39))))
          else
            some (.inr (.inr ())))) ((0 : Int), (0 : Int))) fun z => match z with
      | .inl r_40 =>
        let t2_41 : Int := r_40.1
        let t3_42 : Int := r_40.2
        some (t2_41, t3_42)
      | .inr _ =>
        some ((0 : Int), (0 : Int)))
noncomputable def con_F_ref11_Check : Con := { f := 10, ps := [.dat (.agg (.pair (.slice (.agg (.pair (.int .i64) (.pair (.slice (.agg (.pair (.int .i64) (.int .i64)))) (.slice (.int .i64)))))) (.slice (.agg (.pair (.int .i64) (.pair (.int .i64) (.pair (.int .i64) (.pair (.int .i64) (.int .i64)))))))))], boxes := [], ins := (.agg (.pair (.slice (.agg (.pair (.int .i64) (.pair (.slice (.agg (.pair (.int .i64) (.int .i64)))) (.slice (.int .i64)))))) (.slice (.agg (.pair (.int .i64) (.pair (.int .i64) (.pair (.int .i64) (.pair (.int .i64) (.int .i64))))))))), nin := 1, outs := (.pair (.int .i64) (.int .i64)), rs := [.dat (.int .i64), .dat (.int .i64)], nout := 2, F := fun x => F_ref11_Check x }
def hint_F_ref11_Check : Hint := (.mk .plain [H0, (.mk .plain [H0, (.mk .plain [(.mk .plain [H0, (.mk .plain [(.mk (.loop [⟨.slot 4, (.int .i64), none⟩] [(0, 36), (0, 26), (0, 39), (0, 35), (0, 3), (0, 32), (0, 38), (0, 28), (0, 41), (0, 2), (0, 31), (0, 25), (0, 34), (0, 40), (0, 24), (0, 37), (0, 27), (0, 33), (0, 30), (0, 29)] [(.ret, [⟨.slot 3, (.int .i64), none⟩, ⟨.slot 2, (.int .i64), none⟩]), (.exit 0, [])]) [])])]), (.mk .plain [H0, (.mk .plain [(.mk .plain [H0, (.mk .plain [(.mk (.loop [⟨.slot 5, (.int .i64), none⟩, ⟨.slot 6, (.int .i64), none⟩] [(0, 42), (0, 45), (0, 54), (0, 51), (0, 57), (0, 2), (0, 60), (0, 66), (0, 63), (0, 69), (0, 72), (0, 75), (0, 44), (0, 50), (0, 53), (0, 59), (0, 56), (0, 62), (0, 68), (0, 7), (0, 65), (0, 71), (0, 74), (0, 43), (0, 46), (0, 52), (0, 49), (0, 55), (0, 61), (0, 58), (0, 64), (0, 3), (0, 67), (0, 73), (0, 70), (0, 76), (0, 91), (0, 100), (0, 109), (0, 78), (0, 87), (0, 84), (0, 93), (0, 102), (0, 111), (0, 108), (0, 80), (0, 77), (0, 86), (0, 95), (0, 104), (0, 101), (0, 110), (0, 79), (0, 88), (0, 97), (0, 94), (0, 106), (0, 103), (0, 112), (0, 81), (0, 90), (0, 99), (0, 96), (0, 105), (0, 83), (0, 92), (0, 89), (0, 98), (0, 107), (0, 85), (0, 82), (0, 47), (0, 113), (0, 48), (0, 114)] [(.ret, [⟨.slot 2, (.int .i64), none⟩, ⟨.slot 3, (.int .i64), none⟩]), (.exit 2, [])]) [])])])])])])])])
theorem run_F_ref11_Check : runE ⟨tdGet tys, [con_F_ref11_segment], [], []⟩ con_F_ref11_Check Try.f10 hint_F_ref11_Check = con_F_ref11_Check.F := by
  funext x
  kernel_rfl
theorem ok_F_ref11_Check : ConOK Try.prog con_F_ref11_Check :=
  con_of_run (Γ := ⟨tdGet tys, [con_F_ref11_segment], [], []⟩) ⟨fun T d h => tysB_ok tys tys_ok T d h, by simp [ok_F_ref11_segment], by simp [], by simp []⟩ (by kernel_rfl) Try.func10 rfl (by kernel_rfl) run_F_ref11_Check
/-- odograph/odographref12.Put -/
noncomputable def F_ref12_Put (v_1 : Int) (n_2 : Int) : Option (List Int) :=
  chk none ((decide ((0 : Int) ≤ n_2)) && (decide (n_2 ≤ n_2)) && (decide (n_2 * 1 ≤ (140737488355328 : Int))) && (decide (n_2 ≤ (140737488355328 : Int)))) <|
  let t12_3 : Bool := (decide (v_1 < (0 : Int)))
  (bif t12_3 then
    let t14_4 : Int := (IntKind.wrap .i64 ((-1 : Int) - v_1))
    let t16_5 : Int := (IntKind.wrap .i64 (n_2 - (1 : Int)))
    Option.bind (
      loopO (X := (List Int)) (fun (s_6 : (Int × ((List Int) × Int))) =>
        let i_7 : Int := s_6.1
        let out_8 : (List Int) := s_6.2.1
        let w_9 : Int := s_6.2.2
        let t18_10 : Bool := (decide ((0 : Int) ≤ i_7))
        (bif t18_10 then
          let t25_11 : Int := (IntKind.wrap .i64 ((255 : Int) - (w_9.tmod (256 : Int))))
          let t26_12 : Int := (IntKind.wrap .u8 t25_11)
          chk none ((decide ((0 : Int) ≤ i_7)) && (decide (i_7 < (out_8.length : Int)))) <|
          let l_13 : (List Int) := (out_8.set i_7.toNat t26_12)
          let t29_14 : Int := (IntKind.wrap .i64 (w_9.tdiv (256 : Int)))
          let t20_15 : Int := (IntKind.wrap .i64 (i_7 - (1 : Int)))
          some (.inl (t20_15, l_13, t29_14))
        else
          some (.inr out_8))) (t16_5, (List.replicate n_2.toNat (0 : Int)), t14_4)) fun r_16 =>
    some r_16
  else
    let t32_17 : Int := (IntKind.wrap .i64 (n_2 - (1 : Int)))
    Option.bind (
      loopO (X := (List Int)) (fun (s_18 : ((List Int) × (Int × Int))) =>
        let out_19 : (List Int) := s_18.1
        let i_20 : Int := s_18.2.1
        let v_21 : Int := s_18.2.2
        let t34_22 : Bool := (decide ((0 : Int) ≤ i_20))
        (bif t34_22 then
          let t41_23 : Int := (IntKind.wrap .u8 (v_21.tmod (256 : Int)))
          chk none ((decide ((0 : Int) ≤ i_20)) && (decide (i_20 < (out_19.length : Int)))) <|
          let l_24 : (List Int) := (out_19.set i_20.toNat t41_23)
          let t44_25 : Int := (IntKind.wrap .i64 (v_21.tdiv (256 : Int)))
          let t36_26 : Int := (IntKind.wrap .i64 (i_20 - (1 : Int)))
          some (.inl (l_24, t36_26, t44_25))
        else
          some (.inr out_19))) ((List.replicate n_2.toNat (0 : Int)), t32_17, v_1)) fun r_27 =>
    some r_27)
noncomputable def con_F_ref12_Put : Con := { f := 26, ps := [.dat (.int .i64), .dat (.int .i64)], boxes := [], ins := (.pair (.int .i64) (.int .i64)), nin := 2, outs := (.slice (.int .u8)), rs := [.dat (.slice (.int .u8))], nout := 1, F := fun x => F_ref12_Put x.1 x.2 }
def hint_F_ref12_Put : Hint := (.mk .plain [H0, (.mk .plain [H0, (.mk .plain [(.mk .plain [H0, (.mk .plain [(.mk .plain [H0, (.mk .plain [(.mk .plain [H0, (.mk .plain [(.mk (.loop [⟨.slot 7, (.int .i64), none⟩, ⟨.slot 5, (.slice (.int .u8)), some 1075005⟩, ⟨.slot 6, (.int .i64), none⟩] [(0, 10), (0, 19), (0, 22), (0, 28), (0, 25), (0, 17), (0, 23), (0, 20), (0, 26), (0, 29), (0, 21), (0, 18), (0, 24), (0, 27)] [(.exit 0, [⟨.slot 5, (.slice (.int .u8)), some 1075005⟩])]) [])])])])])])]), (.mk .plain [(.mk .plain [H0, (.mk .plain [(.mk (.loop [⟨.slot 5, (.slice (.int .u8)), some 1075005⟩, ⟨.slot 8, (.int .i64), none⟩, ⟨.slot 0, (.int .i64), none⟩] [(0, 36), (0, 42), (0, 10), (0, 39), (0, 34), (0, 40), (0, 37), (0, 43), (0, 35), (0, 38), (0, 41), (0, 44), (0, 33)] [(.exit 2, [⟨.slot 5, (.slice (.int .u8)), some 1075005⟩])]) [])])])])])])])
theorem run_F_ref12_Put : runE ⟨tdGet tys, [], [], []⟩ con_F_ref12_Put Try.f26 hint_F_ref12_Put = con_F_ref12_Put.F := by
  funext x
  kernel_rfl
theorem ok_F_ref12_Put : ConOK Try.prog con_F_ref12_Put :=
  con_of_run (Γ := ⟨tdGet tys, [], [], []⟩) ⟨fun T d h => tysB_ok tys tys_ok T d h, by simp [], by simp [], by simp []⟩ (by kernel_rfl) Try.func26 rfl (by kernel_rfl) run_F_ref12_Put
/-- odograph/odographref06.Xor -/
noncomputable def F_ref06_Xor (a_1 : Int) (b_2 : Int) : Option Int :=
  Option.bind (
    loopO (X := Int) (fun (s_3 : (Int × (Int × Int))) =>
      let i_4 : Int := s_3.1
      let out_5 : Int := s_3.2.1
      let part_6 : Int := s_3.2.2
      let t9_7 : Bool := (decide (i_4 < (16 : Int)))
      (bif t9_7 then
        chk none (!(part_6 == (0 : Int))) <|
        let t14_8 : Int := (IntKind.wrap .i64 (a_1.tdiv part_6))
        chk none (!(part_6 == (0 : Int))) <|
        let t18_9 : Int := (IntKind.wrap .i64 (b_2.tdiv part_6))
        let t20_10 : Bool := ((t14_8.tmod (2 : Int)) != (t18_9.tmod (2 : Int)))
        Option.bind (
          (bif t20_10 then
            let t23_11 : Int := (IntKind.wrap .i64 (out_5 + part_6))
            some t23_11
          else
            some out_5)) fun r_12 =>
        let t25_13 : Int := (IntKind.wrap .i64 ((2 : Int) * part_6))
        let t11_14 : Int := (IntKind.wrap .i64 (i_4 + (1 : Int)))
        some (.inl (t11_14, r_12, t25_13))
      else
        some (.inr out_5))) ((0 : Int), (0 : Int), (1 : Int))) fun r_15 =>
  some r_15
noncomputable def con_F_ref06_Xor : Con := { f := 40, ps := [.dat (.int .i64), .dat (.int .i64)], boxes := [], ins := (.pair (.int .i64) (.int .i64)), nin := 2, outs := (.int .i64), rs := [.dat (.int .i64)], nout := 1, F := fun x => F_ref06_Xor x.1 x.2 }
def hint_F_ref06_Xor : Hint := (.mk .plain [H0, (.mk .plain [H0, (.mk .plain [H0, (.mk .plain [(.mk .plain [H0, (.mk .plain [(.mk (.loop [⟨.slot 7, (.int .i64), none⟩, ⟨.slot 5, (.int .i64), none⟩, ⟨.slot 6, (.int .i64), none⟩] [(0, 10), (0, 16), (0, 13), (0, 19), (0, 22), (0, 25), (0, 8), (0, 14), (0, 11), (0, 17), (0, 23), (0, 20), (0, 9), (0, 12), (0, 15), (0, 21), (0, 18), (0, 24)] [(.exit 0, [⟨.slot 5, (.int .i64), none⟩])]) [(.mk .plain [H0, (.mk .plain [(.mk .plain [(.mk .plain [(.mk .plain [H0, (.mk (.join [(0, 23), (0, 21), (0, 22)] [(.normal, [⟨.slot 5, (.int .i64), none⟩])]) [])])])])])])])])])])])])])
theorem run_F_ref06_Xor : runE ⟨tdGet tys, [], [], []⟩ con_F_ref06_Xor Try.f40 hint_F_ref06_Xor = con_F_ref06_Xor.F := by
  funext x
  kernel_rfl
theorem ok_F_ref06_Xor : ConOK Try.prog con_F_ref06_Xor :=
  con_of_run (Γ := ⟨tdGet tys, [], [], []⟩) ⟨fun T d h => tysB_ok tys tys_ok T d h, by simp [], by simp [], by simp []⟩ (by kernel_rfl) Try.func40 rfl (by kernel_rfl) run_F_ref06_Xor
/-- odograph/odographref06.Sum -/
noncomputable def F_ref06_Sum (b_1 : (List Int)) : Option Int :=
  let t9_2 : Int := (IntKind.wrap .i64 ((8 : Int) * (b_1.length : Int)))
  let t10_3 : Int := (IntKind.wrap .i64 (t9_2 + (16 : Int)))
  Option.bind (
    loopO (X := Int) (fun (s_4 : (Int × Int)) =>
      let i_5 : Int := s_4.1
      let rest_6 : Int := s_4.2
      (bif (decide (i_5 < t10_3)) then
        let t19_7 : Int := (IntKind.wrap .i64 ((8 : Int) * (b_1.length : Int)))
        Option.bind (
          (bif (decide (i_5 < t19_7)) then
            let t23_8 : Int := (IntKind.wrap .i64 (i_5.tdiv (8 : Int)))
            chk none ((decide ((0 : Int) ≤ t23_8)) && (decide (t23_8 < (b_1.length : Int)))) <|
            let t25_9 : Int := (b_1.getD t23_8.toNat (0 : Int))
            let t28_10 : Int := (IntKind.wrap .i64 ((7 : Int) - (i_5.tmod (8 : Int))))
            let t29_11 : Int := (IntKind.wrap .u64 t28_10)
            chk none (decide ((0 : Int) ≤ t29_11)) <|
            let t30_12 : Int := (t25_9.fdiv (2 ^ (min t29_11.toNat 8)))
            let t31_13 : Int := (IntKind.wrap .i64 t30_12)
            some (t31_13.tmod (2 : Int))
          else
            some (0 : Int))) fun r_14 =>
        let t34_15 : Bool := (decide (i_5 < (16 : Int)))
        Option.bind (
          (bif t34_15 then
            let t36_16 : Int := (IntKind.wrap .i64 ((1 : Int) - r_14))
            some t36_16
          else
            some r_14)) fun r_17 =>
        let t38_18 : Int := (IntKind.wrap .i64 ((2 : Int) * rest_6))
        let t40_19 : Int := (IntKind.wrap .i64 (t38_18 + r_17))
        let t42_20 : Bool := (decide ((65536 : Int) ≤ t40_19))
        Option.bind (
          (bif t42_20 then
            let t44_21 : Int := (IntKind.wrap .i64 (t40_19 - (65536 : Int)))
            (F_ref06_Xor t44_21 (4129 : Int)).bind fun t46_22 =>
            some t46_22
          else
            some t40_19)) fun r_23 =>
        let t15_24 : Int := (IntKind.wrap .i64 (i_5 + (1 : Int)))
        some (.inl (t15_24, r_23))
      else
        some (.inr rest_6))) ((0 : Int), (0 : Int))) fun r_25 =>
  some r_25
noncomputable def con_F_ref06_Sum : Con := { f := 27, ps := [.dat (.slice (.int .u8))], boxes := [], ins := (.slice (.int .u8)), nin := 1, outs := (.int .i64), rs := [.dat (.int .i64)], nout := 1, F := fun x => F_ref06_Sum x }
def hint_F_ref06_Sum : Hint := (.mk .plain [H0, (.mk .plain [H0, (.mk .plain [H0, (.mk .plain [(.mk .plain [H0, (.mk .plain [(.mk (.loop [⟨.slot 5, (.int .i64), none⟩, ⟨.slot 4, (.int .i64), none⟩] [(0, 30), (0, 36), (0, 42), (0, 39), (0, 45), (0, 14), (0, 11), (0, 17), (0, 23), (0, 20), (0, 26), (0, 29), (0, 35), (0, 32), (0, 38), (0, 41), (0, 44), (0, 16), (0, 13), (0, 19), (0, 22), (0, 28), (0, 25), (0, 31), (0, 34), (0, 40), (0, 37), (0, 43), (0, 46), (0, 6), (0, 12), (0, 15), (0, 21), (0, 18), (0, 24), (0, 27), (0, 33)] [(.exit 0, [⟨.slot 4, (.int .i64), none⟩])]) [(.mk .plain [H0, (.mk .plain [(.mk .plain [(.mk .plain [H0, (.mk .plain [(.mk .plain [H0, (.mk (.join [(0, 23), (0, 30), (0, 26), (0, 29), (0, 32), (0, 22), (0, 28), (0, 25), (0, 31), (0, 21), (0, 24), (0, 27)] [(.normal, [⟨.slot 6, (.int .i64), none⟩])]) [])]), (.mk .plain [(.mk .plain [H0, (.mk (.join [(0, 35), (0, 36)] [(.normal, [⟨.slot 6, (.int .i64), none⟩])]) [])]), (.mk .plain [H0, (.mk .plain [H0, (.mk (.join [(0, 46), (0, 44), (0, 45), (0, 43)] [(.normal, [⟨.slot 4, (.int .i64), none⟩])]) [])])])])])])])])])])])])])])])])
theorem run_F_ref06_Sum : runE ⟨tdGet tys, [con_F_ref06_Xor], [], []⟩ con_F_ref06_Sum Try.f27 hint_F_ref06_Sum = con_F_ref06_Sum.F := by
  funext x
  kernel_rfl
theorem ok_F_ref06_Sum : ConOK Try.prog con_F_ref06_Sum :=
  con_of_run (Γ := ⟨tdGet tys, [con_F_ref06_Xor], [], []⟩) ⟨fun T d h => tysB_ok tys tys_ok T d h, by simp [ok_F_ref06_Xor], by simp [], by simp []⟩ (by kernel_rfl) Try.func27 rfl (by kernel_rfl) run_F_ref06_Sum
/-- odograph/odographref12.Pack -/
noncomputable def F_ref12_Pack (t_1 : ((List (Int × ((List (Int × Int)) × (List Int)))) × (List (Int × (Int × (Int × (Int × Int))))))) : Option (List Int) :=
  (F_ref12_Put (t_1.1.length : Int) (2 : Int)).bind fun t16_2 =>
  chk none (decide ((([(79 : Int), (68 : Int), (79 : Int), (49 : Int)] : List Int).length + t16_2.length) * 1 ≤ 140737488355328)) <|
  let t17_3 : (List Int) := (([(79 : Int), (68 : Int), (79 : Int), (49 : Int)] : List Int) ++ t16_2)
  Option.bind (
    loopO (X := (List Int)) (fun (s_4 : (Int × (List Int))) =>
      let i_5 : Int := s_4.1
      let out_6 : (List Int) := s_4.2
      let t22_7 : Bool := (decide (i_5 < (t_1.1.length : Int)))
      (bif t22_7 then
        chk none ((decide ((0 : Int) ≤ i_5)) && (decide (i_5 < (t_1.1.length : Int)))) <|
        let t29_8 : (Int × ((List (Int × Int)) × (List Int))) := (t_1.1.getD i_5.toNat ((0 : Int), ([], [])))
        (F_ref12_Put t29_8.1 (8 : Int)).bind fun t33_9 =>
        chk none (decide ((out_6.length + t33_9.length) * 1 ≤ 140737488355328)) <|
        let t34_10 : (List Int) := (out_6 ++ t33_9)
        let t39_11 : Int := (IntKind.wrap .u8 (t29_8.2.1.length : Int))
        chk none (decide ((t34_10.length + ([t39_11] : List Int).length) * 1 ≤ 140737488355328)) <|
        let t41_12 : (List Int) := (t34_10 ++ ([t39_11] : List Int))
        Option.bind (
          loopO (X := (List Int)) (fun (s_13 : ((List Int) × Int)) =>
            let out_14 : (List Int) := s_13.1
            let k_15 : Int := s_13.2
            let t46_16 : Bool := (decide (k_15 < (t29_8.2.1.length : Int)))
            (bif t46_16 then
              chk none ((decide ((0 : Int) ≤ k_15)) && (decide (k_15 < (t29_8.2.1.length : Int)))) <|
              let e_17 : (Int × Int) := (t29_8.2.1.getD k_15.toNat ((0 : Int), (0 : Int)))
              (F_ref12_Put e_17.1 (8 : Int)).bind fun t56_18 =>
              chk none (decide ((out_14.length + t56_18.length) * 1 ≤ 140737488355328)) <|
              let t57_19 : (List Int) := (out_14 ++ t56_18)
              chk none ((decide ((0 : Int) ≤ k_15)) && (decide (k_15 < (t29_8.2.1.length : Int)))) <|
              let e_20 : (Int × Int) := (t29_8.2.1.getD k_15.toNat ((0 : Int), (0 : Int)))
              (F_ref12_Put e_20.2 (4 : Int)).bind fun t65_21 =>
              chk none (decide ((t57_19.length + t65_21.length) * 1 ≤ 140737488355328)) <|
              let t66_22 : (List Int) := (t57_19 ++ t65_21)
              let t48_23 : Int := (IntKind.wrap .i64 (k_15 + (1 : Int)))
              some (.inl (t66_22, t48_23))
            else
              some (.inr out_14))) (t41_12, (0 : Int))) fun r_24 =>
        let t71_25 : Int := (IntKind.wrap .u8 (t29_8.2.2.length : Int))
        chk none (decide ((r_24.length + ([t71_25] : List Int).length) * 1 ≤ 140737488355328)) <|
        let t73_26 : (List Int) := (r_24 ++ ([t71_25] : List Int))
        Option.bind (
          loopO (X := (List Int)) (fun (s_27 : (Int × (List Int))) =>
            let k_28 : Int := s_27.1
            let out_29 : (List Int) := s_27.2
            let t78_30 : Bool := (decide (k_28 < (t29_8.2.2.length : Int)))
            (bif t78_30 then
              chk none ((decide ((0 : Int) ≤ k_28)) && (decide (k_28 < (t29_8.2.2.length : Int)))) <|
              let t86_31 : Int := (t29_8.2.2.getD k_28.toNat (0 : Int))
              let t87_32 : Int := (IntKind.wrap .u8 t86_31)
              chk none (decide ((out_29.length + ([t87_32] : List Int).length) * 1 ≤ 140737488355328)) <|
              let t89_33 : (List Int) := (out_29 ++ ([t87_32] : List Int))
              let t80_34 : Int := (IntKind.wrap .i64 (k_28 + (1 : Int)))
              some (.inl (t80_34, t89_33))
            else
              some (.inr out_29))) ((0 : Int), t73_26)) fun r_35 =>
        let t24_36 : Int := (IntKind.wrap .i64 (i_5 + (1 : Int)))
        some (.inl (t24_36, r_35))
      else
        some (.inr out_6))) ((0 : Int), t17_3)) fun r_37 =>
  (F_ref12_Put (t_1.2.length : Int) (2 : Int)).bind fun t94_38 =>
  chk none (decide ((r_37.length + t94_38.length) * 1 ≤ 140737488355328)) <|
  let t95_39 : (List Int) := (r_37 ++ t94_38)
  Option.bind (
    loopO (X := (List Int)) (fun (s_40 : (Int × (List Int))) =>
      let i_41 : Int := s_40.1
      let out_42 : (List Int) := s_40.2
      let t100_43 : Bool := (decide (i_41 < (t_1.2.length : Int)))
      (bif t100_43 then
        chk none ((decide ((0 : Int) ≤ i_41)) && (decide (i_41 < (t_1.2.length : Int)))) <|
        let t107_44 : (Int × (Int × (Int × (Int × Int)))) := (t_1.2.getD i_41.toNat ((0 : Int), ((0 : Int), ((0 : Int), ((0 : Int), (0 : Int))))))
        (F_ref12_Put t107_44.1 (2 : Int)).bind fun t111_45 =>
        chk none (decide ((out_42.length + t111_45.length) * 1 ≤ 140737488355328)) <|
        let t112_46 : (List Int) := (out_42 ++ t111_45)
        let t116_47 : Int := (IntKind.wrap .u8 t107_44.2.1)
        chk none (decide ((t112_46.length + ([t116_47] : List Int).length) * 1 ≤ 140737488355328)) <|
        let t118_48 : (List Int) := (t112_46 ++ ([t116_47] : List Int))
        (F_ref12_Put t107_44.2.2.1 (8 : Int)).bind fun t122_49 =>
        chk none (decide ((t118_48.length + t122_49.length) * 1 ≤ 140737488355328)) <|
        let t123_50 : (List Int) := (t118_48 ++ t122_49)
        (F_ref12_Put t107_44.2.2.2.1 (4 : Int)).bind fun t127_51 =>
        chk none (decide ((t123_50.length + t127_51.length) * 1 ≤ 140737488355328)) <|
        let t128_52 : (List Int) := (t123_50 ++ t127_51)
        (F_ref12_Put t107_44.2.2.2.2 (4 : Int)).bind fun t132_53 =>
        chk none (decide ((t128_52.length + t132_53.length) * 1 ≤ 140737488355328)) <|
        let t133_54 : (List Int) := (t128_52 ++ t132_53)
        let t102_55 : Int := (IntKind.wrap .i64 (i_41 + (1 : Int)))
        some (.inl (t102_55, t133_54))
      else
        some (.inr out_42))) ((0 : Int), t95_39)) fun r_56 =>
  (F_ref06_Sum r_56).bind fun t135_57 =>
  let t138_58 : Int := (IntKind.wrap .i64 (t135_57.tdiv (256 : Int)))
  let t139_59 : Int := (IntKind.wrap .u8 t138_58)
  let t141_60 : Int := (t135_57.tmod (256 : Int))
  let t142_61 : Int := (IntKind.wrap .u8 t141_60)
  chk none (decide ((r_56.length + ([t139_59, t142_61] : List Int).length) * 1 ≤ 140737488355328)) <|
  let t144_62 : (List Int) := (r_56 ++ ([t139_59, t142_61] : List Int))
  some t144_62
noncomputable def con_F_ref12_Pack : Con := { f := 13, ps := [.dat (.agg (.pair (.slice (.agg (.pair (.int .i64) (.pair (.slice (.agg (.pair (.int .i64) (.int .i64)))) (.slice (.int .i64)))))) (.slice (.agg (.pair (.int .i64) (.pair (.int .i64) (.pair (.int .i64) (.pair (.int .i64) (.int .i64)))))))))], boxes := [], ins := (.agg (.pair (.slice (.agg (.pair (.int .i64) (.pair (.slice (.agg (.pair (.int .i64) (.int .i64)))) (.slice (.int .i64)))))) (.slice (.agg (.pair (.int .i64) (.pair (.int .i64) (.pair (.int .i64) (.pair (.int .i64) (.int .i64))))))))), nin := 1, outs := (.slice (.int .u8)), rs := [.dat (.slice (.int .u8))], nout := 1, F := fun x => F_ref12_Pack x }
def hint_F_ref12_Pack : Hint := (.mk .plain [H0, (.mk .plain [H0, (.mk .plain [H0, (.mk .plain [(.mk .plain [H0, (.mk .plain [(.mk (.loop [⟨.slot 4, (.int .i64), none⟩, ⟨.slot 3, (.slice (.int .u8)), some 900000005⟩] [(0, 36), (0, 45), (0, 54), (0, 51), (0, 60), (0, 5), (0, 69), (0, 78), (0, 23), (0, 75), (0, 87), (0, 20), (0, 84), (0, 29), (0, 38), (0, 18), (0, 47), (0, 44), (0, 53), (0, 62), (0, 7), (0, 71), (0, 80), (0, 77), (0, 22), (0, 86), (0, 31), (0, 40), (0, 37), (0, 46), (0, 55), (0, 64), (0, 73), (0, 6), (0, 70), (0, 79), (0, 24), (0, 88), (0, 33), (0, 30), (0, 42), (0, 39), (0, 48), (0, 57), (0, 66), (0, 63), (0, 72), (0, 17), (0, 81), (0, 26), (0, 35), (0, 32), (0, 41), (0, 50), (0, 59), (0, 56), (0, 68), (0, 65), (0, 74), (0, 19), (0, 83), (0, 28), (0, 25), (0, 89), (0, 34), (0, 43), (0, 52), (0, 49), (0, 61), (0, 58), (0, 67), (0, 76), (0, 21), (0, 85), (0, 82), (0, 27)] [(.exit 0, [⟨.slot 3, (.slice (.int .u8)), some 900000005⟩])]) [(.mk .plain [H0, (.mk .plain [(.mk .plain [(.mk .plain [H0, (.mk .plain [H0, (.mk .plain [H0, (.mk .plain [(.mk .plain [H0, (.mk .plain [(.mk (.loop [⟨.slot 3, (.slice (.int .u8)), some 900000005⟩, ⟨.slot 6, (.int .i64), none⟩] [(0, 65), (0, 42), (0, 45), (0, 48), (0, 54), (0, 51), (0, 57), (0, 60), (0, 66), (0, 63), (0, 43), (0, 46), (0, 52), (0, 49), (0, 55), (0, 61), (0, 58), (0, 64), (0, 41), (0, 47), (0, 44), (0, 50), (0, 53), (0, 59), (0, 56), (0, 62)] [(.exit 2, [⟨.slot 3, (.slice (.int .u8)), some 900000005⟩])]) [])])]), (.mk .plain [H0, (.mk .plain [H0, (.mk .plain [(.mk (.loop [⟨.slot 7, (.int .i64), none⟩, ⟨.slot 3, (.slice (.int .u8)), some 900000005⟩] [(0, 74), (0, 80), (0, 77), (0, 83), (0, 86), (0, 89), (0, 78), (0, 75), (0, 81), (0, 87), (0, 84), (0, 73), (0, 76), (0, 79), (0, 85), (0, 82), (0, 88)] [(.exit 4, [⟨.slot 3, (.slice (.int .u8)), some 900000005⟩])]) [])])])])])])])])])])])])])]), (.mk .plain [H0, (.mk .plain [(.mk .plain [H0, (.mk .plain [(.mk (.loop [⟨.slot 8, (.int .i64), none⟩, ⟨.slot 3, (.slice (.int .u8)), some 900000005⟩] [(0, 97), (0, 100), (0, 106), (0, 103), (0, 109), (0, 112), (0, 118), (0, 115), (0, 121), (0, 124), (0, 130), (0, 127), (0, 133), (0, 99), (0, 96), (0, 102), (0, 105), (0, 111), (0, 108), (0, 114), (0, 117), (0, 123), (0, 120), (0, 126), (0, 132), (0, 129), (0, 95), (0, 98), (0, 104), (0, 101), (0, 107), (0, 113), (0, 110), (0, 116), (0, 119), (0, 125), (0, 9), (0, 122), (0, 128), (0, 131)] [(.exit 6, [⟨.slot 3, (.slice (.int .u8)), some 900000005⟩])]) [])])])])])])])])])
theorem run_F_ref12_Pack : runE ⟨tdGet tys, [con_F_ref12_Put, con_F_ref06_Sum], [], []⟩ con_F_ref12_Pack Try.f13 hint_F_ref12_Pack = con_F_ref12_Pack.F := by
  funext x
  kernel_rfl
theorem ok_F_ref12_Pack : ConOK Try.prog con_F_ref12_Pack :=
  con_of_run (Γ := ⟨tdGet tys, [con_F_ref12_Put, con_F_ref06_Sum], [], []⟩) ⟨fun T d h => tysB_ok tys tys_ok T d h, by simp [ok_F_ref12_Put, ok_F_ref06_Sum], by simp [], by simp []⟩ (by kernel_rfl) Try.func13 rfl (by kernel_rfl) run_F_ref12_Pack
/-- odograph/odographlaw12.ImagePacks -/
noncomputable def F_law12_ImagePacks (t_1 : ((List (Int × ((List (Int × Int)) × (List Int)))) × (List (Int × (Int × (Int × (Int × Int))))))) : Option Bool :=
  (F_law12_anchor ()).bind fun t9_2 =>
  (bif (!t9_2) then
    some false
  else
    (F_law12_great t_1).bind fun t12_3 =>
    (bif t12_3 then
      some true
    else
      (F_image_Pack t_1).bind fun t15_4 =>
      (F_law12_refs t_1).bind fun t20_5 =>
      (F_ref11_Check t20_5).bind fun t21_6 =>
      (bif (t21_6.1 != (0 : Int)) then
        let t31_7 : Bool := ((t15_4.1.length : Int) == (0 : Int))
        let t32_8 : Bool := (bif (t15_4.2 == (51 : Int)) then t31_7 else false)
        some t32_8
      else
        (F_image_Open t15_4.1).bind fun t35_9 =>
        (bif (t15_4.2 == (0 : Int)) then F_law12_refs t_1 else some ([], [])).bind fun t44_10 =>
        (bif (t15_4.2 == (0 : Int)) then F_ref12_Pack t44_10 else some []).bind fun t45_11 =>
        let t47_12 : Bool := ((bytesOf t15_4.1).toList == (bytesOf t45_11).toList)
        let t48_13 : Bool := (bif (t15_4.2 == (0 : Int)) then t47_12 else false)
        let t52_14 : Bool := (bif t48_13 then (t35_9.2 == (0 : Int)) else false)
        (bif t52_14 then F_law12_same t_1 t35_9.1 else some false).bind fun t56_15 =>
        let t57_16 : Bool := (bif t52_14 then t56_15 else false)
        some t57_16)))
noncomputable def con_F_law12_ImagePacks : Con := { f := 3, ps := [.dat (.agg (.pair (.slice (.agg (.pair (.int .i64) (.pair (.slice (.agg (.pair (.int .i64) (.int .i64)))) (.slice (.int .i64)))))) (.slice (.agg (.pair (.int .i64) (.pair (.int .i64) (.pair (.int .i64) (.pair (.int .i64) (.int .i64)))))))))], boxes := [], ins := (.agg (.pair (.slice (.agg (.pair (.int .i64) (.pair (.slice (.agg (.pair (.int .i64) (.int .i64)))) (.slice (.int .i64)))))) (.slice (.agg (.pair (.int .i64) (.pair (.int .i64) (.pair (.int .i64) (.pair (.int .i64) (.int .i64))))))))), nin := 1, outs := .bool, rs := [.dat .bool], nout := 1, F := fun x => F_law12_ImagePacks x }
def hint_F_law12_ImagePacks : Hint := H0
theorem run_F_law12_ImagePacks : runE ⟨tdGet tys, [con_F_law12_anchor, con_F_law12_great, con_F_image_Pack, con_F_law12_refs, con_F_ref11_Check, con_F_image_Open, con_F_ref12_Pack, con_F_law12_same], [], []⟩ con_F_law12_ImagePacks Try.f3 hint_F_law12_ImagePacks = con_F_law12_ImagePacks.F := by
  funext x
  kernel_rfl
theorem ok_F_law12_ImagePacks : ConOK Try.prog con_F_law12_ImagePacks :=
  con_of_run (Γ := ⟨tdGet tys, [con_F_law12_anchor, con_F_law12_great, con_F_image_Pack, con_F_law12_refs, con_F_ref11_Check, con_F_image_Open, con_F_ref12_Pack, con_F_law12_same], [], []⟩) ⟨fun T d h => tysB_ok tys tys_ok T d h, by simp [ok_F_law12_anchor, ok_F_law12_great, ok_F_image_Pack, ok_F_law12_refs, ok_F_ref11_Check, ok_F_image_Open, ok_F_ref12_Pack, ok_F_law12_same], by simp [], by simp []⟩ (by kernel_rfl) Try.func3 rfl (by kernel_rfl) run_F_law12_ImagePacks
/-- odograph/odographref12.Num -/
noncomputable def F_ref12_Num (p_1 : ((List Int) × (Int × Bool))) (n_2 : Int) (sign_3 : Bool) : Option (((List Int) × (Int × Bool)) × Int) :=
  let t19_4 : Int := (IntKind.wrap .i64 ((p_1.1.length : Int) - p_1.2.1))
  let t22_5 : Bool := (bif p_1.2.2 then true else (decide (t19_4 < n_2)))
  (bif t22_5 then
    let w_6 : ((List Int) × (Int × Bool)) := (p_1.1, (p_1.2.1, true))
    some (w_6, (0 : Int))
  else
    Option.bind (
      loopO (X := Int) (fun (s_7 : (Int × Int)) =>
        let v_8 : Int := s_7.1
        let i_9 : Int := s_7.2
        (bif (decide (i_9 < n_2)) then
          let t35_10 : Int := (IntKind.wrap .i64 (p_1.2.1 + i_9))
          chk none ((decide ((0 : Int) ≤ t35_10)) && (decide (t35_10 < (p_1.1.length : Int)))) <|
          let t37_11 : Int := (p_1.1.getD t35_10.toNat (0 : Int))
          let t38_12 : Int := (IntKind.wrap .i64 t37_11)
          let t43_13 : Bool := (bif (i_9 == (0 : Int)) then sign_3 else false)
          let t46_14 : Bool := (decide ((128 : Int) ≤ t38_12))
          let t47_15 : Bool := (bif t43_13 then t46_14 else false)
          Option.bind (
            (bif t47_15 then
              let t49_16 : Int := (IntKind.wrap .i64 (t38_12 - (256 : Int)))
              some t49_16
            else
              some t38_12)) fun r_17 =>
          let t51_18 : Int := (IntKind.wrap .i64 ((256 : Int) * v_8))
          let t53_19 : Int := (IntKind.wrap .i64 (t51_18 + r_17))
          let t29_20 : Int := (IntKind.wrap .i64 (i_9 + (1 : Int)))
          some (.inl (t53_19, t29_20))
        else
          some (.inr v_8))) ((0 : Int), (0 : Int))) fun r_21 =>
    let t57_22 : Int := (IntKind.wrap .i64 (p_1.2.1 + n_2))
    let t59_23 : ((List Int) × (Int × Bool)) := (p_1.1, (t57_22, p_1.2.2))
    some (t59_23, r_21))
noncomputable def con_F_ref12_Num : Con := { f := 41, ps := [.dat (.agg (.pair (.slice (.int .u8)) (.pair (.int .i64) .bool))), .dat (.int .i64), .dat .bool], boxes := [], ins := (.pair (.agg (.pair (.slice (.int .u8)) (.pair (.int .i64) .bool))) (.pair (.int .i64) .bool)), nin := 3, outs := (.pair (.agg (.pair (.slice (.int .u8)) (.pair (.int .i64) .bool))) (.int .i64)), rs := [.dat (.agg (.pair (.slice (.int .u8)) (.pair (.int .i64) .bool))), .dat (.int .i64)], nout := 2, F := fun x => F_ref12_Num x.1 x.2.1 x.2.2 }
def hint_F_ref12_Num : Hint := (.mk .plain [H0, (.mk .plain [H0, (.mk .plain [H0, (.mk .plain [(.mk .plain [H0, (.mk .plain [(.mk (.loop [⟨.slot 8, (.int .i64), none⟩, ⟨.slot 9, (.int .i64), none⟩] [(0, 30), (0, 36), (0, 42), (0, 39), (0, 45), (0, 48), (0, 51), (0, 26), (0, 29), (0, 35), (0, 32), (0, 38), (0, 41), (0, 47), (0, 44), (0, 50), (0, 53), (0, 10), (0, 28), (0, 25), (0, 31), (0, 34), (0, 40), (0, 37), (0, 43), (0, 46), (0, 52), (0, 49), (0, 27), (0, 33)] [(.exit 0, [⟨.slot 8, (.int .i64), none⟩])]) [(.mk .plain [H0, (.mk .plain [(.mk .plain [(.mk .plain [H0, (.mk .plain [(.mk .plain [H0, (.mk (.join [(0, 48), (0, 49)] [(.normal, [⟨.slot 10, (.int .i64), none⟩])]) [])])])])])])])])])])])])])])
theorem run_F_ref12_Num : runE ⟨tdGet tys, [], [], []⟩ con_F_ref12_Num Try.f41 hint_F_ref12_Num = con_F_ref12_Num.F := by
  funext x
  kernel_rfl
theorem ok_F_ref12_Num : ConOK Try.prog con_F_ref12_Num :=
  con_of_run (Γ := ⟨tdGet tys, [], [], []⟩) ⟨fun T d h => tysB_ok tys tys_ok T d h, by simp [], by simp [], by simp []⟩ (by kernel_rfl) Try.func41 rfl (by kernel_rfl) run_F_ref12_Num
/-- odograph/odographref12.Count -/
noncomputable def F_ref12_Count (p_1 : ((List Int) × (Int × Bool))) (n_2 : Int) (most_3 : Int) : Option (((List Int) × (Int × Bool)) × Int) :=
  (F_ref12_Num p_1 n_2 false).bind fun t13_4 =>
  let t18_5 : Bool := (decide (most_3 < t13_4.2))
  (bif t18_5 then
    let t20_6 : ((List Int) × (Int × Bool)) := (t13_4.1.1, (t13_4.1.2.1, true))
    some (t20_6, (0 : Int))
  else
    some (t13_4.1, t13_4.2))
noncomputable def con_F_ref12_Count : Con := { f := 28, ps := [.dat (.agg (.pair (.slice (.int .u8)) (.pair (.int .i64) .bool))), .dat (.int .i64), .dat (.int .i64)], boxes := [], ins := (.pair (.agg (.pair (.slice (.int .u8)) (.pair (.int .i64) .bool))) (.pair (.int .i64) (.int .i64))), nin := 3, outs := (.pair (.agg (.pair (.slice (.int .u8)) (.pair (.int .i64) .bool))) (.int .i64)), rs := [.dat (.agg (.pair (.slice (.int .u8)) (.pair (.int .i64) .bool))), .dat (.int .i64)], nout := 2, F := fun x => F_ref12_Count x.1 x.2.1 x.2.2 }
def hint_F_ref12_Count : Hint := H0
theorem run_F_ref12_Count : runE ⟨tdGet tys, [con_F_ref12_Num], [], []⟩ con_F_ref12_Count Try.f28 hint_F_ref12_Count = con_F_ref12_Count.F := by
  funext x
  kernel_rfl
theorem ok_F_ref12_Count : ConOK Try.prog con_F_ref12_Count :=
  con_of_run (Γ := ⟨tdGet tys, [con_F_ref12_Num], [], []⟩) ⟨fun T d h => tysB_ok tys tys_ok T d h, by simp [ok_F_ref12_Num], by simp [], by simp []⟩ (by kernel_rfl) Try.func28 rfl (by kernel_rfl) run_F_ref12_Count
/-- odograph/odographref12.Segment -/
noncomputable def F_ref12_Segment (p_1 : ((List Int) × (Int × Bool))) : Option (((List Int) × (Int × Bool)) × (Int × ((List (Int × Int)) × (List Int)))) :=
  (F_ref12_Num p_1 (8 : Int) true).bind fun t14_2 =>
  (F_ref12_Count t14_2.1 (1 : Int) (64 : Int)).bind fun t20_3 =>
  Option.bind (
    loopO (X := (Bool × ((List Int) × ((List (Int × Int)) × Int)))) (fun (s_4 : (Bool × ((List Int) × ((List (Int × Int)) × (Int × Int))))) =>
      let b0_5 : Bool := s_4.1
      let b0_6 : (List Int) := s_4.2.1
      let b3_7 : (List (Int × Int)) := s_4.2.2.1
      let b0_8 : Int := s_4.2.2.2.1
      let i_9 : Int := s_4.2.2.2.2
      (bif (decide (i_9 < t20_3.2)) then
        (F_ref12_Num (b0_6, (b0_8, b0_5)) (8 : Int) true).bind fun t30_10 =>
        (F_ref12_Num t30_10.1 (4 : Int) true).bind fun t36_11 =>
        let t43_12 : (List (Int × Int)) := ([(t30_10.2, t36_11.2)] : List (Int × Int))
        chk none (decide ((b3_7.length + t43_12.length) * 16 ≤ 140737488355328)) <|
        let t44_13 : (List (Int × Int)) := (b3_7 ++ t43_12)
        let t27_14 : Int := (IntKind.wrap .i64 (i_9 + (1 : Int)))
        some (.inl (t36_11.1.2.2, t36_11.1.1, t44_13, t36_11.1.2.1, t27_14))
      else
        some (.inr (b0_5, b0_6, b3_7, b0_8)))) (t20_3.1.2.2, t20_3.1.1, [], t20_3.1.2.1, (0 : Int))) fun r_15 =>
  let b0_16 : Bool := r_15.1
  let b0_17 : (List Int) := r_15.2.1
  let b3_18 : (List (Int × Int)) := r_15.2.2.1
  let b0_19 : Int := r_15.2.2.2
  (F_ref12_Count (b0_17, (b0_19, b0_16)) (1 : Int) (2 : Int)).bind fun t48_20 =>
  Option.bind (
    loopO (X := (Bool × ((List Int) × (Int × (List Int))))) (fun (s_21 : (Bool × ((List Int) × (Int × (Int × (List Int)))))) =>
      let b0_22 : Bool := s_21.1
      let b0_23 : (List Int) := s_21.2.1
      let b0_24 : Int := s_21.2.2.1
      let i_25 : Int := s_21.2.2.2.1
      let b3_26 : (List Int) := s_21.2.2.2.2
      let t53_27 : Bool := (decide (i_25 < t48_20.2))
      (bif t53_27 then
        (F_ref12_Num (b0_23, (b0_24, b0_22)) (1 : Int) false).bind fun t58_28 =>
        chk none (decide ((b3_26.length + ([t58_28.2] : List Int).length) * 8 ≤ 140737488355328)) <|
        let t66_29 : (List Int) := (b3_26 ++ ([t58_28.2] : List Int))
        let t55_30 : Int := (IntKind.wrap .i64 (i_25 + (1 : Int)))
        some (.inl (t58_28.1.2.2, t58_28.1.1, t58_28.1.2.1, t55_30, t66_29))
      else
        some (.inr (b0_22, b0_23, b0_24, b3_26)))) (t48_20.1.2.2, t48_20.1.1, t48_20.1.2.1, (0 : Int), [])) fun r_31 =>
  let b0_32 : Bool := r_31.1
  let b0_33 : (List Int) := r_31.2.1
  let b0_34 : Int := r_31.2.2.1
  let b3_35 : (List Int) := r_31.2.2.2
  let t69_36 : (Int × ((List (Int × Int)) × (List Int))) := (t14_2.2, (b3_18, b3_35))
  let w_37 : ((List Int) × (Int × Bool)) := (b0_33, (b0_34, b0_32))
  some (w_37, t69_36)
noncomputable def con_F_ref12_Segment : Con := { f := 29, ps := [.dat (.agg (.pair (.slice (.int .u8)) (.pair (.int .i64) .bool)))], boxes := [], ins := (.agg (.pair (.slice (.int .u8)) (.pair (.int .i64) .bool))), nin := 1, outs := (.pair (.agg (.pair (.slice (.int .u8)) (.pair (.int .i64) .bool))) (.agg (.pair (.int .i64) (.pair (.slice (.agg (.pair (.int .i64) (.int .i64)))) (.slice (.int .i64)))))), rs := [.dat (.agg (.pair (.slice (.int .u8)) (.pair (.int .i64) .bool))), .dat (.agg (.pair (.int .i64) (.pair (.slice (.agg (.pair (.int .i64) (.int .i64)))) (.slice (.int .i64)))))], nout := 2, F := fun x => F_ref12_Segment x }
def hint_F_ref12_Segment : Hint := (.mk .plain [H0, (.mk .plain [H0, (.mk .plain [H0, (.mk .plain [H0, (.mk .plain [(.mk .plain [H0, (.mk .plain [(.mk (.loop [⟨.cell 0 2, .bool, none⟩, ⟨.cell 0 0, (.slice (.int .u8)), none⟩, ⟨.cell 3 1, (.slice (.agg (.pair (.int .i64) (.int .i64)))), some 4400066⟩, ⟨.cell 0 1, (.int .i64), none⟩, ⟨.slot 6, (.int .i64), none⟩] [(0, 7), (0, 30), (0, 36), (0, 42), (0, 39), (0, 45), (0, 28), (0, 25), (0, 31), (0, 34), (0, 40), (0, 37), (0, 43), (0, 23), (0, 26), (0, 29), (0, 35), (0, 32), (0, 38), (0, 41), (0, 44), (0, 24), (0, 27), (0, 33)] [(.exit 0, [⟨.cell 0 2, .bool, none⟩, ⟨.cell 0 0, (.slice (.int .u8)), none⟩, ⟨.cell 3 1, (.slice (.agg (.pair (.int .i64) (.int .i64)))), some 4400066⟩, ⟨.cell 0 1, (.int .i64), none⟩])]) [])])]), (.mk .plain [H0, (.mk .plain [(.mk .plain [H0, (.mk .plain [(.mk (.loop [⟨.cell 0 2, .bool, none⟩, ⟨.cell 0 0, (.slice (.int .u8)), none⟩, ⟨.cell 0 1, (.int .i64), none⟩, ⟨.slot 9, (.int .i64), none⟩, ⟨.cell 3 2, (.slice (.int .i64)), some 6600003⟩] [(0, 65), (0, 10), (0, 54), (0, 51), (0, 57), (0, 60), (0, 66), (0, 63), (0, 11), (0, 52), (0, 55), (0, 61), (0, 58), (0, 64), (0, 67), (0, 53), (0, 59), (0, 56), (0, 62)] [(.exit 2, [⟨.cell 0 2, .bool, none⟩, ⟨.cell 0 0, (.slice (.int .u8)), none⟩, ⟨.cell 0 1, (.int .i64), none⟩, ⟨.cell 3 2, (.slice (.int .i64)), some 6600003⟩])]) [])])])])])])])])])])
theorem run_F_ref12_Segment : runE ⟨tdGet tys, [con_F_ref12_Num, con_F_ref12_Count], [], []⟩ con_F_ref12_Segment Try.f29 hint_F_ref12_Segment = con_F_ref12_Segment.F := by
  funext x
  kernel_rfl
theorem ok_F_ref12_Segment : ConOK Try.prog con_F_ref12_Segment :=
  con_of_run (Γ := ⟨tdGet tys, [con_F_ref12_Num, con_F_ref12_Count], [], []⟩) ⟨fun T d h => tysB_ok tys tys_ok T d h, by simp [ok_F_ref12_Num, ok_F_ref12_Count], by simp [], by simp []⟩ (by kernel_rfl) Try.func29 rfl (by kernel_rfl) run_F_ref12_Segment
/-- odograph/odographref12.Group -/
noncomputable def F_ref12_Group (p_1 : ((List Int) × (Int × Bool))) : Option (((List Int) × (Int × Bool)) × (Int × (Int × (Int × (Int × Int))))) :=
  (F_ref12_Num p_1 (2 : Int) false).bind fun t9_2 =>
  (F_ref12_Num t9_2.1 (1 : Int) false).bind fun t14_3 =>
  (F_ref12_Num t14_3.1 (8 : Int) true).bind fun t23_4 =>
  (F_ref12_Num t23_4.1 (4 : Int) false).bind fun t29_5 =>
  (F_ref12_Num t29_5.1 (4 : Int) false).bind fun t35_6 =>
  let t40_7 : (Int × (Int × (Int × (Int × Int)))) := (t9_2.2, (t14_3.2, (t23_4.2, (t29_5.2, t35_6.2))))
  some (t35_6.1, t40_7)
noncomputable def con_F_ref12_Group : Con := { f := 30, ps := [.dat (.agg (.pair (.slice (.int .u8)) (.pair (.int .i64) .bool)))], boxes := [], ins := (.agg (.pair (.slice (.int .u8)) (.pair (.int .i64) .bool))), nin := 1, outs := (.pair (.agg (.pair (.slice (.int .u8)) (.pair (.int .i64) .bool))) (.agg (.pair (.int .i64) (.pair (.int .i64) (.pair (.int .i64) (.pair (.int .i64) (.int .i64))))))), rs := [.dat (.agg (.pair (.slice (.int .u8)) (.pair (.int .i64) .bool))), .dat (.agg (.pair (.int .i64) (.pair (.int .i64) (.pair (.int .i64) (.pair (.int .i64) (.int .i64))))))], nout := 2, F := fun x => F_ref12_Group x }
def hint_F_ref12_Group : Hint := H0
theorem run_F_ref12_Group : runE ⟨tdGet tys, [con_F_ref12_Num], [], []⟩ con_F_ref12_Group Try.f30 hint_F_ref12_Group = con_F_ref12_Group.F := by
  funext x
  kernel_rfl
theorem ok_F_ref12_Group : ConOK Try.prog con_F_ref12_Group :=
  con_of_run (Γ := ⟨tdGet tys, [con_F_ref12_Num], [], []⟩) ⟨fun T d h => tysB_ok tys tys_ok T d h, by simp [ok_F_ref12_Num], by simp [], by simp []⟩ (by kernel_rfl) Try.func30 rfl (by kernel_rfl) run_F_ref12_Group
/-- odograph/odographref12.Open -/
noncomputable def F_ref12_Open (b_1 : (List Int)) : Option (((List (Int × ((List (Int × Int)) × (List Int)))) × (List (Int × (Int × (Int × (Int × Int)))))) × Int) :=
  let t19_2 : Bool := (decide ((1048576 : Int) < (b_1.length : Int)))
  (bif t19_2 then
    let w_3 : ((List (Int × ((List (Int × Int)) × (List Int)))) × (List (Int × (Int × (Int × (Int × Int)))))) := ([], [])
    some (w_3, (15 : Int))
  else
    let t23_4 : Bool := (decide ((b_1.length : Int) < (6 : Int)))
    chk none ((true && (decide ((0 : Int) < (b_1.length : Int)))) || !(!t23_4)) <|
    let t27_5 : Int := (b_1.getD (0 : Int).toNat (0 : Int))
    let t29_6 : Bool := (bif t23_4 then true else (t27_5 != (79 : Int)))
    chk none ((true && (decide ((1 : Int) < (b_1.length : Int)))) || !(!t29_6)) <|
    let t33_7 : Int := (b_1.getD (1 : Int).toNat (0 : Int))
    let t35_8 : Bool := (bif t29_6 then true else (t33_7 != (68 : Int)))
    chk none ((true && (decide ((2 : Int) < (b_1.length : Int)))) || !(!t35_8)) <|
    let t39_9 : Int := (b_1.getD (2 : Int).toNat (0 : Int))
    let t41_10 : Bool := (bif t35_8 then true else (t39_9 != (79 : Int)))
    chk none ((true && (decide ((3 : Int) < (b_1.length : Int)))) || !(!t41_10)) <|
    let t45_11 : Int := (b_1.getD (3 : Int).toNat (0 : Int))
    let t47_12 : Bool := (bif t41_10 then true else (t45_11 != (49 : Int)))
    (bif t47_12 then
      let w_13 : ((List (Int × ((List (Int × Int)) × (List Int)))) × (List (Int × (Int × (Int × (Int × Int)))))) := ([], [])
      some (w_13, (11 : Int))
    else
      let t51_14 : Int := (IntKind.wrap .i64 ((b_1.length : Int) - (2 : Int)))
      chk none (true && (decide ((0 : Int) ≤ t51_14)) && (decide (t51_14 ≤ (b_1.length : Int)))) <|
      let t54_15 : (List Int) := ((b_1.take t51_14.toNat).drop (0 : Int).toNat)
      (F_ref06_Sum t54_15).bind fun t55_16 =>
      chk none ((decide ((0 : Int) ≤ t51_14)) && (decide (t51_14 < (b_1.length : Int)))) <|
      let t59_17 : Int := (b_1.getD t51_14.toNat (0 : Int))
      let t60_18 : Int := (IntKind.wrap .i64 t59_17)
      let t61_19 : Int := (IntKind.wrap .i64 (t60_18 * (256 : Int)))
      let t64_20 : Int := (IntKind.wrap .i64 (t51_14 + (1 : Int)))
      chk none ((decide ((0 : Int) ≤ t64_20)) && (decide (t64_20 < (b_1.length : Int)))) <|
      let t66_21 : Int := (b_1.getD t64_20.toNat (0 : Int))
      let t67_22 : Int := (IntKind.wrap .i64 t66_21)
      let t68_23 : Int := (IntKind.wrap .i64 (t61_19 + t67_22))
      (bif (t55_16 != t68_23) then
        let w_24 : ((List (Int × ((List (Int × Int)) × (List Int)))) × (List (Int × (Int × (Int × (Int × Int)))))) := ([], [])
        some (w_24, (31 : Int))
      else
        chk none (true && (decide ((0 : Int) ≤ t51_14)) && (decide (t51_14 ≤ (b_1.length : Int)))) <|
        let t73_25 : (List Int) := ((b_1.take t51_14.toNat).drop (0 : Int).toNat)
        let t74_26 : ((List Int) × (Int × Bool)) := (t73_25, ((4 : Int), false))
        (F_ref12_Count t74_26 (2 : Int) (200 : Int)).bind fun t77_27 =>
        Option.bind (
          loopO (X := (Int × (Bool × ((List (Int × ((List (Int × Int)) × (List Int)))) × (List Int))))) (fun (s_28 : (Int × (Bool × (Int × ((List (Int × ((List (Int × Int)) × (List Int)))) × (List Int)))))) =>
            let b2_29 : Int := s_28.1
            let b2_30 : Bool := s_28.2.1
            let i_31 : Int := s_28.2.2.1
            let b1_32 : (List (Int × ((List (Int × Int)) × (List Int)))) := s_28.2.2.2.1
            let b2_33 : (List Int) := s_28.2.2.2.2
            let t82_34 : Bool := (decide (i_31 < t77_27.2))
            (bif t82_34 then
              (F_ref12_Segment (b2_33, (b2_29, b2_30))).bind fun t87_35 =>
              let t94_36 : (List (Int × ((List (Int × Int)) × (List Int)))) := ([t87_35.2] : List (Int × ((List (Int × Int)) × (List Int))))
              chk none (decide ((b1_32.length + t94_36.length) * 56 ≤ 140737488355328)) <|
              let t95_37 : (List (Int × ((List (Int × Int)) × (List Int)))) := (b1_32 ++ t94_36)
              let t84_38 : Int := (IntKind.wrap .i64 (i_31 + (1 : Int)))
              some (.inl (t87_35.1.2.1, t87_35.1.2.2, t84_38, t95_37, t87_35.1.1))
            else
              some (.inr (b2_29, b2_30, b1_32, b2_33)))) (t77_27.1.2.1, t77_27.1.2.2, (0 : Int), [], t77_27.1.1)) fun r_39 =>
        let b2_40 : Int := r_39.1
        let b2_41 : Bool := r_39.2.1
        let b1_42 : (List (Int × ((List (Int × Int)) × (List Int)))) := r_39.2.2.1
        let b2_43 : (List Int) := r_39.2.2.2
        (F_ref12_Count (b2_43, (b2_40, b2_41)) (2 : Int) (400 : Int)).bind fun t99_44 =>
        Option.bind (
          loopO (X := (Int × ((List Int) × ((List (Int × (Int × (Int × (Int × Int))))) × Bool)))) (fun (s_45 : (Int × ((List Int) × ((List (Int × (Int × (Int × (Int × Int))))) × (Bool × Int))))) =>
            let b2_46 : Int := s_45.1
            let b2_47 : (List Int) := s_45.2.1
            let b1_48 : (List (Int × (Int × (Int × (Int × Int))))) := s_45.2.2.1
            let b2_49 : Bool := s_45.2.2.2.1
            let i_50 : Int := s_45.2.2.2.2
            let t104_51 : Bool := (decide (i_50 < t99_44.2))
            (bif t104_51 then
              (F_ref12_Group (b2_47, (b2_46, b2_49))).bind fun t109_52 =>
              let t116_53 : (List (Int × (Int × (Int × (Int × Int))))) := ([t109_52.2] : List (Int × (Int × (Int × (Int × Int)))))
              chk none (decide ((b1_48.length + t116_53.length) * 40 ≤ 140737488355328)) <|
              let t117_54 : (List (Int × (Int × (Int × (Int × Int))))) := (b1_48 ++ t116_53)
              let t106_55 : Int := (IntKind.wrap .i64 (i_50 + (1 : Int)))
              some (.inl (t109_52.1.2.1, t109_52.1.1, t117_54, t109_52.1.2.2, t106_55))
            else
              some (.inr (b2_46, b2_47, b1_48, b2_49)))) (t99_44.1.2.1, t99_44.1.1, [], t99_44.1.2.2, (0 : Int))) fun r_56 =>
        let b2_57 : Int := r_56.1
        let b2_58 : (List Int) := r_56.2.1
        let b1_59 : (List (Int × (Int × (Int × (Int × Int))))) := r_56.2.2.1
        let b2_60 : Bool := r_56.2.2.2
        let t126_61 : Bool := (bif b2_60 then true else (b2_57 != t51_14))
        (bif t126_61 then
          some (([], []), (14 : Int))
        else
          (F_ref11_Check (b1_42, b1_59)).bind fun t130_62 =>
          (bif (t130_62.1 != (0 : Int)) then
            some (([], []), (51 : Int))
          else
            let w_63 : ((List (Int × ((List (Int × Int)) × (List Int)))) × (List (Int × (Int × (Int × (Int × Int)))))) := (b1_42, b1_59)
            some (w_63, (0 : Int)))))))
noncomputable def con_F_ref12_Open : Con := { f := 15, ps := [.dat (.slice (.int .u8))], boxes := [], ins := (.slice (.int .u8)), nin := 1, outs := (.pair (.agg (.pair (.slice (.agg (.pair (.int .i64) (.pair (.slice (.agg (.pair (.int .i64) (.int .i64)))) (.slice (.int .i64)))))) (.slice (.agg (.pair (.int .i64) (.pair (.int .i64) (.pair (.int .i64) (.pair (.int .i64) (.int .i64))))))))) (.int .i64)), rs := [.dat (.agg (.pair (.slice (.agg (.pair (.int .i64) (.pair (.slice (.agg (.pair (.int .i64) (.int .i64)))) (.slice (.int .i64)))))) (.slice (.agg (.pair (.int .i64) (.pair (.int .i64) (.pair (.int .i64) (.pair (.int .i64) (.int .i64))))))))), .dat (.int .i64)], nout := 2, F := fun x => F_ref12_Open x }
def hint_F_ref12_Open : Hint := (.mk .plain [H0, (.mk .plain [H0, (.mk .plain [H0, (.mk .plain [H0, (.mk .plain [H0, (.mk .plain [H0, (.mk .plain [H0, (.mk .plain [H0, (.mk .plain [(.mk .plain [H0, (.mk .plain [(.mk (.loop [⟨.cell 2 1, (.int .i64), none⟩, ⟨.cell 2 2, .bool, none⟩, ⟨.slot 8, (.int .i64), none⟩, ⟨.cell 1 0, (.slice (.agg (.pair (.int .i64) (.pair (.slice (.agg (.pair (.int .i64) (.int .i64)))) (.slice (.int .i64)))))), some 9500064⟩, ⟨.cell 2 0, (.slice (.int .u8)), none⟩] [(0, 91), (0, 94), (0, 10), (0, 80), (0, 83), (0, 86), (0, 92), (0, 89), (0, 95), (0, 81), (0, 87), (0, 84), (0, 90), (0, 93), (0, 9), (0, 96), (0, 85), (0, 82), (0, 88)] [(.exit 0, [⟨.cell 2 1, (.int .i64), none⟩, ⟨.cell 2 2, .bool, none⟩, ⟨.cell 1 0, (.slice (.agg (.pair (.int .i64) (.pair (.slice (.agg (.pair (.int .i64) (.int .i64)))) (.slice (.int .i64)))))), some 9500064⟩, ⟨.cell 2 0, (.slice (.int .u8)), none⟩])]) [])])]), (.mk .plain [H0, (.mk .plain [(.mk .plain [H0, (.mk .plain [(.mk (.loop [⟨.cell 2 1, (.int .i64), none⟩, ⟨.cell 2 0, (.slice (.int .u8)), none⟩, ⟨.cell 1 1, (.slice (.agg (.pair (.int .i64) (.pair (.int .i64) (.pair (.int .i64) (.pair (.int .i64) (.int .i64))))))), some 11700065⟩, ⟨.cell 2 2, .bool, none⟩, ⟨.slot 12, (.int .i64), none⟩] [(0, 106), (0, 103), (0, 109), (0, 112), (0, 118), (0, 115), (0, 14), (0, 102), (0, 111), (0, 105), (0, 108), (0, 114), (0, 117), (0, 13), (0, 104), (0, 107), (0, 113), (0, 110), (0, 116)] [(.exit 2, [⟨.cell 2 1, (.int .i64), none⟩, ⟨.cell 2 0, (.slice (.int .u8)), none⟩, ⟨.cell 1 1, (.slice (.agg (.pair (.int .i64) (.pair (.int .i64) (.pair (.int .i64) (.pair (.int .i64) (.int .i64))))))), some 11700065⟩, ⟨.cell 2 2, .bool, none⟩])]) [])])])])])])])])])])])])])])
theorem run_F_ref12_Open : runE ⟨tdGet tys, [con_F_ref06_Sum, con_F_ref12_Count, con_F_ref12_Segment, con_F_ref12_Group, con_F_ref11_Check], [], []⟩ con_F_ref12_Open Try.f15 hint_F_ref12_Open = con_F_ref12_Open.F := by
  funext x
  kernel_rfl
theorem ok_F_ref12_Open : ConOK Try.prog con_F_ref12_Open :=
  con_of_run (Γ := ⟨tdGet tys, [con_F_ref06_Sum, con_F_ref12_Count, con_F_ref12_Segment, con_F_ref12_Group, con_F_ref11_Check], [], []⟩) ⟨fun T d h => tysB_ok tys tys_ok T d h, by simp [ok_F_ref06_Sum, ok_F_ref12_Count, ok_F_ref12_Segment, ok_F_ref12_Group, ok_F_ref11_Check], by simp [], by simp []⟩ (by kernel_rfl) Try.func15 rfl (by kernel_rfl) run_F_ref12_Open
/-- odograph/odographlaw12.ImageOpens -/
noncomputable def F_law12_ImageOpens (b_1 : (List Int)) : Option Bool :=
  (F_law12_anchor ()).bind fun t9_2 =>
  (bif (!t9_2) then
    some false
  else
    let t13_3 : Bool := (decide ((5000 : Int) < (b_1.length : Int)))
    (bif t13_3 then
      some true
    else
      (F_image_Open b_1).bind fun t16_4 =>
      (F_ref12_Open b_1).bind fun t21_5 =>
      (bif (t16_4.2 != t21_5.2) then
        some false
      else
        (bif (t16_4.2 != (0 : Int)) then
          let t32_6 : Bool := ((t16_4.1.1.length : Int) == (0 : Int))
          let t37_7 : Bool := ((t16_4.1.2.length : Int) == (0 : Int))
          let t38_8 : Bool := (bif t32_6 then t37_7 else false)
          some t38_8
        else
          (F_image_Pack t16_4.1).bind fun t41_9 =>
          let t51_10 : Bool := ((bytesOf t41_9.1).toList == (bytesOf b_1).toList)
          let t52_11 : Bool := (bif (t41_9.2 == (0 : Int)) then t51_10 else false)
          (bif t52_11 then F_ref12_Pack t21_5.1 else some []).bind fun t55_12 =>
          let t59_13 : Bool := ((bytesOf t55_12).toList == (bytesOf b_1).toList)
          let t60_14 : Bool := (bif t52_11 then t59_13 else false)
          some t60_14))))
noncomputable def con_F_law12_ImageOpens : Con := { f := 4, ps := [.dat (.slice (.int .u8))], boxes := [], ins := (.slice (.int .u8)), nin := 1, outs := .bool, rs := [.dat .bool], nout := 1, F := fun x => F_law12_ImageOpens x }
def hint_F_law12_ImageOpens : Hint := H0
theorem run_F_law12_ImageOpens : runE ⟨tdGet tys, [con_F_law12_anchor, con_F_image_Open, con_F_ref12_Open, con_F_image_Pack, con_F_ref12_Pack], [], []⟩ con_F_law12_ImageOpens Try.f4 hint_F_law12_ImageOpens = con_F_law12_ImageOpens.F := by
  funext x
  kernel_rfl
theorem ok_F_law12_ImageOpens : ConOK Try.prog con_F_law12_ImageOpens :=
  con_of_run (Γ := ⟨tdGet tys, [con_F_law12_anchor, con_F_image_Open, con_F_ref12_Open, con_F_image_Pack, con_F_ref12_Pack], [], []⟩) ⟨fun T d h => tysB_ok tys tys_ok T d h, by simp [ok_F_law12_anchor, ok_F_image_Open, ok_F_ref12_Open, ok_F_image_Pack, ok_F_ref12_Pack], by simp [], by simp []⟩ (by kernel_rfl) Try.func4 rfl (by kernel_rfl) run_F_law12_ImageOpens
/-- odograph/odographlaw12.ImageApart -/
noncomputable def F_law12_ImageApart (t_1 : ((List (Int × ((List (Int × Int)) × (List Int)))) × (List (Int × (Int × (Int × (Int × Int))))))) (u_2 : ((List (Int × ((List (Int × Int)) × (List Int)))) × (List (Int × (Int × (Int × (Int × Int))))))) : Option Bool :=
  (F_law12_anchor ()).bind fun t9_3 =>
  (bif (!t9_3) then
    some false
  else
    (F_law12_great t_1).bind fun t12_4 =>
    (bif !t12_4 then F_law12_great u_2 else some false).bind fun t15_5 =>
    let t16_6 : Bool := (bif t12_4 then true else t15_5)
    (bif t16_6 then
      some true
    else
      (F_image_Pack t_1).bind fun t19_7 =>
      (F_image_Pack u_2).bind fun t24_8 =>
      let t32_9 : Bool := (bif (t19_7.2 != (0 : Int)) then true else (t24_8.2 != (0 : Int)))
      let t38_10 : Bool := ((bytesOf t19_7.1).toList == (bytesOf t24_8.1).toList)
      (bif !t32_9 then F_law12_same t_1 u_2 else some false).bind fun t41_11 =>
      let t43_12 : Bool := (bif t32_9 then true else (t38_10 == t41_11))
      some t43_12))
noncomputable def con_F_law12_ImageApart : Con := { f := 6, ps := [.dat (.agg (.pair (.slice (.agg (.pair (.int .i64) (.pair (.slice (.agg (.pair (.int .i64) (.int .i64)))) (.slice (.int .i64)))))) (.slice (.agg (.pair (.int .i64) (.pair (.int .i64) (.pair (.int .i64) (.pair (.int .i64) (.int .i64))))))))), .dat (.agg (.pair (.slice (.agg (.pair (.int .i64) (.pair (.slice (.agg (.pair (.int .i64) (.int .i64)))) (.slice (.int .i64)))))) (.slice (.agg (.pair (.int .i64) (.pair (.int .i64) (.pair (.int .i64) (.pair (.int .i64) (.int .i64)))))))))], boxes := [], ins := (.pair (.agg (.pair (.slice (.agg (.pair (.int .i64) (.pair (.slice (.agg (.pair (.int .i64) (.int .i64)))) (.slice (.int .i64)))))) (.slice (.agg (.pair (.int .i64) (.pair (.int .i64) (.pair (.int .i64) (.pair (.int .i64) (.int .i64))))))))) (.agg (.pair (.slice (.agg (.pair (.int .i64) (.pair (.slice (.agg (.pair (.int .i64) (.int .i64)))) (.slice (.int .i64)))))) (.slice (.agg (.pair (.int .i64) (.pair (.int .i64) (.pair (.int .i64) (.pair (.int .i64) (.int .i64)))))))))), nin := 2, outs := .bool, rs := [.dat .bool], nout := 1, F := fun x => F_law12_ImageApart x.1 x.2 }
def hint_F_law12_ImageApart : Hint := H0
theorem run_F_law12_ImageApart : runE ⟨tdGet tys, [con_F_law12_anchor, con_F_law12_great, con_F_image_Pack, con_F_law12_same], [], []⟩ con_F_law12_ImageApart Try.f6 hint_F_law12_ImageApart = con_F_law12_ImageApart.F := by
  funext x
  kernel_rfl
theorem ok_F_law12_ImageApart : ConOK Try.prog con_F_law12_ImageApart :=
  con_of_run (Γ := ⟨tdGet tys, [con_F_law12_anchor, con_F_law12_great, con_F_image_Pack, con_F_law12_same], [], []⟩) ⟨fun T d h => tysB_ok tys tys_ok T d h, by simp [ok_F_law12_anchor, ok_F_law12_great, ok_F_image_Pack, ok_F_law12_same], by simp [], by simp []⟩ (by kernel_rfl) Try.func6 rfl (by kernel_rfl) run_F_law12_ImageApart
end Go.Proofs.Ytdiebciejcmmhaa
