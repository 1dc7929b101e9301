/- The functional reading of the code (printed). -/
import Derived.Test.YtlkcanjbgaeceaaGreatFnsZ
set_option linter.unusedSimpArgs false
set_option linter.unusedVariables false
namespace Go.Proofs.YtlkcanjbgaeceaaGreat
open Go
noncomputable def F_ref13_Up (a_1 : Int) (b_2 : Int) : Option Int :=
 let t7_3 := (IntKind.wrap .i64 (a_1 + b_2))
 let t8_4 := (IntKind.wrap .i64 (t7_3 - (1 : Int)))
 chk none (!(b_2 == (0 : Int))) <|
 let t10_5 := (IntKind.wrap .i64 (t8_4.tdiv b_2))
 some t10_5
noncomputable def con_F_ref13_Up : Con := { f := 31, ps := [dI, dI], boxes := [], ins := (.pair (.int .i64) (.int .i64)), nin := 2, outs := (.int .i64), rs := [dI], nout := 1, F := fun x => F_ref13_Up x.1 x.2 }
def hint_F_ref13_Up : Hint := H0
theorem run_F_ref13_Up : runE ⟨tdGet tys, [], [], [], []⟩ con_F_ref13_Up Tryz.f31 hint_F_ref13_Up = con_F_ref13_Up.F := by
 funext x
 kernel_rfl
theorem ok_F_ref13_Up : ConOK Tryz.prog con_F_ref13_Up :=
 con_of_run (Γ := ⟨tdGet tys, [], [], [], []⟩) ⟨fun T d h => tysB_ok tys tys_ok T d h, by simp [], by simp [], by simp [], ptrs_ok Tryz.prog [] (by kernel_rfl)⟩ (by kernel_rfl) Tryz.func31 rfl (by kernel_rfl) run_F_ref13_Up
noncomputable def F_ref13_Wrong (c_1 : Yd460) : Option Int :=
 let t5_2 := (decide (c_1.1 < (1 : Int)))
 let t9_3 := (decide ((1024 : Int) < c_1.1))
 let t10_4 := (bif t5_2 then true else t9_3)
 (bif t10_4 then
  some (1 : Int)
 else
  let t13_5 := (decide (c_1.2.1 < (131072 : Int)))
  let t17_6 := (decide ((8388608 : Int) < c_1.2.1))
  let t18_7 := (bif t13_5 then true else t17_6)
  let t24_8 := (decide (c_1.2.2.1 < c_1.2.1))
  let t25_9 := (bif t18_7 then true else t24_8)
  let t29_10 := (decide ((8388608 : Int) < c_1.2.2.1))
  let t30_11 := (bif t25_9 then true else t29_10)
  (bif t30_11 then
   some (2 : Int)
  else
   let t35_12 := (IntKind.wrap .i64 (c_1.2.2.1 - c_1.2.1))
   let t36_13 := (IntKind.wrap .i64 (t35_12 * (16 : Int)))
   let t39_14 := (decide (c_1.2.1 < t36_13))
   (bif t39_14 then
    some (3 : Int)
   else
    let t42_15 := (decide (c_1.2.2.2.1 < (0 : Int)))
    let t46_16 := (decide ((1048576 : Int) < c_1.2.2.2.1))
    let t47_17 := (bif t42_15 then true else t46_16)
    let t51_18 := (decide (c_1.2.2.2.2.1 < (0 : Int)))
    let t52_19 := (bif t47_17 then true else t51_18)
    let t56_20 := (decide ((65536 : Int) < c_1.2.2.2.2.1))
    let t57_21 := (bif t52_19 then true else t56_20)
    (bif t57_21 then
     some (4 : Int)
    else
     let t60_22 := (decide (c_1.2.2.2.2.2.1 < (0 : Int)))
     let t64_23 := (decide ((1048576 : Int) < c_1.2.2.2.2.2.1))
     let t65_24 := (bif t60_22 then true else t64_23)
     (bif t65_24 then
      some (5 : Int)
     else
      let t68_25 := (decide (c_1.2.2.2.2.2.2.1 < (1 : Int)))
      let t72_26 := (decide ((16777216 : Int) < c_1.2.2.2.2.2.2.1))
      let t73_27 := (bif t68_25 then true else t72_26)
      let t77_28 := (decide (c_1.2.2.2.2.2.2.2.1 < (1 : Int)))
      let t78_29 := (bif t73_27 then true else t77_28)
      let t82_30 := (decide ((1048576 : Int) < c_1.2.2.2.2.2.2.2.1))
      let t83_31 := (bif t78_29 then true else t82_30)
      (bif t83_31 then
       some (6 : Int)
      else
       let t88_32 := (IntKind.wrap .i64 (c_1.2.2.2.2.2.2.1 * c_1.1))
       let t91_33 := (IntKind.wrap .i64 ((32000 : Int) * c_1.2.1))
       let t92_34 := (decide (t91_33 < t88_32))
       (bif t92_34 then
        some (7 : Int)
       else
        let t95_35 := (decide (c_1.2.2.2.2.2.2.2.2.1 < (0 : Int)))
        let t99_36 := (decide ((1048576 : Int) < c_1.2.2.2.2.2.2.2.2.1))
        let t100_37 := (bif t95_35 then true else t99_36)
        (bif t100_37 then
         some (8 : Int)
        else
         let t103_38 := (decide (c_1.2.2.2.2.2.2.2.2.2.1 < (1 : Int)))
         let t107_39 := (decide ((1000 : Int) < c_1.2.2.2.2.2.2.2.2.2.1))
         let t108_40 := (bif t103_38 then true else t107_39)
         let t111_41 := c_1.2.2.2.2.2.2.2.2.2.2.2.2.1
         let t112_42 := (decide (t111_41 < (1 : Int)))
         let t113_43 := (bif t108_40 then true else t112_42)
         let t116_44 := c_1.2.2.2.2.2.2.2.2.2.2.2.2.1
         let t117_45 := (decide ((1000 : Int) < t116_44))
         let t118_46 := (bif t113_43 then true else t117_45)
         (bif t118_46 then
          some (9 : Int)
         else
          let t120_47 := c_1.2.2.2.2.2.2.2.2.2.2.1
          (F_ref13_Up c_1.2.2.1 c_1.1).bind fun t125_48 =>
          let t126_49 := (decide (t120_47 < t125_48))
          let t129_50 := c_1.2.2.2.2.2.2.2.2.2.2.1
          let t132_51 := (IntKind.wrap .i64 ((3 : Int) * c_1.2.2.2.1))
          let t133_52 := (decide (t129_50 < t132_51))
          let t134_53 := (bif t126_49 then true else t133_52)
          let t137_54 := c_1.2.2.2.2.2.2.2.2.2.2.1
          let t138_55 := (decide ((16777216 : Int) < t137_54))
          let t139_56 := (bif t134_53 then true else t138_55)
          (bif t139_56 then
           some (10 : Int)
          else
           let t141_57 := c_1.2.2.2.2.2.2.2.2.2.2.2.1
           let t142_58 := (decide (t141_57 < (0 : Int)))
           let t145_59 := c_1.2.2.2.2.2.2.2.2.2.2.2.1
           let t146_60 := (decide ((1073741824 : Int) < t145_59))
           let t147_61 := (bif t142_58 then true else t146_60)
           (bif t147_61 then
            some (11 : Int)
           else
            let t149_62 := c_1.2.2.2.2.2.2.2.2.2.2.2.2.2
            let t150_63 := (decide (t149_62 < (1 : Int)))
            let t153_64 := c_1.2.2.2.2.2.2.2.2.2.2.2.2.2
            let t154_65 := (decide ((1048576 : Int) < t153_64))
            let t155_66 := (bif t150_63 then true else t154_65)
            (bif t155_66 then
             some (12 : Int)
            else
             some (0 : Int)))))))))))))
noncomputable def con_F_ref13_Wrong : Con := { f := 14, ps := [.dat (.agg Yt460)], boxes := [], ins := (.agg Yt460), nin := 1, outs := (.int .i64), rs := [dI], nout := 1, F := fun x => F_ref13_Wrong x }
def hint_F_ref13_Wrong : Hint := H0
theorem run_F_ref13_Wrong : runE ⟨tdGet tys, [con_F_ref13_Up], [], [], []⟩ con_F_ref13_Wrong Tryz.f14 hint_F_ref13_Wrong = con_F_ref13_Wrong.F := by
 funext x
 kernel_rfl
theorem ok_F_ref13_Wrong : ConOK Tryz.prog con_F_ref13_Wrong :=
 con_of_run (Γ := ⟨tdGet tys, [con_F_ref13_Up], [], [], []⟩) ⟨fun T d h => tysB_ok tys tys_ok T d h, by simp [ok_F_ref13_Up], by simp [], by simp [], ptrs_ok Tryz.prog [] (by kernel_rfl)⟩ (by kernel_rfl) Tryz.func14 rfl (by kernel_rfl) run_F_ref13_Wrong
noncomputable def F_ref10_May (l_1 : (List (Int × Int))) (length_2 : Int) : Option Bool :=
 let t8_3 := (decide ((l_1.length : Int) < (1 : Int)))
 let t12_4 := (decide ((64 : Int) < (l_1.length : Int)))
 let t13_5 := (bif t8_3 then true else t12_4)
 chk none ((true && (decide ((0 : Int) < (l_1.length : Int)))) || !(!t13_5)) <|
 let e_6 : (Int × Int) := (l_1.getD (0 : Int).toNat ((0 : Int), (0 : Int)))
 let t20_7 := (bif t13_5 then true else (e_6.1 != (0 : Int)))
 (bif t20_7 then
  some false
 else
  Option.bind (α := Bool ⊕ Unit) (
   loopO (X := Bool ⊕ Unit) (fun (s_8 : Int) =>
    let t24_9 := (decide (s_8 < (l_1.length : Int)))
    (bif t24_9 then
     chk none ((decide ((0 : Int) ≤ s_8)) && (decide (s_8 < (l_1.length : Int)))) <|
     let e_10 : (Int × Int) := (l_1.getD s_8.toNat ((0 : Int), (0 : Int)))
     let t32_11 := (decide (e_10.2 < (-1048576 : Int)))
     chk none (((decide ((0 : Int) ≤ s_8)) && (decide (s_8 < (l_1.length : Int)))) || !(!t32_11)) <|
     let e_12 : (Int × Int) := (l_1.getD s_8.toNat ((0 : Int), (0 : Int)))
     let t39_13 := (decide ((1048576 : Int) < e_12.2))
     let t40_14 := (bif t32_11 then true else t39_13)
     chk none (((decide ((0 : Int) ≤ s_8)) && (decide (s_8 < (l_1.length : Int)))) || !(!t40_14)) <|
     let e_15 : (Int × Int) := (l_1.getD s_8.toNat ((0 : Int), (0 : Int)))
     let t48_16 := (decide (length_2 ≤ e_15.1))
     let t49_17 := (bif t40_14 then true else t48_16)
     (bif t49_17 then
      some (.inr (.inl false))
     else
      let t51_18 := (decide ((0 : Int) < s_8))
      chk none (((decide ((0 : Int) ≤ s_8)) && (decide (s_8 < (l_1.length : Int)))) || !t51_18) <|
      let e_19 : (Int × Int) := (l_1.getD s_8.toNat ((0 : Int), (0 : Int)))
      let t60_20 := (IntKind.wrap .i64 (s_8 - (1 : Int)))
      chk none (((decide ((0 : Int) ≤ t60_20)) && (decide (t60_20 < (l_1.length : Int)))) || !t51_18) <|
      let e_21 : (Int × Int) := (l_1.getD t60_20.toNat ((0 : Int), (0 : Int)))
      let t64_22 := (decide (e_19.1 ≤ e_21.1))
      let t65_23 := (bif t51_18 then t64_22 else false)
      (bif t65_23 then
       some (.inr (.inl false))
      else
       let t26_24 := (IntKind.wrap .i64 (s_8 + (1 : Int)))
       some (.inl t26_24)))
    else
     some (.inr (.inr ())))) (0 : Int)) fun z => match z with
  | .inl r_25 =>
   some r_25
  | .inr _ =>
   some true)
noncomputable def con_F_ref10_May : Con := { f := 47, ps := [.dat (.slice (.agg (.pair (.int .i64) (.int .i64)))), dI], boxes := [], ins := (.pair (.slice (.agg (.pair (.int .i64) (.int .i64)))) (.int .i64)), nin := 2, outs := .bool, rs := [.dat .bool], nout := 1, F := fun x => F_ref10_May x.1 x.2 }
def hint_F_ref10_May : Hint := (.mk .plain [H0, (.mk .plain [H0, (.mk .plain [(.mk .plain [H0, (.mk .plain [(.mk (.loop [⟨.slot 5, (.int .i64), none⟩] [(0, 30), (0, 36), (0, 42), (0, 4), (0, 39), (0, 45), (0, 48), (0, 22), (0, 28), (0, 31), (0, 34), (0, 40), (0, 37), (0, 43), (0, 46), (0, 23), (0, 49), (0, 29), (0, 35), (0, 32), (0, 38), (0, 41), (0, 47), (0, 44), (0, 21), (0, 24), (0, 27), (0, 33), (0, 54), (0, 51), (0, 57), (0, 60), (0, 63), (0, 26), (0, 50), (0, 53), (0, 59), (0, 56), (0, 62), (0, 65), (0, 25), (0, 52), (0, 55), (0, 61), (0, 58), (0, 64)] [(.ret, [⟨.slot 4, .bool, none⟩]), (.exit 0, [])]) [])])])])])])
theorem run_F_ref10_May : runE ⟨tdGet tys, [], [], [], []⟩ con_F_ref10_May Tryz.f47 hint_F_ref10_May = con_F_ref10_May.F := by
 funext x
 kernel_rfl
theorem ok_F_ref10_May : ConOK Tryz.prog con_F_ref10_May :=
 con_of_run (Γ := ⟨tdGet tys, [], [], [], []⟩) ⟨fun T d h => tysB_ok tys tys_ok T d h, by simp [], by simp [], by simp [], ptrs_ok Tryz.prog [] (by kernel_rfl)⟩ (by kernel_rfl) Tryz.func47 rfl (by kernel_rfl) run_F_ref10_May
noncomputable def F_ref11_segment (s_1 : Yd1) (many_2 : Int) : Option Bool :=
 let t8_3 := (decide (s_1.1 < (1 : Int)))
 let t12_4 := (decide ((1099511627776 : Int) < s_1.1))
 let t13_5 := (bif t8_3 then true else t12_4)
 (bif !t13_5 then F_ref10_May s_1.2.1 s_1.1 else some false).bind fun t19_6 =>
 let t21_7 := (bif t13_5 then true else (!t19_6))
 let t26_8 := (decide ((2 : Int) < (s_1.2.2.length : Int)))
 let t27_9 := (bif t21_7 then true else t26_8)
 (bif t27_9 then
  some false
 else
  Option.bind (α := Bool ⊕ Unit) (
   loopO (X := Bool ⊕ Unit) (fun (s_10 : Int) =>
    let t32_11 := (decide (s_10 < (s_1.2.2.length : Int)))
    (bif t32_11 then
     chk none ((decide ((0 : Int) ≤ s_10)) && (decide (s_10 < (s_1.2.2.length : Int)))) <|
     let t39_12 := (s_1.2.2.getD s_10.toNat (0 : Int))
     let t40_13 := (decide (t39_12 < (0 : Int)))
     chk none (((decide ((0 : Int) ≤ s_10)) && (decide (s_10 < (s_1.2.2.length : Int)))) || !(!t40_13)) <|
     let t46_14 := (s_1.2.2.getD s_10.toNat (0 : Int))
     let t48_15 := (decide (many_2 ≤ t46_14))
     let t49_16 := (bif t40_13 then true else t48_15)
     (bif t49_16 then
      some (.inr (.inl false))
     else
      let t34_17 := (IntKind.wrap .i64 (s_10 + (1 : Int)))
      some (.inl t34_17))
    else
     some (.inr (.inr ())))) (0 : Int)) fun z => match z with
  | .inl r_18 =>
   some r_18
  | .inr _ =>
   let t53_19 := (decide ((s_1.2.2.length : Int) < (2 : Int)))
   chk none ((true && (decide ((0 : Int) < (s_1.2.2.length : Int)))) || !(!t53_19)) <|
   let t58_20 := (s_1.2.2.getD (0 : Int).toNat (0 : Int))
   chk none ((true && (decide ((1 : Int) < (s_1.2.2.length : Int)))) || !(!t53_19)) <|
   let t62_21 := (s_1.2.2.getD (1 : Int).toNat (0 : Int))
   let t63_22 := (decide (t58_20 < t62_21))
   let t64_23 := (bif t53_19 then true else t63_22)
   some t64_23)
noncomputable def con_F_ref11_segment : Con := { f := 32, ps := [.dat (.agg Yt1), dI], boxes := [], ins := Yt604, nin := 2, outs := .bool, rs := [.dat .bool], nout := 1, F := fun x => F_ref11_segment x.1 x.2 }
def hint_F_ref11_segment : Hint := (.mk .plain [H0, (.mk .plain [H0, (.mk .plain [(.mk .plain [H0, (.mk .plain [(.mk (.loop [⟨.slot 5, (.int .i64), none⟩] [(0, 30), (0, 36), (0, 42), (0, 4), (0, 39), (0, 45), (0, 48), (0, 28), (0, 31), (0, 40), (0, 37), (0, 43), (0, 46), (0, 49), (0, 29), (0, 35), (0, 32), (0, 38), (0, 41), (0, 47), (0, 44), (0, 34), (0, 33)] [(.ret, [⟨.slot 4, .bool, none⟩]), (.exit 0, [])]) [])])])])])])
theorem run_F_ref11_segment : runE ⟨tdGet tys, [con_F_ref10_May], [], [], []⟩ con_F_ref11_segment Tryz.f32 hint_F_ref11_segment = con_F_ref11_segment.F := by
 funext x
 kernel_rfl
theorem ok_F_ref11_segment : ConOK Tryz.prog con_F_ref11_segment :=
 con_of_run (Γ := ⟨tdGet tys, [con_F_ref10_May], [], [], []⟩) ⟨fun T d h => tysB_ok tys tys_ok T d h, by simp [ok_F_ref10_May], by simp [], by simp [], ptrs_ok Tryz.prog [] (by kernel_rfl)⟩ (by kernel_rfl) Tryz.func32 rfl (by kernel_rfl) run_F_ref11_segment
noncomputable def F_ref11_Check (t_1 : Yd467) : Option (Int × Int) :=
 let t11_2 := (decide ((t_1.1.length : Int) < (1 : Int)))
 let t16_3 := (decide ((200 : Int) < (t_1.1.length : Int)))
 let t17_4 := (bif t11_2 then true else t16_3)
 let t22_5 := (decide ((400 : Int) < (t_1.2.length : Int)))
 let t23_6 := (bif t17_4 then true else t22_5)
 (bif t23_6 then
  some ((13 : Int), (0 : Int))
 else
  Option.bind (α := (Int × Int) ⊕ Unit) (
   loopO (X := (Int × Int) ⊕ Unit) (fun (s_7 : Int) =>
    let t28_8 := (decide (s_7 < (t_1.1.length : Int)))
    (bif t28_8 then
     chk none ((decide ((0 : Int) ≤ s_7)) && (decide (s_7 < (t_1.1.length : Int)))) <|
     let t35_9 : Yd1 := (t_1.1.getD s_7.toNat ((0 : Int), ([], [])))
     (F_ref11_segment t35_9 (t_1.1.length : Int)).bind fun t39_10 =>
     (bif (!t39_10) then
      some (.inr (.inl (s_7, (11 : Int))))
     else
      let t30_11 := (IntKind.wrap .i64 (s_7 + (1 : Int)))
      some (.inl t30_11))
    else
     some (.inr (.inr ())))) (0 : Int)) fun z => match z with
  | .inl r_12 =>
   let t3_13 := r_12.1
   let t2_14 := r_12.2
   some (t2_14, t3_13)
  | .inr _ =>
   Option.bind (α := (Int × Int) ⊕ Unit) (
    loopO (X := (Int × Int) ⊕ Unit) (fun (s_15 : (Int × Int)) =>
     let last_16 := s_15.1
     let i_17 := s_15.2
     let t46_18 := (decide (i_17 < (t_1.2.length : Int)))
     (bif t46_18 then
      chk none ((decide ((0 : Int) ≤ i_17)) && (decide (i_17 < (t_1.2.length : Int)))) <|
      let t53_19 : Yd20 := (t_1.2.getD i_17.toNat ((0 : Int), ((0 : Int), ((0 : Int), ((0 : Int), (0 : Int))))))
      let t57_20 := (decide (t53_19.1 ≤ last_16))
      let t61_21 := (decide ((65535 : Int) < t53_19.1))
      let t62_22 := (bif t57_20 then true else t61_21)
      let t66_23 := (decide (t53_19.2.1 < (0 : Int)))
      let t67_24 := (bif t62_22 then true else t66_23)
      let t74_25 := (decide ((t_1.1.length : Int) ≤ t53_19.2.1))
      let t75_26 := (bif t67_24 then true else t74_25)
      (bif t75_26 then
       some (.inr (.inl ((16 : Int), i_17)))
      else
       let t79_27 := (decide (t53_19.2.2.1 < (0 : Int)))
       chk none (((decide ((0 : Int) ≤ t53_19.2.1)) && (decide (t53_19.2.1 < (t_1.1.length : Int)))) || !(!t79_27)) <|
       let e_28 : Yd1 := (t_1.1.getD t53_19.2.1.toNat ((0 : Int), ([], [])))
       let t90_29 := (decide (e_28.1 < t53_19.2.2.1))
       let t91_30 := (bif t79_27 then true else t90_29)
       let t95_31 := (decide (t53_19.2.2.2.1 < (0 : Int)))
       let t96_32 := (bif t91_30 then true else t95_31)
       let t100_33 := (decide ((1048576 : Int) < t53_19.2.2.2.1))
       let t101_34 := (bif t96_32 then true else t100_33)
       let t105_35 := (decide (t53_19.2.2.2.2 < (0 : Int)))
       let t106_36 := (bif t101_34 then true else t105_35)
       let t110_37 := (decide ((16777216 : Int) < t53_19.2.2.2.2))
       let t111_38 := (bif t106_36 then true else t110_37)
       (bif t111_38 then
        some (.inr (.inl ((16 : Int), i_17)))
       else
        let t48_39 := (IntKind.wrap .i64 (i_17 + (1 : Int)))
        some (.inl (t53_19.1, t48_39))))
     else
      some (.inr (.inr ())))) ((0 : Int), (0 : Int))) fun z => match z with
   | .inl r_40 =>
    let t2_41 := r_40.1
    let t3_42 := r_40.2
    some (t2_41, t3_42)
   | .inr _ =>
    some ((0 : Int), (0 : Int)))
noncomputable def con_F_ref11_Check : Con := { f := 15, ps := [.dat (.agg Yt467)], boxes := [], ins := (.agg Yt467), nin := 1, outs := (.pair (.int .i64) (.int .i64)), rs := [dI, dI], nout := 2, F := fun x => F_ref11_Check x }
def hint_F_ref11_Check : Hint := (.mk .plain [H0, (.mk .plain [H0, (.mk .plain [(.mk .plain [H0, (.mk .plain [(.mk (.loop [⟨.slot 4, (.int .i64), none⟩] [(0, 36), (0, 26), (0, 39), (0, 35), (0, 3), (0, 32), (0, 38), (0, 28), (0, 41), (0, 2), (0, 31), (0, 25), (0, 34), (0, 40), (0, 24), (0, 37), (0, 27), (0, 33), (0, 30), (0, 29)] [(.ret, [⟨.slot 3, (.int .i64), none⟩, ⟨.slot 2, (.int .i64), none⟩]), (.exit 0, [])]) [])])]), (.mk .plain [H0, (.mk .plain [(.mk .plain [H0, (.mk .plain [(.mk (.loop [⟨.slot 5, (.int .i64), none⟩, ⟨.slot 6, (.int .i64), none⟩] [(0, 42), (0, 45), (0, 54), (0, 51), (0, 57), (0, 2), (0, 60), (0, 66), (0, 63), (0, 69), (0, 72), (0, 75), (0, 44), (0, 50), (0, 53), (0, 59), (0, 56), (0, 62), (0, 68), (0, 7), (0, 65), (0, 71), (0, 74), (0, 43), (0, 46), (0, 52), (0, 49), (0, 55), (0, 61), (0, 58), (0, 64), (0, 3), (0, 67), (0, 73), (0, 70), (0, 76), (0, 91), (0, 100), (0, 109), (0, 78), (0, 87), (0, 84), (0, 93), (0, 102), (0, 111), (0, 108), (0, 80), (0, 77), (0, 86), (0, 95), (0, 104), (0, 101), (0, 110), (0, 79), (0, 88), (0, 97), (0, 94), (0, 106), (0, 103), (0, 112), (0, 81), (0, 90), (0, 99), (0, 96), (0, 105), (0, 83), (0, 92), (0, 89), (0, 98), (0, 107), (0, 85), (0, 82), (0, 47), (0, 113), (0, 48), (0, 114)] [(.ret, [⟨.slot 2, (.int .i64), none⟩, ⟨.slot 3, (.int .i64), none⟩]), (.exit 2, [])]) [])])])])])])])])
theorem run_F_ref11_Check : runE ⟨tdGet tys, [con_F_ref11_segment], [], [], []⟩ con_F_ref11_Check Tryz.f15 hint_F_ref11_Check = con_F_ref11_Check.F := by
 funext x
 kernel_rfl
theorem ok_F_ref11_Check : ConOK Tryz.prog con_F_ref11_Check :=
 con_of_run (Γ := ⟨tdGet tys, [con_F_ref11_segment], [], [], []⟩) ⟨fun T d h => tysB_ok tys tys_ok T d h, by simp [ok_F_ref11_segment], by simp [], by simp [], ptrs_ok Tryz.prog [] (by kernel_rfl)⟩ (by kernel_rfl) Tryz.func15 rfl (by kernel_rfl) run_F_ref11_Check
noncomputable def F_ref13_Fits (c_1 : Yd460) (t_2 : Yd467) : Option (Int × Int) :=
 (F_ref13_Wrong c_1).bind fun t12_3 =>
 (bif (t12_3 != (0 : Int)) then
  some ((50 : Int), (0 : Int))
 else
  (F_ref11_Check t_2).bind fun t16_4 =>
  (bif (t16_4.1 != (0 : Int)) then
   some ((51 : Int), (0 : Int))
  else
   Option.bind (α := (Int × Int) ⊕ Unit) (
    loopO (X := (Int × Int) ⊕ Unit) (fun (s_5 : Int) =>
     let t25_6 := (decide (s_5 < (t_2.2.length : Int)))
     (bif t25_6 then
      chk none ((decide ((0 : Int) ≤ s_5)) && (decide (s_5 < (t_2.2.length : Int)))) <|
      let t32_7 : Yd20 := (t_2.2.getD s_5.toNat ((0 : Int), ((0 : Int), ((0 : Int), ((0 : Int), (0 : Int))))))
      let t37_8 := (IntKind.wrap .i64 (t32_7.2.2.2.1 + c_1.2.2.2.2.2.2.2.2.1))
      let t40_9 := (IntKind.wrap .i64 (t37_8 + c_1.2.2.2.2.2.2.1))
      let t44_10 := (decide (t32_7.2.2.1 < t40_9))
      chk none (((decide ((0 : Int) ≤ t32_7.2.1)) && (decide (t32_7.2.1 < (t_2.1.length : Int)))) || !(!t44_10)) <|
      let e_11 : Yd1 := (t_2.1.getD t32_7.2.1.toNat ((0 : Int), ([], [])))
      let t55_12 := (IntKind.wrap .i64 (e_11.1 - t32_7.2.2.1))
      let t57_13 := (decide (t55_12 < t40_9))
      let t58_14 := (bif t44_10 then true else t57_13)
      (bif t58_14 then
       some (.inr (.inl (s_5, (11 : Int))))
      else
       let t27_15 := (IntKind.wrap .i64 (s_5 + (1 : Int)))
       some (.inl t27_15))
     else
      some (.inr (.inr ())))) (0 : Int)) fun z => match z with
   | .inl r_16 =>
    let t5_17 := r_16.1
    let t4_18 := r_16.2
    some (t4_18, t5_17)
   | .inr _ =>
    some ((0 : Int), (0 : Int))))
noncomputable def con_F_ref13_Fits : Con := { f := 6, ps := [.dat (.agg Yt460), .dat (.agg Yt467)], boxes := [], ins := Yt472, nin := 2, outs := (.pair (.int .i64) (.int .i64)), rs := [dI, dI], nout := 2, F := fun x => F_ref13_Fits x.1 x.2 }
def hint_F_ref13_Fits : Hint := (.mk .plain [H0, (.mk .plain [H0, (.mk .plain [H0, (.mk .plain [H0, (.mk .plain [(.mk .plain [H0, (.mk .plain [(.mk (.loop [⟨.slot 8, (.int .i64), none⟩] [(0, 30), (0, 36), (0, 42), (0, 39), (0, 45), (0, 48), (0, 54), (0, 51), (0, 57), (0, 5), (0, 23), (0, 29), (0, 35), (0, 32), (0, 38), (0, 41), (0, 47), (0, 44), (0, 50), (0, 53), (0, 59), (0, 56), (0, 4), (0, 10), (0, 22), (0, 28), (0, 25), (0, 31), (0, 34), (0, 40), (0, 37), (0, 43), (0, 46), (0, 52), (0, 49), (0, 55), (0, 58), (0, 9), (0, 21), (0, 24), (0, 33), (0, 26), (0, 27)] [(.ret, [⟨.slot 5, (.int .i64), none⟩, ⟨.slot 4, (.int .i64), none⟩]), (.exit 0, [])]) [])])])])])])])])
theorem run_F_ref13_Fits : runE ⟨tdGet tys, [con_F_ref13_Wrong, con_F_ref11_Check], [], [], []⟩ con_F_ref13_Fits Tryz.f6 hint_F_ref13_Fits = con_F_ref13_Fits.F := by
 funext x
 kernel_rfl
theorem ok_F_ref13_Fits : ConOK Tryz.prog con_F_ref13_Fits :=
 con_of_run (Γ := ⟨tdGet tys, [con_F_ref13_Wrong, con_F_ref11_Check], [], [], []⟩) ⟨fun T d h => tysB_ok tys tys_ok T d h, by simp [ok_F_ref13_Wrong, ok_F_ref11_Check], by simp [], by simp [], ptrs_ok Tryz.prog [] (by kernel_rfl)⟩ (by kernel_rfl) Tryz.func6 rfl (by kernel_rfl) run_F_ref13_Fits
noncomputable def F_law29_ref (s_1 : Yd577) : Option Yd610 :=
 let t24_2 := (s_1.2.2.2.2.2.1.length : Int)
 Option.bind (
  loopO (X := (List Yd111)) (fun (s_3 : Yd611) =>
   let b2_4 : (List Yd111) := s_3.1
   let t25_5 := s_3.2
   (bif (decide (t25_5 < t24_2)) then
    chk none ((decide ((0 : Int) ≤ t25_5)) && (decide (t25_5 < (s_1.2.2.2.2.2.1.length : Int)))) <|
    let t28_6 : Yd19 := (s_1.2.2.2.2.2.1.getD t25_5.toNat ((0 : Int), (((0 : Int), (0 : Int)), ((0 : Int), ((0 : Int), ((false, (false, (false, false))), ([], false)))))))
    let t39_7 : Yd111 := (t28_6.1, (t28_6.2.1, (t28_6.2.2.1, (t28_6.2.2.2.1, (((0 : Int), ((0 : Int), ((0 : Int), (0 : Int)))), (t28_6.2.2.2.2.2.1, (0 : Int)))))))
    Option.bind (
     (bif t28_6.2.2.2.2.1.1 then
      some ((1 : Int), t39_7.2.2.2.2.1.2.2.2, t39_7.2.2.2.1, t39_7.2.1.1, t39_7.2.2.2.2.1.2.2.1, t39_7.2.2.2.2.2.2, t39_7.1, t39_7.2.2.2.2.1.2.1, t39_7.2.2.1, t39_7.2.2.2.2.2.1, t39_7.2.1.2)
     else
      some (t39_7.2.2.2.2.1.1, t39_7.2.2.2.2.1.2.2.2, t39_7.2.2.2.1, t39_7.2.1.1, t39_7.2.2.2.2.1.2.2.1, t39_7.2.2.2.2.2.2, t39_7.1, t39_7.2.2.2.2.1.2.1, t39_7.2.2.1, t39_7.2.2.2.2.2.1, t39_7.2.1.2))) fun r_8 =>
    let b4_9 := r_8.1
    let b4_10 := r_8.2.1
    let b4_11 := r_8.2.2.1
    let b4_12 := r_8.2.2.2.1
    let b4_13 := r_8.2.2.2.2.1
    let b4_14 := r_8.2.2.2.2.2.1
    let b4_15 := r_8.2.2.2.2.2.2.1
    let b4_16 := r_8.2.2.2.2.2.2.2.1
    let b4_17 := r_8.2.2.2.2.2.2.2.2.1
    let b4_18 : (List (List Int)) := r_8.2.2.2.2.2.2.2.2.2.1
    let b4_19 := r_8.2.2.2.2.2.2.2.2.2.2
    Option.bind (
     (bif t28_6.2.2.2.2.1.2.1 then
      some (b4_9, b4_10, b4_11, b4_12, b4_13, b4_14, b4_15, (1 : Int), b4_17, b4_18, b4_19)
     else
      some (b4_9, b4_10, b4_11, b4_12, b4_13, b4_14, b4_15, b4_16, b4_17, b4_18, b4_19))) fun r_20 =>
    let b4_21 := r_20.1
    let b4_22 := r_20.2.1
    let b4_23 := r_20.2.2.1
    let b4_24 := r_20.2.2.2.1
    let b4_25 := r_20.2.2.2.2.1
    let b4_26 := r_20.2.2.2.2.2.1
    let b4_27 := r_20.2.2.2.2.2.2.1
    let b4_28 := r_20.2.2.2.2.2.2.2.1
    let b4_29 := r_20.2.2.2.2.2.2.2.2.1
    let b4_30 : (List (List Int)) := r_20.2.2.2.2.2.2.2.2.2.1
    let b4_31 := r_20.2.2.2.2.2.2.2.2.2.2
    Option.bind (
     (bif t28_6.2.2.2.2.1.2.2.1 then
      some (b4_21, b4_22, b4_23, b4_24, (1 : Int), b4_26, b4_27, b4_28, b4_29, b4_30, b4_31)
     else
      some (b4_21, b4_22, b4_23, b4_24, b4_25, b4_26, b4_27, b4_28, b4_29, b4_30, b4_31))) fun r_32 =>
    let b4_33 := r_32.1
    let b4_34 := r_32.2.1
    let b4_35 := r_32.2.2.1
    let b4_36 := r_32.2.2.2.1
    let b4_37 := r_32.2.2.2.2.1
    let b4_38 := r_32.2.2.2.2.2.1
    let b4_39 := r_32.2.2.2.2.2.2.1
    let b4_40 := r_32.2.2.2.2.2.2.2.1
    let b4_41 := r_32.2.2.2.2.2.2.2.2.1
    let b4_42 : (List (List Int)) := r_32.2.2.2.2.2.2.2.2.2.1
    let b4_43 := r_32.2.2.2.2.2.2.2.2.2.2
    Option.bind (
     (bif t28_6.2.2.2.2.1.2.2.2 then
      some (b4_33, (1 : Int), b4_35, b4_36, b4_37, b4_38, b4_39, b4_40, b4_41, b4_42, b4_43)
     else
      some (b4_33, b4_34, b4_35, b4_36, b4_37, b4_38, b4_39, b4_40, b4_41, b4_42, b4_43))) fun r_44 =>
    let b4_45 := r_44.1
    let b4_46 := r_44.2.1
    let b4_47 := r_44.2.2.1
    let b4_48 := r_44.2.2.2.1
    let b4_49 := r_44.2.2.2.2.1
    let b4_50 := r_44.2.2.2.2.2.1
    let b4_51 := r_44.2.2.2.2.2.2.1
    let b4_52 := r_44.2.2.2.2.2.2.2.1
    let b4_53 := r_44.2.2.2.2.2.2.2.2.1
    let b4_54 : (List (List Int)) := r_44.2.2.2.2.2.2.2.2.2.1
    let b4_55 := r_44.2.2.2.2.2.2.2.2.2.2
    Option.bind (
     (bif t28_6.2.2.2.2.2.2 then
      some (1 : Int)
     else
      some b4_50)) fun r_56 =>
    let t56_57 : Yd111 := (b4_51, ((b4_48, b4_55), (b4_53, (b4_47, ((b4_45, (b4_52, (b4_49, b4_46))), (b4_54, r_56))))))
    chk none (decide ((b2_4.length + ([t56_57] : List Yd111).length) * 104 ≤ 140737488355328)) <|
    let t58_58 : (List Yd111) := (b2_4 ++ ([t56_57] : List Yd111))
    let t60_59 := (IntKind.wrap .i64 (t25_5 + (1 : Int)))
    some (.inl (t58_58, t60_59))
   else
    some (.inr b2_4))) ([], (0 : Int))) fun r_60 =>
 let t63_61 := (s_1.2.2.2.2.2.2.length : Int)
 Option.bind (
  loopO (X := (List Yd12)) (fun (s_62 : Yd21) =>
   let b2_63 : (List Yd12) := s_62.1
   let t64_64 := s_62.2
   let t65_65 := (decide (t64_64 < t63_61))
   (bif t65_65 then
    chk none ((decide ((0 : Int) ≤ t64_64)) && (decide (t64_64 < (s_1.2.2.2.2.2.2.length : Int)))) <|
    let t67_66 : Yd12 := (s_1.2.2.2.2.2.2.getD t64_64.toNat ((0 : Int), ((0 : Int), ((0 : Int), (0 : Int)))))
    chk none (decide ((b2_63.length + ([t67_66] : List Yd12).length) * 32 ≤ 140737488355328)) <|
    let t72_67 : (List Yd12) := (b2_63 ++ ([t67_66] : List Yd12))
    let t74_68 := (IntKind.wrap .i64 (t64_64 + (1 : Int)))
    some (.inl (t72_67, t74_68))
   else
    some (.inr b2_63))) ([], (0 : Int))) fun r_69 =>
 let t75_70 : Yd610 := (s_1.1, (s_1.2.1, (s_1.2.2.1, (s_1.2.2.2.1, (s_1.2.2.2.2.1, (r_60, r_69))))))
 some t75_70
noncomputable def con_F_law29_ref : Con := { f := 9, ps := [.dat (.agg Yt577)], boxes := [], ins := (.agg Yt577), nin := 1, outs := (.agg Yt610), rs := [.dat (.agg Yt610)], nout := 1, F := fun x => F_law29_ref x }
def hint_F_law29_ref : Hint := (.mk .plain [H0, (.mk .plain [H0, (.mk .plain [(.mk .plain [H0, (.mk .plain [(.mk (.loop [⟨.cell 2 7, (.slice (.agg Yt111)), some 5800090⟩, ⟨.slot 25, (.int .i64), none⟩] [(0, 30), (0, 36), (0, 42), (0, 39), (0, 45), (0, 48), (0, 51), (0, 54), (0, 57), (0, 60), (0, 5), (0, 8), (0, 26), (0, 29), (0, 35), (0, 32), (0, 38), (0, 41), (0, 47), (0, 44), (0, 50), (0, 53), (0, 59), (0, 56), (0, 7), (0, 28), (0, 31), (0, 34), (0, 40), (0, 37), (0, 43), (0, 46), (0, 49), (0, 52), (0, 55), (0, 58), (0, 6), (0, 27), (0, 33)] [(.exit 0, [⟨.cell 2 7, (.slice (.agg Yt111)), some 5800090⟩])]) [(.mk .plain [H0, (.mk .plain [H0, (.mk .plain [(.mk .plain [(.mk .plain [H0, (.mk .plain [H0, (.mk .plain [(.mk .plain [H0, (.mk .plain [(.mk (.unroll 5) [(.mk .plain [H0, (.mk .plain [H0, (.mk .plain [(.mk .plain [(.mk .plain [H0, (.mk .plain [H0, (.mk (.join [(0, 49), (0, 48), (0, 47)] [(.normal, [⟨.cell 4 5, (.int .i64), none⟩, ⟨.cell 4 8, (.int .i64), none⟩, ⟨.cell 4 4, (.int .i64), none⟩, ⟨.cell 4 1, (.int .i64), none⟩, ⟨.cell 4 7, (.int .i64), none⟩, ⟨.cell 4 10, (.int .i64), none⟩, ⟨.cell 4 0, (.int .i64), none⟩, ⟨.cell 4 6, (.int .i64), none⟩, ⟨.cell 4 3, (.int .i64), none⟩, ⟨.cell 4 9, (.slice (.slice (.int .u8))), none⟩, ⟨.cell 4 2, (.int .i64), none⟩])]) [])])])])])])])])])]), (.mk .plain [(.mk .plain [H0, (.mk (.join [(0, 53)] [(.normal, [⟨.cell 4 10, (.int .i64), none⟩])]) [])])])])])])])])])])])])]), (.mk .plain [(.mk .plain [H0, (.mk .plain [(.mk (.loop [⟨.cell 2 8, (.slice (.agg Yt12)), some 7200093⟩, ⟨.slot 64, (.int .i64), none⟩] [(0, 68), (0, 71), (0, 10), (0, 65), (0, 74), (0, 66), (0, 69), (0, 72), (0, 67), (0, 73), (0, 70)] [(.exit 4, [⟨.cell 2 8, (.slice (.agg Yt12)), some 7200093⟩])]) [])])])])])])])
theorem run_F_law29_ref : runE ⟨tdGet tys, [], [], [], []⟩ con_F_law29_ref Tryz.f9 hint_F_law29_ref = con_F_law29_ref.F := by
 funext x
 kernel_rfl
theorem ok_F_law29_ref : ConOK Tryz.prog con_F_law29_ref :=
 con_of_run (Γ := ⟨tdGet tys, [], [], [], []⟩) ⟨fun T d h => tysB_ok tys tys_ok T d h, by simp [], by simp [], by simp [], ptrs_ok Tryz.prog [] (by kernel_rfl)⟩ (by kernel_rfl) Tryz.func9 rfl (by kernel_rfl) run_F_law29_ref
noncomputable def F_ref11_Follows (t_1 : Yd467) (a_2 : Int) (b_3 : Int) : Option Bool :=
 let t9_4 := (decide (a_2 < (0 : Int)))
 let t15_5 := (decide ((t_1.1.length : Int) ≤ a_2))
 let t16_6 := (bif t9_4 then true else t15_5)
 (bif t16_6 then
  some false
 else
  Option.bind (α := Bool ⊕ Unit) (
   loopO (X := Bool ⊕ Unit) (fun (s_7 : Int) =>
    chk none ((decide ((0 : Int) ≤ a_2)) && (decide (a_2 < (t_1.1.length : Int)))) <|
    let e_8 : Yd1 := (t_1.1.getD a_2.toNat ((0 : Int), ([], [])))
    let t25_9 := (decide (s_7 < (e_8.2.2.length : Int)))
    (bif t25_9 then
     chk none ((decide ((0 : Int) ≤ a_2)) && (decide (a_2 < (t_1.1.length : Int)))) <|
     let e_10 : Yd1 := (t_1.1.getD a_2.toNat ((0 : Int), ([], [])))
     chk none ((decide ((0 : Int) ≤ s_7)) && (decide (s_7 < (e_10.2.2.length : Int)))) <|
     let t36_11 := (e_10.2.2.getD s_7.toNat (0 : Int))
     (bif (t36_11 == b_3) then
      some (.inr (.inl true))
     else
      let t27_12 := (IntKind.wrap .i64 (s_7 + (1 : Int)))
      some (.inl t27_12))
    else
     some (.inr (.inr ())))) (0 : Int)) fun z => match z with
  | .inl r_13 =>
   some r_13
  | .inr _ =>
   some false)
noncomputable def con_F_ref11_Follows : Con := { f := 33, ps := [.dat (.agg Yt467), dI, dI], boxes := [], ins := Yt612, nin := 3, outs := .bool, rs := [.dat .bool], nout := 1, F := fun x => F_ref11_Follows x.1 x.2.1 x.2.2 }
def hint_F_ref11_Follows : Hint := (.mk .plain [H0, (.mk .plain [H0, (.mk .plain [(.mk .plain [H0, (.mk .plain [(.mk (.loop [⟨.slot 7, (.int .i64), none⟩] [(0, 30), (0, 36), (0, 19), (0, 22), (0, 28), (0, 25), (0, 31), (0, 34), (0, 37), (0, 17), (0, 23), (0, 20), (0, 29), (0, 35), (0, 32), (0, 38), (0, 6), (0, 21), (0, 18), (0, 24), (0, 33), (0, 26), (0, 27)] [(.ret, [⟨.slot 6, .bool, none⟩]), (.exit 0, [])]) [])])])])])])
theorem run_F_ref11_Follows : runE ⟨tdGet tys, [], [], [], []⟩ con_F_ref11_Follows Tryz.f33 hint_F_ref11_Follows = con_F_ref11_Follows.F := by
 funext x
 kernel_rfl
theorem ok_F_ref11_Follows : ConOK Tryz.prog con_F_ref11_Follows :=
 con_of_run (Γ := ⟨tdGet tys, [], [], [], []⟩) ⟨fun T d h => tysB_ok tys tys_ok T d h, by simp [], by simp [], by simp [], ptrs_ok Tryz.prog [] (by kernel_rfl)⟩ (by kernel_rfl) Tryz.func33 rfl (by kernel_rfl) run_F_ref11_Follows
noncomputable def F_ref28_route (t_1 : Yd467) (l_2 : (List Int)) : Option Bool :=
 let t8_3 := (decide ((l_2.length : Int) < (1 : Int)))
 let t12_4 := (decide ((400 : Int) < (l_2.length : Int)))
 let t13_5 := (bif t8_3 then true else t12_4)
 (bif t13_5 then
  some false
 else
  Option.bind (α := Bool ⊕ Unit) (
   loopO (X := Bool ⊕ Unit) (fun (s_6 : Int) =>
    let t17_7 := (decide (s_6 < (l_2.length : Int)))
    (bif t17_7 then
     chk none ((decide ((0 : Int) ≤ s_6)) && (decide (s_6 < (l_2.length : Int)))) <|
     let t23_8 := (l_2.getD s_6.toNat (0 : Int))
     let t24_9 := (decide (t23_8 < (0 : Int)))
     chk none (((decide ((0 : Int) ≤ s_6)) && (decide (s_6 < (l_2.length : Int)))) || !(!t24_9)) <|
     let t29_10 := (l_2.getD s_6.toNat (0 : Int))
     let t33_11 := (decide ((t_1.1.length : Int) ≤ t29_10))
     let t34_12 := (bif t24_9 then true else t33_11)
     (bif t34_12 then
      some (.inr (.inl false))
     else
      let t36_13 := (decide ((0 : Int) < s_6))
      let t41_14 := (IntKind.wrap .i64 (s_6 - (1 : Int)))
      chk none (((decide ((0 : Int) ≤ t41_14)) && (decide (t41_14 < (l_2.length : Int)))) || !t36_13) <|
      let t43_15 := (l_2.getD t41_14.toNat (0 : Int))
      chk none (((decide ((0 : Int) ≤ s_6)) && (decide (s_6 < (l_2.length : Int)))) || !t36_13) <|
      let t47_16 := (l_2.getD s_6.toNat (0 : Int))
      (bif t36_13 then F_ref11_Follows t_1 t43_15 t47_16 else some false).bind fun t48_17 =>
      let t50_18 := (bif t36_13 then (!t48_17) else false)
      (bif t50_18 then
       some (.inr (.inl false))
      else
       let t19_19 := (IntKind.wrap .i64 (s_6 + (1 : Int)))
       some (.inl t19_19)))
    else
     some (.inr (.inr ())))) (0 : Int)) fun z => match z with
  | .inl r_20 =>
   some r_20
  | .inr _ =>
   some true)
noncomputable def con_F_ref28_route : Con := { f := 16, ps := [.dat (.agg Yt467), .dat (.slice (.int .i64))], boxes := [], ins := Yt613, nin := 2, outs := .bool, rs := [.dat .bool], nout := 1, F := fun x => F_ref28_route x.1 x.2 }
def hint_F_ref28_route : Hint := (.mk .plain [H0, (.mk .plain [H0, (.mk .plain [(.mk .plain [H0, (.mk .plain [(.mk (.loop [⟨.slot 5, (.int .i64), none⟩] [(0, 30), (0, 4), (0, 16), (0, 22), (0, 28), (0, 25), (0, 31), (0, 34), (0, 14), (0, 17), (0, 23), (0, 20), (0, 26), (0, 29), (0, 32), (0, 15), (0, 21), (0, 24), (0, 27), (0, 33), (0, 36), (0, 42), (0, 39), (0, 45), (0, 48), (0, 35), (0, 38), (0, 41), (0, 47), (0, 44), (0, 50), (0, 19), (0, 40), (0, 37), (0, 43), (0, 46), (0, 49), (0, 18)] [(.ret, [⟨.slot 4, .bool, none⟩]), (.exit 0, [])]) [])])])])])])
theorem run_F_ref28_route : runE ⟨tdGet tys, [con_F_ref11_Follows], [], [], []⟩ con_F_ref28_route Tryz.f16 hint_F_ref28_route = con_F_ref28_route.F := by
 funext x
 kernel_rfl
theorem ok_F_ref28_route : ConOK Tryz.prog con_F_ref28_route :=
 con_of_run (Γ := ⟨tdGet tys, [con_F_ref11_Follows], [], [], []⟩) ⟨fun T d h => tysB_ok tys tys_ok T d h, by simp [ok_F_ref11_Follows], by simp [], by simp [], ptrs_ok Tryz.prog [] (by kernel_rfl)⟩ (by kernel_rfl) Tryz.func16 rfl (by kernel_rfl) run_F_ref28_route
noncomputable def F_ref27_Start (t_1 : Yd467) (route_2 : (List Int)) (index_3 : Int) : Option Int :=
 Option.bind (
  loopO (X := Int) (fun (s_4 : (Int × Int)) =>
   let t7_5 := s_4.1
   let i_6 := s_4.2
   (bif (decide (i_6 < index_3)) then
    chk none ((decide ((0 : Int) ≤ i_6)) && (decide (i_6 < (route_2.length : Int)))) <|
    let t20_7 := (route_2.getD i_6.toNat (0 : Int))
    chk none ((decide ((0 : Int) ≤ t20_7)) && (decide (t20_7 < (t_1.1.length : Int)))) <|
    let e_8 : Yd1 := (t_1.1.getD t20_7.toNat ((0 : Int), ([], [])))
    let t24_9 := (IntKind.wrap .i64 (t7_5 + e_8.1))
    let t13_10 := (IntKind.wrap .i64 (i_6 + (1 : Int)))
    some (.inl (t24_9, t13_10))
   else
    some (.inr t7_5))) ((0 : Int), (0 : Int))) fun r_11 =>
 some r_11
noncomputable def con_F_ref27_Start : Con := { f := 34, ps := [.dat (.agg Yt467), .dat (.slice (.int .i64)), dI], boxes := [], ins := Yt473, nin := 3, outs := (.int .i64), rs := [dI], nout := 1, F := fun x => F_ref27_Start x.1 x.2.1 x.2.2 }
def hint_F_ref27_Start : Hint := (.mk .plain [H0, (.mk .plain [H0, (.mk .plain [(.mk .plain [H0, (.mk .plain [(.mk (.loop [⟨.slot 7, (.int .i64), none⟩, ⟨.slot 8, (.int .i64), none⟩] [(0, 10), (0, 16), (0, 13), (0, 19), (0, 22), (0, 14), (0, 11), (0, 17), (0, 23), (0, 20), (0, 9), (0, 12), (0, 15), (0, 21), (0, 18), (0, 24)] [(.exit 0, [⟨.slot 7, (.int .i64), none⟩])]) [])])])])])])
theorem run_F_ref27_Start : runE ⟨tdGet tys, [], [], [], []⟩ con_F_ref27_Start Tryz.f34 hint_F_ref27_Start = con_F_ref27_Start.F := by
 funext x
 kernel_rfl
theorem ok_F_ref27_Start : ConOK Tryz.prog con_F_ref27_Start :=
 con_of_run (Γ := ⟨tdGet tys, [], [], [], []⟩) ⟨fun T d h => tysB_ok tys tys_ok T d h, by simp [], by simp [], by simp [], ptrs_ok Tryz.prog [] (by kernel_rfl)⟩ (by kernel_rfl) Tryz.func34 rfl (by kernel_rfl) run_F_ref27_Start
noncomputable def F_ref28_far (x_1 : Int) (most_2 : Int) : Option Bool :=
 let t7_3 := (IntKind.wrap .i64 (0 - most_2))
 let t13_4 := (bif (decide (x_1 < t7_3)) then true else (decide (most_2 < x_1)))
 some t13_4
noncomputable def con_F_ref28_far : Con := { f := 35, ps := [dI, dI], boxes := [], ins := (.pair (.int .i64) (.int .i64)), nin := 2, outs := .bool, rs := [.dat .bool], nout := 1, F := fun x => F_ref28_far x.1 x.2 }
def hint_F_ref28_far : Hint := H0
theorem run_F_ref28_far : runE ⟨tdGet tys, [], [], [], []⟩ con_F_ref28_far Tryz.f35 hint_F_ref28_far = con_F_ref28_far.F := by
 funext x
 kernel_rfl
theorem ok_F_ref28_far : ConOK Tryz.prog con_F_ref28_far :=
 con_of_run (Γ := ⟨tdGet tys, [], [], [], []⟩) ⟨fun T d h => tysB_ok tys tys_ok T d h, by simp [], by simp [], by simp [], ptrs_ok Tryz.prog [] (by kernel_rfl)⟩ (by kernel_rfl) Tryz.func35 rfl (by kernel_rfl) run_F_ref28_far
noncomputable def F_ref28_on (t_1 : Yd467) (s_2 : Yd610) : Option Bool :=
 (F_ref27_Start t_1 s_2.1 (s_2.1.length : Int)).bind fun t14_3 =>
 let t19_4 := (s_2.2.2.2.2.2.1.length : Int)
 let t20_5 := (decide ((4096 : Int) < t19_4))
 let t23_6 := (decide (s_2.2.1 < (0 : Int)))
 let t24_7 := (bif t20_5 then true else t23_6)
 let t28_8 := (decide (t14_3 < s_2.2.1))
 let t29_9 := (bif t24_7 then true else t28_8)
 (bif t29_9 then
  some false
 else
  Option.bind (α := Bool ⊕ Unit) (
   loopO (X := Bool ⊕ Unit) (fun (s_10 : (Int × Int)) =>
    let t6_11 := s_10.1
    let i_12 := s_10.2
    let t33_13 := (s_2.2.2.2.2.2.1.length : Int)
    (bif (decide (i_12 < t33_13)) then
     chk none ((decide ((0 : Int) ≤ i_12)) && (decide (i_12 < (s_2.2.2.2.2.2.1.length : Int)))) <|
     let e_14 : Yd111 := (s_2.2.2.2.2.2.1.getD i_12.toNat ((0 : Int), (((0 : Int), (0 : Int)), ((0 : Int), ((0 : Int), (((0 : Int), ((0 : Int), ((0 : Int), (0 : Int)))), ([], (0 : Int))))))))
     (F_ref28_far e_14.1 t14_3).bind fun t44_15 =>
     (bif t44_15 then
      some (.inr (.inl false))
     else
      chk none ((decide ((0 : Int) ≤ i_12)) && (decide (i_12 < (s_2.2.2.2.2.2.1.length : Int)))) <|
      let e_16 : Yd111 := (s_2.2.2.2.2.2.1.getD i_12.toNat ((0 : Int), (((0 : Int), (0 : Int)), ((0 : Int), ((0 : Int), (((0 : Int), ((0 : Int), ((0 : Int), (0 : Int)))), ([], (0 : Int))))))))
      let t52_17 := (IntKind.wrap .i64 (t6_11 + e_16.1))
      let t54_18 := (decide (t52_17 < (0 : Int)))
      let t58_19 := (decide (t14_3 < t52_17))
      let t59_20 := (bif t54_18 then true else t58_19)
      (bif t59_20 then
       some (.inr (.inl false))
      else
       let t36_21 := (IntKind.wrap .i64 (i_12 + (1 : Int)))
       some (.inl (t52_17, t36_21))))
    else
     some (.inr (.inr ())))) (s_2.2.1, (0 : Int))) fun z => match z with
  | .inl r_22 =>
   some r_22
  | .inr _ =>
   some true)
noncomputable def con_F_ref28_on : Con := { f := 17, ps := [.dat (.agg Yt467), .dat (.agg Yt610)], boxes := [], ins := Yt614, nin := 2, outs := .bool, rs := [.dat .bool], nout := 1, F := fun x => F_ref28_on x.1 x.2 }
def hint_F_ref28_on : Hint := (.mk .plain [H0, (.mk .plain [H0, (.mk .plain [H0, (.mk .plain [H0, (.mk .plain [(.mk .plain [H0, (.mk .plain [(.mk (.loop [⟨.slot 6, (.int .i64), none⟩, ⟨.slot 7, (.int .i64), none⟩] [(0, 30), (0, 42), (0, 4), (0, 39), (0, 32), (0, 38), (0, 41), (0, 31), (0, 44), (0, 34), (0, 40), (0, 37), (0, 43), (0, 33), (0, 45), (0, 48), (0, 54), (0, 51), (0, 57), (0, 46), (0, 52), (0, 49), (0, 55), (0, 58), (0, 47), (0, 50), (0, 53), (0, 59), (0, 56), (0, 36), (0, 35)] [(.ret, [⟨.slot 4, .bool, none⟩]), (.exit 0, [])]) [])])])])])])])])
theorem run_F_ref28_on : runE ⟨tdGet tys, [con_F_ref27_Start, con_F_ref28_far], [], [], []⟩ con_F_ref28_on Tryz.f17 hint_F_ref28_on = con_F_ref28_on.F := by
 funext x
 kernel_rfl
theorem ok_F_ref28_on : ConOK Tryz.prog con_F_ref28_on :=
 con_of_run (Γ := ⟨tdGet tys, [con_F_ref27_Start, con_F_ref28_far], [], [], []⟩) ⟨fun T d h => tysB_ok tys tys_ok T d h, by simp [ok_F_ref27_Start, ok_F_ref28_far], by simp [], by simp [], ptrs_ok Tryz.prog [] (by kernel_rfl)⟩ (by kernel_rfl) Tryz.func17 rfl (by kernel_rfl) run_F_ref28_on
noncomputable def F_ref28_speeds (c_1 : Yd460) (s_2 : Yd610) : Option Bool :=
 (F_ref28_far s_2.2.2.1 c_1.2.2.2.2.2.2.1).bind fun t13_3 =>
 (bif t13_3 then
  some false
 else
  Option.bind (α := Bool ⊕ Unit) (
   loopO (X := Bool ⊕ Unit) (fun (s_4 : (Int × Int)) =>
    let v_5 := s_4.1
    let i_6 := s_4.2
    let t17_7 := (s_2.2.2.2.2.2.1.length : Int)
    (bif (decide (i_6 < t17_7)) then
     chk none ((decide ((0 : Int) ≤ i_6)) && (decide (i_6 < (s_2.2.2.2.2.2.1.length : Int)))) <|
     let e_8 : Yd111 := (s_2.2.2.2.2.2.1.getD i_6.toNat ((0 : Int), (((0 : Int), (0 : Int)), ((0 : Int), ((0 : Int), (((0 : Int), ((0 : Int), ((0 : Int), (0 : Int)))), ([], (0 : Int))))))))
     (F_ref28_far e_8.1 c_1.2.2.2.2.2.2.1).bind fun t30_9 =>
     let t34_10 := (IntKind.wrap .i64 (e_8.1 - v_5))
     (bif !t30_9 then F_ref28_far t34_10 c_1.2.2.2.2.2.2.2.1 else some false).bind fun t37_11 =>
     let t38_12 := (bif t30_9 then true else t37_11)
     (bif t38_12 then
      some (.inr (.inl false))
     else
      let t20_13 := (IntKind.wrap .i64 (i_6 + (1 : Int)))
      some (.inl (e_8.1, t20_13)))
    else
     some (.inr (.inr ())))) (s_2.2.2.1, (0 : Int))) fun z => match z with
  | .inl r_14 =>
   some r_14
  | .inr _ =>
   some true)
noncomputable def con_F_ref28_speeds : Con := { f := 18, ps := [.dat (.agg Yt460), .dat (.agg Yt610)], boxes := [], ins := Yt615, nin := 2, outs := .bool, rs := [.dat .bool], nout := 1, F := fun x => F_ref28_speeds x.1 x.2 }
def hint_F_ref28_speeds : Hint := (.mk .plain [H0, (.mk .plain [H0, (.mk .plain [H0, (.mk .plain [(.mk .plain [H0, (.mk .plain [(.mk (.loop [⟨.slot 5, (.int .i64), none⟩, ⟨.slot 6, (.int .i64), none⟩] [(0, 7), (0, 30), (0, 36), (0, 4), (0, 16), (0, 22), (0, 28), (0, 25), (0, 31), (0, 34), (0, 37), (0, 14), (0, 17), (0, 23), (0, 26), (0, 29), (0, 35), (0, 32), (0, 38), (0, 15), (0, 21), (0, 18), (0, 24), (0, 27), (0, 33), (0, 39), (0, 19), (0, 20)] [(.ret, [⟨.slot 4, .bool, none⟩]), (.exit 0, [])]) [])])])])])])])
theorem run_F_ref28_speeds : runE ⟨tdGet tys, [con_F_ref28_far], [], [], []⟩ con_F_ref28_speeds Tryz.f18 hint_F_ref28_speeds = con_F_ref28_speeds.F := by
 funext x
 kernel_rfl
theorem ok_F_ref28_speeds : ConOK Tryz.prog con_F_ref28_speeds :=
 con_of_run (Γ := ⟨tdGet tys, [con_F_ref28_far], [], [], []⟩) ⟨fun T d h => tysB_ok tys tys_ok T d h, by simp [ok_F_ref28_far], by simp [], by simp [], ptrs_ok Tryz.prog [] (by kernel_rfl)⟩ (by kernel_rfl) Tryz.func18 rfl (by kernel_rfl) run_F_ref28_speeds
noncomputable def F_ref28_numbers (c_1 : Yd460) (s_2 : Yd610) : Option Int :=
 let t18_3 := (decide (s_2.2.2.2.1.1 < c_1.2.1))
 let t26_4 := (decide (c_1.2.2.1 < s_2.2.2.2.1.1))
 let t27_5 := (bif t18_3 then true else t26_4)
 let t33_6 := (decide (s_2.2.2.2.2.1.1 < (0 : Int)))
 let t34_7 := (bif t27_5 then true else t33_6)
 let t44_8 := (decide (s_2.2.2.2.1.1 ≤ s_2.2.2.2.2.1.1))
 let t45_9 := (bif t34_7 then true else t44_8)
 (bif t45_9 then
  some (5 : Int)
 else
  let t18_10 := (decide (s_2.2.2.2.1.2 < c_1.2.1))
  let t26_11 := (decide (c_1.2.2.1 < s_2.2.2.2.1.2))
  let t27_12 := (bif t18_10 then true else t26_11)
  let t33_13 := (decide (s_2.2.2.2.2.1.2 < (0 : Int)))
  let t34_14 := (bif t27_12 then true else t33_13)
  let t44_15 := (decide (s_2.2.2.2.1.2 ≤ s_2.2.2.2.2.1.2))
  let t45_16 := (bif t34_14 then true else t44_15)
  (bif t45_16 then
   some (5 : Int)
  else
   Option.bind (α := Int ⊕ Unit) (
    loopO (X := Int ⊕ Unit) (fun (s_17 : Int) =>
     let t49_18 := (s_2.2.2.2.2.2.1.length : Int)
     (bif (decide (s_17 < t49_18)) then
      chk none ((decide ((0 : Int) ≤ s_17)) && (decide (s_17 < (s_2.2.2.2.2.2.1.length : Int)))) <|
      let t57_19 : Yd111 := (s_2.2.2.2.2.2.1.getD s_17.toNat ((0 : Int), (((0 : Int), (0 : Int)), ((0 : Int), ((0 : Int), (((0 : Int), ((0 : Int), ((0 : Int), (0 : Int)))), ([], (0 : Int))))))))
      (F_ref28_far t57_19.2.1.1 (1099511627776 : Int)).bind fun t61_20 =>
      (bif !t61_20 then F_ref28_far t57_19.2.1.2 (1099511627776 : Int) else some false).bind fun t66_21 =>
      let t67_22 := (bif t61_20 then true else t66_21)
      (bif !t67_22 then F_ref28_far t57_19.2.2.1 (1073741824 : Int) else some false).bind fun t71_23 =>
      let t72_24 := (bif t67_22 then true else t71_23)
      (bif !t72_24 then F_ref28_far t57_19.2.2.2.1 c_1.2.2.2.2.2.1 else some false).bind fun t78_25 =>
      let t79_26 := (bif t72_24 then true else t78_25)
      (bif t79_26 then
       some (.inr (.inl (6 : Int)))
      else
       let t52_27 := (IntKind.wrap .i64 (s_17 + (1 : Int)))
       some (.inl t52_27))
     else
      some (.inr (.inr ())))) (0 : Int)) fun z => match z with
   | .inl r_28 =>
    some r_28
   | .inr _ =>
    some (0 : Int)))
noncomputable def con_F_ref28_numbers : Con := { f := 19, ps := [.dat (.agg Yt460), .dat (.agg Yt610)], boxes := [], ins := Yt615, nin := 2, outs := (.int .i64), rs := [dI], nout := 1, F := fun x => F_ref28_numbers x.1 x.2 }
def hint_F_ref28_numbers : Hint := (.mk .plain [H0, (.mk .plain [(.mk .plain [H0, (.mk .plain [(.mk (.unroll 3) [])])]), (.mk .plain [(.mk .plain [H0, (.mk .plain [(.mk (.loop [⟨.slot 6, (.int .i64), none⟩] [(0, 48), (0, 54), (0, 57), (0, 60), (0, 66), (0, 63), (0, 69), (0, 72), (0, 78), (0, 75), (0, 47), (0, 50), (0, 53), (0, 59), (0, 56), (0, 62), (0, 68), (0, 7), (0, 65), (0, 4), (0, 71), (0, 74), (0, 77), (0, 46), (0, 49), (0, 55), (0, 61), (0, 58), (0, 64), (0, 67), (0, 73), (0, 70), (0, 76), (0, 79), (0, 51), (0, 52)] [(.ret, [⟨.slot 4, (.int .i64), none⟩]), (.exit 2, [])]) [])])])])])])
theorem run_F_ref28_numbers : runE ⟨tdGet tys, [con_F_ref28_far], [], [], []⟩ con_F_ref28_numbers Tryz.f19 hint_F_ref28_numbers = con_F_ref28_numbers.F := by
 funext x
 kernel_rfl
theorem ok_F_ref28_numbers : ConOK Tryz.prog con_F_ref28_numbers :=
 con_of_run (Γ := ⟨tdGet tys, [con_F_ref28_far], [], [], []⟩) ⟨fun T d h => tysB_ok tys tys_ok T d h, by simp [ok_F_ref28_far], by simp [], by simp [], ptrs_ok Tryz.prog [] (by kernel_rfl)⟩ (by kernel_rfl) Tryz.func19 rfl (by kernel_rfl) run_F_ref28_numbers
noncomputable def F_ref28_Fit (s_1 : Yd610) (i_2 : Int) (k_3 : Int) : Option Bool :=
 chk none ((decide ((0 : Int) ≤ k_3)) && (decide (k_3 < (s_1.2.2.2.2.2.1.length : Int)))) <|
 chk none ((decide ((0 : Int) ≤ i_2)) && (decide (i_2 < (4 : Int)))) <|
 let e_4 : Yd111 := (s_1.2.2.2.2.2.1.getD k_3.toNat ((0 : Int), (((0 : Int), (0 : Int)), ((0 : Int), ((0 : Int), (((0 : Int), ((0 : Int), ((0 : Int), (0 : Int)))), ([], (0 : Int))))))))
 let t14_5 := (List.getD [e_4.2.2.2.2.1.1, e_4.2.2.2.2.1.2.1, e_4.2.2.2.2.1.2.2.1, e_4.2.2.2.2.1.2.2.2] i_2.toNat (0 : Int))
 (bif (t14_5 == (1 : Int)) then
  some false
 else
  let t20_6 := (decide ((0 : Int) < k_3))
  let t25_7 := (IntKind.wrap .i64 (k_3 - (1 : Int)))
  chk none (((decide ((0 : Int) ≤ t25_7)) && (decide (t25_7 < (s_1.2.2.2.2.2.1.length : Int)))) || !(t20_6 && !(i_2 == (2 : Int)))) <|
  chk none (((decide ((0 : Int) ≤ i_2)) && (decide (i_2 < (4 : Int)))) || !(t20_6 && !(i_2 == (2 : Int)))) <|
  let e_8 : Yd111 := (s_1.2.2.2.2.2.1.getD t25_7.toNat ((0 : Int), (((0 : Int), (0 : Int)), ((0 : Int), ((0 : Int), (((0 : Int), ((0 : Int), ((0 : Int), (0 : Int)))), ([], (0 : Int))))))))
  let t30_9 := (List.getD [e_8.2.2.2.2.1.1, e_8.2.2.2.2.1.2.1, e_8.2.2.2.2.1.2.2.1, e_8.2.2.2.2.1.2.2.2] i_2.toNat (0 : Int))
  let t32_10 := (bif t20_6 then (t30_9 == (0 : Int)) else false)
  let t33_11 := (bif (i_2 == (2 : Int)) then true else t32_10)
  some t33_11)
noncomputable def con_F_ref28_Fit : Con := { f := 36, ps := [.dat (.agg Yt610), dI, dI], boxes := [], ins := Yt616, nin := 3, outs := .bool, rs := [.dat .bool], nout := 1, F := fun x => F_ref28_Fit x.1 x.2.1 x.2.2 }
def hint_F_ref28_Fit : Hint := H0
theorem run_F_ref28_Fit : runE ⟨tdGet tys, [], [], [], []⟩ con_F_ref28_Fit Tryz.f36 hint_F_ref28_Fit = con_F_ref28_Fit.F := by
 funext x
 kernel_rfl
theorem ok_F_ref28_Fit : ConOK Tryz.prog con_F_ref28_Fit :=
 con_of_run (Γ := ⟨tdGet tys, [], [], [], []⟩) ⟨fun T d h => tysB_ok tys tys_ok T d h, by simp [], by simp [], by simp [], ptrs_ok Tryz.prog [] (by kernel_rfl)⟩ (by kernel_rfl) Tryz.func36 rfl (by kernel_rfl) run_F_ref28_Fit
noncomputable def F_ref13_Error (c_1 : Yd460) (r_2 : Int) : Option Int :=
 let t6_3 := (decide (r_2 < (0 : Int)))
 Option.bind (
  (bif t6_3 then
   let t8_4 := (IntKind.wrap .i64 (0 - r_2))
   some t8_4
  else
   some r_2)) fun r_5 =>
 let t14_6 := (IntKind.wrap .i64 (r_5 * c_1.2.2.2.2.1))
 let t15_7 := (IntKind.wrap .i64 (t14_6.tdiv (1048576 : Int)))
 let t16_8 := (IntKind.wrap .i64 (c_1.2.2.2.1 + t15_7))
 some t16_8
noncomputable def con_F_ref13_Error : Con := { f := 48, ps := [.dat (.agg Yt460), dI], boxes := [], ins := Yt533, nin := 2, outs := (.int .i64), rs := [dI], nout := 1, F := fun x => F_ref13_Error x.1 x.2 }
def hint_F_ref13_Error : Hint := (.mk .plain [H0, (.mk .plain [(.mk .plain [H0, (.mk (.join [(0, 7), (0, 8)] [(.normal, [⟨.slot 1, (.int .i64), none⟩])]) [])])])])
theorem run_F_ref13_Error : runE ⟨tdGet tys, [], [], [], []⟩ con_F_ref13_Error Tryz.f48 hint_F_ref13_Error = con_F_ref13_Error.F := by
 funext x
 kernel_rfl
theorem ok_F_ref13_Error : ConOK Tryz.prog con_F_ref13_Error :=
 con_of_run (Γ := ⟨tdGet tys, [], [], [], []⟩) ⟨fun T d h => tysB_ok tys tys_ok T d h, by simp [], by simp [], by simp [], ptrs_ok Tryz.prog [] (by kernel_rfl)⟩ (by kernel_rfl) Tryz.func48 rfl (by kernel_rfl) run_F_ref13_Error
noncomputable def F_ref28_Wrong (c_1 : Yd460) (s_2 : Yd610) (i_3 : Int) (k_4 : Int) : Option Bool :=
 chk none ((decide ((0 : Int) ≤ k_4)) && (decide (k_4 < (s_2.2.2.2.2.2.1.length : Int)))) <|
 let t14_5 : Yd111 := (s_2.2.2.2.2.2.1.getD k_4.toNat ((0 : Int), (((0 : Int), (0 : Int)), ((0 : Int), ((0 : Int), (((0 : Int), ((0 : Int), ((0 : Int), (0 : Int)))), ([], (0 : Int))))))))
 (bif (i_3 == (2 : Int)) then
  let t24_6 := (IntKind.wrap .i64 (t14_5.1 + t14_5.2.2.1))
  (F_ref13_Error c_1 t24_6).bind fun t25_7 =>
  (F_ref28_far t14_5.2.2.1 t25_7).bind fun t26_8 =>
  some t26_8
 else
  chk none ((decide ((0 : Int) ≤ i_3)) && (decide (i_3 < (2 : Int)))) <|
  let t30_9 := (List.getD [t14_5.2.1.1, t14_5.2.1.2] i_3.toNat (0 : Int))
  some (t30_9 != (0 : Int)))
noncomputable def con_F_ref28_Wrong : Con := { f := 37, ps := [.dat (.agg Yt460), .dat (.agg Yt610), dI, dI], boxes := [], ins := Yt617, nin := 4, outs := .bool, rs := [.dat .bool], nout := 1, F := fun x => F_ref28_Wrong x.1 x.2.1 x.2.2.1 x.2.2.2 }
def hint_F_ref28_Wrong : Hint := H0
theorem run_F_ref28_Wrong : runE ⟨tdGet tys, [con_F_ref13_Error, con_F_ref28_far], [], [], []⟩ con_F_ref28_Wrong Tryz.f37 hint_F_ref28_Wrong = con_F_ref28_Wrong.F := by
 funext x
 kernel_rfl
theorem ok_F_ref28_Wrong : ConOK Tryz.prog con_F_ref28_Wrong :=
 con_of_run (Γ := ⟨tdGet tys, [con_F_ref13_Error, con_F_ref28_far], [], [], []⟩) ⟨fun T d h => tysB_ok tys tys_ok T d h, by simp [ok_F_ref13_Error, ok_F_ref28_far], by simp [], by simp [], ptrs_ok Tryz.prog [] (by kernel_rfl)⟩ (by kernel_rfl) Tryz.func37 rfl (by kernel_rfl) run_F_ref28_Wrong
noncomputable def F_ref15_Radar (c_1 : Yd460) (r_2 : Int) : Option (Int × Int) :=
 (F_ref13_Error c_1 r_2).bind fun t9_3 =>
 let t12_4 := (IntKind.wrap .i64 (r_2 - t9_3))
 let t15_5 := (IntKind.wrap .i64 (r_2 + t9_3))
 some (t12_4, t15_5)
noncomputable def con_F_ref15_Radar : Con := { f := 49, ps := [.dat (.agg Yt460), dI], boxes := [], ins := Yt533, nin := 2, outs := (.pair (.int .i64) (.int .i64)), rs := [dI, dI], nout := 2, F := fun x => F_ref15_Radar x.1 x.2 }
def hint_F_ref15_Radar : Hint := H0
theorem run_F_ref15_Radar : runE ⟨tdGet tys, [con_F_ref13_Error], [], [], []⟩ con_F_ref15_Radar Tryz.f49 hint_F_ref15_Radar = con_F_ref15_Radar.F := by
 funext x
 kernel_rfl
theorem ok_F_ref15_Radar : ConOK Tryz.prog con_F_ref15_Radar :=
 con_of_run (Γ := ⟨tdGet tys, [con_F_ref13_Error], [], [], []⟩) ⟨fun T d h => tysB_ok tys tys_ok T d h, by simp [ok_F_ref13_Error], by simp [], by simp [], ptrs_ok Tryz.prog [] (by kernel_rfl)⟩ (by kernel_rfl) Tryz.func49 rfl (by kernel_rfl) run_F_ref15_Radar
noncomputable def F_ref15_Down (a_1 : Int) (b_2 : Int) : Option Int :=
 chk none (!(b_2 == (0 : Int))) <|
 let t8_3 := (IntKind.wrap .i64 (a_1.tdiv b_2))
 chk none (!(b_2 == (0 : Int))) <|
 let t12_4 := (decide ((a_1.tmod b_2) < (0 : Int)))
 Option.bind (
  (bif t12_4 then
   let t14_5 := (IntKind.wrap .i64 (t8_3 - (1 : Int)))
   some t14_5
  else
   some t8_3)) fun r_6 =>
 some r_6
noncomputable def con_F_ref15_Down : Con := { f := 77, ps := [dI, dI], boxes := [], ins := (.pair (.int .i64) (.int .i64)), nin := 2, outs := (.int .i64), rs := [dI], nout := 1, F := fun x => F_ref15_Down x.1 x.2 }
def hint_F_ref15_Down : Hint := (.mk .plain [H0, (.mk .plain [H0, (.mk .plain [(.mk .plain [H0, (.mk (.join [(0, 13), (0, 14)] [(.normal, [⟨.slot 5, (.int .i64), none⟩])]) [])])])])])
theorem run_F_ref15_Down : runE ⟨tdGet tys, [], [], [], []⟩ con_F_ref15_Down Tryz.f77 hint_F_ref15_Down = con_F_ref15_Down.F := by
 funext x
 kernel_rfl
theorem ok_F_ref15_Down : ConOK Tryz.prog con_F_ref15_Down :=
 con_of_run (Γ := ⟨tdGet tys, [], [], [], []⟩) ⟨fun T d h => tysB_ok tys tys_ok T d h, by simp [], by simp [], by simp [], ptrs_ok Tryz.prog [] (by kernel_rfl)⟩ (by kernel_rfl) Tryz.func77 rfl (by kernel_rfl) run_F_ref15_Down
noncomputable def F_ref27_Count (s_1 : Yd610) (pulses_2 : Int) (wheel_3 : Int) (cycles_4 : Int) : Option Int :=
 chk none ((decide ((0 : Int) ≤ wheel_3)) && (decide (wheel_3 < (2 : Int)))) <|
 let t14_5 := (List.getD [s_1.2.2.2.2.1.1, s_1.2.2.2.2.1.2] wheel_3.toNat (0 : Int))
 Option.bind (
  loopO (X := Int) (fun (s_6 : (Int × Int)) =>
   let i_7 := s_6.1
   let turned_8 := s_6.2
   let t17_9 := (decide (i_7 < cycles_4))
   (bif t17_9 then
    chk none ((decide ((0 : Int) ≤ i_7)) && (decide (i_7 < (s_1.2.2.2.2.2.1.length : Int)))) <|
    let e_10 : Yd111 := (s_1.2.2.2.2.2.1.getD i_7.toNat ((0 : Int), (((0 : Int), (0 : Int)), ((0 : Int), ((0 : Int), (((0 : Int), ((0 : Int), ((0 : Int), (0 : Int)))), ([], (0 : Int))))))))
    let t28_11 := (IntKind.wrap .i64 (pulses_2 * e_10.1))
    let t29_12 := (IntKind.wrap .i64 (turned_8 + t28_11))
    chk none ((decide ((0 : Int) ≤ i_7)) && (decide (i_7 < (s_1.2.2.2.2.2.1.length : Int)))) <|
    chk none ((decide ((0 : Int) ≤ wheel_3)) && (decide (wheel_3 < (2 : Int)))) <|
    let e_13 : Yd111 := (s_1.2.2.2.2.2.1.getD i_7.toNat ((0 : Int), (((0 : Int), (0 : Int)), ((0 : Int), ((0 : Int), (((0 : Int), ((0 : Int), ((0 : Int), (0 : Int)))), ([], (0 : Int))))))))
    let t37_14 := (List.getD [e_13.2.1.1, e_13.2.1.2] wheel_3.toNat (0 : Int))
    let t38_15 := (IntKind.wrap .i64 (t29_12 + t37_14))
    let t19_16 := (IntKind.wrap .i64 (i_7 + (1 : Int)))
    some (.inl (t19_16, t38_15))
   else
    some (.inr turned_8))) ((0 : Int), t14_5)) fun r_17 =>
 chk none ((decide ((0 : Int) ≤ wheel_3)) && (decide (wheel_3 < (2 : Int)))) <|
 let t43_18 := (List.getD [s_1.2.2.2.1.1, s_1.2.2.2.1.2] wheel_3.toNat (0 : Int))
 (F_ref15_Down r_17 t43_18).bind fun t44_19 =>
 some t44_19
noncomputable def con_F_ref27_Count : Con := { f := 50, ps := [.dat (.agg Yt610), dI, dI, dI], boxes := [], ins := Yt618, nin := 4, outs := (.int .i64), rs := [dI], nout := 1, F := fun x => F_ref27_Count x.1 x.2.1 x.2.2.1 x.2.2.2 }
def hint_F_ref27_Count : Hint := (.mk .plain [H0, (.mk .plain [H0, (.mk .plain [(.mk .plain [H0, (.mk .plain [(.mk (.loop [⟨.slot 10, (.int .i64), none⟩, ⟨.slot 9, (.int .i64), none⟩] [(0, 30), (0, 36), (0, 16), (0, 19), (0, 22), (0, 28), (0, 25), (0, 31), (0, 34), (0, 37), (0, 17), (0, 23), (0, 20), (0, 26), (0, 29), (0, 35), (0, 32), (0, 38), (0, 15), (0, 21), (0, 18), (0, 24), (0, 27), (0, 33)] [(.exit 0, [⟨.slot 9, (.int .i64), none⟩])]) [])])])])])])
theorem run_F_ref27_Count : runE ⟨tdGet tys, [con_F_ref15_Down], [], [], []⟩ con_F_ref27_Count Tryz.f50 hint_F_ref27_Count = con_F_ref27_Count.F := by
 funext x
 kernel_rfl
theorem ok_F_ref27_Count : ConOK Tryz.prog con_F_ref27_Count :=
 con_of_run (Γ := ⟨tdGet tys, [con_F_ref15_Down], [], [], []⟩) ⟨fun T d h => tysB_ok tys tys_ok T d h, by simp [ok_F_ref15_Down], by simp [], by simp [], ptrs_ok Tryz.prog [] (by kernel_rfl)⟩ (by kernel_rfl) Tryz.func50 rfl (by kernel_rfl) run_F_ref27_Count
noncomputable def F_ref09_Delta (from_1 : Int) (to_2 : Int) : Option Int :=
 let t8_3 := (IntKind.wrap .i64 (to_2 - from_1))
 let t9_4 := (IntKind.wrap .i64 (t8_3 + (65536 : Int)))
 let t10_5 := (t9_4.tmod (65536 : Int))
 let t12_6 := (decide ((32768 : Int) ≤ t10_5))
 Option.bind (
  (bif t12_6 then
   let t14_7 := (IntKind.wrap .i64 (t10_5 - (65536 : Int)))
   some t14_7
  else
   some t10_5)) fun r_8 =>
 some r_8
noncomputable def con_F_ref09_Delta : Con := { f := 51, ps := [dI, dI], boxes := [], ins := (.pair (.int .i64) (.int .i64)), nin := 2, outs := (.int .i64), rs := [dI], nout := 1, F := fun x => F_ref09_Delta x.1 x.2 }
def hint_F_ref09_Delta : Hint := (.mk .plain [H0, (.mk .plain [H0, (.mk .plain [(.mk .plain [H0, (.mk (.join [(0, 13), (0, 14)] [(.normal, [⟨.slot 5, (.int .i64), none⟩])]) [])])])])])
theorem run_F_ref09_Delta : runE ⟨tdGet tys, [], [], [], []⟩ con_F_ref09_Delta Tryz.f51 hint_F_ref09_Delta = con_F_ref09_Delta.F := by
 funext x
 kernel_rfl
theorem ok_F_ref09_Delta : ConOK Tryz.prog con_F_ref09_Delta :=
 con_of_run (Γ := ⟨tdGet tys, [], [], [], []⟩) ⟨fun T d h => tysB_ok tys tys_ok T d h, by simp [], by simp [], by simp [], ptrs_ok Tryz.prog [] (by kernel_rfl)⟩ (by kernel_rfl) Tryz.func51 rfl (by kernel_rfl) run_F_ref09_Delta
noncomputable def F_ref15_Up (a_1 : Int) (b_2 : Int) : Option Int :=
 let t6_3 := (IntKind.wrap .i64 (0 - a_1))
 (F_ref15_Down t6_3 b_2).bind fun t8_4 =>
 let t9_5 := (IntKind.wrap .i64 (0 - t8_4))
 some t9_5
noncomputable def con_F_ref15_Up : Con := { f := 78, ps := [dI, dI], boxes := [], ins := (.pair (.int .i64) (.int .i64)), nin := 2, outs := (.int .i64), rs := [dI], nout := 1, F := fun x => F_ref15_Up x.1 x.2 }
def hint_F_ref15_Up : Hint := H0
theorem run_F_ref15_Up : runE ⟨tdGet tys, [con_F_ref15_Down], [], [], []⟩ con_F_ref15_Up Tryz.f78 hint_F_ref15_Up = con_F_ref15_Up.F := by
 funext x
 kernel_rfl
theorem ok_F_ref15_Up : ConOK Tryz.prog con_F_ref15_Up :=
 con_of_run (Γ := ⟨tdGet tys, [con_F_ref15_Down], [], [], []⟩) ⟨fun T d h => tysB_ok tys tys_ok T d h, by simp [ok_F_ref15_Down], by simp [], by simp [], ptrs_ok Tryz.prog [] (by kernel_rfl)⟩ (by kernel_rfl) Tryz.func78 rfl (by kernel_rfl) run_F_ref15_Up
noncomputable def F_ref15_Tacho (d_1 : Int) (lo_2 : Int) (hi_3 : Int) (pulses_4 : Int) : Option (Int × Int) :=
 let t13_5 := (IntKind.wrap .i64 (d_1 - (1 : Int)))
 let t15_6 := (IntKind.wrap .i64 (t13_5 * lo_2))
 (F_ref15_Down t15_6 pulses_4).bind fun t17_7 =>
 let t19_8 := (decide (d_1 < (1 : Int)))
 Option.bind (
  (bif t19_8 then
   let t21_9 := (IntKind.wrap .i64 (d_1 - (1 : Int)))
   let t23_10 := (IntKind.wrap .i64 (t21_9 * hi_3))
   (F_ref15_Down t23_10 pulses_4).bind fun t25_11 =>
   some t25_11
  else
   some t17_7)) fun r_12 =>
 let t27_13 := (IntKind.wrap .i64 (d_1 + (1 : Int)))
 let t29_14 := (IntKind.wrap .i64 (t27_13 * hi_3))
 (F_ref15_Up t29_14 pulses_4).bind fun t31_15 =>
 let t33_16 := (decide (d_1 < (-1 : Int)))
 Option.bind (
  (bif t33_16 then
   let t35_17 := (IntKind.wrap .i64 (d_1 + (1 : Int)))
   let t37_18 := (IntKind.wrap .i64 (t35_17 * lo_2))
   (F_ref15_Up t37_18 pulses_4).bind fun t39_19 =>
   some t39_19
  else
   some t31_15)) fun r_20 =>
 some (r_12, r_20)
noncomputable def con_F_ref15_Tacho : Con := { f := 52, ps := [dI, dI, dI, dI], boxes := [], ins := Yt12, nin := 4, outs := (.pair (.int .i64) (.int .i64)), rs := [dI, dI], nout := 2, F := fun x => F_ref15_Tacho x.1 x.2.1 x.2.2.1 x.2.2.2 }
def hint_F_ref15_Tacho : Hint := (.mk .plain [H0, (.mk .plain [H0, (.mk .plain [(.mk .plain [H0, (.mk (.join [(0, 23), (0, 25), (0, 20), (0, 21), (0, 24), (0, 22)] [(.normal, [⟨.slot 10, (.int .i64), none⟩])]) [])]), (.mk .plain [H0, (.mk .plain [(.mk .plain [H0, (.mk (.join [(0, 36), (0, 39), (0, 34), (0, 35), (0, 37), (0, 38)] [(.normal, [⟨.slot 11, (.int .i64), none⟩])]) [])])])])])])])
theorem run_F_ref15_Tacho : runE ⟨tdGet tys, [con_F_ref15_Down, con_F_ref15_Up], [], [], []⟩ con_F_ref15_Tacho Tryz.f52 hint_F_ref15_Tacho = con_F_ref15_Tacho.F := by
 funext x
 kernel_rfl
theorem ok_F_ref15_Tacho : ConOK Tryz.prog con_F_ref15_Tacho :=
 con_of_run (Γ := ⟨tdGet tys, [con_F_ref15_Down, con_F_ref15_Up], [], [], []⟩) ⟨fun T d h => tysB_ok tys tys_ok T d h, by simp [ok_F_ref15_Down, ok_F_ref15_Up], by simp [], by simp [], ptrs_ok Tryz.prog [] (by kernel_rfl)⟩ (by kernel_rfl) Tryz.func52 rfl (by kernel_rfl) run_F_ref15_Tacho
noncomputable def F_ref28_Says (c_1 : Yd460) (s_2 : Yd610) (i_3 : Int) (k_4 : Int) : Option (Int × Int) :=
 (bif (i_3 == (2 : Int)) then
  chk none ((decide ((0 : Int) ≤ k_4)) && (decide (k_4 < (s_2.2.2.2.2.2.1.length : Int)))) <|
  let e_5 : Yd111 := (s_2.2.2.2.2.2.1.getD k_4.toNat ((0 : Int), (((0 : Int), (0 : Int)), ((0 : Int), ((0 : Int), (((0 : Int), ((0 : Int), ((0 : Int), (0 : Int)))), ([], (0 : Int))))))))
  chk none ((decide ((0 : Int) ≤ k_4)) && (decide (k_4 < (s_2.2.2.2.2.2.1.length : Int)))) <|
  let e_6 : Yd111 := (s_2.2.2.2.2.2.1.getD k_4.toNat ((0 : Int), (((0 : Int), (0 : Int)), ((0 : Int), ((0 : Int), (((0 : Int), ((0 : Int), ((0 : Int), (0 : Int)))), ([], (0 : Int))))))))
  let t32_7 := (IntKind.wrap .i64 (e_5.1 + e_6.2.2.1))
  (F_ref15_Radar c_1 t32_7).bind fun t33_8 =>
  some t33_8
 else
  (F_ref27_Count s_2 c_1.1 i_3 k_4).bind fun t44_9 =>
  let t45_10 := (t44_9.tmod (65536 : Int))
  let t51_11 := (IntKind.wrap .i64 (k_4 + (1 : Int)))
  (F_ref27_Count s_2 c_1.1 i_3 t51_11).bind fun t52_12 =>
  let t53_13 := (t52_12.tmod (65536 : Int))
  let t55_14 := (IntKind.wrap .i64 (t45_10 + (65536 : Int)))
  let t56_15 := (t55_14.tmod (65536 : Int))
  let t58_16 := (IntKind.wrap .i64 (t53_13 + (65536 : Int)))
  let t59_17 := (t58_16.tmod (65536 : Int))
  (F_ref09_Delta t56_15 t59_17).bind fun t60_18 =>
  (F_ref15_Tacho t60_18 c_1.2.1 c_1.2.2.1 c_1.1).bind fun t69_19 =>
  some t69_19)
noncomputable def con_F_ref28_Says : Con := { f := 38, ps := [.dat (.agg Yt460), .dat (.agg Yt610), dI, dI], boxes := [], ins := Yt617, nin := 4, outs := (.agg (.pair (.int .i64) (.int .i64))), rs := [.dat (.agg (.pair (.int .i64) (.int .i64)))], nout := 1, F := fun x => F_ref28_Says x.1 x.2.1 x.2.2.1 x.2.2.2 }
def hint_F_ref28_Says : Hint := H0
theorem run_F_ref28_Says : runE ⟨tdGet tys, [con_F_ref15_Radar, con_F_ref27_Count, con_F_ref09_Delta, con_F_ref15_Tacho], [], [], []⟩ con_F_ref28_Says Tryz.f38 hint_F_ref28_Says = con_F_ref28_Says.F := by
 funext x
 kernel_rfl
theorem ok_F_ref28_Says : ConOK Tryz.prog con_F_ref28_Says :=
 con_of_run (Γ := ⟨tdGet tys, [con_F_ref15_Radar, con_F_ref27_Count, con_F_ref09_Delta, con_F_ref15_Tacho], [], [], []⟩) ⟨fun T d h => tysB_ok tys tys_ok T d h, by simp [ok_F_ref15_Radar, ok_F_ref27_Count, ok_F_ref09_Delta, ok_F_ref15_Tacho], by simp [], by simp [], ptrs_ok Tryz.prog [] (by kernel_rfl)⟩ (by kernel_rfl) Tryz.func38 rfl (by kernel_rfl) run_F_ref28_Says
noncomputable def F_ref05_Many (l_1 : (List (Int × Int))) (x_2 : Int) : Option Int :=
 Option.bind (
  loopO (X := Int) (fun (s_3 : (Int × Int)) =>
   let n_4 := s_3.1
   let i_5 := s_3.2
   let t10_6 := (decide (i_5 < (l_1.length : Int)))
   (bif t10_6 then
    chk none ((decide ((0 : Int) ≤ i_5)) && (decide (i_5 < (l_1.length : Int)))) <|
    let e_7 : (Int × Int) := (l_1.getD i_5.toNat ((0 : Int), (0 : Int)))
    chk none (((decide ((0 : Int) ≤ i_5)) && (decide (i_5 < (l_1.length : Int)))) || !(decide (e_7.1 ≤ x_2))) <|
    let e_8 : (Int × Int) := (l_1.getD i_5.toNat ((0 : Int), (0 : Int)))
    let t28_9 := (bif (decide (e_7.1 ≤ x_2)) then (decide (x_2 ≤ e_8.2)) else false)
    Option.bind (
     (bif t28_9 then
      let t30_10 := (IntKind.wrap .i64 (n_4 + (1 : Int)))
      some t30_10
     else
      some n_4)) fun r_11 =>
    let t12_12 := (IntKind.wrap .i64 (i_5 + (1 : Int)))
    some (.inl (r_11, t12_12))
   else
    some (.inr n_4))) ((0 : Int), (0 : Int))) fun r_13 =>
 some r_13
noncomputable def con_F_ref05_Many : Con := { f := 53, ps := [.dat (.slice (.agg (.pair (.int .i64) (.int .i64)))), dI], boxes := [], ins := (.pair (.slice (.agg (.pair (.int .i64) (.int .i64)))) (.int .i64)), nin := 2, outs := (.int .i64), rs := [dI], nout := 1, F := fun x => F_ref05_Many x.1 x.2 }
def hint_F_ref05_Many : Hint := (.mk .plain [H0, (.mk .plain [H0, (.mk .plain [(.mk .plain [H0, (.mk .plain [(.mk (.loop [⟨.slot 5, (.int .i64), none⟩, ⟨.slot 6, (.int .i64), none⟩] [(0, 30), (0, 7), (0, 10), (0, 16), (0, 13), (0, 19), (0, 22), (0, 28), (0, 25), (0, 8), (0, 14), (0, 11), (0, 17), (0, 23), (0, 20), (0, 26), (0, 29), (0, 9), (0, 12), (0, 15), (0, 21), (0, 18), (0, 24), (0, 27)] [(.exit 0, [⟨.slot 5, (.int .i64), none⟩])]) [(.mk .plain [H0, (.mk .plain [(.mk .plain [(.mk .plain [H0, (.mk (.join [(0, 29), (0, 30)] [(.normal, [⟨.slot 5, (.int .i64), none⟩])]) [])])])])])])])])])])])
theorem run_F_ref05_Many : runE ⟨tdGet tys, [], [], [], []⟩ con_F_ref05_Many Tryz.f53 hint_F_ref05_Many = con_F_ref05_Many.F := by
 funext x
 kernel_rfl
theorem ok_F_ref05_Many : ConOK Tryz.prog con_F_ref05_Many :=
 con_of_run (Γ := ⟨tdGet tys, [], [], [], []⟩) ⟨fun T d h => tysB_ok tys tys_ok T d h, by simp [], by simp [], by simp [], ptrs_ok Tryz.prog [] (by kernel_rfl)⟩ (by kernel_rfl) Tryz.func53 rfl (by kernel_rfl) run_F_ref05_Many
noncomputable def F_ref05_By (l_1 : (List (Int × Int))) (many_2 : Int) : Option ((Int × Int) × Bool) :=
 Option.bind (
  loopO (X := (Bool × Int)) (fun (s_3 : (Int × (Bool × Int))) =>
   let i_4 := s_3.1
   let found_5 := s_3.2.1
   let b1_6 := s_3.2.2
   let t14_7 := (decide (i_4 < (l_1.length : Int)))
   (bif t14_7 then
    chk none ((decide ((0 : Int) ≤ i_4)) && (decide (i_4 < (l_1.length : Int)))) <|
    let e_8 : (Int × Int) := (l_1.getD i_4.toNat ((0 : Int), (0 : Int)))
    (F_ref05_Many l_1 e_8.1).bind fun t23_9 =>
    let t25_10 := (decide (many_2 ≤ t23_9))
    chk none (((decide ((0 : Int) ≤ i_4)) && (decide (i_4 < (l_1.length : Int)))) || !(!(!found_5) && t25_10)) <|
    let e_11 : (Int × Int) := (l_1.getD i_4.toNat ((0 : Int), (0 : Int)))
    let t38_12 := (bif (!found_5) then true else (decide (e_11.1 < b1_6)))
    let t39_13 := (bif t25_10 then t38_12 else false)
    Option.bind (
     (bif t39_13 then
      chk none ((decide ((0 : Int) ≤ i_4)) && (decide (i_4 < (l_1.length : Int)))) <|
      let e_14 : (Int × Int) := (l_1.getD i_4.toNat ((0 : Int), (0 : Int)))
      some (true, e_14.1)
     else
      some (found_5, b1_6))) fun r_15 =>
    let found_16 := r_15.1
    let b1_17 := r_15.2
    let t16_18 := (IntKind.wrap .i64 (i_4 + (1 : Int)))
    some (.inl (t16_18, found_16, b1_17))
   else
    some (.inr (found_5, b1_6)))) ((0 : Int), false, (0 : Int))) fun r_19 =>
 let found_20 := r_19.1
 let b1_21 := r_19.2
 Option.bind (
  loopO (X := (Int × Bool)) (fun (s_22 : (Int × (Int × Bool))) =>
   let b1_23 := s_22.1
   let i_24 := s_22.2.1
   let t9_25 := s_22.2.2
   let t49_26 := (decide (i_24 < (l_1.length : Int)))
   (bif t49_26 then
    chk none ((decide ((0 : Int) ≤ i_24)) && (decide (i_24 < (l_1.length : Int)))) <|
    let e_27 : (Int × Int) := (l_1.getD i_24.toNat ((0 : Int), (0 : Int)))
    (F_ref05_Many l_1 e_27.2).bind fun t58_28 =>
    let t60_29 := (decide (many_2 ≤ t58_28))
    chk none (((decide ((0 : Int) ≤ i_24)) && (decide (i_24 < (l_1.length : Int)))) || !(!(!t9_25) && t60_29)) <|
    let e_30 : (Int × Int) := (l_1.getD i_24.toNat ((0 : Int), (0 : Int)))
    let t72_31 := (decide (b1_23 < e_30.2))
    let t73_32 := (bif (!t9_25) then true else t72_31)
    let t74_33 := (bif t60_29 then t73_32 else false)
    Option.bind (
     (bif t74_33 then
      chk none ((decide ((0 : Int) ≤ i_24)) && (decide (i_24 < (l_1.length : Int)))) <|
      let e_34 : (Int × Int) := (l_1.getD i_24.toNat ((0 : Int), (0 : Int)))
      some (e_34.2, true)
     else
      some (b1_23, t9_25))) fun r_35 =>
    let b1_36 := r_35.1
    let t9_37 := r_35.2
    let t51_38 := (IntKind.wrap .i64 (i_24 + (1 : Int)))
    some (.inl (b1_36, t51_38, t9_37))
   else
    some (.inr (b1_23, t9_25)))) ((0 : Int), (0 : Int), false)) fun r_39 =>
 let b1_40 := r_39.1
 let t9_41 := r_39.2
 let t85_42 := (bif found_20 then t9_41 else false)
 let w_43 : (Int × Int) := (b1_21, b1_40)
 some (w_43, t85_42)
noncomputable def con_F_ref05_By : Con := { f := 39, ps := [.dat (.slice (.agg (.pair (.int .i64) (.int .i64)))), dI], boxes := [], ins := (.pair (.slice (.agg (.pair (.int .i64) (.int .i64)))) (.int .i64)), nin := 2, outs := (.pair (.agg (.pair (.int .i64) (.int .i64))) .bool), rs := [.dat (.agg (.pair (.int .i64) (.int .i64))), .dat .bool], nout := 2, F := fun x => F_ref05_By x.1 x.2 }
def hint_F_ref05_By : Hint := (.mk .plain [H0, (.mk .plain [H0, (.mk .plain [H0, (.mk .plain [(.mk .plain [H0, (.mk .plain [(.mk (.loop [⟨.slot 8, (.int .i64), none⟩, ⟨.slot 7, .bool, none⟩, ⟨.cell 1 0, (.int .i64), none⟩] [(0, 30), (0, 36), (0, 42), (0, 39), (0, 45), (0, 14), (0, 11), (0, 17), (0, 23), (0, 20), (0, 26), (0, 29), (0, 35), (0, 32), (0, 38), (0, 41), (0, 44), (0, 16), (0, 13), (0, 19), (0, 22), (0, 28), (0, 25), (0, 31), (0, 34), (0, 40), (0, 37), (0, 43), (0, 12), (0, 15), (0, 21), (0, 18), (0, 24), (0, 27), (0, 33)] [(.exit 0, [⟨.slot 7, .bool, none⟩, ⟨.cell 1 0, (.int .i64), none⟩])]) [(.mk .plain [H0, (.mk .plain [(.mk .plain [(.mk .plain [H0, (.mk (.join [(0, 42), (0, 45), (0, 41), (0, 44), (0, 40), (0, 43)] [(.normal, [⟨.slot 7, .bool, none⟩, ⟨.cell 1 0, (.int .i64), none⟩])]) [])])])])])])])]), (.mk .plain [H0, (.mk .plain [(.mk .plain [H0, (.mk .plain [(.mk (.loop [⟨.cell 1 1, (.int .i64), none⟩, ⟨.slot 10, (.int .i64), none⟩, ⟨.slot 9, .bool, none⟩] [(0, 48), (0, 54), (0, 51), (0, 57), (0, 60), (0, 66), (0, 63), (0, 69), (0, 72), (0, 78), (0, 75), (0, 47), (0, 50), (0, 53), (0, 59), (0, 56), (0, 62), (0, 68), (0, 65), (0, 71), (0, 74), (0, 80), (0, 77), (0, 46), (0, 52), (0, 49), (0, 55), (0, 61), (0, 58), (0, 64), (0, 67), (0, 73), (0, 70), (0, 76), (0, 79)] [(.exit 2, [⟨.cell 1 1, (.int .i64), none⟩, ⟨.slot 9, .bool, none⟩])]) [(.mk .plain [H0, (.mk .plain [(.mk .plain [(.mk .plain [H0, (.mk (.join [(0, 75), (0, 80), (0, 77), (0, 76), (0, 79), (0, 78)] [(.normal, [⟨.cell 1 1, (.int .i64), none⟩, ⟨.slot 9, .bool, none⟩])]) [])])])])])])])])])])])])])])
theorem run_F_ref05_By : runE ⟨tdGet tys, [con_F_ref05_Many], [], [], []⟩ con_F_ref05_By Tryz.f39 hint_F_ref05_By = con_F_ref05_By.F := by
 funext x
 kernel_rfl
theorem ok_F_ref05_By : ConOK Tryz.prog con_F_ref05_By :=
 con_of_run (Γ := ⟨tdGet tys, [con_F_ref05_Many], [], [], []⟩) ⟨fun T d h => tysB_ok tys tys_ok T d h, by simp [ok_F_ref05_Many], by simp [], by simp [], ptrs_ok Tryz.prog [] (by kernel_rfl)⟩ (by kernel_rfl) Tryz.func39 rfl (by kernel_rfl) run_F_ref05_By
noncomputable def F_ref28_sensors (c_1 : Yd460) (s_2 : Yd610) (k_3 : Int) : Option Bool :=
 (F_ref28_Fit s_2 (0 : Int) k_3).bind fun t20_4 =>
 Option.bind (
  (bif t20_4 then
   (F_ref28_Wrong c_1 s_2 (0 : Int) k_3).bind fun t27_5 =>
   Option.bind (
    (bif t27_5 then
     some (1 : Int)
    else
     some (0 : Int))) fun r_6 =>
   some ((1 : Int), r_6)
  else
   some ((0 : Int), (0 : Int)))) fun r_7 =>
 let fit_8 := r_7.1
 let wrong_9 := r_7.2
 (F_ref28_Fit s_2 (1 : Int) k_3).bind fun t20_10 =>
 Option.bind (
  (bif t20_10 then
   let t22_11 := (IntKind.wrap .i64 (fit_8 + (1 : Int)))
   (F_ref28_Wrong c_1 s_2 (1 : Int) k_3).bind fun t27_12 =>
   Option.bind (
    (bif t27_12 then
     let t29_13 := (IntKind.wrap .i64 (wrong_9 + (1 : Int)))
     some t29_13
    else
     some wrong_9)) fun r_14 =>
   some (t22_11, r_14)
  else
   some (fit_8, wrong_9))) fun r_15 =>
 let fit_16 := r_15.1
 let wrong_17 := r_15.2
 (F_ref28_Fit s_2 (2 : Int) k_3).bind fun t20_18 =>
 Option.bind (
  (bif t20_18 then
   let t22_19 := (IntKind.wrap .i64 (fit_16 + (1 : Int)))
   (F_ref28_Wrong c_1 s_2 (2 : Int) k_3).bind fun t27_20 =>
   Option.bind (
    (bif t27_20 then
     let t29_21 := (IntKind.wrap .i64 (wrong_17 + (1 : Int)))
     some t29_21
    else
     some wrong_17)) fun r_22 =>
   some (t22_19, r_22)
  else
   some (fit_16, wrong_17))) fun r_23 =>
 let fit_24 := r_23.1
 let wrong_25 := r_23.2
 (bif (wrong_25 == (0 : Int)) then
  some true
 else
  let t33_26 := (decide ((1 : Int) < wrong_25))
  let t36_27 := (decide (fit_24 < (3 : Int)))
  let t37_28 := (bif t33_26 then true else t36_27)
  (bif t37_28 then
   some false
  else
   (F_ref28_Says c_1 s_2 (0 : Int) k_3).bind fun t41_29 =>
   (F_ref28_Says c_1 s_2 (1 : Int) k_3).bind fun t45_30 =>
   (F_ref28_Says c_1 s_2 (2 : Int) k_3).bind fun t49_31 =>
   let t50_32 : (List (Int × Int)) := ([t41_29, t45_30, t49_31] : List (Int × Int))
   (F_ref05_By t50_32 (3 : Int)).bind fun t53_33 =>
   some (!t53_33.2)))
noncomputable def con_F_ref28_sensors : Con := { f := 20, ps := [.dat (.agg Yt460), .dat (.agg Yt610), dI], boxes := [], ins := Yt620, nin := 3, outs := .bool, rs := [.dat .bool], nout := 1, F := fun x => F_ref28_sensors x.1 x.2.1 x.2.2 }
def hint_F_ref28_sensors : Hint := (.mk .plain [H0, (.mk .plain [H0, (.mk .plain [H0, (.mk .plain [(.mk .plain [H0, (.mk .plain [(.mk (.unroll 4) [(.mk .plain [H0, (.mk .plain [(.mk .plain [(.mk .plain [H0, (.mk (.join [(0, 23), (0, 26), (0, 29), (0, 22), (0, 28), (0, 25), (0, 21), (0, 24), (0, 27)] [(.normal, [⟨.slot 7, (.int .i64), none⟩, ⟨.slot 8, (.int .i64), none⟩])]) [(.mk .plain [H0, (.mk .plain [H0, (.mk (.join [(0, 29), (0, 28)] [(.normal, [⟨.slot 8, (.int .i64), none⟩])]) [])])])])])])])])])])])])])])])
theorem run_F_ref28_sensors : runE ⟨tdGet tys, [con_F_ref28_Fit, con_F_ref28_Wrong, con_F_ref28_Says, con_F_ref05_By], [], [], []⟩ con_F_ref28_sensors Tryz.f20 hint_F_ref28_sensors = con_F_ref28_sensors.F := by
 funext x
 kernel_rfl
theorem ok_F_ref28_sensors : ConOK Tryz.prog con_F_ref28_sensors :=
 con_of_run (Γ := ⟨tdGet tys, [con_F_ref28_Fit, con_F_ref28_Wrong, con_F_ref28_Says, con_F_ref05_By], [], [], []⟩) ⟨fun T d h => tysB_ok tys tys_ok T d h, by simp [ok_F_ref28_Fit, ok_F_ref28_Wrong, ok_F_ref28_Says, ok_F_ref05_By], by simp [], by simp [], ptrs_ok Tryz.prog [] (by kernel_rfl)⟩ (by kernel_rfl) Tryz.func20 rfl (by kernel_rfl) run_F_ref28_sensors
noncomputable def F_ref27_Find (t_1 : Yd467) (id_2 : Int) : Option Int :=
 Option.bind (α := Int ⊕ Unit) (
  loopO (X := Int ⊕ Unit) (fun (s_3 : Int) =>
   let t10_4 := (decide (s_3 < (t_1.2.length : Int)))
   (bif t10_4 then
    chk none ((decide ((0 : Int) ≤ s_3)) && (decide (s_3 < (t_1.2.length : Int)))) <|
    let e_5 : Yd20 := (t_1.2.getD s_3.toNat ((0 : Int), ((0 : Int), ((0 : Int), ((0 : Int), (0 : Int))))))
    (bif (e_5.1 == id_2) then
     some (.inr (.inl s_3))
    else
     let t12_6 := (IntKind.wrap .i64 (s_3 + (1 : Int)))
     some (.inl t12_6))
   else
    some (.inr (.inr ())))) (0 : Int)) fun z => match z with
 | .inl r_7 =>
  some r_7
 | .inr _ =>
  some (-1 : Int)
noncomputable def con_F_ref27_Find : Con := { f := 56, ps := [.dat (.agg Yt467), dI], boxes := [], ins := Yt621, nin := 2, outs := (.int .i64), rs := [dI], nout := 1, F := fun x => F_ref27_Find x.1 x.2 }
def hint_F_ref27_Find : Hint := (.mk .plain [H0, (.mk .plain [(.mk .plain [H0, (.mk .plain [(.mk (.loop [⟨.slot 5, (.int .i64), none⟩] [(0, 7), (0, 20), (0, 4), (0, 10), (0, 16), (0, 13), (0, 19), (0, 9), (0, 6), (0, 15), (0, 21), (0, 18), (0, 8), (0, 14), (0, 17), (0, 11), (0, 12)] [(.ret, [⟨.slot 4, (.int .i64), none⟩]), (.exit 0, [])]) [])])])])])
theorem run_F_ref27_Find : runE ⟨tdGet tys, [], [], [], []⟩ con_F_ref27_Find Tryz.f56 hint_F_ref27_Find = con_F_ref27_Find.F := by
 funext x
 kernel_rfl
theorem ok_F_ref27_Find : ConOK Tryz.prog con_F_ref27_Find :=
 con_of_run (Γ := ⟨tdGet tys, [], [], [], []⟩) ⟨fun T d h => tysB_ok tys tys_ok T d h, by simp [], by simp [], by simp [], ptrs_ok Tryz.prog [] (by kernel_rfl)⟩ (by kernel_rfl) Tryz.func56 rfl (by kernel_rfl) run_F_ref27_Find
noncomputable def F_ref27_Nominal (t_1 : Yd467) (s_2 : Yd610) (r_3 : Yd12) : Option (Int × Bool) :=
 (F_ref27_Find t_1 r_3.2.2.1).bind fun t12_4 =>
 let t14_5 := (decide (t12_4 < (0 : Int)))
 let t18_6 := (decide (r_3.2.1 < (0 : Int)))
 let t19_7 := (bif t14_5 then true else t18_6)
 let t26_8 := (decide ((s_2.1.length : Int) ≤ r_3.2.1))
 let t27_9 := (bif t19_7 then true else t26_8)
 chk none (((decide ((0 : Int) ≤ r_3.2.1)) && (decide (r_3.2.1 < (s_2.1.length : Int)))) || !(!t27_9)) <|
 let t34_10 := (s_2.1.getD r_3.2.1.toNat (0 : Int))
 chk none (((decide ((0 : Int) ≤ t12_4)) && (decide (t12_4 < (t_1.2.length : Int)))) || !(!t27_9)) <|
 let e_11 : Yd20 := (t_1.2.getD t12_4.toNat ((0 : Int), ((0 : Int), ((0 : Int), ((0 : Int), (0 : Int))))))
 let t42_12 := (bif t27_9 then true else (t34_10 != e_11.2.1))
 (bif t42_12 then
  some ((0 : Int), false)
 else
  (F_ref27_Start t_1 s_2.1 r_3.2.1).bind fun t48_13 =>
  chk none ((decide ((0 : Int) ≤ t12_4)) && (decide (t12_4 < (t_1.2.length : Int)))) <|
  let e_14 : Yd20 := (t_1.2.getD t12_4.toNat ((0 : Int), ((0 : Int), ((0 : Int), ((0 : Int), (0 : Int))))))
  let t55_15 := (IntKind.wrap .i64 (t48_13 + e_14.2.2.1))
  some (t55_15, true))
noncomputable def con_F_ref27_Nominal : Con := { f := 54, ps := [.dat (.agg Yt467), .dat (.agg Yt610), .dat (.agg Yt12)], boxes := [], ins := Yt623, nin := 3, outs := (.pair (.int .i64) .bool), rs := [dI, .dat .bool], nout := 2, F := fun x => F_ref27_Nominal x.1 x.2.1 x.2.2 }
def hint_F_ref27_Nominal : Hint := H0
theorem run_F_ref27_Nominal : runE ⟨tdGet tys, [con_F_ref27_Find, con_F_ref27_Start], [], [], []⟩ con_F_ref27_Nominal Tryz.f54 hint_F_ref27_Nominal = con_F_ref27_Nominal.F := by
 funext x
 kernel_rfl
theorem ok_F_ref27_Nominal : ConOK Tryz.prog con_F_ref27_Nominal :=
 con_of_run (Γ := ⟨tdGet tys, [con_F_ref27_Find, con_F_ref27_Start], [], [], []⟩) ⟨fun T d h => tysB_ok tys tys_ok T d h, by simp [ok_F_ref27_Find, ok_F_ref27_Start], by simp [], by simp [], ptrs_ok Tryz.prog [] (by kernel_rfl)⟩ (by kernel_rfl) Tryz.func54 rfl (by kernel_rfl) run_F_ref27_Nominal
noncomputable def F_ref27_At (s_1 : Yd610) (cycles_2 : Int) : Option Int :=
 Option.bind (
  loopO (X := Int) (fun (s_3 : (Int × Int)) =>
   let i_4 := s_3.1
   let t5_5 := s_3.2
   let t11_6 := (decide (i_4 < cycles_2))
   (bif t11_6 then
    chk none ((decide ((0 : Int) ≤ i_4)) && (decide (i_4 < (s_1.2.2.2.2.2.1.length : Int)))) <|
    let e_7 : Yd111 := (s_1.2.2.2.2.2.1.getD i_4.toNat ((0 : Int), (((0 : Int), (0 : Int)), ((0 : Int), ((0 : Int), (((0 : Int), ((0 : Int), ((0 : Int), (0 : Int)))), ([], (0 : Int))))))))
    let t21_8 := (IntKind.wrap .i64 (t5_5 + e_7.1))
    let t13_9 := (IntKind.wrap .i64 (i_4 + (1 : Int)))
    some (.inl (t13_9, t21_8))
   else
    some (.inr t5_5))) ((0 : Int), s_1.2.1)) fun r_10 =>
 some r_10
noncomputable def con_F_ref27_At : Con := { f := 55, ps := [.dat (.agg Yt610), dI], boxes := [], ins := Yt619, nin := 2, outs := (.int .i64), rs := [dI], nout := 1, F := fun x => F_ref27_At x.1 x.2 }
def hint_F_ref27_At : Hint := (.mk .plain [H0, (.mk .plain [H0, (.mk .plain [(.mk .plain [H0, (.mk .plain [(.mk (.loop [⟨.slot 6, (.int .i64), none⟩, ⟨.slot 5, (.int .i64), none⟩] [(0, 20), (0, 10), (0, 16), (0, 13), (0, 19), (0, 9), (0, 12), (0, 15), (0, 21), (0, 18), (0, 14), (0, 11), (0, 17)] [(.exit 0, [⟨.slot 5, (.int .i64), none⟩])]) [])])])])])])
theorem run_F_ref27_At : runE ⟨tdGet tys, [], [], [], []⟩ con_F_ref27_At Tryz.f55 hint_F_ref27_At = con_F_ref27_At.F := by
 funext x
 kernel_rfl
theorem ok_F_ref27_At : ConOK Tryz.prog con_F_ref27_At :=
 con_of_run (Γ := ⟨tdGet tys, [], [], [], []⟩) ⟨fun T d h => tysB_ok tys tys_ok T d h, by simp [], by simp [], by simp [], ptrs_ok Tryz.prog [] (by kernel_rfl)⟩ (by kernel_rfl) Tryz.func55 rfl (by kernel_rfl) run_F_ref27_At
noncomputable def F_ref28_read (c_1 : Yd460) (t_2 : Yd467) (s_3 : Yd610) (r_4 : Yd12) : Option Bool :=
 (F_ref27_Nominal t_2 s_3 r_4).bind fun t18_5 =>
 (bif (!t18_5.2) then
  some false
 else
  (F_ref27_At s_3 r_4.1).bind fun t26_6 =>
  let t30_7 := (IntKind.wrap .i64 (r_4.1 + (1 : Int)))
  (F_ref27_At s_3 t30_7).bind fun t31_8 =>
  (F_ref27_Find t_2 r_4.2.2.1).bind fun t37_9 =>
  chk none ((decide ((0 : Int) ≤ t37_9)) && (decide (t37_9 < (t_2.2.length : Int)))) <|
  let t39_10 : Yd20 := (t_2.2.getD t37_9.toNat ((0 : Int), ((0 : Int), ((0 : Int), ((0 : Int), (0 : Int))))))
  let t44_11 := (if t31_8 < t26_6 then t31_8 else t26_6)
  let t45_12 := (decide (t44_11 ≤ r_4.2.2.2))
  let t51_13 := (if t31_8 > t26_6 then t31_8 else t26_6)
  let t52_14 := (decide (r_4.2.2.2 ≤ t51_13))
  let t53_15 := (bif t45_12 then t52_14 else false)
  let t58_16 := (IntKind.wrap .i64 (r_4.2.2.2 - t18_5.1))
  let t63_17 := (IntKind.wrap .i64 (t39_10.2.2.2.1 + c_1.2.2.2.2.2.2.2.2.1))
  (bif t53_15 then F_ref28_far t58_16 t63_17 else some false).bind fun t64_18 =>
  let t66_19 := (bif t53_15 then (!t64_18) else false)
  some t66_19)
noncomputable def con_F_ref28_read : Con := { f := 40, ps := [.dat (.agg Yt460), .dat (.agg Yt467), .dat (.agg Yt610), .dat (.agg Yt12)], boxes := [], ins := Yt624, nin := 4, outs := .bool, rs := [.dat .bool], nout := 1, F := fun x => F_ref28_read x.1 x.2.1 x.2.2.1 x.2.2.2 }
def hint_F_ref28_read : Hint := H0
theorem run_F_ref28_read : runE ⟨tdGet tys, [con_F_ref27_Nominal, con_F_ref27_At, con_F_ref27_Find, con_F_ref28_far], [], [], []⟩ con_F_ref28_read Tryz.f40 hint_F_ref28_read = con_F_ref28_read.F := by
 funext x
 kernel_rfl
theorem ok_F_ref28_read : ConOK Tryz.prog con_F_ref28_read :=
 con_of_run (Γ := ⟨tdGet tys, [con_F_ref27_Nominal, con_F_ref27_At, con_F_ref27_Find, con_F_ref28_far], [], [], []⟩) ⟨fun T d h => tysB_ok tys tys_ok T d h, by simp [ok_F_ref27_Nominal, ok_F_ref27_At, ok_F_ref27_Find, ok_F_ref28_far], by simp [], by simp [], ptrs_ok Tryz.prog [] (by kernel_rfl)⟩ (by kernel_rfl) Tryz.func40 rfl (by kernel_rfl) run_F_ref28_read
noncomputable def F_ref28_reads (c_1 : Yd460) (t_2 : Yd467) (s_3 : Yd610) : Option Bool :=
 Option.bind (α := Bool ⊕ Unit) (
  loopO (X := Bool ⊕ Unit) (fun (s_4 : Int) =>
   let t12_5 := (s_3.2.2.2.2.2.2.length : Int)
   (bif (decide (s_4 < t12_5)) then
    chk none ((decide ((0 : Int) ≤ s_4)) && (decide (s_4 < (s_3.2.2.2.2.2.2.length : Int)))) <|
    let t20_6 : Yd12 := (s_3.2.2.2.2.2.2.getD s_4.toNat ((0 : Int), ((0 : Int), ((0 : Int), (0 : Int)))))
    let t23_7 := (decide (t20_6.1 < (0 : Int)))
    let t29_8 := (s_3.2.2.2.2.2.1.length : Int)
    let t30_9 := (decide (t29_8 ≤ t20_6.1))
    let t31_10 := (bif t23_7 then true else t30_9)
    let t34_11 := (decide ((0 : Int) < s_4))
    let t41_12 := (IntKind.wrap .i64 (s_4 - (1 : Int)))
    chk none (((decide ((0 : Int) ≤ t41_12)) && (decide (t41_12 < (s_3.2.2.2.2.2.2.length : Int)))) || !(t34_11 && !t31_10)) <|
    let e_13 : Yd12 := (s_3.2.2.2.2.2.2.getD t41_12.toNat ((0 : Int), ((0 : Int), ((0 : Int), (0 : Int)))))
    let t45_14 := (decide (t20_6.1 ≤ e_13.1))
    let t46_15 := (bif t34_11 then t45_14 else false)
    let t47_16 := (bif t31_10 then true else t46_15)
    (bif t47_16 then
     some (.inr (.inl false))
    else
     (F_ref28_read c_1 t_2 s_3 t20_6).bind fun t52_17 =>
     (bif (!t52_17) then
      some (.inr (.inl false))
     else
      let t15_18 := (IntKind.wrap .i64 (s_4 + (1 : Int)))
      some (.inl t15_18)))
   else
    some (.inr (.inr ())))) (0 : Int)) fun z => match z with
 | .inl r_19 =>
  some r_19
 | .inr _ =>
  some true
noncomputable def con_F_ref28_reads : Con := { f := 21, ps := [.dat (.agg Yt460), .dat (.agg Yt467), .dat (.agg Yt610)], boxes := [], ins := Yt625, nin := 3, outs := .bool, rs := [.dat .bool], nout := 1, F := fun x => F_ref28_reads x.1 x.2.1 x.2.2 }
def hint_F_ref28_reads : Hint := (.mk .plain [H0, (.mk .plain [(.mk .plain [H0, (.mk .plain [(.mk (.loop [⟨.slot 7, (.int .i64), none⟩] [(0, 30), (0, 36), (0, 42), (0, 39), (0, 45), (0, 8), (0, 11), (0, 17), (0, 23), (0, 20), (0, 26), (0, 29), (0, 35), (0, 32), (0, 38), (0, 41), (0, 47), (0, 44), (0, 10), (0, 16), (0, 13), (0, 19), (0, 22), (0, 28), (0, 25), (0, 31), (0, 34), (0, 40), (0, 37), (0, 43), (0, 46), (0, 9), (0, 6), (0, 12), (0, 21), (0, 18), (0, 24), (0, 27), (0, 33), (0, 48), (0, 51), (0, 50), (0, 53), (0, 52), (0, 49), (0, 14), (0, 15)] [(.ret, [⟨.slot 6, .bool, none⟩]), (.exit 0, [])]) [])])])])])
theorem run_F_ref28_reads : runE ⟨tdGet tys, [con_F_ref28_read], [], [], []⟩ con_F_ref28_reads Tryz.f21 hint_F_ref28_reads = con_F_ref28_reads.F := by
 funext x
 kernel_rfl
theorem ok_F_ref28_reads : ConOK Tryz.prog con_F_ref28_reads :=
 con_of_run (Γ := ⟨tdGet tys, [con_F_ref28_read], [], [], []⟩) ⟨fun T d h => tysB_ok tys tys_ok T d h, by simp [ok_F_ref28_read], by simp [], by simp [], ptrs_ok Tryz.prog [] (by kernel_rfl)⟩ (by kernel_rfl) Tryz.func21 rfl (by kernel_rfl) run_F_ref28_reads
noncomputable def F_ref07_Size (kind_1 : Int) : Option Int :=
 let t4_2 : Yd130 := ((0 : Int), ((2 : Int), ((2 : Int), ((4 : Int), ((4 : Int), (2 : Int))))))
 let t6_3 := (decide (kind_1 < (1 : Int)))
 let t9_4 := (decide ((5 : Int) < kind_1))
 let t10_5 := (bif t6_3 then true else t9_4)
 (bif t10_5 then
  some (0 : Int)
 else
  chk none ((decide ((0 : Int) ≤ kind_1)) && (decide (kind_1 < (6 : Int)))) <|
  let t13_6 := (List.getD [t4_2.1, t4_2.2.1, t4_2.2.2.1, t4_2.2.2.2.1, t4_2.2.2.2.2.1, t4_2.2.2.2.2.2] kind_1.toNat (0 : Int))
  some t13_6)
noncomputable def con_F_ref07_Size : Con := { f := 57, ps := [dI], boxes := [], ins := (.int .i64), nin := 1, outs := (.int .i64), rs := [dI], nout := 1, F := fun x => F_ref07_Size x }
def hint_F_ref07_Size : Hint := H0
theorem run_F_ref07_Size : runE ⟨tdGet tys, [], [], [], []⟩ con_F_ref07_Size Tryz.f57 hint_F_ref07_Size = con_F_ref07_Size.F := by
 funext x
 kernel_rfl
theorem ok_F_ref07_Size : ConOK Tryz.prog con_F_ref07_Size :=
 con_of_run (Γ := ⟨tdGet tys, [], [], [], []⟩) ⟨fun T d h => tysB_ok tys tys_ok T d h, by simp [], by simp [], by simp [], ptrs_ok Tryz.prog [] (by kernel_rfl)⟩ (by kernel_rfl) Tryz.func57 rfl (by kernel_rfl) run_F_ref07_Size
noncomputable def F_ref06_Xor (a_1 : Int) (b_2 : Int) : Option Int :=
 Option.bind (
  loopO (X := Int) (fun (s_3 : (Int × (Int × Int))) =>
   let i_4 := s_3.1
   let out_5 := s_3.2.1
   let part_6 := s_3.2.2
   let t9_7 := (decide (i_4 < (16 : Int)))
   (bif t9_7 then
    chk none (!(part_6 == (0 : Int))) <|
    let t14_8 := (IntKind.wrap .i64 (a_1.tdiv part_6))
    chk none (!(part_6 == (0 : Int))) <|
    let t18_9 := (IntKind.wrap .i64 (b_2.tdiv part_6))
    let t20_10 := ((t14_8.tmod (2 : Int)) != (t18_9.tmod (2 : Int)))
    Option.bind (
     (bif t20_10 then
      let t23_11 := (IntKind.wrap .i64 (out_5 + part_6))
      some t23_11
     else
      some out_5)) fun r_12 =>
    let t25_13 := (IntKind.wrap .i64 ((2 : Int) * part_6))
    let t11_14 := (IntKind.wrap .i64 (i_4 + (1 : Int)))
    some (.inl (t11_14, r_12, t25_13))
   else
    some (.inr out_5))) ((0 : Int), (0 : Int), (1 : Int))) fun r_15 =>
 some r_15
noncomputable def con_F_ref06_Xor : Con := { f := 79, ps := [dI, dI], boxes := [], ins := (.pair (.int .i64) (.int .i64)), nin := 2, outs := (.int .i64), rs := [dI], nout := 1, F := fun x => F_ref06_Xor x.1 x.2 }
def hint_F_ref06_Xor : Hint := (.mk .plain [H0, (.mk .plain [H0, (.mk .plain [H0, (.mk .plain [(.mk .plain [H0, (.mk .plain [(.mk (.loop [⟨.slot 7, (.int .i64), none⟩, ⟨.slot 5, (.int .i64), none⟩, ⟨.slot 6, (.int .i64), none⟩] [(0, 10), (0, 16), (0, 13), (0, 19), (0, 22), (0, 25), (0, 8), (0, 14), (0, 11), (0, 17), (0, 23), (0, 20), (0, 9), (0, 12), (0, 15), (0, 21), (0, 18), (0, 24)] [(.exit 0, [⟨.slot 5, (.int .i64), none⟩])]) [(.mk .plain [H0, (.mk .plain [(.mk .plain [(.mk .plain [(.mk .plain [H0, (.mk (.join [(0, 23), (0, 21), (0, 22)] [(.normal, [⟨.slot 5, (.int .i64), none⟩])]) [])])])])])])])])])])])])])
theorem run_F_ref06_Xor : runE ⟨tdGet tys, [], [], [], []⟩ con_F_ref06_Xor Tryz.f79 hint_F_ref06_Xor = con_F_ref06_Xor.F := by
 funext x
 kernel_rfl
theorem ok_F_ref06_Xor : ConOK Tryz.prog con_F_ref06_Xor :=
 con_of_run (Γ := ⟨tdGet tys, [], [], [], []⟩) ⟨fun T d h => tysB_ok tys tys_ok T d h, by simp [], by simp [], by simp [], ptrs_ok Tryz.prog [] (by kernel_rfl)⟩ (by kernel_rfl) Tryz.func79 rfl (by kernel_rfl) run_F_ref06_Xor
noncomputable def F_ref06_Sum (b_1 : (List Int)) : Option Int :=
 let t9_2 := (IntKind.wrap .i64 ((8 : Int) * (b_1.length : Int)))
 let t10_3 := (IntKind.wrap .i64 (t9_2 + (16 : Int)))
 Option.bind (
  loopO (X := Int) (fun (s_4 : (Int × Int)) =>
   let i_5 := s_4.1
   let rest_6 := s_4.2
   (bif (decide (i_5 < t10_3)) then
    let t19_7 := (IntKind.wrap .i64 ((8 : Int) * (b_1.length : Int)))
    Option.bind (
     (bif (decide (i_5 < t19_7)) then
      let t23_8 := (IntKind.wrap .i64 (i_5.tdiv (8 : Int)))
      chk none ((decide ((0 : Int) ≤ t23_8)) && (decide (t23_8 < (b_1.length : Int)))) <|
      let t25_9 := (b_1.getD t23_8.toNat (0 : Int))
      let t28_10 := (IntKind.wrap .i64 ((7 : Int) - (i_5.tmod (8 : Int))))
      let t29_11 := (IntKind.wrap .u64 t28_10)
      chk none (decide ((0 : Int) ≤ t29_11)) <|
      let t30_12 := (t25_9.fdiv (2 ^ (min t29_11.toNat 8)))
      let t31_13 := (IntKind.wrap .i64 t30_12)
      some (t31_13.tmod (2 : Int))
     else
      some (0 : Int))) fun r_14 =>
    let t34_15 := (decide (i_5 < (16 : Int)))
    Option.bind (
     (bif t34_15 then
      let t36_16 := (IntKind.wrap .i64 ((1 : Int) - r_14))
      some t36_16
     else
      some r_14)) fun r_17 =>
    let t38_18 := (IntKind.wrap .i64 ((2 : Int) * rest_6))
    let t40_19 := (IntKind.wrap .i64 (t38_18 + r_17))
    let t42_20 := (decide ((65536 : Int) ≤ t40_19))
    Option.bind (
     (bif t42_20 then
      let t44_21 := (IntKind.wrap .i64 (t40_19 - (65536 : Int)))
      (F_ref06_Xor t44_21 (4129 : Int)).bind fun t46_22 =>
      some t46_22
     else
      some t40_19)) fun r_23 =>
    let t15_24 := (IntKind.wrap .i64 (i_5 + (1 : Int)))
    some (.inl (t15_24, r_23))
   else
    some (.inr rest_6))) ((0 : Int), (0 : Int))) fun r_25 =>
 some r_25
noncomputable def con_F_ref06_Sum : Con := { f := 58, ps := [.dat (.slice (.int .u8))], boxes := [], ins := (.slice (.int .u8)), nin := 1, outs := (.int .i64), rs := [dI], nout := 1, F := fun x => F_ref06_Sum x }
def hint_F_ref06_Sum : Hint := (.mk .plain [H0, (.mk .plain [H0, (.mk .plain [H0, (.mk .plain [(.mk .plain [H0, (.mk .plain [(.mk (.loop [⟨.slot 5, (.int .i64), none⟩, ⟨.slot 4, (.int .i64), none⟩] [(0, 30), (0, 36), (0, 42), (0, 39), (0, 45), (0, 14), (0, 11), (0, 17), (0, 23), (0, 20), (0, 26), (0, 29), (0, 35), (0, 32), (0, 38), (0, 41), (0, 44), (0, 16), (0, 13), (0, 19), (0, 22), (0, 28), (0, 25), (0, 31), (0, 34), (0, 40), (0, 37), (0, 43), (0, 46), (0, 6), (0, 12), (0, 15), (0, 21), (0, 18), (0, 24), (0, 27), (0, 33)] [(.exit 0, [⟨.slot 4, (.int .i64), none⟩])]) [(.mk .plain [H0, (.mk .plain [(.mk .plain [(.mk .plain [H0, (.mk .plain [(.mk .plain [H0, (.mk (.join [(0, 23), (0, 30), (0, 26), (0, 29), (0, 32), (0, 22), (0, 28), (0, 25), (0, 31), (0, 21), (0, 24), (0, 27)] [(.normal, [⟨.slot 6, (.int .i64), none⟩])]) [])]), (.mk .plain [(.mk .plain [H0, (.mk (.join [(0, 35), (0, 36)] [(.normal, [⟨.slot 6, (.int .i64), none⟩])]) [])]), (.mk .plain [H0, (.mk .plain [H0, (.mk (.join [(0, 46), (0, 44), (0, 45), (0, 43)] [(.normal, [⟨.slot 4, (.int .i64), none⟩])]) [])])])])])])])])])])])])])])])])
theorem run_F_ref06_Sum : runE ⟨tdGet tys, [con_F_ref06_Xor], [], [], []⟩ con_F_ref06_Sum Tryz.f58 hint_F_ref06_Sum = con_F_ref06_Sum.F := by
 funext x
 kernel_rfl
theorem ok_F_ref06_Sum : ConOK Tryz.prog con_F_ref06_Sum :=
 con_of_run (Γ := ⟨tdGet tys, [con_F_ref06_Xor], [], [], []⟩) ⟨fun T d h => tysB_ok tys tys_ok T d h, by simp [ok_F_ref06_Xor], by simp [], by simp [], ptrs_ok Tryz.prog [] (by kernel_rfl)⟩ (by kernel_rfl) Tryz.func58 rfl (by kernel_rfl) run_F_ref06_Sum
noncomputable def F_ref07_Get (b_1 : (List Int)) : Option Yd626 :=
 let t9_2 := (decide ((b_1.length : Int) < (5 : Int)))
 (bif t9_2 then
  let t10_3 : (Int × (Int × Int)) := ((0 : Int), ((0 : Int), (0 : Int)))
  some (t10_3, (14 : Int))
 else
  chk none (true && (decide ((0 : Int) < (b_1.length : Int)))) <|
  let t13_4 := (b_1.getD (0 : Int).toNat (0 : Int))
  let t14_5 := (IntKind.wrap .i64 t13_4)
  (F_ref07_Size t14_5).bind fun t15_6 =>
  (bif (t15_6 == (0 : Int)) then
   let t18_7 : (Int × (Int × Int)) := ((0 : Int), ((0 : Int), (0 : Int)))
   some (t18_7, (30 : Int))
  else
   chk none (true && (decide ((2 : Int) < (b_1.length : Int)))) <|
   let t21_8 := (b_1.getD (2 : Int).toNat (0 : Int))
   let t22_9 := (IntKind.wrap .i64 t21_8)
   let t29_10 := (IntKind.wrap .i64 ((5 : Int) + t15_6))
   let t30_11 := ((b_1.length : Int) != t29_10)
   let t31_12 := (bif (t22_9 != t15_6) then true else t30_11)
   (bif t31_12 then
    let t32_13 : (Int × (Int × Int)) := ((0 : Int), ((0 : Int), (0 : Int)))
    some (t32_13, (11 : Int))
   else
    let t35_14 := (IntKind.wrap .i64 ((3 : Int) + t15_6))
    chk none (true && (decide ((0 : Int) ≤ t35_14)) && (decide (t35_14 ≤ (b_1.length : Int)))) <|
    let t36_15 : (List Int) := ((b_1.take t35_14.toNat).drop (0 : Int).toNat)
    (F_ref06_Sum t36_15).bind fun t37_16 =>
    let t40_17 := (IntKind.wrap .i64 ((3 : Int) + t15_6))
    chk none ((decide ((0 : Int) ≤ t40_17)) && (decide (t40_17 < (b_1.length : Int)))) <|
    let t42_18 := (b_1.getD t40_17.toNat (0 : Int))
    let t43_19 := (IntKind.wrap .i64 t42_18)
    let t44_20 := (IntKind.wrap .i64 (t43_19 * (256 : Int)))
    let t47_21 := (IntKind.wrap .i64 ((4 : Int) + t15_6))
    chk none ((decide ((0 : Int) ≤ t47_21)) && (decide (t47_21 < (b_1.length : Int)))) <|
    let t49_22 := (b_1.getD t47_21.toNat (0 : Int))
    let t50_23 := (IntKind.wrap .i64 t49_22)
    let t51_24 := (IntKind.wrap .i64 (t44_20 + t50_23))
    (bif (t37_16 != t51_24) then
     let t53_25 : (Int × (Int × Int)) := ((0 : Int), ((0 : Int), (0 : Int)))
     some (t53_25, (31 : Int))
    else
     Option.bind (
      loopO (X := Int) (fun (s_26 : (Int × Int)) =>
       let v_27 := s_26.1
       let i_28 := s_26.2
       let t56_29 := (IntKind.wrap .i64 ((3 : Int) + t15_6))
       (bif (decide (i_28 < t56_29)) then
        let t61_30 := (IntKind.wrap .i64 ((256 : Int) * v_27))
        chk none ((decide ((0 : Int) ≤ i_28)) && (decide (i_28 < (b_1.length : Int)))) <|
        let t65_31 := (b_1.getD i_28.toNat (0 : Int))
        let t66_32 := (IntKind.wrap .i64 t65_31)
        let t67_33 := (IntKind.wrap .i64 (t61_30 + t66_32))
        let t59_34 := (IntKind.wrap .i64 (i_28 + (1 : Int)))
        some (.inl (t67_33, t59_34))
       else
        some (.inr v_27))) ((0 : Int), (3 : Int))) fun r_35 =>
     let t72_36 := (decide ((2147483648 : Int) ≤ r_35))
     let t73_37 := (bif (t15_6 == (4 : Int)) then t72_36 else false)
     Option.bind (
      (bif t73_37 then
       let t75_38 := (IntKind.wrap .i64 (r_35 - (4294967296 : Int)))
       some t75_38
      else
       some r_35)) fun r_39 =>
     chk none (true && (decide ((0 : Int) < (b_1.length : Int)))) <|
     let t78_40 := (b_1.getD (0 : Int).toNat (0 : Int))
     let t79_41 := (IntKind.wrap .i64 t78_40)
     chk none (true && (decide ((1 : Int) < (b_1.length : Int)))) <|
     let t82_42 := (b_1.getD (1 : Int).toNat (0 : Int))
     let t83_43 := (IntKind.wrap .i64 t82_42)
     let w_44 : (Int × (Int × Int)) := (t79_41, (t83_43, r_39))
     some (w_44, (0 : Int))))))
noncomputable def con_F_ref07_Get : Con := { f := 41, ps := [.dat (.slice (.int .u8))], boxes := [], ins := (.slice (.int .u8)), nin := 1, outs := Yt626, rs := [.dat (.agg (.pair (.int .i64) (.pair (.int .i64) (.int .i64)))), dI], nout := 2, F := fun x => F_ref07_Get x }
def hint_F_ref07_Get : Hint := (.mk .plain [H0, (.mk .plain [H0, (.mk .plain [H0, (.mk .plain [H0, (.mk .plain [H0, (.mk .plain [H0, (.mk .plain [H0, (.mk .plain [(.mk .plain [H0, (.mk .plain [(.mk (.loop [⟨.slot 5, (.int .i64), none⟩, ⟨.slot 6, (.int .i64), none⟩] [(0, 65), (0, 54), (0, 57), (0, 60), (0, 66), (0, 63), (0, 55), (0, 61), (0, 58), (0, 64), (0, 67), (0, 59), (0, 56), (0, 62)] [(.exit 0, [⟨.slot 5, (.int .i64), none⟩])]) [])])]), (.mk .plain [(.mk .plain [H0, (.mk (.join [(0, 74), (0, 75)] [(.normal, [⟨.slot 5, (.int .i64), none⟩])]) [])])])])])])])])])])])
theorem run_F_ref07_Get : runE ⟨tdGet tys, [con_F_ref07_Size, con_F_ref06_Sum], [], [], []⟩ con_F_ref07_Get Tryz.f41 hint_F_ref07_Get = con_F_ref07_Get.F := by
 funext x
 kernel_rfl
theorem ok_F_ref07_Get : ConOK Tryz.prog con_F_ref07_Get :=
 con_of_run (Γ := ⟨tdGet tys, [con_F_ref07_Size, con_F_ref06_Sum], [], [], []⟩) ⟨fun T d h => tysB_ok tys tys_ok T d h, by simp [ok_F_ref07_Size, ok_F_ref06_Sum], by simp [], by simp [], ptrs_ok Tryz.prog [] (by kernel_rfl)⟩ (by kernel_rfl) Tryz.func41 rfl (by kernel_rfl) run_F_ref07_Get
noncomputable def F_ref28_junk (s_1 : Yd610) : Option Bool :=
 Option.bind (α := Bool ⊕ Unit) (
  loopO (X := Bool ⊕ Unit) (fun (s_2 : Int) =>
   let t10_3 := (s_1.2.2.2.2.2.1.length : Int)
   (bif (decide (s_2 < t10_3)) then
    chk none ((decide ((0 : Int) ≤ s_2)) && (decide (s_2 < (s_1.2.2.2.2.2.1.length : Int)))) <|
    let e_4 : Yd111 := (s_1.2.2.2.2.2.1.getD s_2.toNat ((0 : Int), (((0 : Int), (0 : Int)), ((0 : Int), ((0 : Int), (((0 : Int), ((0 : Int), ((0 : Int), (0 : Int)))), ([], (0 : Int))))))))
    let t20_5 := (e_4.2.2.2.2.2.1.length : Int)
    let t21_6 := (decide ((27 : Int) < t20_5))
    (bif t21_6 then
     some (.inr (.inl false))
    else
     Option.bind (α := Bool ⊕ Unit) (
      loopO (X := Bool ⊕ Unit) (fun (s_7 : Int) =>
       chk none ((decide ((0 : Int) ≤ s_2)) && (decide (s_2 < (s_1.2.2.2.2.2.1.length : Int)))) <|
       let e_8 : Yd111 := (s_1.2.2.2.2.2.1.getD s_2.toNat ((0 : Int), (((0 : Int), (0 : Int)), ((0 : Int), ((0 : Int), (((0 : Int), ((0 : Int), ((0 : Int), (0 : Int)))), ([], (0 : Int))))))))
       let t29_9 := (e_8.2.2.2.2.2.1.length : Int)
       (bif (decide (s_7 < t29_9)) then
        chk none ((decide ((0 : Int) ≤ s_2)) && (decide (s_2 < (s_1.2.2.2.2.2.1.length : Int)))) <|
        let e_10 : Yd111 := (s_1.2.2.2.2.2.1.getD s_2.toNat ((0 : Int), (((0 : Int), (0 : Int)), ((0 : Int), ((0 : Int), (((0 : Int), ((0 : Int), ((0 : Int), (0 : Int)))), ([], (0 : Int))))))))
        chk none ((decide ((0 : Int) ≤ s_7)) && (decide (s_7 < (e_10.2.2.2.2.2.1.length : Int)))) <|
        let t42_11 : (List Int) := (e_10.2.2.2.2.2.1.getD s_7.toNat [])
        (F_ref07_Get t42_11).bind fun t43_12 =>
        let t53_13 := (t43_12.1.2.1 == (s_2.tmod (256 : Int)))
        let t54_14 := (bif (t43_12.2 == (0 : Int)) then t53_13 else false)
        (bif t54_14 then
         some (.inr (.inl false))
        else
         let t32_15 := (IntKind.wrap .i64 (s_7 + (1 : Int)))
         some (.inl t32_15))
       else
        some (.inr (.inr ())))) (0 : Int)) fun z => match z with
     | .inl r_16 =>
      some (.inr (.inl r_16))
     | .inr _ =>
      let t13_17 := (IntKind.wrap .i64 (s_2 + (1 : Int)))
      some (.inl t13_17))
   else
    some (.inr (.inr ())))) (0 : Int)) fun z => match z with
 | .inl r_18 =>
  some r_18
 | .inr _ =>
  some true
noncomputable def con_F_ref28_junk : Con := { f := 22, ps := [.dat (.agg Yt610)], boxes := [], ins := (.agg Yt610), nin := 1, outs := .bool, rs := [.dat .bool], nout := 1, F := fun x => F_ref28_junk x }
def hint_F_ref28_junk : Hint := (.mk .plain [H0, (.mk .plain [(.mk .plain [H0, (.mk .plain [(.mk (.loop [⟨.slot 3, (.int .i64), none⟩] [(0, 7), (0, 20), (0, 10), (0, 16), (0, 19), (0, 9), (0, 2), (0, 15), (0, 21), (0, 18), (0, 8), (0, 14), (0, 11), (0, 17), (0, 30), (0, 36), (0, 42), (0, 39), (0, 45), (0, 48), (0, 54), (0, 51), (0, 5), (0, 23), (0, 26), (0, 29), (0, 35), (0, 32), (0, 38), (0, 41), (0, 47), (0, 44), (0, 50), (0, 53), (0, 4), (0, 22), (0, 28), (0, 25), (0, 31), (0, 34), (0, 40), (0, 37), (0, 43), (0, 46), (0, 52), (0, 49), (0, 6), (0, 24), (0, 27), (0, 33), (0, 13), (0, 12)] [(.ret, [⟨.slot 2, .bool, none⟩]), (.exit 0, [])]) [(.mk .plain [H0, (.mk .plain [(.mk .plain [(.mk .plain [H0, (.mk .plain [H0, (.mk .plain [(.mk (.loop [⟨.slot 4, (.int .i64), none⟩] [(0, 30), (0, 36), (0, 42), (0, 39), (0, 45), (0, 48), (0, 54), (0, 22), (0, 51), (0, 28), (0, 2), (0, 25), (0, 5), (0, 34), (0, 40), (0, 37), (0, 43), (0, 46), (0, 52), (0, 23), (0, 49), (0, 26), (0, 29), (0, 35), (0, 38), (0, 6), (0, 41), (0, 47), (0, 44), (0, 50), (0, 24), (0, 53), (0, 27), (0, 33), (0, 32), (0, 31)] [(.ret, [⟨.slot 2, .bool, none⟩]), (.exit 2, [])]) [])])])])])])])])])])])])
theorem run_F_ref28_junk : runE ⟨tdGet tys, [con_F_ref07_Get], [], [], []⟩ con_F_ref28_junk Tryz.f22 hint_F_ref28_junk = con_F_ref28_junk.F := by
 funext x
 kernel_rfl
theorem ok_F_ref28_junk : ConOK Tryz.prog con_F_ref28_junk :=
 con_of_run (Γ := ⟨tdGet tys, [con_F_ref07_Get], [], [], []⟩) ⟨fun T d h => tysB_ok tys tys_ok T d h, by simp [ok_F_ref07_Get], by simp [], by simp [], ptrs_ok Tryz.prog [] (by kernel_rfl)⟩ (by kernel_rfl) Tryz.func22 rfl (by kernel_rfl) run_F_ref28_junk
noncomputable def F_ref28_Check (c_1 : Yd460) (t_2 : Yd467) (s_3 : Yd610) : Option Int :=
 (F_ref13_Fits c_1 t_2).bind fun t14_4 =>
 (bif (t14_4.1 != (0 : Int)) then
  some (1 : Int)
 else
  (F_ref28_route t_2 s_3.1).bind fun t22_5 =>
  (bif (!t22_5) then
   some (2 : Int)
  else
   (F_ref28_on t_2 s_3).bind fun t26_6 =>
   (bif (!t26_6) then
    some (3 : Int)
   else
    (F_ref28_speeds c_1 s_3).bind fun t30_7 =>
    (bif (!t30_7) then
     some (4 : Int)
    else
     (F_ref28_numbers c_1 s_3).bind fun t34_8 =>
     (bif (t34_8 != (0 : Int)) then
      some t34_8
     else
      Option.bind (α := Int ⊕ Unit) (
       loopO (X := Int ⊕ Unit) (fun (s_9 : Int) =>
        let t41_10 := (s_3.2.2.2.2.2.1.length : Int)
        (bif (decide (s_9 < t41_10)) then
         (F_ref28_sensors c_1 s_3 s_9).bind fun t48_11 =>
         (bif (!t48_11) then
          some (.inr (.inl (7 : Int)))
         else
          let t44_12 := (IntKind.wrap .i64 (s_9 + (1 : Int)))
          some (.inl t44_12))
        else
         some (.inr (.inr ())))) (0 : Int)) fun z => match z with
      | .inl r_13 =>
       some r_13
      | .inr _ =>
       (F_ref28_reads c_1 t_2 s_3).bind fun t53_14 =>
       (bif (!t53_14) then
        some (8 : Int)
       else
        (F_ref28_junk s_3).bind fun t56_15 =>
        (bif (!t56_15) then
         some (9 : Int)
        else
         some (0 : Int))))))))
noncomputable def con_F_ref28_Check : Con := { f := 8, ps := [.dat (.agg Yt460), .dat (.agg Yt467), .dat (.agg Yt610)], boxes := [], ins := Yt625, nin := 3, outs := (.int .i64), rs := [dI], nout := 1, F := fun x => F_ref28_Check x.1 x.2.1 x.2.2 }
def hint_F_ref28_Check : Hint := (.mk .plain [H0, (.mk .plain [H0, (.mk .plain [H0, (.mk .plain [H0, (.mk .plain [H0, (.mk .plain [H0, (.mk .plain [H0, (.mk .plain [(.mk .plain [H0, (.mk .plain [(.mk (.loop [⟨.slot 10, (.int .i64), none⟩] [(0, 46), (0, 42), (0, 49), (0, 39), (0, 45), (0, 48), (0, 38), (0, 6), (0, 41), (0, 47), (0, 40), (0, 44), (0, 43)] [(.ret, [⟨.slot 6, (.int .i64), none⟩]), (.exit 0, [])]) [])])])])])])])])])])])
theorem run_F_ref28_Check : runE ⟨tdGet tys, [con_F_ref13_Fits, con_F_ref28_route, con_F_ref28_on, con_F_ref28_speeds, con_F_ref28_numbers, con_F_ref28_sensors, con_F_ref28_reads, con_F_ref28_junk], [], [], []⟩ con_F_ref28_Check Tryz.f8 hint_F_ref28_Check = con_F_ref28_Check.F := by
 funext x
 kernel_rfl
theorem ok_F_ref28_Check : ConOK Tryz.prog con_F_ref28_Check :=
 con_of_run (Γ := ⟨tdGet tys, [con_F_ref13_Fits, con_F_ref28_route, con_F_ref28_on, con_F_ref28_speeds, con_F_ref28_numbers, con_F_ref28_sensors, con_F_ref28_reads, con_F_ref28_junk], [], [], []⟩) ⟨fun T d h => tysB_ok tys tys_ok T d h, by simp [ok_F_ref13_Fits, ok_F_ref28_route, ok_F_ref28_on, ok_F_ref28_speeds, ok_F_ref28_numbers, ok_F_ref28_sensors, ok_F_ref28_reads, ok_F_ref28_junk], by simp [], by simp [], ptrs_ok Tryz.prog [] (by kernel_rfl)⟩ (by kernel_rfl) Tryz.func8 rfl (by kernel_rfl) run_F_ref28_Check
noncomputable def F_law29_MakeAdmits (c_1 : Yd460) (t_2 : Yd467) (seed_3 : Int) (n_4 : Int) : Option Bool :=
 (F_law29_anchor ()).bind fun t15_5 =>
 (bif (!t15_5) then
  some false
 else
  let t20_6 := (decide ((50 : Int) < (t_2.1.length : Int)))
  let t25_7 := (decide ((100 : Int) < (t_2.2.length : Int)))
  let t26_8 := (bif t20_6 then true else t25_7)
  let t29_9 := (decide ((100 : Int) < n_4))
  let t32_10 := (decide (n_4 ≤ (4096 : Int)))
  let t33_11 := (bif t29_9 then t32_10 else false)
  let t34_12 := (bif t26_8 then true else t33_11)
  (bif t34_12 then
   some true
  else
   Option.bind (α := Bool ⊕ Unit) (
    loopO (X := Bool ⊕ Unit) (fun (s_13 : Int) =>
     let t39_14 := (decide (s_13 < (t_2.1.length : Int)))
     (bif t39_14 then
      chk none ((decide ((0 : Int) ≤ s_13)) && (decide (s_13 < (t_2.1.length : Int)))) <|
      let t41_15 : Yd1 := (t_2.1.getD s_13.toNat ((0 : Int), ([], [])))
      let t44_16 := (t41_15.2.1.length : Int)
      let t45_17 := (decide ((100 : Int) < t44_16))
      let t49_18 := (t41_15.2.2.length : Int)
      let t50_19 := (decide ((3 : Int) < t49_18))
      let t51_20 := (bif t45_17 then true else t50_19)
      (bif t51_20 then
       some (.inr (.inl true))
      else
       let t52_21 := (IntKind.wrap .i64 (s_13 + (1 : Int)))
       some (.inl t52_21))
     else
      some (.inr (.inr ())))) (0 : Int)) fun z => match z with
   | .inl r_22 =>
    some r_22
   | .inr _ =>
    (F_make_Make c_1 t_2 seed_3 n_4).bind fun t58_23 =>
    (F_law29_refs t_2).bind fun t64_24 =>
    (F_ref13_Fits c_1 t64_24).bind fun t65_25 =>
    let t72_26 := (decide (n_4 < (0 : Int)))
    let t73_27 := (bif (t65_25.1 != (0 : Int)) then true else t72_26)
    let t76_28 := (decide ((4096 : Int) < n_4))
    let t77_29 := (bif t73_27 then true else t76_28)
    (bif t77_29 then
     let t83_30 := (t58_23.1.2.2.2.2.2.1.length : Int)
     let t85_31 := (bif (!t58_23.2) then (t83_30 == (0 : Int)) else false)
     let t89_32 := (t58_23.1.1.length : Int)
     let t91_33 := (bif t85_31 then (t89_32 == (0 : Int)) else false)
     let t95_34 := (t58_23.1.2.2.2.2.2.2.length : Int)
     let t97_35 := (bif t91_33 then (t95_34 == (0 : Int)) else false)
     some t97_35
    else
     let t102_36 := (t58_23.1.2.2.2.2.2.1.length : Int)
     let t105_37 := (bif t58_23.2 then (t102_36 == n_4) else false)
     (bif t105_37 then F_law29_refs t_2 else some ([], [])).bind fun t109_38 =>
     (bif t105_37 then F_law29_ref t58_23.1 else some ([], ((0 : Int), ((0 : Int), (((0 : Int), (0 : Int)), (((0 : Int), (0 : Int)), ([], []))))))).bind fun t111_39 =>
     (bif t105_37 then F_ref28_Check c_1 t109_38 t111_39 else some (0 : Int)).bind fun t112_40 =>
     let t114_41 := (bif t105_37 then (t112_40 == (0 : Int)) else false)
     some t114_41)))
noncomputable def con_F_law29_MakeAdmits : Con := { f := 3, ps := [.dat (.agg Yt460), .dat (.agg Yt467), .dat (.int .u64), dI], boxes := [], ins := Yt601, nin := 4, outs := .bool, rs := [.dat .bool], nout := 1, F := fun x => F_law29_MakeAdmits x.1 x.2.1 x.2.2.1 x.2.2.2 }
def hint_F_law29_MakeAdmits : Hint := (.mk .plain [H0, (.mk .plain [H0, (.mk .plain [H0, (.mk .plain [(.mk .plain [H0, (.mk .plain [(.mk (.loop [⟨.slot 38, (.int .i64), none⟩] [(0, 42), (0, 10), (0, 39), (0, 45), (0, 48), (0, 51), (0, 40), (0, 8), (0, 43), (0, 46), (0, 49), (0, 41), (0, 47), (0, 44), (0, 50), (0, 52)] [(.ret, [⟨.slot 8, .bool, none⟩]), (.exit 0, [])]) [])])])])])])])
theorem run_F_law29_MakeAdmits : runE ⟨tdGet tys, [con_F_law29_anchor, con_F_make_Make, con_F_law29_refs, con_F_ref13_Fits, con_F_law29_ref, con_F_ref28_Check], [], [], []⟩ con_F_law29_MakeAdmits Tryz.f3 hint_F_law29_MakeAdmits = con_F_law29_MakeAdmits.F := by
 funext x
 kernel_rfl
theorem ok_F_law29_MakeAdmits : ConOK Tryz.prog con_F_law29_MakeAdmits :=
 con_of_run (Γ := ⟨tdGet tys, [con_F_law29_anchor, con_F_make_Make, con_F_law29_refs, con_F_ref13_Fits, con_F_law29_ref, con_F_ref28_Check], [], [], []⟩) ⟨fun T d h => tysB_ok tys tys_ok T d h, by simp [ok_F_law29_anchor, ok_F_make_Make, ok_F_law29_refs, ok_F_ref13_Fits, ok_F_law29_ref, ok_F_ref28_Check], by simp [], by simp [], ptrs_ok Tryz.prog [] (by kernel_rfl)⟩ (by kernel_rfl) Tryz.func3 rfl (by kernel_rfl) run_F_law29_MakeAdmits
noncomputable def F_admit_within (x_1 : Int) (far_2 : Int) : Option Bool :=
 let t7_3 := (IntKind.wrap .i64 (0 - far_2))
 let t13_4 := (bif (decide (t7_3 ≤ x_1)) then (decide (x_1 ≤ far_2)) else false)
 some t13_4
noncomputable def F_crc_more (sum_1 : Int) (b_2 : Int) : Option Int :=
 let t8_3 := (IntKind.wrap .u16 ((IntKind.wrap .u16 b_2) * 2 ^ 8))
 let t9_4 := (bits .u16 .xor sum_1 t8_3)
 Option.bind (
  loopO (X := Int) (fun (s_5 : (Int × Int)) =>
   let t10_6 := s_5.1
   let sum_7 := s_5.2
   let t11_8 := (decide (t10_6 < (8 : Int)))
   (bif t11_8 then
    let t13_9 := (bits .u16 .and sum_7 (32768 : Int))
    Option.bind (
     (bif (t13_9 != (0 : Int)) then
      let t16_10 := (IntKind.wrap .u16 (sum_7 * 2 ^ 1))
      let t17_11 := (bits .u16 .xor t16_10 (4129 : Int))
      some t17_11
     else
      let t19_12 := (IntKind.wrap .u16 (sum_7 * 2 ^ 1))
      some t19_12)) fun r_13 =>
    let t20_14 := (IntKind.wrap .i64 (t10_6 + (1 : Int)))
    some (.inl (t20_14, r_13))
   else
    some (.inr sum_7))) ((0 : Int), t9_4)) fun r_15 =>
 some r_15
noncomputable def F_crc_Go (sum_1 : Int) (b_2 : (List Int)) : Option Int :=
 Option.bind (
  loopO (X := Int) (fun (s_3 : (Int × Int)) =>
   let sum_4 := s_3.1
   let t9_5 := s_3.2
   let t10_6 := (decide (t9_5 < (b_2.length : Int)))
   (bif t10_6 then
    chk none ((decide ((0 : Int) ≤ t9_5)) && (decide (t9_5 < (b_2.length : Int)))) <|
    let t12_7 := (b_2.getD t9_5.toNat (0 : Int))
    (F_crc_more sum_4 t12_7).bind fun t15_8 =>
    let t16_9 := (IntKind.wrap .i64 (t9_5 + (1 : Int)))
    some (.inl (t15_8, t16_9))
   else
    some (.inr sum_4))) (sum_1, (0 : Int))) fun r_10 =>
 some r_10
noncomputable def F_crc_Sum (b_1 : (List Int)) : Option Int :=
 (F_crc_Go (65535 : Int) b_1).bind fun t4_2 =>
 some t4_2
noncomputable def F_frame_size (kind_1 : Int) : Option Int :=
 Option.bind (
  (bif (kind_1 == (1 : Int)) then
   some (kind_1 == (1 : Int))
  else
   Option.bind (
    (bif (kind_1 == (2 : Int)) then
     some (kind_1 == (2 : Int))
    else
     some (kind_1 == (5 : Int)))) fun r_2 =>
   some r_2)) fun r_3 =>
 (bif r_3 then
  some (2 : Int)
 else
  Option.bind (
   (bif (kind_1 == (3 : Int)) then
    some (kind_1 == (3 : Int))
   else
    some (kind_1 == (4 : Int)))) fun r_4 =>
  (bif r_4 then
   some (4 : Int)
  else
   some (0 : Int)))
noncomputable def F_frame_signed (kind_1 : Int) : Option Bool :=
 let t8_2 := (bif (kind_1 == (3 : Int)) then true else (kind_1 == (4 : Int)))
 some t8_2
noncomputable def F_frame_Get (b_1 : (List Int)) : Option ((Int × (Int × Int)) × Int) :=
 let t12_2 := (decide ((b_1.length : Int) < (5 : Int)))
 (bif t12_2 then
  let t13_3 : (Int × (Int × Int)) := ((0 : Int), ((0 : Int), (0 : Int)))
  some (t13_3, (14 : Int))
 else
  chk none (true && (decide ((0 : Int) < (b_1.length : Int)))) <|
  let t16_4 := (b_1.getD (0 : Int).toNat (0 : Int))
  let t17_5 := (IntKind.wrap .i64 t16_4)
  (F_frame_size t17_5).bind fun t19_6 =>
  (bif (t19_6 == (0 : Int)) then
   let t23_7 : (Int × (Int × Int)) := ((0 : Int), ((0 : Int), (0 : Int)))
   some (t23_7, (30 : Int))
  else
   chk none (true && (decide ((2 : Int) < (b_1.length : Int)))) <|
   let t27_8 := (b_1.getD (2 : Int).toNat (0 : Int))
   let t28_9 := (IntKind.wrap .i64 t27_8)
   let t35_10 := (IntKind.wrap .i64 ((3 : Int) + t19_6))
   let t36_11 := (IntKind.wrap .i64 (t35_10 + (2 : Int)))
   let t37_12 := ((b_1.length : Int) != t36_11)
   let t38_13 := (bif (t28_9 != t19_6) then true else t37_12)
   (bif t38_13 then
    let t39_14 : (Int × (Int × Int)) := ((0 : Int), ((0 : Int), (0 : Int)))
    some (t39_14, (11 : Int))
   else
    (F_crc_Sum b_1).bind fun t42_15 =>
    (bif (t42_15 != (0 : Int)) then
     let t44_16 : (Int × (Int × Int)) := ((0 : Int), ((0 : Int), (0 : Int)))
     some (t44_16, (31 : Int))
    else
     let t47_17 := (IntKind.wrap .i64 ((3 : Int) + t19_6))
     chk none (true && (decide ((3 : Int) ≤ t47_17)) && (decide (t47_17 ≤ (b_1.length : Int)))) <|
     let t48_18 : (List Int) := ((b_1.take t47_17.toNat).drop (3 : Int).toNat)
     Option.bind (
      loopO (X := Int) (fun (s_19 : (Int × Int)) =>
       let v_20 := s_19.1
       let t50_21 := s_19.2
       let t51_22 := (decide (t50_21 < (t48_18.length : Int)))
       (bif t51_22 then
        chk none ((decide ((0 : Int) ≤ t50_21)) && (decide (t50_21 < (t48_18.length : Int)))) <|
        let t53_23 := (t48_18.getD t50_21.toNat (0 : Int))
        let t55_24 := (IntKind.wrap .u32 (v_20 * 2 ^ 8))
        let t57_25 := (IntKind.wrap .u32 t53_23)
        let t58_26 := (bits .u32 .or t55_24 t57_25)
        let t59_27 := (IntKind.wrap .i64 (t50_21 + (1 : Int)))
        some (.inl (t58_26, t59_27))
       else
        some (.inr v_20))) ((0 : Int), (0 : Int))) fun r_28 =>
     chk none (true && (decide ((1 : Int) < (b_1.length : Int)))) <|
     let t63_29 := (b_1.getD (1 : Int).toNat (0 : Int))
     let t64_30 := (IntKind.wrap .i64 t63_29)
     let t67_31 : (Int × (Int × Int)) := (t17_5, (t64_30, (IntKind.wrap .i64 r_28)))
     (F_frame_signed t17_5).bind fun t69_32 =>
     Option.bind (
      (bif t69_32 then
       let t72_33 := (IntKind.wrap .i64 (IntKind.wrap .i32 r_28))
       some t72_33
      else
       some t67_31.2.2)) fun r_34 =>
     let t74_35 : (Int × (Int × Int)) := (t67_31.1, (t67_31.2.1, r_34))
     some (t74_35, (0 : Int))))))
noncomputable def F_cmp_isNaN_int (x_1 : Int) : Option Bool :=
 some (x_1 != x_1)
noncomputable def F_cmp_Compare_int (x_1 : Int) (y_2 : Int) : Option Int :=
 (F_cmp_isNaN_int x_1).bind fun t8_3 =>
 (F_cmp_isNaN_int y_2).bind fun t10_4 =>
 (bif t8_3 then
  (bif t10_4 then
   some (0 : Int)
  else
   some (-1 : Int))
 else
  (bif t10_4 then
   some (1 : Int)
  else
   (bif (decide (x_1 < y_2)) then
    some (-1 : Int)
   else
    (bif (decide (y_2 < x_1)) then
     some (1 : Int)
    else
     some (0 : Int)))))
noncomputable def F_track_Track_Find_1 (g_1 : (Int × (Int × (Int × (Int × Int))))) (id_2 : Int) : Option Int :=
 (F_cmp_Compare_int g_1.1 id_2).bind fun t8_3 =>
 some t8_3
noncomputable def F_slices_BinarySearchFunc_track_Group_track_Group_int (x_1 : (List (Int × (Int × (Int × (Int × Int)))))) (target_2 : Int) : Option (Int × Bool) :=
 Option.bind (
  loopO (X := Int) (fun (s_3 : (Int × Int)) =>
   let j_4 := s_3.1
   let i_5 := s_3.2
   (bif (decide (i_5 < j_4)) then
    let t20_6 := (IntKind.wrap .i64 (i_5 + j_4))
    let t21_7 := (IntKind.wrap .u64 t20_6)
    let t23_8 := (IntKind.wrap .i64 (t21_7.fdiv (2 ^ 1)))
    chk none ((decide ((0 : Int) ≤ t23_8)) && (decide (t23_8 < (x_1.length : Int)))) <|
    let t28_9 : (Int × (Int × (Int × (Int × Int)))) := (x_1.getD t23_8.toNat ((0 : Int), ((0 : Int), ((0 : Int), ((0 : Int), (0 : Int))))))
    (F_track_Track_Find_1 t28_9 target_2).bind fun t30_10 =>
    let t31_11 := (decide (t30_10 < (0 : Int)))
    Option.bind (
     (bif t31_11 then
      let t33_12 := (IntKind.wrap .i64 (t23_8 + (1 : Int)))
      some (t33_12, j_4)
     else
      some (i_5, t23_8))) fun r_13 =>
    let i_14 := r_13.1
    let j_15 := r_13.2
    some (.inl (j_15, i_14))
   else
    some (.inr i_5))) ((x_1.length : Int), (0 : Int))) fun r_16 =>
 let t38_17 := (decide (r_16 < (x_1.length : Int)))
 chk none (((decide ((0 : Int) ≤ r_16)) && (decide (r_16 < (x_1.length : Int)))) || !t38_17) <|
 let t44_18 : (Int × (Int × (Int × (Int × Int)))) := (x_1.getD r_16.toNat ((0 : Int), ((0 : Int), ((0 : Int), ((0 : Int), (0 : Int))))))
 (bif t38_17 then F_track_Track_Find_1 t44_18 target_2 else some (0 : Int)).bind fun t46_19 =>
 let t48_20 := (bif t38_17 then (t46_19 == (0 : Int)) else false)
 some (r_16, t48_20)
noncomputable def F_track_Track_Find (t_1 : ((List (Int × ((List (Int × Int)) × (List Int)))) × (List (Int × (Int × (Int × (Int × Int))))))) (id_2 : Int) : Option (Int × Bool) :=
 (F_slices_BinarySearchFunc_track_Group_track_Group_int t_1.2 id_2).bind fun t9_3 =>
 some (t9_3.1, t9_3.2)
noncomputable def F_world_Nominal (t_1 : ((List (Int × ((List (Int × Int)) × (List Int)))) × (List (Int × (Int × (Int × (Int × Int))))))) (s_2 : ((List Int) × (Int × (Int × ((Int × Int) × ((Int × Int) × ((List (Int × ((Int × Int) × (Int × (Int × ((Bool × (Bool × (Bool × Bool))) × ((List (List Int)) × Bool))))))) × (List (Int × (Int × (Int × Int))))))))))) (r_3 : (Int × (Int × (Int × Int)))) : Option (Int × Bool) :=
 (F_track_Track_Find t_1 r_3.2.2.1).bind fun t14_4 =>
 let t22_5 := (decide (r_3.2.1 < (0 : Int)))
 let t23_6 := (bif (!t14_4.2) then true else t22_5)
 let t30_7 := (decide ((s_2.1.length : Int) ≤ r_3.2.1))
 let t31_8 := (bif t23_6 then true else t30_7)
 chk none (((decide ((0 : Int) ≤ r_3.2.1)) && (decide (r_3.2.1 < (s_2.1.length : Int)))) || !(!t31_8)) <|
 let t38_9 := (s_2.1.getD r_3.2.1.toNat (0 : Int))
 chk none (((decide ((0 : Int) ≤ t14_4.1)) && (decide (t14_4.1 < (t_1.2.length : Int)))) || !(!t31_8)) <|
 let e_10 : (Int × (Int × (Int × (Int × Int)))) := (t_1.2.getD t14_4.1.toNat ((0 : Int), ((0 : Int), ((0 : Int), ((0 : Int), (0 : Int))))))
 let t46_11 := (bif t31_8 then true else (t38_9 != e_10.2.1))
 (bif t46_11 then
  some ((0 : Int), false)
 else
  (F_world_Start t_1 s_2.1 r_3.2.1).bind fun t52_12 =>
  chk none ((decide ((0 : Int) ≤ t14_4.1)) && (decide (t14_4.1 < (t_1.2.length : Int)))) <|
  let e_13 : (Int × (Int × (Int × (Int × Int)))) := (t_1.2.getD t14_4.1.toNat ((0 : Int), ((0 : Int), ((0 : Int), ((0 : Int), (0 : Int))))))
  let t59_14 := (IntKind.wrap .i64 (t52_12 + e_13.2.2.1))
  some (t59_14, true))
end Go.Proofs.YtlkcanjbgaeceaaGreat
