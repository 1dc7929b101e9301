/- The functional reading of the code (printed). -/
import Derived.Test.YtlkcanjbgaeceaaFnsE
set_option linter.unusedSimpArgs false
set_option linter.unusedVariables false
namespace Go.Proofs.Ytlkcanjbgaeceaa
open Go
/-- odograph/odographlaw29.MakeSame -/
noncomputable def F_law29_MakeSame (c_1 : Yd100) (t_2 : Yd107) (seed_3 : Int) (n_4 : Int) : Option Bool :=
  (F_law29_anchor ()).bind fun t18_5 =>
  (bif (!t18_5) then
    some false
  else
    let t23_6 : Bool := (decide ((50 : Int) < (t_2.1.length : Int)))
    let t28_7 : Bool := (decide ((100 : Int) < (t_2.2.length : Int)))
    let t29_8 : Bool := (bif t23_6 then true else t28_7)
    let t32_9 : Bool := (decide ((100 : Int) < n_4))
    let t35_10 : Bool := (decide (n_4 ≤ (4096 : Int)))
    let t36_11 : Bool := (bif t32_9 then t35_10 else false)
    let t37_12 : Bool := (bif t29_8 then true else t36_11)
    (bif t37_12 then
      some true
    else
      (F_make_Make c_1 t_2 seed_3 n_4).bind fun t43_13 =>
      (F_make_Make c_1 t_2 seed_3 n_4).bind fun t51_14 =>
      let t56_15 : Bool := (!(t43_13.2 == t51_14.2))
      let t60_16 : Int := (t43_13.1.2.2.2.2.2.1.length : Int)
      let t63_17 : Int := (t51_14.1.2.2.2.2.2.1.length : Int)
      let t65_18 : Bool := (bif t56_15 then true else (t60_16 != t63_17))
      let t69_19 : Int := (t43_13.1.2.2.2.2.2.2.length : Int)
      let t72_20 : Int := (t51_14.1.2.2.2.2.2.2.length : Int)
      let t74_21 : Bool := (bif t65_18 then true else (t69_19 != t72_20))
      let t78_22 : Int := (t43_13.1.1.length : Int)
      let t81_23 : Int := (t51_14.1.1.length : Int)
      let t83_24 : Bool := (bif t74_21 then true else (t78_22 != t81_23))
      let t89_25 : Bool := (t43_13.1.2.1 != t51_14.1.2.1)
      let t90_26 : Bool := (bif t83_24 then true else t89_25)
      let t96_27 : Bool := (!(eqT (.agg (.pair (.int .i64) (.int .i64))) t43_13.1.2.2.2.1 t51_14.1.2.2.2.1))
      let t97_28 : Bool := (bif t90_26 then true else t96_27)
      (bif t97_28 then
        some false
      else
        let t100_29 : Int := (t43_13.1.2.2.2.2.2.1.length : Int)
        Option.bind (α := Bool ⊕ Unit) (
          loopO (X := Bool ⊕ Unit) (fun (s_30 : Int) =>
            let t102_31 : Bool := (decide (s_30 < t100_29))
            (bif t102_31 then
              chk none ((decide ((0 : Int) ≤ s_30)) && (decide (s_30 < (t43_13.1.2.2.2.2.2.1.length : Int)))) <|
              let t105_32 : Yd19 := (t43_13.1.2.2.2.2.2.1.getD s_30.toNat ((0 : Int), (((0 : Int), (0 : Int)), ((0 : Int), ((0 : Int), ((false, (false, (false, false))), ([], false)))))))
              chk none ((decide ((0 : Int) ≤ s_30)) && (decide (s_30 < (t51_14.1.2.2.2.2.2.1.length : Int)))) <|
              let t110_33 : Yd19 := (t51_14.1.2.2.2.2.2.1.getD s_30.toNat ((0 : Int), (((0 : Int), (0 : Int)), ((0 : Int), ((0 : Int), ((false, (false, (false, false))), ([], false)))))))
              let t121_34 : Bool := (!(eqT (.agg (.pair (.int .i64) (.int .i64))) t105_32.2.1 t110_33.2.1))
              let t122_35 : Bool := (bif (t105_32.1 != t110_33.1) then true else t121_34)
              let t128_36 : Bool := (t105_32.2.2.1 != t110_33.2.2.1)
              let t129_37 : Bool := (bif t122_35 then true else t128_36)
              let t135_38 : Bool := (t105_32.2.2.2.1 != t110_33.2.2.2.1)
              let t136_39 : Bool := (bif t129_37 then true else t135_38)
              let t142_40 : Bool := (!(eqT (.agg Yt14) t105_32.2.2.2.2.1 t110_33.2.2.2.2.1))
              let t143_41 : Bool := (bif t136_39 then true else t142_40)
              let t149_42 : Bool := (!(t105_32.2.2.2.2.2.2 == t110_33.2.2.2.2.2.2))
              let t150_43 : Bool := (bif t143_41 then true else t149_42)
              let t154_44 : Int := (t105_32.2.2.2.2.2.1.length : Int)
              let t157_45 : Int := (t110_33.2.2.2.2.2.1.length : Int)
              let t159_46 : Bool := (bif t150_43 then true else (t154_44 != t157_45))
              (bif t159_46 then
                some (.inr (.inl false))
              else
                let t160_47 : Int := (IntKind.wrap .i64 (s_30 + (1 : Int)))
                some (.inl t160_47))
            else
              some (.inr (.inr ())))) (0 : Int)) fun z => match z with
        | .inl r_48 =>
          some r_48
        | .inr _ =>
          let t163_49 : Int := (t43_13.1.2.2.2.2.2.2.length : Int)
          Option.bind (α := Bool ⊕ Unit) (
            loopO (X := Bool ⊕ Unit) (fun (s_50 : Int) =>
              let t165_51 : Bool := (decide (s_50 < t163_49))
              (bif t165_51 then
                chk none ((decide ((0 : Int) ≤ s_50)) && (decide (s_50 < (t43_13.1.2.2.2.2.2.2.length : Int)))) <|
                let t168_52 : Yd12 := (t43_13.1.2.2.2.2.2.2.getD s_50.toNat ((0 : Int), ((0 : Int), ((0 : Int), (0 : Int)))))
                chk none ((decide ((0 : Int) ≤ s_50)) && (decide (s_50 < (t51_14.1.2.2.2.2.2.2.length : Int)))) <|
                let t174_53 : Yd12 := (t51_14.1.2.2.2.2.2.2.getD s_50.toNat ((0 : Int), ((0 : Int), ((0 : Int), (0 : Int)))))
                let t175_54 : Bool := (!(eqT (.agg Yt12) t168_52 t174_53))
                (bif t175_54 then
                  some (.inr (.inl false))
                else
                  let t176_55 : Int := (IntKind.wrap .i64 (s_50 + (1 : Int)))
                  some (.inl t176_55))
              else
                some (.inr (.inr ())))) (0 : Int)) fun z => match z with
          | .inl r_56 =>
            some r_56
          | .inr _ =>
            some true)))
noncomputable def con_F_law29_MakeSame : Con := { f := 3, ps := [.dat (.agg Yt100), .dat (.agg Yt107), .dat (.int .u64), .dat (.int .i64)], boxes := [], ins := Yt241, nin := 4, outs := .bool, rs := [.dat .bool], nout := 1, F := fun x => F_law29_MakeSame x.1 x.2.1 x.2.2.1 x.2.2.2 }
def hint_F_law29_MakeSame : Hint := (.mk .plain [H0, (.mk .plain [H0, (.mk .plain [H0, (.mk .plain [H0, (.mk .plain [H0, (.mk .plain [H0, (.mk .plain [(.mk .plain [H0, (.mk .plain [(.mk (.loop [⟨.slot 101, (.int .i64), none⟩] [(0, 158), (0, 155), (0, 109), (0, 118), (0, 115), (0, 124), (0, 14), (0, 133), (0, 142), (0, 139), (0, 151), (0, 148), (0, 157), (0, 102), (0, 111), (0, 108), (0, 117), (0, 126), (0, 135), (0, 13), (0, 144), (0, 141), (0, 150), (0, 159), (0, 104), (0, 113), (0, 110), (0, 119), (0, 128), (0, 137), (0, 15), (0, 134), (0, 143), (0, 152), (0, 106), (0, 103), (0, 112), (0, 121), (0, 130), (0, 8), (0, 127), (0, 136), (0, 145), (0, 154), (0, 105), (0, 114), (0, 123), (0, 120), (0, 132), (0, 129), (0, 138), (0, 147), (0, 156), (0, 153), (0, 107), (0, 116), (0, 125), (0, 122), (0, 131), (0, 140), (0, 149), (0, 146), (0, 160)] [(.ret, [⟨.slot 8, .bool, none⟩]), (.exit 0, [])]) [])])]), (.mk .plain [(.mk .plain [H0, (.mk .plain [(.mk (.loop [⟨.slot 164, (.int .i64), none⟩] [(0, 16), (0, 170), (0, 167), (0, 173), (0, 8), (0, 168), (0, 17), (0, 165), (0, 171), (0, 174), (0, 175), (0, 166), (0, 169), (0, 172), (0, 176)] [(.ret, [⟨.slot 8, .bool, none⟩]), (.exit 2, [])]) [])])])])])])])])])])])
theorem run_F_law29_MakeSame : runE ⟨tdGet tys, [con_F_law29_anchor, con_F_make_Make], [], [], []⟩ con_F_law29_MakeSame Try.f3 hint_F_law29_MakeSame = con_F_law29_MakeSame.F := by
  funext x
  kernel_rfl
theorem ok_F_law29_MakeSame : ConOK Try.prog con_F_law29_MakeSame :=
  con_of_run (Γ := ⟨tdGet tys, [con_F_law29_anchor, con_F_make_Make], [], [], []⟩) ⟨fun T d h => tysB_ok tys tys_ok T d h, by simp [ok_F_law29_anchor, ok_F_make_Make], by simp [], by simp [], ptrs_ok Try.prog [] (by kernel_rfl)⟩ (by kernel_rfl) Try.func3 rfl (by kernel_rfl) run_F_law29_MakeSame
/-! Plain definitions beside the readings: what the judge of scripts asks (pseudo: no promise is made of them). -/
/-- odograph/admit.within -/
noncomputable def F_admit_within (x_1 : Int) (far_2 : Int) : Option Bool :=
  let t7_3 : Int := (IntKind.wrap .i64 (0 - far_2))
  let t13_4 : Bool := (bif (decide (t7_3 ≤ x_1)) then (decide (x_1 ≤ far_2)) else false)
  some t13_4
/-- odograph/crc.more -/
noncomputable def F_crc_more (sum_1 : Int) (b_2 : Int) : Option Int :=
  let t8_3 : Int := (IntKind.wrap .u16 ((IntKind.wrap .u16 b_2) * 2 ^ 8))
  let t9_4 : Int := (bits .u16 .xor sum_1 t8_3)
  Option.bind (
    loopO (X := Int) (fun (s_5 : (Int × Int)) =>
      let t10_6 : Int := s_5.1
      let sum_7 : Int := s_5.2
      let t11_8 : Bool := (decide (t10_6 < (8 : Int)))
      (bif t11_8 then
        let t13_9 : Int := (bits .u16 .and sum_7 (32768 : Int))
        Option.bind (
          (bif (t13_9 != (0 : Int)) then
            let t16_10 : Int := (IntKind.wrap .u16 (sum_7 * 2 ^ 1))
            let t17_11 : Int := (bits .u16 .xor t16_10 (4129 : Int))
            some t17_11
          else
            let t19_12 : Int := (IntKind.wrap .u16 (sum_7 * 2 ^ 1))
            some t19_12)) fun r_13 =>
        let t20_14 : Int := (IntKind.wrap .i64 (t10_6 + (1 : Int)))
        some (.inl (t20_14, r_13))
      else
        some (.inr sum_7))) ((0 : Int), t9_4)) fun r_15 =>
  some r_15
/-- odograph/crc.Go -/
noncomputable def F_crc_Go (sum_1 : Int) (b_2 : (List Int)) : Option Int :=
  Option.bind (
    loopO (X := Int) (fun (s_3 : (Int × Int)) =>
      let sum_4 : Int := s_3.1
      let t9_5 : Int := s_3.2
      let t10_6 : Bool := (decide (t9_5 < (b_2.length : Int)))
      (bif t10_6 then
        chk none ((decide ((0 : Int) ≤ t9_5)) && (decide (t9_5 < (b_2.length : Int)))) <|
        let t12_7 : Int := (b_2.getD t9_5.toNat (0 : Int))
        (F_crc_more sum_4 t12_7).bind fun t15_8 =>
        let t16_9 : Int := (IntKind.wrap .i64 (t9_5 + (1 : Int)))
        some (.inl (t15_8, t16_9))
      else
        some (.inr sum_4))) (sum_1, (0 : Int))) fun r_10 =>
  some r_10
/-- odograph/crc.Sum -/
noncomputable def F_crc_Sum (b_1 : (List Int)) : Option Int :=
  (F_crc_Go (65535 : Int) b_1).bind fun t4_2 =>
  some t4_2
/-- odograph/frame.size -/
noncomputable def F_frame_size (kind_1 : Int) : Option Int :=
  Option.bind (
    (bif (kind_1 == (1 : Int)) then
      some (kind_1 == (1 : Int))
    else
      Option.bind (
        (bif (kind_1 == (2 : Int)) then
          some (kind_1 == (2 : Int))
        else
          some (kind_1 == (5 : Int)))) fun r_2 =>
      some r_2)) fun r_3 =>
  (bif r_3 then
    some (2 : Int)
  else
    Option.bind (
      (bif (kind_1 == (3 : Int)) then
        some (kind_1 == (3 : Int))
      else
        some (kind_1 == (4 : Int)))) fun r_4 =>
    (bif r_4 then
      some (4 : Int)
    else
      some (0 : Int)))
/-- odograph/frame.signed -/
noncomputable def F_frame_signed (kind_1 : Int) : Option Bool :=
  let t8_2 : Bool := (bif (kind_1 == (3 : Int)) then true else (kind_1 == (4 : Int)))
  some t8_2
/-- odograph/frame.Get -/
noncomputable def F_frame_Get (b_1 : (List Int)) : Option ((Int × (Int × Int)) × Int) :=
  let t12_2 : Bool := (decide ((b_1.length : Int) < (5 : Int)))
  (bif t12_2 then
    let t13_3 : (Int × (Int × Int)) := ((0 : Int), ((0 : Int), (0 : Int)))
    some (t13_3, (14 : Int))
  else
    chk none (true && (decide ((0 : Int) < (b_1.length : Int)))) <|
    let t16_4 : Int := (b_1.getD (0 : Int).toNat (0 : Int))
    let t17_5 : Int := (IntKind.wrap .i64 t16_4)
    (F_frame_size t17_5).bind fun t19_6 =>
    (bif (t19_6 == (0 : Int)) then
      let t23_7 : (Int × (Int × Int)) := ((0 : Int), ((0 : Int), (0 : Int)))
      some (t23_7, (30 : Int))
    else
      chk none (true && (decide ((2 : Int) < (b_1.length : Int)))) <|
      let t27_8 : Int := (b_1.getD (2 : Int).toNat (0 : Int))
      let t28_9 : Int := (IntKind.wrap .i64 t27_8)
      let t35_10 : Int := (IntKind.wrap .i64 ((3 : Int) + t19_6))
      let t36_11 : Int := (IntKind.wrap .i64 (t35_10 + (2 : Int)))
      let t37_12 : Bool := ((b_1.length : Int) != t36_11)
      let t38_13 : Bool := (bif (t28_9 != t19_6) then true else t37_12)
      (bif t38_13 then
        let t39_14 : (Int × (Int × Int)) := ((0 : Int), ((0 : Int), (0 : Int)))
        some (t39_14, (11 : Int))
      else
        (F_crc_Sum b_1).bind fun t42_15 =>
        (bif (t42_15 != (0 : Int)) then
          let t44_16 : (Int × (Int × Int)) := ((0 : Int), ((0 : Int), (0 : Int)))
          some (t44_16, (31 : Int))
        else
          let t47_17 : Int := (IntKind.wrap .i64 ((3 : Int) + t19_6))
          chk none (true && (decide ((3 : Int) ≤ t47_17)) && (decide (t47_17 ≤ (b_1.length : Int)))) <|
          let t48_18 : (List Int) := ((b_1.take t47_17.toNat).drop (3 : Int).toNat)
          Option.bind (
            loopO (X := Int) (fun (s_19 : (Int × Int)) =>
              let v_20 : Int := s_19.1
              let t50_21 : Int := s_19.2
              let t51_22 : Bool := (decide (t50_21 < (t48_18.length : Int)))
              (bif t51_22 then
                chk none ((decide ((0 : Int) ≤ t50_21)) && (decide (t50_21 < (t48_18.length : Int)))) <|
                let t53_23 : Int := (t48_18.getD t50_21.toNat (0 : Int))
                let t55_24 : Int := (IntKind.wrap .u32 (v_20 * 2 ^ 8))
                let t57_25 : Int := (IntKind.wrap .u32 t53_23)
                let t58_26 : Int := (bits .u32 .or t55_24 t57_25)
                let t59_27 : Int := (IntKind.wrap .i64 (t50_21 + (1 : Int)))
                some (.inl (t58_26, t59_27))
              else
                some (.inr v_20))) ((0 : Int), (0 : Int))) fun r_28 =>
          chk none (true && (decide ((1 : Int) < (b_1.length : Int)))) <|
          let t63_29 : Int := (b_1.getD (1 : Int).toNat (0 : Int))
          let t64_30 : Int := (IntKind.wrap .i64 t63_29)
          let t67_31 : (Int × (Int × Int)) := (t17_5, (t64_30, (IntKind.wrap .i64 r_28)))
          (F_frame_signed t17_5).bind fun t69_32 =>
          Option.bind (
            (bif t69_32 then
              let t72_33 : Int := (IntKind.wrap .i64 (IntKind.wrap .i32 r_28))
              some t72_33
            else
              some t67_31.2.2)) fun r_34 =>
          let t74_35 : (Int × (Int × Int)) := (t67_31.1, (t67_31.2.1, r_34))
          some (t74_35, (0 : Int))))))
/-- cmp.isNaN[int] -/
noncomputable def F_cmp_isNaN_int (x_1 : Int) : Option Bool :=
  some (x_1 != x_1)
/-- cmp.Compare[int] -/
noncomputable def F_cmp_Compare_int (x_1 : Int) (y_2 : Int) : Option Int :=
  (F_cmp_isNaN_int x_1).bind fun t8_3 =>
  (F_cmp_isNaN_int y_2).bind fun t10_4 =>
  (bif t8_3 then
    (bif t10_4 then
      some (0 : Int)
    else
      some (-1 : Int))
  else
    (bif t10_4 then
      some (1 : Int)
    else
      (bif (decide (x_1 < y_2)) then
        some (-1 : Int)
      else
        (bif (decide (y_2 < x_1)) then
          some (1 : Int)
        else
          some (0 : Int)))))
/-- (odograph/track.Track).Find$1 -/
noncomputable def F_track_Track_Find_1 (g_1 : (Int × (Int × (Int × (Int × Int))))) (id_2 : Int) : Option Int :=
  (F_cmp_Compare_int g_1.1 id_2).bind fun t8_3 =>
  some t8_3
/-- slices.BinarySearchFunc[[]odograph/track.Group,odograph/track.Group,int] -/
noncomputable def F_slices_BinarySearchFunc_track_Group_track_Group_int (x_1 : (List (Int × (Int × (Int × (Int × Int)))))) (target_2 : Int) : Option (Int × Bool) :=
  Option.bind (
    loopO (X := Int) (fun (s_3 : (Int × Int)) =>
      let j_4 : Int := s_3.1
      let i_5 : Int := s_3.2
      (bif (decide (i_5 < j_4)) then
        let t20_6 : Int := (IntKind.wrap .i64 (i_5 + j_4))
        let t21_7 : Int := (IntKind.wrap .u64 t20_6)
        let t23_8 : Int := (IntKind.wrap .i64 (t21_7.fdiv (2 ^ 1)))
        chk none ((decide ((0 : Int) ≤ t23_8)) && (decide (t23_8 < (x_1.length : Int)))) <|
        let t28_9 : (Int × (Int × (Int × (Int × Int)))) := (x_1.getD t23_8.toNat ((0 : Int), ((0 : Int), ((0 : Int), ((0 : Int), (0 : Int))))))
        (F_track_Track_Find_1 t28_9 target_2).bind fun t30_10 =>
        let t31_11 : Bool := (decide (t30_10 < (0 : Int)))
        Option.bind (
          (bif t31_11 then
            let t33_12 : Int := (IntKind.wrap .i64 (t23_8 + (1 : Int)))
            some (t33_12, j_4)
          else
            some (i_5, t23_8))) fun r_13 =>
        let i_14 : Int := r_13.1
        let j_15 : Int := r_13.2
        some (.inl (j_15, i_14))
      else
        some (.inr i_5))) ((x_1.length : Int), (0 : Int))) fun r_16 =>
  let t38_17 : Bool := (decide (r_16 < (x_1.length : Int)))
  chk none (((decide ((0 : Int) ≤ r_16)) && (decide (r_16 < (x_1.length : Int)))) || !t38_17) <|
  let t44_18 : (Int × (Int × (Int × (Int × Int)))) := (x_1.getD r_16.toNat ((0 : Int), ((0 : Int), ((0 : Int), ((0 : Int), (0 : Int))))))
  (bif t38_17 then F_track_Track_Find_1 t44_18 target_2 else some (0 : Int)).bind fun t46_19 =>
  let t48_20 : Bool := (bif t38_17 then (t46_19 == (0 : Int)) else false)
  some (r_16, t48_20)
/-- (odograph/track.Track).Find -/
noncomputable def F_track_Track_Find (t_1 : ((List (Int × ((List (Int × Int)) × (List Int)))) × (List (Int × (Int × (Int × (Int × Int))))))) (id_2 : Int) : Option (Int × Bool) :=
  (F_slices_BinarySearchFunc_track_Group_track_Group_int t_1.2 id_2).bind fun t9_3 =>
  some (t9_3.1, t9_3.2)
/-- odograph/world.Nominal -/
noncomputable def F_world_Nominal (t_1 : ((List (Int × ((List (Int × Int)) × (List Int)))) × (List (Int × (Int × (Int × (Int × Int))))))) (s_2 : ((List Int) × (Int × (Int × ((Int × Int) × ((Int × Int) × ((List (Int × ((Int × Int) × (Int × (Int × ((Bool × (Bool × (Bool × Bool))) × ((List (List Int)) × Bool))))))) × (List (Int × (Int × (Int × Int))))))))))) (r_3 : (Int × (Int × (Int × Int)))) : Option (Int × Bool) :=
  (F_track_Track_Find t_1 r_3.2.2.1).bind fun t14_4 =>
  let t22_5 : Bool := (decide (r_3.2.1 < (0 : Int)))
  let t23_6 : Bool := (bif (!t14_4.2) then true else t22_5)
  let t30_7 : Bool := (decide ((s_2.1.length : Int) ≤ r_3.2.1))
  let t31_8 : Bool := (bif t23_6 then true else t30_7)
  chk none (((decide ((0 : Int) ≤ r_3.2.1)) && (decide (r_3.2.1 < (s_2.1.length : Int)))) || !(!t31_8)) <|
  let t38_9 : Int := (s_2.1.getD r_3.2.1.toNat (0 : Int))
  chk none (((decide ((0 : Int) ≤ t14_4.1)) && (decide (t14_4.1 < (t_1.2.length : Int)))) || !(!t31_8)) <|
  let e_10 : (Int × (Int × (Int × (Int × Int)))) := (t_1.2.getD t14_4.1.toNat ((0 : Int), ((0 : Int), ((0 : Int), ((0 : Int), (0 : Int))))))
  let t46_11 : Bool := (bif t31_8 then true else (t38_9 != e_10.2.1))
  (bif t46_11 then
    some ((0 : Int), false)
  else
    (F_world_Start t_1 s_2.1 r_3.2.1).bind fun t52_12 =>
    chk none ((decide ((0 : Int) ≤ t14_4.1)) && (decide (t14_4.1 < (t_1.2.length : Int)))) <|
    let e_13 : (Int × (Int × (Int × (Int × Int)))) := (t_1.2.getD t14_4.1.toNat ((0 : Int), ((0 : Int), ((0 : Int), ((0 : Int), (0 : Int))))))
    let t59_14 : Int := (IntKind.wrap .i64 (t52_12 + e_13.2.2.1))
    some (t59_14, true))
end Go.Proofs.Ytlkcanjbgaeceaa
