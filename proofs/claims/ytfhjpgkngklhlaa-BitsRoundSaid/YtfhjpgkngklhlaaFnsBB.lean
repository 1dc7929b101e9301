/- The functional reading of the code (printed). -/
import Derived.Test.YtfhjpgkngklhlaaTysBB
set_option linter.unusedSimpArgs false
set_option linter.unusedVariables false
namespace Go.Proofs.Ytfhjpgkngklhlaa
open Go
/-- (*odograph/bits.Row).Put -/
noncomputable def F_bits_Row_Put (v_1 : Int) (many_2 : Int) (x_3 : (List Int)) (x_4 : Int) : Option ((List Int) × Int) :=
  let t8_5 : Int := (if (64 : Int) < many_2 then (64 : Int) else many_2)
  let t9_6 : Int := (IntKind.wrap .i64 (t8_5 - (1 : Int)))
  Option.bind (
    loopO (X := ((List Int) × Int)) (fun (s_7 : ((List Int) × (Int × Int))) =>
      let b0_8 : (List Int) := s_7.1
      let b0_9 : Int := s_7.2.1
      let i_10 : Int := s_7.2.2
      let t11_11 : Bool := (decide ((0 : Int) ≤ i_10))
      (bif t11_11 then
        let t19_12 : Bool := ((b0_9.tmod (8 : Int)) == (0 : Int))
        Option.bind (
          (bif t19_12 then
            chk none (decide ((b0_8.length + ([(0 : Int)] : List Int).length) * 1 ≤ 140737488355328)) <|
            let t26_13 : (List Int) := (b0_8 ++ ([(0 : Int)] : List Int))
            some t26_13
          else
            some b0_8)) fun r_14 =>
        let t37_15 : Int := (IntKind.wrap .i64 (b0_9.tdiv (8 : Int)))
        chk none ((decide ((0 : Int) ≤ t37_15)) && (decide (t37_15 < (r_14.length : Int)))) <|
        chk none (decide ((0 : Int) ≤ (IntKind.wrap .u64 i_10))) <|
        let t43_16 : Int := (v_1.fdiv (2 ^ (min (IntKind.wrap .u64 i_10).toNat 64)))
        let t44_17 : Int := (bits .u64 .and t43_16 (1 : Int))
        let t45_18 : Int := (IntKind.wrap .u8 t44_17)
        let t51_19 : Int := (IntKind.wrap .i64 ((7 : Int) - (b0_9.tmod (8 : Int))))
        let t52_20 : Int := (IntKind.wrap .u64 t51_19)
        chk none (decide ((0 : Int) ≤ t52_20)) <|
        let t53_21 : Int := (IntKind.wrap .u8 (t45_18 * 2 ^ (min t52_20.toNat 8)))
        let t54_22 : Int := (bits .u8 .or (r_14.getD t37_15.toNat (0 : Int)) t53_21)
        chk none ((decide ((0 : Int) ≤ t37_15)) && (decide (t37_15 < (r_14.length : Int)))) <|
        let l_23 : (List Int) := (r_14.set t37_15.toNat t54_22)
        let l_24 : (List Int) := (bif Nat.beq r_14.length l_23.length then l_23 else [])
        let t60_25 : Int := (IntKind.wrap .i64 (b0_9 + (1 : Int)))
        let t13_26 : Int := (IntKind.wrap .i64 (i_10 - (1 : Int)))
        some (.inl (l_24, t60_25, t13_26))
      else
        some (.inr (b0_8, b0_9)))) (x_3, x_4, t9_6)) fun r_27 =>
  let b0_28 : (List Int) := r_27.1
  let b0_29 : Int := r_27.2
  some (b0_28, b0_29)
noncomputable def con_F_bits_Row_Put : OCon := { f := 11, ps := [.ref 0 0, .dat (.int .u64), .dat (.int .i64)], boxes := [[.own 600050005 (.int .u8), .dat (.int .i64)]], ins := (.pair (.int .u64) (.pair (.int .i64) (.pair (.slice (.int .u8)) (.int .i64)))), nin := 4, outs := (.pair (.slice (.int .u8)) (.int .i64)), rs := [], aft := [[.own 600050005 (.int .u8), .dat (.int .i64)]], nout := 2, F := fun x => F_bits_Row_Put x.1 x.2.1 x.2.2.1 x.2.2.2 }
def hint_F_bits_Row_Put : Hint := (.mk .plain [H0, (.mk .plain [(.mk (.loop [⟨.cell 0 0, (.slice (.int .u8)), some 600050005⟩, ⟨.cell 0 1, (.int .i64), none⟩, ⟨.slot 6, (.int .i64), none⟩] [(0, 30), (0, 36), (0, 42), (0, 39), (0, 45), (0, 48), (0, 54), (0, 51), (0, 57), (0, 60), (0, 14), (0, 11), (0, 17), (0, 23), (0, 20), (0, 26), (0, 29), (0, 35), (0, 32), (0, 38), (0, 41), (0, 47), (0, 44), (0, 50), (0, 53), (0, 59), (0, 56), (0, 62), (0, 10), (0, 16), (0, 13), (0, 19), (0, 22), (0, 28), (0, 25), (0, 31), (0, 34), (0, 40), (0, 37), (0, 43), (0, 46), (0, 52), (0, 49), (0, 55), (0, 61), (0, 58), (0, 12), (0, 15), (0, 21), (0, 18), (0, 24), (0, 27), (0, 33)] [(.exit 0, [⟨.cell 0 0, (.slice (.int .u8)), some 600050005⟩, ⟨.cell 0 1, (.int .i64), none⟩])]) [(.mk .plain [H0, (.mk .plain [(.mk .plain [(.mk .plain [(.mk .plain [H0, (.mk (.join [(0, 23), (0, 20), (0, 26), (0, 22), (0, 28), (0, 25), (0, 21), (0, 24), (0, 27)] [(.normal, [⟨.cell 0 0, (.slice (.int .u8)), some 600050005⟩])]) [])])])])])])])])])
theorem run_F_bits_Row_Put : runO ⟨tdGet tys, [], [], [], []⟩ con_F_bits_Row_Put Try.f11 hint_F_bits_Row_Put = con_F_bits_Row_Put.F := by
  funext x
  kernel_rfl
theorem ok_F_bits_Row_Put : OConOK Try.prog con_F_bits_Row_Put :=
  ocon_of_run (Γ := ⟨tdGet tys, [], [], [], []⟩) ⟨fun T d h => tysB_ok tys tys_ok T d h, by simp [], by simp [], by simp [], ptrs_ok Try.prog [] (by kernel_rfl)⟩ (by kernel_rfl) Try.func11 rfl (by kernel_rfl) rfl run_F_bits_Row_Put
/-- (*odograph/bits.Row).PutSigned -/
noncomputable def F_bits_Row_PutSigned (v_1 : Int) (many_2 : Int) (x_3 : (List Int)) (x_4 : Int) : Option ((List Int) × Int) :=
  (F_bits_Row_Put (IntKind.wrap .u64 v_1) many_2 x_3 x_4).bind fun t10_5 =>
  some (t10_5.1, t10_5.2)
noncomputable def con_F_bits_Row_PutSigned : OCon := { f := 5, ps := [.ref 0 0, .dat (.int .i64), .dat (.int .i64)], boxes := [[.own 600050005 (.int .u8), .dat (.int .i64)]], ins := (.pair (.int .i64) (.pair (.int .i64) (.pair (.slice (.int .u8)) (.int .i64)))), nin := 4, outs := (.pair (.slice (.int .u8)) (.int .i64)), rs := [], aft := [[.own 600050005 (.int .u8), .dat (.int .i64)]], nout := 2, F := fun x => F_bits_Row_PutSigned x.1 x.2.1 x.2.2.1 x.2.2.2 }
def hint_F_bits_Row_PutSigned : Hint := H0
theorem run_F_bits_Row_PutSigned : runO ⟨tdGet tys, [], [], [con_F_bits_Row_Put], []⟩ con_F_bits_Row_PutSigned Try.f5 hint_F_bits_Row_PutSigned = con_F_bits_Row_PutSigned.F := by
  funext x
  kernel_rfl
theorem ok_F_bits_Row_PutSigned : OConOK Try.prog con_F_bits_Row_PutSigned :=
  ocon_of_run (Γ := ⟨tdGet tys, [], [], [con_F_bits_Row_Put], []⟩) ⟨fun T d h => tysB_ok tys tys_ok T d h, by simp [], by simp [], by simp [ok_F_bits_Row_Put], ptrs_ok Try.prog [] (by kernel_rfl)⟩ (by kernel_rfl) Try.func5 rfl (by kernel_rfl) rfl run_F_bits_Row_PutSigned
/-- (*odograph/bits.Row).Bytes -/
noncomputable def F_bits_Row_Bytes (x_1 : (List Int)) (x_2 : Int) : Option ((List Int) × ((List Int) × Int)) :=
  chk none (decide ((([] : List Int).length + x_1.length) * 1 ≤ 140737488355328)) <|
  let t8_3 : (List Int) := (([] : List Int) ++ x_1)
  some (t8_3, x_1, x_2)
noncomputable def con_F_bits_Row_Bytes : Con := { f := 7, ps := [.ref 0 0], boxes := [[.dat (.slice (.int .u8)), .dat (.int .i64)]], ins := (.pair (.slice (.int .u8)) (.int .i64)), nin := 2, outs := (.pair (.slice (.int .u8)) (.pair (.slice (.int .u8)) (.int .i64))), rs := [.dat (.slice (.int .u8))], nout := 3, F := fun x => F_bits_Row_Bytes x.1 x.2 }
def hint_F_bits_Row_Bytes : Hint := H0
theorem run_F_bits_Row_Bytes : runE ⟨tdGet tys, [], [], [], []⟩ con_F_bits_Row_Bytes Try.f7 hint_F_bits_Row_Bytes = con_F_bits_Row_Bytes.F := by
  funext x
  kernel_rfl
theorem ok_F_bits_Row_Bytes : ConOK Try.prog con_F_bits_Row_Bytes :=
  con_of_run (Γ := ⟨tdGet tys, [], [], [], []⟩) ⟨fun T d h => tysB_ok tys tys_ok T d h, by simp [], by simp [], by simp [], ptrs_ok Try.prog [] (by kernel_rfl)⟩ (by kernel_rfl) Try.func7 rfl (by kernel_rfl) run_F_bits_Row_Bytes
/-- (*odograph/bits.Row).Len -/
noncomputable def F_bits_Row_Len (x_1 : (List Int)) (x_2 : Int) : Option (Int × ((List Int) × Int)) :=
  some (x_2, x_1, x_2)
noncomputable def con_F_bits_Row_Len : Con := { f := 12, ps := [.ref 0 0], boxes := [[.dat (.slice (.int .u8)), .dat (.int .i64)]], ins := (.pair (.slice (.int .u8)) (.int .i64)), nin := 2, outs := (.pair (.int .i64) (.pair (.slice (.int .u8)) (.int .i64))), rs := [.dat (.int .i64)], nout := 3, F := fun x => F_bits_Row_Len x.1 x.2 }
def hint_F_bits_Row_Len : Hint := H0
theorem run_F_bits_Row_Len : runE ⟨tdGet tys, [], [], [], []⟩ con_F_bits_Row_Len Try.f12 hint_F_bits_Row_Len = con_F_bits_Row_Len.F := by
  funext x
  kernel_rfl
theorem ok_F_bits_Row_Len : ConOK Try.prog con_F_bits_Row_Len :=
  con_of_run (Γ := ⟨tdGet tys, [], [], [], []⟩) ⟨fun T d h => tysB_ok tys tys_ok T d h, by simp [], by simp [], by simp [], ptrs_ok Try.prog [] (by kernel_rfl)⟩ (by kernel_rfl) Try.func12 rfl (by kernel_rfl) run_F_bits_Row_Len
/-- odograph/odographlaw34.anchor -/
noncomputable def F_law34_anchor (_ : Unit) : Option Bool :=
  (F_bits_Row_Put (5 : Int) (3 : Int) [] (0 : Int)).bind fun t2_1 =>
  (F_bits_Row_PutSigned (-1 : Int) (2 : Int) t2_1.1 t2_1.2).bind fun t3_2 =>
  (F_bits_Row_Bytes t3_2.1 t3_2.2).bind fun t4_3 =>
  let t6_4 : Bool := ((bytesOf t4_3.1).toList == (⟨#[184]⟩ : ByteArray).toList)
  chk none t6_4 <|
  (F_bits_Row_Len t4_3.2.1 t4_3.2.2).bind fun t8_5 =>
  let t10_6 : Bool := (bif t6_4 then (t8_5.1 == (5 : Int)) else false)
  some t10_6
noncomputable def con_F_law34_anchor : Con := { f := 4, ps := [], boxes := [], ins := .unit, nin := 0, outs := .bool, rs := [.dat .bool], nout := 1, F := fun x => F_law34_anchor () }
def hint_F_law34_anchor : Hint := H0
theorem run_F_law34_anchor : runE ⟨tdGet tys, [con_F_bits_Row_Bytes, con_F_bits_Row_Len], [], [con_F_bits_Row_Put, con_F_bits_Row_PutSigned], []⟩ con_F_law34_anchor Try.f4 hint_F_law34_anchor = con_F_law34_anchor.F := by
  funext x
  kernel_rfl
theorem ok_F_law34_anchor : ConOK Try.prog con_F_law34_anchor :=
  con_of_run (Γ := ⟨tdGet tys, [con_F_bits_Row_Bytes, con_F_bits_Row_Len], [], [con_F_bits_Row_Put, con_F_bits_Row_PutSigned], []⟩) ⟨fun T d h => tysB_ok tys tys_ok T d h, by simp [ok_F_bits_Row_Bytes, ok_F_bits_Row_Len], by simp [], by simp [ok_F_bits_Row_Put, ok_F_bits_Row_PutSigned], ptrs_ok Try.prog [] (by kernel_rfl)⟩ (by kernel_rfl) Try.func4 rfl (by kernel_rfl) run_F_law34_anchor
/-- odograph/bits.Over -/
noncomputable def F_bits_Over (b_1 : (List Int)) : Option ((List Int) × (Int × Bool)) :=
  chk none (decide ((([] : List Int).length + b_1.length) * 1 ≤ 140737488355328)) <|
  let t5_2 : (List Int) := (([] : List Int) ++ b_1)
  some (t5_2, (0 : Int), false)
noncomputable def con_F_bits_Over : NCon := { f := 6, ps := [.dat (.slice (.int .u8))], ins := (.slice (.int .u8)), nin := 1, outs := (.pair (.slice (.int .u8)) (.pair (.int .i64) .bool)), rs := [.ref 0 0], new := [.dat (.slice (.int .u8)), .dat (.int .i64), .dat .bool], nout := 3, F := fun x => F_bits_Over x }
def hint_F_bits_Over : Hint := H0
theorem run_F_bits_Over : runN ⟨tdGet tys, [], [], [], []⟩ con_F_bits_Over Try.f6 hint_F_bits_Over = con_F_bits_Over.F := by
  funext x
  kernel_rfl
theorem ok_F_bits_Over : NOK Try.prog con_F_bits_Over :=
  ncon_of_run (Γ := ⟨tdGet tys, [], [], [], []⟩) ⟨fun T d h => tysB_ok tys tys_ok T d h, by simp [], by simp [], by simp [], ptrs_ok Try.prog [] (by kernel_rfl)⟩ (by kernel_rfl) Try.func6 rfl (by kernel_rfl) run_F_bits_Over
/-- (*odograph/bits.Reader).Get -/
noncomputable def F_bits_Reader_Get (many_1 : Int) (x_2 : (List Int)) (x_3 : Int) (x_4 : Bool) : Option (Int × ((List Int) × (Int × Bool))) :=
  let t7_5 : Bool := (decide (many_1 < (1 : Int)))
  let t10_6 : Bool := (decide ((64 : Int) < many_1))
  let t11_7 : Bool := (bif t7_5 then true else t10_6)
  (bif t11_7 then
    some ((0 : Int), x_2, x_3, x_4)
  else
    let t23_8 : Int := (IntKind.wrap .i64 ((8 : Int) * (x_2.length : Int)))
    let t28_9 : Int := (IntKind.wrap .i64 (t23_8 - x_3))
    let t30_10 : Bool := (decide (t28_9 < many_1))
    let t31_11 : Bool := (bif x_4 then true else t30_10)
    (bif t31_11 then
      some ((0 : Int), x_2, x_3, t31_11)
    else
      Option.bind (
        loopO (X := (Int × Int)) (fun (s_12 : (Int × (Int × Int))) =>
          let t39_13 : Int := s_12.1
          let v_14 : Int := s_12.2.1
          let b0_15 : Int := s_12.2.2
          let t40_16 : Bool := (decide (t39_13 < many_1))
          (bif t40_16 then
            let t42_17 : Int := (IntKind.wrap .u64 (v_14 * 2 ^ 1))
            let t51_18 : Int := (IntKind.wrap .i64 (b0_15.tdiv (8 : Int)))
            chk none ((decide ((0 : Int) ≤ t51_18)) && (decide (t51_18 < (x_2.length : Int)))) <|
            let t53_19 : Int := (x_2.getD t51_18.toNat (0 : Int))
            let t59_20 : Int := (IntKind.wrap .i64 ((7 : Int) - (b0_15.tmod (8 : Int))))
            let t60_21 : Int := (IntKind.wrap .u64 t59_20)
            chk none (decide ((0 : Int) ≤ t60_21)) <|
            let t61_22 : Int := (t53_19.fdiv (2 ^ (min t60_21.toNat 8)))
            let t62_23 : Int := (bits .u8 .and t61_22 (1 : Int))
            let t63_24 : Int := (IntKind.wrap .u64 t62_23)
            let t64_25 : Int := (bits .u64 .or t42_17 t63_24)
            let t69_26 : Int := (IntKind.wrap .i64 (b0_15 + (1 : Int)))
            let t72_27 : Int := (IntKind.wrap .i64 (t39_13 + (1 : Int)))
            some (.inl (t72_27, t64_25, t69_26))
          else
            some (.inr (v_14, b0_15)))) ((0 : Int), (0 : Int), x_3)) fun r_28 =>
      let v_29 : Int := r_28.1
      let b0_30 : Int := r_28.2
      some (v_29, x_2, b0_30, t31_11)))
noncomputable def con_F_bits_Reader_Get : Con := { f := 13, ps := [.ref 0 0, .dat (.int .i64)], boxes := [[.dat (.slice (.int .u8)), .dat (.int .i64), .dat .bool]], ins := (.pair (.int .i64) (.pair (.slice (.int .u8)) (.pair (.int .i64) .bool))), nin := 4, outs := (.pair (.int .u64) (.pair (.slice (.int .u8)) (.pair (.int .i64) .bool))), rs := [.dat (.int .u64)], nout := 4, F := fun x => F_bits_Reader_Get x.1 x.2.1 x.2.2.1 x.2.2.2 }
def hint_F_bits_Reader_Get : Hint := (.mk .plain [H0, (.mk .plain [H0, (.mk .plain [H0, (.mk .plain [H0, (.mk .plain [(.mk .plain [H0, (.mk .plain [(.mk (.loop [⟨.slot 39, (.int .i64), none⟩, ⟨.slot 5, (.int .u64), none⟩, ⟨.cell 0 1, (.int .i64), none⟩] [(0, 42), (0, 45), (0, 48), (0, 54), (0, 51), (0, 57), (0, 60), (0, 66), (0, 63), (0, 69), (0, 72), (0, 41), (0, 47), (0, 44), (0, 50), (0, 53), (0, 59), (0, 56), (0, 62), (0, 68), (0, 65), (0, 71), (0, 40), (0, 43), (0, 46), (0, 52), (0, 49), (0, 55), (0, 61), (0, 58), (0, 64), (0, 67), (0, 70)] [(.exit 0, [⟨.slot 5, (.int .u64), none⟩, ⟨.cell 0 1, (.int .i64), none⟩])]) [])])])])])])])])
theorem run_F_bits_Reader_Get : runE ⟨tdGet tys, [], [], [], []⟩ con_F_bits_Reader_Get Try.f13 hint_F_bits_Reader_Get = con_F_bits_Reader_Get.F := by
  funext x
  kernel_rfl
theorem ok_F_bits_Reader_Get : ConOK Try.prog con_F_bits_Reader_Get :=
  con_of_run (Γ := ⟨tdGet tys, [], [], [], []⟩) ⟨fun T d h => tysB_ok tys tys_ok T d h, by simp [], by simp [], by simp [], ptrs_ok Try.prog [] (by kernel_rfl)⟩ (by kernel_rfl) Try.func13 rfl (by kernel_rfl) run_F_bits_Reader_Get
/-- (*odograph/bits.Reader).GetSigned -/
noncomputable def F_bits_Reader_GetSigned (many_1 : Int) (x_2 : (List Int)) (x_3 : Int) (x_4 : Bool) : Option (Int × ((List Int) × (Int × Bool))) :=
  (F_bits_Reader_Get many_1 x_2 x_3 x_4).bind fun t8_5 =>
  let t10_6 : Bool := (decide (many_1 < (1 : Int)))
  let t13_7 : Bool := (decide ((64 : Int) < many_1))
  let t14_8 : Bool := (bif t10_6 then true else t13_7)
  (bif t14_8 then
    some ((0 : Int), t8_5.2.1, t8_5.2.2.1, t8_5.2.2.2)
  else
    let t17_9 : Int := (IntKind.wrap .i64 ((64 : Int) - many_1))
    let t18_10 : Int := (IntKind.wrap .u64 t17_9)
    chk none (decide ((0 : Int) ≤ t18_10)) <|
    let t19_11 : Int := (IntKind.wrap .u64 (t8_5.1 * 2 ^ (min t18_10.toNat 64)))
    let t20_12 : Int := (IntKind.wrap .i64 t19_11)
    let t22_13 : Int := (IntKind.wrap .i64 ((64 : Int) - many_1))
    let t23_14 : Int := (IntKind.wrap .u64 t22_13)
    chk none (decide ((0 : Int) ≤ t23_14)) <|
    let t24_15 : Int := (t20_12.fdiv (2 ^ (min t23_14.toNat 64)))
    some (t24_15, t8_5.2.1, t8_5.2.2.1, t8_5.2.2.2))
noncomputable def con_F_bits_Reader_GetSigned : Con := { f := 8, ps := [.ref 0 0, .dat (.int .i64)], boxes := [[.dat (.slice (.int .u8)), .dat (.int .i64), .dat .bool]], ins := (.pair (.int .i64) (.pair (.slice (.int .u8)) (.pair (.int .i64) .bool))), nin := 4, outs := (.pair (.int .i64) (.pair (.slice (.int .u8)) (.pair (.int .i64) .bool))), rs := [.dat (.int .i64)], nout := 4, F := fun x => F_bits_Reader_GetSigned x.1 x.2.1 x.2.2.1 x.2.2.2 }
def hint_F_bits_Reader_GetSigned : Hint := H0
theorem run_F_bits_Reader_GetSigned : runE ⟨tdGet tys, [con_F_bits_Reader_Get], [], [], []⟩ con_F_bits_Reader_GetSigned Try.f8 hint_F_bits_Reader_GetSigned = con_F_bits_Reader_GetSigned.F := by
  funext x
  kernel_rfl
theorem ok_F_bits_Reader_GetSigned : ConOK Try.prog con_F_bits_Reader_GetSigned :=
  con_of_run (Γ := ⟨tdGet tys, [con_F_bits_Reader_Get], [], [], []⟩) ⟨fun T d h => tysB_ok tys tys_ok T d h, by simp [ok_F_bits_Reader_Get], by simp [], by simp [], ptrs_ok Try.prog [] (by kernel_rfl)⟩ (by kernel_rfl) Try.func8 rfl (by kernel_rfl) run_F_bits_Reader_GetSigned
/-- (*odograph/bits.Reader).Short -/
noncomputable def F_bits_Reader_Short (x_1 : (List Int)) (x_2 : Int) (x_3 : Bool) : Option (Bool × ((List Int) × (Int × Bool))) :=
  some (x_3, x_1, x_2, x_3)
noncomputable def con_F_bits_Reader_Short : Con := { f := 9, ps := [.ref 0 0], boxes := [[.dat (.slice (.int .u8)), .dat (.int .i64), .dat .bool]], ins := (.pair (.slice (.int .u8)) (.pair (.int .i64) .bool)), nin := 3, outs := (.pair .bool (.pair (.slice (.int .u8)) (.pair (.int .i64) .bool))), rs := [.dat .bool], nout := 4, F := fun x => F_bits_Reader_Short x.1 x.2.1 x.2.2 }
def hint_F_bits_Reader_Short : Hint := H0
theorem run_F_bits_Reader_Short : runE ⟨tdGet tys, [], [], [], []⟩ con_F_bits_Reader_Short Try.f9 hint_F_bits_Reader_Short = con_F_bits_Reader_Short.F := by
  funext x
  kernel_rfl
theorem ok_F_bits_Reader_Short : ConOK Try.prog con_F_bits_Reader_Short :=
  con_of_run (Γ := ⟨tdGet tys, [], [], [], []⟩) ⟨fun T d h => tysB_ok tys tys_ok T d h, by simp [], by simp [], by simp [], ptrs_ok Try.prog [] (by kernel_rfl)⟩ (by kernel_rfl) Try.func9 rfl (by kernel_rfl) run_F_bits_Reader_Short
/-- (*odograph/bits.Reader).Left -/
noncomputable def F_bits_Reader_Left (x_1 : (List Int)) (x_2 : Int) (x_3 : Bool) : Option (Int × ((List Int) × (Int × Bool))) :=
  let t8_4 : Int := (IntKind.wrap .i64 ((8 : Int) * (x_1.length : Int)))
  let t13_5 : Int := (IntKind.wrap .i64 (t8_4 - x_2))
  some (t13_5, x_1, x_2, x_3)
noncomputable def con_F_bits_Reader_Left : Con := { f := 10, ps := [.ref 0 0], boxes := [[.dat (.slice (.int .u8)), .dat (.int .i64), .dat .bool]], ins := (.pair (.slice (.int .u8)) (.pair (.int .i64) .bool)), nin := 3, outs := (.pair (.int .i64) (.pair (.slice (.int .u8)) (.pair (.int .i64) .bool))), rs := [.dat (.int .i64)], nout := 4, F := fun x => F_bits_Reader_Left x.1 x.2.1 x.2.2 }
def hint_F_bits_Reader_Left : Hint := H0
theorem run_F_bits_Reader_Left : runE ⟨tdGet tys, [], [], [], []⟩ con_F_bits_Reader_Left Try.f10 hint_F_bits_Reader_Left = con_F_bits_Reader_Left.F := by
  funext x
  kernel_rfl
theorem ok_F_bits_Reader_Left : ConOK Try.prog con_F_bits_Reader_Left :=
  con_of_run (Γ := ⟨tdGet tys, [], [], [], []⟩) ⟨fun T d h => tysB_ok tys tys_ok T d h, by simp [], by simp [], by simp [], ptrs_ok Try.prog [] (by kernel_rfl)⟩ (by kernel_rfl) Try.func10 rfl (by kernel_rfl) run_F_bits_Reader_Left
/-- odograph/odographlaw34.BitsRound -/
noncomputable def F_law34_BitsRound (l_1 : (List (Int × Int))) : Option Bool :=
  (F_law34_anchor ()).bind fun t9_2 =>
  (bif (!t9_2) then
    some false
  else
    let t13_3 : Bool := (decide ((60 : Int) < (l_1.length : Int)))
    (bif t13_3 then
      some true
    else
      Option.bind (α := Bool ⊕ ((List Int) × Int)) (
        loopO (X := Bool ⊕ ((List Int) × Int)) (fun (s_4 : ((List Int) × (Int × Int))) =>
          let b0_5 : (List Int) := s_4.1
          let t16_6 : Int := s_4.2.1
          let b0_7 : Int := s_4.2.2
          let t17_8 : Bool := (decide (t16_6 < (l_1.length : Int)))
          (bif t17_8 then
            chk none ((decide ((0 : Int) ≤ t16_6)) && (decide (t16_6 < (l_1.length : Int)))) <|
            let t19_9 : (Int × Int) := (l_1.getD t16_6.toNat ((0 : Int), (0 : Int)))
            let t22_10 : Bool := (decide (t19_9.2 < (1 : Int)))
            let t26_11 : Bool := (decide ((64 : Int) < t19_9.2))
            let t27_12 : Bool := (bif t22_10 then true else t26_11)
            let t31_13 : Bool := (decide (t19_9.2 < (64 : Int)))
            let t37_14 : Int := (IntKind.wrap .i64 (t19_9.2 - (1 : Int)))
            let t38_15 : Int := (IntKind.wrap .u64 t37_14)
            chk none ((decide ((0 : Int) ≤ t38_15)) || !(t31_13 && !t27_12)) <|
            let t39_16 : Int := (IntKind.wrap .i64 ((-1 : Int) * 2 ^ (min t38_15.toNat 64)))
            let t40_17 : Bool := (decide (t19_9.1 < t39_16))
            let t46_18 : Int := (IntKind.wrap .i64 (t19_9.2 - (1 : Int)))
            let t47_19 : Int := (IntKind.wrap .u64 t46_18)
            chk none ((decide ((0 : Int) ≤ t47_19)) || !(!t40_17 && (t31_13 && !t27_12))) <|
            let t48_20 : Int := (IntKind.wrap .i64 ((1 : Int) * 2 ^ (min t47_19.toNat 64)))
            let t49_21 : Bool := (decide (t48_20 ≤ t19_9.1))
            let t50_22 : Bool := (bif t40_17 then true else t49_21)
            let t51_23 : Bool := (bif t31_13 then t50_22 else false)
            let t52_24 : Bool := (bif t27_12 then true else t51_23)
            (bif t52_24 then
              some (.inr (.inl true))
            else
              (F_bits_Row_PutSigned t19_9.1 t19_9.2 b0_5 b0_7).bind fun t57_25 =>
              let t58_26 : Int := (IntKind.wrap .i64 (t16_6 + (1 : Int)))
              some (.inl (t57_25.1, t58_26, t57_25.2)))
          else
            some (.inr (.inr (b0_5, b0_7))))) ([], (0 : Int), (0 : Int))) fun z => match z with
      | .inl r_27 =>
        some r_27
      | .inr r_28 =>
        let b0_29 : (List Int) := r_28.1
        let b0_30 : Int := r_28.2
        (F_bits_Row_Bytes b0_29 b0_30).bind fun t59_31 =>
        (F_bits_Over t59_31.1).bind fun t60_32 =>
        Option.bind (α := Bool ⊕ (Int × (Bool × (List Int)))) (
          loopO (X := Bool ⊕ (Int × (Bool × (List Int)))) (fun (s_33 : (Int × (Bool × ((List Int) × Int)))) =>
            let b1_34 : Int := s_33.1
            let b1_35 : Bool := s_33.2.1
            let b1_36 : (List Int) := s_33.2.2.1
            let t65_37 : Int := s_33.2.2.2
            let t66_38 : Bool := (decide (t65_37 < (l_1.length : Int)))
            (bif t66_38 then
              chk none ((decide ((0 : Int) ≤ t65_37)) && (decide (t65_37 < (l_1.length : Int)))) <|
              let t68_39 : (Int × Int) := (l_1.getD t65_37.toNat ((0 : Int), (0 : Int)))
              (F_bits_Reader_GetSigned t68_39.2 b1_36 b1_34 b1_35).bind fun t72_40 =>
              (bif (t72_40.1 != t68_39.1) then
                some (.inr (.inl false))
              else
                let t76_41 : Int := (IntKind.wrap .i64 (t65_37 + (1 : Int)))
                some (.inl (t72_40.2.2.1, t72_40.2.2.2, t72_40.2.1, t76_41)))
            else
              some (.inr (.inr (b1_34, b1_35, b1_36))))) (t60_32.2.1, t60_32.2.2, t60_32.1, (0 : Int))) fun z => match z with
        | .inl r_42 =>
          some r_42
        | .inr r_43 =>
          let b1_44 : Int := r_43.1
          let b1_45 : Bool := r_43.2.1
          let b1_46 : (List Int) := r_43.2.2
          (F_bits_Reader_Short b1_46 b1_44 b1_45).bind fun t78_47 =>
          chk none (!t78_47.1) <|
          (F_bits_Reader_Left t78_47.2.1 t78_47.2.2.1 t78_47.2.2.2).bind fun t82_48 =>
          let t83_49 : Bool := (decide (t82_48.1 < (8 : Int)))
          let t84_50 : Bool := (bif (!t78_47.1) then t83_49 else false)
          some t84_50))
noncomputable def con_F_law34_BitsRound : Con := { f := 3, ps := [.dat (.slice (.agg (.pair (.int .i64) (.int .i64))))], boxes := [], ins := (.slice (.agg (.pair (.int .i64) (.int .i64)))), nin := 1, outs := .bool, rs := [.dat .bool], nout := 1, F := fun x => F_law34_BitsRound x }
def hint_F_law34_BitsRound : Hint := (.mk .plain [H0, (.mk .plain [H0, (.mk .plain [H0, (.mk .plain [H0, (.mk .plain [(.mk .plain [H0, (.mk .plain [(.mk (.loop [⟨.cell 0 0, (.slice (.int .u8)), some 6400050005⟩, ⟨.slot 16, (.int .i64), none⟩, ⟨.cell 0 1, (.int .i64), none⟩] [(0, 30), (0, 36), (0, 42), (0, 39), (0, 45), (0, 48), (0, 51), (0, 2), (0, 5), (0, 17), (0, 23), (0, 20), (0, 26), (0, 29), (0, 35), (0, 32), (0, 38), (0, 41), (0, 47), (0, 44), (0, 50), (0, 19), (0, 22), (0, 28), (0, 25), (0, 31), (0, 34), (0, 40), (0, 37), (0, 43), (0, 46), (0, 52), (0, 49), (0, 21), (0, 18), (0, 24), (0, 27), (0, 33), (0, 54), (0, 57), (0, 53), (0, 56), (0, 55), (0, 58)] [(.ret, [⟨.slot 2, .bool, none⟩]), (.exit 0, [⟨.cell 0 0, (.slice (.int .u8)), some 6400050005⟩, ⟨.cell 0 1, (.int .i64), none⟩])]) [])])]), (.mk .plain [H0, (.mk .plain [H0, (.mk .plain [(.mk .plain [H0, (.mk .plain [(.mk (.loop [⟨.cell 1 1, (.int .i64), none⟩, ⟨.cell 1 2, .bool, none⟩, ⟨.cell 1 0, (.slice (.int .u8)), none⟩, ⟨.slot 65, (.int .i64), none⟩] [(0, 68), (0, 71), (0, 74), (0, 2), (0, 66), (0, 69), (0, 8), (0, 72), (0, 75), (0, 67), (0, 73), (0, 70), (0, 76)] [(.ret, [⟨.slot 2, .bool, none⟩]), (.exit 2, [⟨.cell 1 1, (.int .i64), none⟩, ⟨.cell 1 2, .bool, none⟩, ⟨.cell 1 0, (.slice (.int .u8)), none⟩])]) [])])])])])])])])])])])
theorem run_F_law34_BitsRound : runE ⟨tdGet tys, [con_F_law34_anchor, con_F_bits_Row_Bytes, con_F_bits_Reader_GetSigned, con_F_bits_Reader_Short, con_F_bits_Reader_Left], [con_F_bits_Over], [con_F_bits_Row_PutSigned], [31]⟩ con_F_law34_BitsRound Try.f3 hint_F_law34_BitsRound = con_F_law34_BitsRound.F := by
  funext x
  kernel_rfl
theorem ok_F_law34_BitsRound : ConOK Try.prog con_F_law34_BitsRound :=
  con_of_run (Γ := ⟨tdGet tys, [con_F_law34_anchor, con_F_bits_Row_Bytes, con_F_bits_Reader_GetSigned, con_F_bits_Reader_Short, con_F_bits_Reader_Left], [con_F_bits_Over], [con_F_bits_Row_PutSigned], [31]⟩) ⟨fun T d h => tysB_ok tys tys_ok T d h, by simp [ok_F_law34_anchor, ok_F_bits_Row_Bytes, ok_F_bits_Reader_GetSigned, ok_F_bits_Reader_Short, ok_F_bits_Reader_Left], by simp [ok_F_bits_Over], by simp [ok_F_bits_Row_PutSigned], ptrs_ok Try.prog [31] (by kernel_rfl)⟩ (by kernel_rfl) Try.func3 rfl (by kernel_rfl) run_F_law34_BitsRound
end Go.Proofs.Ytfhjpgkngklhlaa
