/- The functional reading of the code (printed). -/
import Derived.Test.YtomkodhihiloiaaDoorTysDD
set_option linter.unusedSimpArgs false
set_option linter.unusedVariables false
namespace Go.Proofs.YtomkodhihiloiaaDoor
open Go
/-- odograph/num.Size -/
noncomputable def F_num_Size (a_1 : Int) : Option Int :=
  let t4_2 : Bool := (decide (a_1 < (0 : Int)))
  (bif t4_2 then
    let t7_3 : Int := (IntKind.wrap .u64 (0 - (IntKind.wrap .u64 a_1)))
    some t7_3
  else
    some (IntKind.wrap .u64 a_1))
noncomputable def con_F_num_Size : Con := { f := 43, ps := [.dat (.int .i64)], boxes := [], ins := (.int .i64), nin := 1, outs := (.int .u64), rs := [.dat (.int .u64)], nout := 1, F := fun x => F_num_Size x }
def hint_F_num_Size : Hint := H0
theorem run_F_num_Size : runE ⟨tdGet tys, [], [], [], []⟩ con_F_num_Size Tryd.f43 hint_F_num_Size = con_F_num_Size.F := by
  funext x
  kernel_rfl
theorem ok_F_num_Size : ConOK Tryd.prog con_F_num_Size :=
  con_of_run (Γ := ⟨tdGet tys, [], [], [], []⟩) ⟨fun T d h => tysB_ok tys tys_ok T d h, by simp [], by simp [], by simp [], ptrs_ok Tryd.prog [] (by kernel_rfl)⟩ (by kernel_rfl) Tryd.func43 rfl (by kernel_rfl) run_F_num_Size
/-- odograph/wide.Mul -/
noncomputable def F_wide_Mul (a_1 : Int) (b_2 : Int) : Option (Int × Int) :=
  let t15_3 : Int := (bits .u64 .and a_1 (4294967295 : Int))
  let t19_4 : Int := (bits .u64 .and b_2 (4294967295 : Int))
  let t22_5 : Int := (IntKind.wrap .u64 (t15_3 * t19_4))
  let t25_6 : Int := (IntKind.wrap .u64 ((a_1.fdiv (2 ^ 32)) * t19_4))
  let t28_7 : Int := (IntKind.wrap .u64 (t25_6 + (t22_5.fdiv (2 ^ 32))))
  let t31_8 : Int := (IntKind.wrap .u64 (t15_3 * (b_2.fdiv (2 ^ 32))))
  let t33_9 : Int := (bits .u64 .and t28_7 (4294967295 : Int))
  let t34_10 : Int := (IntKind.wrap .u64 (t31_8 + t33_9))
  let t37_11 : Int := (IntKind.wrap .u64 ((a_1.fdiv (2 ^ 32)) * (b_2.fdiv (2 ^ 32))))
  let t40_12 : Int := (IntKind.wrap .u64 (t37_11 + (t28_7.fdiv (2 ^ 32))))
  let t43_13 : Int := (IntKind.wrap .u64 (t40_12 + (t34_10.fdiv (2 ^ 32))))
  let t45_14 : Int := (IntKind.wrap .u64 (t34_10 * 2 ^ 32))
  let t47_15 : Int := (bits .u64 .and t22_5 (4294967295 : Int))
  let t48_16 : Int := (bits .u64 .or t45_14 t47_15)
  let w_17 : (Int × Int) := (t43_13, t48_16)
  some w_17
noncomputable def con_F_wide_Mul : Con := { f := 42, ps := [.dat (.int .u64), .dat (.int .u64)], boxes := [], ins := (.pair (.int .u64) (.int .u64)), nin := 2, outs := (.agg (.pair (.int .u64) (.int .u64))), rs := [.dat (.agg (.pair (.int .u64) (.int .u64)))], nout := 1, F := fun x => F_wide_Mul x.1 x.2 }
def hint_F_wide_Mul : Hint := H0
theorem run_F_wide_Mul : runE ⟨tdGet tys, [], [], [], []⟩ con_F_wide_Mul Tryd.f42 hint_F_wide_Mul = con_F_wide_Mul.F := by
  funext x
  kernel_rfl
theorem ok_F_wide_Mul : ConOK Tryd.prog con_F_wide_Mul :=
  con_of_run (Γ := ⟨tdGet tys, [], [], [], []⟩) ⟨fun T d h => tysB_ok tys tys_ok T d h, by simp [], by simp [], by simp [], ptrs_ok Tryd.prog [] (by kernel_rfl)⟩ (by kernel_rfl) Tryd.func42 rfl (by kernel_rfl) run_F_wide_Mul
/-- (odograph/wide.U).Shl -/
noncomputable def F_wide_U_Shl (x_1 : (Int × Int)) (n_2 : Int) : Option (Int × Int) :=
  let t7_3 : Bool := (decide (n_2 ≤ (0 : Int)))
  (bif t7_3 then
    some x_1
  else
    let t11_4 : Bool := (decide ((64 : Int) ≤ n_2))
    (bif t11_4 then
      let t15_5 : Int := (IntKind.wrap .i64 (n_2 - (64 : Int)))
      let t16_6 : Int := (IntKind.wrap .u64 t15_5)
      chk none (decide ((0 : Int) ≤ t16_6)) <|
      let t17_7 : Int := (IntKind.wrap .u64 (x_1.2 * 2 ^ (min t16_6.toNat 64)))
      let w_8 : (Int × Int) := (t17_7, (0 : Int))
      some w_8
    else
      chk none (decide ((0 : Int) ≤ (IntKind.wrap .u64 n_2))) <|
      let t23_9 : Int := (IntKind.wrap .u64 (x_1.1 * 2 ^ (min (IntKind.wrap .u64 n_2).toNat 64)))
      let t27_10 : Int := (IntKind.wrap .i64 ((64 : Int) - n_2))
      let t28_11 : Int := (IntKind.wrap .u64 t27_10)
      chk none (decide ((0 : Int) ≤ t28_11)) <|
      let t29_12 : Int := (x_1.2.fdiv (2 ^ (min t28_11.toNat 64)))
      let t30_13 : Int := (bits .u64 .or t23_9 t29_12)
      chk none (decide ((0 : Int) ≤ (IntKind.wrap .u64 n_2))) <|
      let t35_14 : Int := (IntKind.wrap .u64 (x_1.2 * 2 ^ (min (IntKind.wrap .u64 n_2).toNat 64)))
      let w_15 : (Int × Int) := (t30_13, t35_14)
      some w_15))
noncomputable def con_F_wide_U_Shl : Con := { f := 47, ps := [.dat (.agg (.pair (.int .u64) (.int .u64))), .dat (.int .i64)], boxes := [], ins := (.pair (.agg (.pair (.int .u64) (.int .u64))) (.int .i64)), nin := 2, outs := (.agg (.pair (.int .u64) (.int .u64))), rs := [.dat (.agg (.pair (.int .u64) (.int .u64)))], nout := 1, F := fun x => F_wide_U_Shl x.1 x.2 }
def hint_F_wide_U_Shl : Hint := H0
theorem run_F_wide_U_Shl : runE ⟨tdGet tys, [], [], [], []⟩ con_F_wide_U_Shl Tryd.f47 hint_F_wide_U_Shl = con_F_wide_U_Shl.F := by
  funext x
  kernel_rfl
theorem ok_F_wide_U_Shl : ConOK Tryd.prog con_F_wide_U_Shl :=
  con_of_run (Γ := ⟨tdGet tys, [], [], [], []⟩) ⟨fun T d h => tysB_ok tys tys_ok T d h, by simp [], by simp [], by simp [], ptrs_ok Tryd.prog [] (by kernel_rfl)⟩ (by kernel_rfl) Tryd.func47 rfl (by kernel_rfl) run_F_wide_U_Shl
/-- (odograph/wide.U).Shr -/
noncomputable def F_wide_U_Shr (x_1 : (Int × Int)) (n_2 : Int) : Option (Int × Int) :=
  let t7_3 : Bool := (decide (n_2 ≤ (0 : Int)))
  (bif t7_3 then
    some x_1
  else
    let t11_4 : Bool := (decide ((64 : Int) ≤ n_2))
    (bif t11_4 then
      let t15_5 : Int := (IntKind.wrap .i64 (n_2 - (64 : Int)))
      let t16_6 : Int := (IntKind.wrap .u64 t15_5)
      chk none (decide ((0 : Int) ≤ t16_6)) <|
      let t17_7 : Int := (x_1.1.fdiv (2 ^ (min t16_6.toNat 64)))
      let w_8 : (Int × Int) := ((0 : Int), t17_7)
      some w_8
    else
      chk none (decide ((0 : Int) ≤ (IntKind.wrap .u64 n_2))) <|
      let t23_9 : Int := (x_1.1.fdiv (2 ^ (min (IntKind.wrap .u64 n_2).toNat 64)))
      chk none (decide ((0 : Int) ≤ (IntKind.wrap .u64 n_2))) <|
      let t28_10 : Int := (x_1.2.fdiv (2 ^ (min (IntKind.wrap .u64 n_2).toNat 64)))
      let t32_11 : Int := (IntKind.wrap .i64 ((64 : Int) - n_2))
      let t33_12 : Int := (IntKind.wrap .u64 t32_11)
      chk none (decide ((0 : Int) ≤ t33_12)) <|
      let t34_13 : Int := (IntKind.wrap .u64 (x_1.1 * 2 ^ (min t33_12.toNat 64)))
      let t35_14 : Int := (bits .u64 .or t28_10 t34_13)
      let w_15 : (Int × Int) := (t23_9, t35_14)
      some w_15))
noncomputable def con_F_wide_U_Shr : Con := { f := 48, ps := [.dat (.agg (.pair (.int .u64) (.int .u64))), .dat (.int .i64)], boxes := [], ins := (.pair (.agg (.pair (.int .u64) (.int .u64))) (.int .i64)), nin := 2, outs := (.agg (.pair (.int .u64) (.int .u64))), rs := [.dat (.agg (.pair (.int .u64) (.int .u64)))], nout := 1, F := fun x => F_wide_U_Shr x.1 x.2 }
def hint_F_wide_U_Shr : Hint := H0
theorem run_F_wide_U_Shr : runE ⟨tdGet tys, [], [], [], []⟩ con_F_wide_U_Shr Tryd.f48 hint_F_wide_U_Shr = con_F_wide_U_Shr.F := by
  funext x
  kernel_rfl
theorem ok_F_wide_U_Shr : ConOK Tryd.prog con_F_wide_U_Shr :=
  con_of_run (Γ := ⟨tdGet tys, [], [], [], []⟩) ⟨fun T d h => tysB_ok tys tys_ok T d h, by simp [], by simp [], by simp [], ptrs_ok Tryd.prog [] (by kernel_rfl)⟩ (by kernel_rfl) Tryd.func48 rfl (by kernel_rfl) run_F_wide_U_Shr
/-- (odograph/wide.U).Cmp -/
noncomputable def F_wide_U_Cmp (x_1 : (Int × Int)) (y_2 : (Int × Int)) : Option Int :=
  let t8_3 : Bool := (eqT (.agg (.pair (.int .u64) (.int .u64))) x_1 y_2)
  (bif t8_3 then
    some (0 : Int)
  else
    let t27_4 : Bool := (bif (x_1.1 == y_2.1) then (decide (x_1.2 < y_2.2)) else false)
    let t28_5 : Bool := (bif (decide (x_1.1 < y_2.1)) then true else t27_4)
    (bif t28_5 then
      some (-1 : Int)
    else
      some (1 : Int)))
noncomputable def con_F_wide_U_Cmp : Con := { f := 49, ps := [.dat (.agg (.pair (.int .u64) (.int .u64))), .dat (.agg (.pair (.int .u64) (.int .u64)))], boxes := [], ins := (.pair (.agg (.pair (.int .u64) (.int .u64))) (.agg (.pair (.int .u64) (.int .u64)))), nin := 2, outs := (.int .i64), rs := [.dat (.int .i64)], nout := 1, F := fun x => F_wide_U_Cmp x.1 x.2 }
def hint_F_wide_U_Cmp : Hint := H0
theorem run_F_wide_U_Cmp : runE ⟨tdGet tys, [], [], [], []⟩ con_F_wide_U_Cmp Tryd.f49 hint_F_wide_U_Cmp = con_F_wide_U_Cmp.F := by
  funext x
  kernel_rfl
theorem ok_F_wide_U_Cmp : ConOK Tryd.prog con_F_wide_U_Cmp :=
  con_of_run (Γ := ⟨tdGet tys, [], [], [], []⟩) ⟨fun T d h => tysB_ok tys tys_ok T d h, by simp [], by simp [], by simp [], ptrs_ok Tryd.prog [] (by kernel_rfl)⟩ (by kernel_rfl) Tryd.func49 rfl (by kernel_rfl) run_F_wide_U_Cmp
/-- (odograph/wide.U).Sub -/
noncomputable def F_wide_U_Sub (x_1 : (Int × Int)) (y_2 : (Int × Int)) : Option ((Int × Int) × Bool) :=
  let t11_3 : Int := (IntKind.wrap .u64 (x_1.1 - y_2.1))
  let t16_4 : Int := (IntKind.wrap .u64 (x_1.2 - y_2.2))
  let w_5 : (Int × Int) := (t11_3, t16_4)
  Option.bind (
    (bif (decide (x_1.2 < y_2.2)) then
      let t25_6 : Int := (IntKind.wrap .u64 (w_5.1 - (1 : Int)))
      some t25_6
    else
      some w_5.1)) fun r_7 =>
  (F_wide_U_Cmp x_1 y_2).bind fun t30_8 =>
  let t31_9 : Bool := (decide (t30_8 < (0 : Int)))
  let w_10 : (Int × Int) := (r_7, w_5.2)
  some (w_10, t31_9)
noncomputable def con_F_wide_U_Sub : Con := { f := 50, ps := [.dat (.agg (.pair (.int .u64) (.int .u64))), .dat (.agg (.pair (.int .u64) (.int .u64)))], boxes := [], ins := (.pair (.agg (.pair (.int .u64) (.int .u64))) (.agg (.pair (.int .u64) (.int .u64)))), nin := 2, outs := (.pair (.agg (.pair (.int .u64) (.int .u64))) .bool), rs := [.dat (.agg (.pair (.int .u64) (.int .u64))), .dat .bool], nout := 2, F := fun x => F_wide_U_Sub x.1 x.2 }
def hint_F_wide_U_Sub : Hint := (.mk .plain [H0, (.mk .plain [H0, (.mk .plain [(.mk .plain [H0, (.mk (.join [(0, 23), (0, 25), (0, 26), (0, 24)] [(.normal, [⟨.cell 3 0, (.int .u64), none⟩])]) [])])])])])
theorem run_F_wide_U_Sub : runE ⟨tdGet tys, [con_F_wide_U_Cmp], [], [], []⟩ con_F_wide_U_Sub Tryd.f50 hint_F_wide_U_Sub = con_F_wide_U_Sub.F := by
  funext x
  kernel_rfl
theorem ok_F_wide_U_Sub : ConOK Tryd.prog con_F_wide_U_Sub :=
  con_of_run (Γ := ⟨tdGet tys, [con_F_wide_U_Cmp], [], [], []⟩) ⟨fun T d h => tysB_ok tys tys_ok T d h, by simp [ok_F_wide_U_Cmp], by simp [], by simp [], ptrs_ok Tryd.prog [] (by kernel_rfl)⟩ (by kernel_rfl) Tryd.func50 rfl (by kernel_rfl) run_F_wide_U_Sub
/-- (odograph/wide.U).Div -/
noncomputable def F_wide_U_Div (x_1 : (Int × Int)) (d_2 : Int) : Option ((Int × Int) × (Int × Int)) :=
  (bif (d_2 == (0 : Int)) then
    let w_3 : (Int × Int) := ((0 : Int), (0 : Int))
    some (w_3, (0 : Int), (21 : Int))
  else
    let w_4 : (Int × Int) := ((0 : Int), (0 : Int))
    Option.bind (
      loopO (X := (Int × (Int × (Int × Int)))) (fun (s_5 : (Int × (Int × (Int × (Int × Int))))) =>
        let b3_6 : Int := s_5.1
        let b2_7 : Int := s_5.2.1
        let b2_8 : Int := s_5.2.2.1
        let b3_9 : Int := s_5.2.2.2.1
        let i_10 : Int := s_5.2.2.2.2
        let t15_11 : Bool := (decide ((0 : Int) ≤ i_10))
        (bif t15_11 then
          (F_wide_U_Shl (b3_6, b3_9) (1 : Int)).bind fun t19_12 =>
          (F_wide_U_Shr x_1 i_10).bind fun t24_13 =>
          let t26_14 : Int := (bits .u64 .and t24_13.2 (1 : Int))
          let t27_15 : Int := (bits .u64 .or t19_12.2 t26_14)
          (F_wide_U_Shl (b2_8, b2_7) (1 : Int)).bind fun t30_16 =>
          (F_wide_U_Cmp (t19_12.1, t27_15) ((0 : Int), d_2)).bind fun t34_17 =>
          let t35_18 : Bool := (decide ((0 : Int) ≤ t34_17))
          Option.bind (
            (bif t35_18 then
              (F_wide_U_Sub (t19_12.1, t27_15) ((0 : Int), d_2)).bind fun t40_19 =>
              let t45_20 : Int := (bits .u64 .or t30_16.2 (1 : Int))
              some (t40_19.1.1, t45_20, t40_19.1.2)
            else
              some (t19_12.1, t30_16.2, t27_15))) fun r_21 =>
          let b3_22 : Int := r_21.1
          let b2_23 : Int := r_21.2.1
          let b3_24 : Int := r_21.2.2
          let t17_25 : Int := (IntKind.wrap .i64 (i_10 - (1 : Int)))
          some (.inl (b3_22, b2_23, t30_16.1, b3_24, t17_25))
        else
          some (.inr (b3_6, b2_7, b2_8, b3_9)))) (w_4.1, (0 : Int), (0 : Int), w_4.2, (127 : Int))) fun r_26 =>
    let b3_27 : Int := r_26.1
    let b2_28 : Int := r_26.2.1
    let b2_29 : Int := r_26.2.2.1
    let b3_30 : Int := r_26.2.2.2
    let w_31 : (Int × Int) := (b2_29, b2_28)
    some (w_31, b3_30, (0 : Int)))
noncomputable def con_F_wide_U_Div : Con := { f := 44, ps := [.dat (.agg (.pair (.int .u64) (.int .u64))), .dat (.int .u64)], boxes := [], ins := (.pair (.agg (.pair (.int .u64) (.int .u64))) (.int .u64)), nin := 2, outs := (.pair (.agg (.pair (.int .u64) (.int .u64))) (.pair (.int .u64) (.int .i64))), rs := [.dat (.agg (.pair (.int .u64) (.int .u64))), .dat (.int .u64), .dat (.int .i64)], nout := 3, F := fun x => F_wide_U_Div x.1 x.2 }
def hint_F_wide_U_Div : Hint := (.mk .plain [H0, (.mk .plain [H0, (.mk .plain [H0, (.mk .plain [H0, (.mk .plain [(.mk .plain [H0, (.mk .plain [(.mk (.loop [⟨.cell 3 0, (.int .u64), none⟩, ⟨.cell 2 1, (.int .u64), none⟩, ⟨.cell 2 0, (.int .u64), none⟩, ⟨.cell 3 1, (.int .u64), none⟩, ⟨.slot 9, (.int .i64), none⟩] [(0, 30), (0, 36), (0, 42), (0, 39), (0, 45), (0, 14), (0, 17), (0, 23), (0, 20), (0, 26), (0, 29), (0, 35), (0, 32), (0, 38), (0, 41), (0, 44), (0, 16), (0, 19), (0, 22), (0, 28), (0, 25), (0, 31), (0, 34), (0, 40), (0, 37), (0, 43), (0, 46), (0, 15), (0, 21), (0, 18), (0, 24), (0, 27), (0, 33)] [(.exit 0, [⟨.cell 3 0, (.int .u64), none⟩, ⟨.cell 2 1, (.int .u64), none⟩, ⟨.cell 2 0, (.int .u64), none⟩, ⟨.cell 3 1, (.int .u64), none⟩])]) [(.mk .plain [H0, (.mk .plain [(.mk .plain [(.mk .plain [H0, (.mk .plain [H0, (.mk .plain [H0, (.mk .plain [H0, (.mk (.join [(0, 46), (0, 36), (0, 42), (0, 43), (0, 39), (0, 45), (0, 38), (0, 41), (0, 44), (0, 40), (0, 37)] [(.normal, [⟨.cell 3 0, (.int .u64), none⟩, ⟨.cell 2 1, (.int .u64), none⟩, ⟨.cell 3 1, (.int .u64), none⟩])]) [])])])])])])])])])])])])])])])])
theorem run_F_wide_U_Div : runE ⟨tdGet tys, [con_F_wide_U_Shl, con_F_wide_U_Shr, con_F_wide_U_Cmp, con_F_wide_U_Sub], [], [], []⟩ con_F_wide_U_Div Tryd.f44 hint_F_wide_U_Div = con_F_wide_U_Div.F := by
  funext x
  kernel_rfl
theorem ok_F_wide_U_Div : ConOK Tryd.prog con_F_wide_U_Div :=
  con_of_run (Γ := ⟨tdGet tys, [con_F_wide_U_Shl, con_F_wide_U_Shr, con_F_wide_U_Cmp, con_F_wide_U_Sub], [], [], []⟩) ⟨fun T d h => tysB_ok tys tys_ok T d h, by simp [ok_F_wide_U_Shl, ok_F_wide_U_Shr, ok_F_wide_U_Cmp, ok_F_wide_U_Sub], by simp [], by simp [], ptrs_ok Tryd.prog [] (by kernel_rfl)⟩ (by kernel_rfl) Tryd.func44 rfl (by kernel_rfl) run_F_wide_U_Div
/-- (odograph/wide.U).Add -/
noncomputable def F_wide_U_Add (x_1 : (Int × Int)) (y_2 : (Int × Int)) : Option ((Int × Int) × Bool) :=
  let t12_3 : Int := (IntKind.wrap .u64 (x_1.2 + y_2.2))
  let w_4 : (Int × Int) := ((0 : Int), t12_3)
  let t18_5 : Int := (IntKind.wrap .u64 (x_1.1 + y_2.1))
  Option.bind (
    (bif (decide (w_4.2 < x_1.2)) then
      let t32_6 : Int := (IntKind.wrap .u64 (t18_5 + (1 : Int)))
      let t39_7 : Bool := (bif (decide (t18_5 < x_1.1)) then true else (t32_6 == (0 : Int)))
      some (t32_6, t39_7)
    else
      some (t18_5, (decide (t18_5 < x_1.1))))) fun r_8 =>
  let b3_9 : Int := r_8.1
  let over_10 : Bool := r_8.2
  let w_11 : (Int × Int) := (b3_9, w_4.2)
  some (w_11, over_10)
noncomputable def con_F_wide_U_Add : Con := { f := 45, ps := [.dat (.agg (.pair (.int .u64) (.int .u64))), .dat (.agg (.pair (.int .u64) (.int .u64)))], boxes := [], ins := (.pair (.agg (.pair (.int .u64) (.int .u64))) (.agg (.pair (.int .u64) (.int .u64)))), nin := 2, outs := (.pair (.agg (.pair (.int .u64) (.int .u64))) .bool), rs := [.dat (.agg (.pair (.int .u64) (.int .u64))), .dat .bool], nout := 2, F := fun x => F_wide_U_Add x.1 x.2 }
def hint_F_wide_U_Add : Hint := (.mk .plain [H0, (.mk .plain [H0, (.mk .plain [H0, (.mk .plain [H0, (.mk .plain [(.mk .plain [H0, (.mk (.join [(0, 30), (0, 36), (0, 39), (0, 35), (0, 32), (0, 38), (0, 31), (0, 34), (0, 37), (0, 33)] [(.normal, [⟨.cell 3 0, (.int .u64), none⟩, ⟨.slot 7, .bool, none⟩])]) [])])])])])])])
theorem run_F_wide_U_Add : runE ⟨tdGet tys, [], [], [], []⟩ con_F_wide_U_Add Tryd.f45 hint_F_wide_U_Add = con_F_wide_U_Add.F := by
  funext x
  kernel_rfl
theorem ok_F_wide_U_Add : ConOK Tryd.prog con_F_wide_U_Add :=
  con_of_run (Γ := ⟨tdGet tys, [], [], [], []⟩) ⟨fun T d h => tysB_ok tys tys_ok T d h, by simp [], by simp [], by simp [], ptrs_ok Tryd.prog [] (by kernel_rfl)⟩ (by kernel_rfl) Tryd.func45 rfl (by kernel_rfl) run_F_wide_U_Add
/-- odograph/ratio.signed -/
noncomputable def F_ratio_signed (x_1 : (Int × Int)) (below_2 : Bool) : Option (Int × Int) :=
  let t7_3 : (Int × Int) := ((0 : Int), (9223372036854775807 : Int))
  Option.bind (
    (bif below_2 then
      let t11_4 : Int := (IntKind.wrap .u64 (t7_3.2 + (1 : Int)))
      some t11_4
    else
      some t7_3.2)) fun r_5 =>
  (F_wide_U_Cmp x_1 (t7_3.1, r_5)).bind fun t15_6 =>
  let t16_7 : Bool := (decide ((0 : Int) < t15_6))
  (bif t16_7 then
    some ((0 : Int), (20 : Int))
  else
    (bif below_2 then
      let t20_8 : Int := (IntKind.wrap .u64 (0 - x_1.2))
      let t21_9 : Int := (IntKind.wrap .i64 t20_8)
      some (t21_9, (0 : Int))
    else
      let t24_10 : Int := (IntKind.wrap .i64 x_1.2)
      some (t24_10, (0 : Int))))
noncomputable def con_F_ratio_signed : Con := { f := 46, ps := [.dat (.agg (.pair (.int .u64) (.int .u64))), .dat .bool], boxes := [], ins := (.pair (.agg (.pair (.int .u64) (.int .u64))) .bool), nin := 2, outs := (.pair (.int .i64) (.int .i64)), rs := [.dat (.int .i64), .dat (.int .i64)], nout := 2, F := fun x => F_ratio_signed x.1 x.2 }
def hint_F_ratio_signed : Hint := (.mk .plain [H0, (.mk .plain [H0, (.mk .plain [(.mk .plain [H0, (.mk (.join [(0, 12), (0, 10), (0, 9), (0, 11)] [(.normal, [⟨.cell 1 1, (.int .u64), none⟩])]) [])])])])])
theorem run_F_ratio_signed : runE ⟨tdGet tys, [con_F_wide_U_Cmp], [], [], []⟩ con_F_ratio_signed Tryd.f46 hint_F_ratio_signed = con_F_ratio_signed.F := by
  funext x
  kernel_rfl
theorem ok_F_ratio_signed : ConOK Tryd.prog con_F_ratio_signed :=
  con_of_run (Γ := ⟨tdGet tys, [con_F_wide_U_Cmp], [], [], []⟩) ⟨fun T d h => tysB_ok tys tys_ok T d h, by simp [ok_F_wide_U_Cmp], by simp [], by simp [], ptrs_ok Tryd.prog [] (by kernel_rfl)⟩ (by kernel_rfl) Tryd.func46 rfl (by kernel_rfl) run_F_ratio_signed
/-- odograph/ratio.divide -/
noncomputable def F_ratio_divide (a_1 : Int) (b_2 : Int) (c_3 : Int) (up_4 : Bool) : Option (Int × Int) :=
  (bif (c_3 == (0 : Int)) then
    some ((0 : Int), (21 : Int))
  else
    let t17_5 : Bool := (decide (a_1 < (0 : Int)))
    let t19_6 : Bool := (decide (b_2 < (0 : Int)))
    let t22_7 : Bool := (decide (c_3 < (0 : Int)))
    let t23_8 : Bool := (!((!(t17_5 == t19_6)) == t22_7))
    (F_num_Size a_1).bind fun t26_9 =>
    (F_num_Size b_2).bind fun t28_10 =>
    (F_wide_Mul t26_9 t28_10).bind fun t29_11 =>
    (F_num_Size c_3).bind fun t31_12 =>
    (F_wide_U_Div t29_11 t31_12).bind fun t32_13 =>
    let t37_14 : Bool := (decide ((0 : Int) < t32_13.2.1))
    let t42_15 : Bool := (bif t37_14 then (!(up_4 == t23_8)) else false)
    Option.bind (
      (bif t42_15 then
        (F_wide_U_Add t32_13.1 ((0 : Int), (1 : Int))).bind fun t46_16 =>
        some (t46_16.1.2, t46_16.1.1)
      else
        some (t32_13.1.2, t32_13.1.1))) fun r_17 =>
    let b0_18 : Int := r_17.1
    let b0_19 : Int := r_17.2
    (F_ratio_signed (b0_19, b0_18) t23_8).bind fun t51_20 =>
    some (t51_20.1, t51_20.2))
noncomputable def con_F_ratio_divide : Con := { f := 41, ps := [.dat (.int .i64), .dat (.int .i64), .dat (.int .i64), .dat .bool], boxes := [], ins := (.pair (.int .i64) (.pair (.int .i64) (.pair (.int .i64) .bool))), nin := 4, outs := (.pair (.int .i64) (.int .i64)), rs := [.dat (.int .i64), .dat (.int .i64)], nout := 2, F := fun x => F_ratio_divide x.1 x.2.1 x.2.2.1 x.2.2.2 }
def hint_F_ratio_divide : Hint := (.mk .plain [H0, (.mk .plain [H0, (.mk .plain [H0, (.mk .plain [H0, (.mk .plain [(.mk .plain [H0, (.mk (.join [(0, 46), (0, 45), (0, 48), (0, 47), (0, 44), (0, 43)] [(.normal, [⟨.cell 0 1, (.int .u64), none⟩, ⟨.cell 0 0, (.int .u64), none⟩])]) [])])])])])])])
theorem run_F_ratio_divide : runE ⟨tdGet tys, [con_F_num_Size, con_F_wide_Mul, con_F_wide_U_Div, con_F_wide_U_Add, con_F_ratio_signed], [], [], []⟩ con_F_ratio_divide Tryd.f41 hint_F_ratio_divide = con_F_ratio_divide.F := by
  funext x
  kernel_rfl
theorem ok_F_ratio_divide : ConOK Tryd.prog con_F_ratio_divide :=
  con_of_run (Γ := ⟨tdGet tys, [con_F_num_Size, con_F_wide_Mul, con_F_wide_U_Div, con_F_wide_U_Add, con_F_ratio_signed], [], [], []⟩) ⟨fun T d h => tysB_ok tys tys_ok T d h, by simp [ok_F_num_Size, ok_F_wide_Mul, ok_F_wide_U_Div, ok_F_wide_U_Add, ok_F_ratio_signed], by simp [], by simp [], ptrs_ok Tryd.prog [] (by kernel_rfl)⟩ (by kernel_rfl) Tryd.func41 rfl (by kernel_rfl) run_F_ratio_divide
/-- odograph/ratio.Floor -/
noncomputable def F_ratio_Floor (a_1 : Int) (b_2 : Int) (c_3 : Int) : Option (Int × Int) :=
  (F_ratio_divide a_1 b_2 c_3 false).bind fun t11_4 =>
  some (t11_4.1, t11_4.2)
noncomputable def con_F_ratio_Floor : Con := { f := 38, ps := [.dat (.int .i64), .dat (.int .i64), .dat (.int .i64)], boxes := [], ins := (.pair (.int .i64) (.pair (.int .i64) (.int .i64))), nin := 3, outs := (.pair (.int .i64) (.int .i64)), rs := [.dat (.int .i64), .dat (.int .i64)], nout := 2, F := fun x => F_ratio_Floor x.1 x.2.1 x.2.2 }
def hint_F_ratio_Floor : Hint := H0
theorem run_F_ratio_Floor : runE ⟨tdGet tys, [con_F_ratio_divide], [], [], []⟩ con_F_ratio_Floor Tryd.f38 hint_F_ratio_Floor = con_F_ratio_Floor.F := by
  funext x
  kernel_rfl
theorem ok_F_ratio_Floor : ConOK Tryd.prog con_F_ratio_Floor :=
  con_of_run (Γ := ⟨tdGet tys, [con_F_ratio_divide], [], [], []⟩) ⟨fun T d h => tysB_ok tys tys_ok T d h, by simp [ok_F_ratio_divide], by simp [], by simp [], ptrs_ok Tryd.prog [] (by kernel_rfl)⟩ (by kernel_rfl) Tryd.func38 rfl (by kernel_rfl) run_F_ratio_Floor
/-- odograph/packet.floor -/
noncomputable def F_packet_floor (x_1 : Int) : Option Int :=
  (F_ratio_Floor x_1 (1 : Int) (1000 : Int)).bind fun t7_2 =>
  some t7_2.1
noncomputable def con_F_packet_floor : Con := { f := 34, ps := [.dat (.int .i64)], boxes := [], ins := (.int .i64), nin := 1, outs := (.int .i64), rs := [.dat (.int .i64)], nout := 1, F := fun x => F_packet_floor x }
def hint_F_packet_floor : Hint := H0
theorem run_F_packet_floor : runE ⟨tdGet tys, [con_F_ratio_Floor], [], [], []⟩ con_F_packet_floor Tryd.f34 hint_F_packet_floor = con_F_packet_floor.F := by
  funext x
  kernel_rfl
theorem ok_F_packet_floor : ConOK Tryd.prog con_F_packet_floor :=
  con_of_run (Γ := ⟨tdGet tys, [con_F_ratio_Floor], [], [], []⟩) ⟨fun T d h => tysB_ok tys tys_ok T d h, by simp [ok_F_ratio_Floor], by simp [], by simp [], ptrs_ok Tryd.prog [] (by kernel_rfl)⟩ (by kernel_rfl) Tryd.func34 rfl (by kernel_rfl) run_F_packet_floor
/-- odograph/ratio.Ceil -/
noncomputable def F_ratio_Ceil (a_1 : Int) (b_2 : Int) (c_3 : Int) : Option (Int × Int) :=
  (F_ratio_divide a_1 b_2 c_3 true).bind fun t11_4 =>
  some (t11_4.1, t11_4.2)
noncomputable def con_F_ratio_Ceil : Con := { f := 39, ps := [.dat (.int .i64), .dat (.int .i64), .dat (.int .i64)], boxes := [], ins := (.pair (.int .i64) (.pair (.int .i64) (.int .i64))), nin := 3, outs := (.pair (.int .i64) (.int .i64)), rs := [.dat (.int .i64), .dat (.int .i64)], nout := 2, F := fun x => F_ratio_Ceil x.1 x.2.1 x.2.2 }
def hint_F_ratio_Ceil : Hint := H0
theorem run_F_ratio_Ceil : runE ⟨tdGet tys, [con_F_ratio_divide], [], [], []⟩ con_F_ratio_Ceil Tryd.f39 hint_F_ratio_Ceil = con_F_ratio_Ceil.F := by
  funext x
  kernel_rfl
theorem ok_F_ratio_Ceil : ConOK Tryd.prog con_F_ratio_Ceil :=
  con_of_run (Γ := ⟨tdGet tys, [con_F_ratio_divide], [], [], []⟩) ⟨fun T d h => tysB_ok tys tys_ok T d h, by simp [ok_F_ratio_divide], by simp [], by simp [], ptrs_ok Tryd.prog [] (by kernel_rfl)⟩ (by kernel_rfl) Tryd.func39 rfl (by kernel_rfl) run_F_ratio_Ceil
/-- odograph/packet.ceil -/
noncomputable def F_packet_ceil (x_1 : Int) : Option Int :=
  (F_ratio_Ceil x_1 (1 : Int) (1000 : Int)).bind fun t7_2 =>
  some t7_2.1
noncomputable def con_F_packet_ceil : Con := { f := 35, ps := [.dat (.int .i64)], boxes := [], ins := (.int .i64), nin := 1, outs := (.int .i64), rs := [.dat (.int .i64)], nout := 1, F := fun x => F_packet_ceil x }
def hint_F_packet_ceil : Hint := H0
theorem run_F_packet_ceil : runE ⟨tdGet tys, [con_F_ratio_Ceil], [], [], []⟩ con_F_packet_ceil Tryd.f35 hint_F_packet_ceil = con_F_packet_ceil.F := by
  funext x
  kernel_rfl
theorem ok_F_packet_ceil : ConOK Tryd.prog con_F_packet_ceil :=
  con_of_run (Γ := ⟨tdGet tys, [con_F_ratio_Ceil], [], [], []⟩) ⟨fun T d h => tysB_ok tys tys_ok T d h, by simp [ok_F_ratio_Ceil], by simp [], by simp [], ptrs_ok Tryd.prog [] (by kernel_rfl)⟩ (by kernel_rfl) Tryd.func35 rfl (by kernel_rfl) run_F_packet_ceil
/-- (odograph/packet.Packet).numbers -/
noncomputable def F_packet_Packet_numbers (p_1 : (Int × (Int × (Int × (Int × (Int × (Int × (Int × (Int × (Bool × (Bool × (Bool × (Bool × (Bool × (Bool × Bool))))))))))))))) : Option (Int × (Int × (Int × (Int × (Int × (Int × (Int × Int))))))) :=
  let t19_2 : (Int × (Int × (Int × (Int × (Int × (Int × (Int × Int))))))) := (p_1.1, (p_1.2.1, (p_1.2.2.1, (p_1.2.2.2.1, (p_1.2.2.2.2.1, (p_1.2.2.2.2.2.1, (p_1.2.2.2.2.2.2.1, p_1.2.2.2.2.2.2.2.1)))))))
  some t19_2
noncomputable def con_F_packet_Packet_numbers : Con := { f := 15, ps := [.dat (.agg (.pair (.int .i64) (.pair (.int .i64) (.pair (.int .i64) (.pair (.int .i64) (.pair (.int .i64) (.pair (.int .i64) (.pair (.int .i64) (.pair (.int .i64) (.agg (.pair .bool (.pair .bool (.pair .bool (.pair .bool (.pair .bool (.pair .bool .bool))))))))))))))))], boxes := [], ins := (.agg (.pair (.int .i64) (.pair (.int .i64) (.pair (.int .i64) (.pair (.int .i64) (.pair (.int .i64) (.pair (.int .i64) (.pair (.int .i64) (.pair (.int .i64) (.agg (.pair .bool (.pair .bool (.pair .bool (.pair .bool (.pair .bool (.pair .bool .bool)))))))))))))))), nin := 1, outs := (.agg (.pair (.int .i64) (.pair (.int .i64) (.pair (.int .i64) (.pair (.int .i64) (.pair (.int .i64) (.pair (.int .i64) (.pair (.int .i64) (.int .i64))))))))), rs := [.dat (.agg (.pair (.int .i64) (.pair (.int .i64) (.pair (.int .i64) (.pair (.int .i64) (.pair (.int .i64) (.pair (.int .i64) (.pair (.int .i64) (.int .i64)))))))))], nout := 1, F := fun x => F_packet_Packet_numbers x }
def hint_F_packet_Packet_numbers : Hint := H0
theorem run_F_packet_Packet_numbers : runE ⟨tdGet tys, [], [], [], []⟩ con_F_packet_Packet_numbers Tryd.f15 hint_F_packet_Packet_numbers = con_F_packet_Packet_numbers.F := by
  funext x
  kernel_rfl
theorem ok_F_packet_Packet_numbers : ConOK Tryd.prog con_F_packet_Packet_numbers :=
  con_of_run (Γ := ⟨tdGet tys, [], [], [], []⟩) ⟨fun T d h => tysB_ok tys tys_ok T d h, by simp [], by simp [], by simp [], ptrs_ok Tryd.prog [] (by kernel_rfl)⟩ (by kernel_rfl) Tryd.func15 rfl (by kernel_rfl) run_F_packet_Packet_numbers
/-- odograph/packet.signed -/
noncomputable def F_packet_signed (i_1 : Int) : Option Bool :=
  let t4_2 : Bool := (decide ((2 : Int) < i_1))
  some t4_2
noncomputable def con_F_packet_signed : Con := { f := 24, ps := [.dat (.int .i64)], boxes := [], ins := (.int .i64), nin := 1, outs := .bool, rs := [.dat .bool], nout := 1, F := fun x => F_packet_signed x }
def hint_F_packet_signed : Hint := H0
theorem run_F_packet_signed : runE ⟨tdGet tys, [], [], [], []⟩ con_F_packet_signed Tryd.f24 hint_F_packet_signed = con_F_packet_signed.F := by
  funext x
  kernel_rfl
theorem ok_F_packet_signed : ConOK Tryd.prog con_F_packet_signed :=
  con_of_run (Γ := ⟨tdGet tys, [], [], [], []⟩) ⟨fun T d h => tysB_ok tys tys_ok T d h, by simp [], by simp [], by simp [], ptrs_ok Tryd.prog [] (by kernel_rfl)⟩ (by kernel_rfl) Tryd.func24 rfl (by kernel_rfl) run_F_packet_signed
/-- odograph/packet.fits -/
noncomputable def F_packet_fits (i_1 : Int) (v_2 : Int) : Option Bool :=
  (F_packet_signed i_1).bind fun t7_3 =>
  (bif t7_3 then
    chk none ((decide ((0 : Int) ≤ i_1)) && (decide (i_1 < (8 : Int)))) <|
    let t10_4 : Int := (List.getD [glob_0.1, glob_0.2.1, glob_0.2.2.1, glob_0.2.2.2.1, glob_0.2.2.2.2.1, glob_0.2.2.2.2.2.1, glob_0.2.2.2.2.2.2.1, glob_0.2.2.2.2.2.2.2] i_1.toNat (0 : Int))
    let t11_5 : Int := (IntKind.wrap .i64 (t10_4 - (1 : Int)))
    let t12_6 : Int := (IntKind.wrap .u64 t11_5)
    chk none (decide ((0 : Int) ≤ t12_6)) <|
    let t13_7 : Int := (IntKind.wrap .i64 ((1 : Int) * 2 ^ (min t12_6.toNat 64)))
    let t16_8 : Int := (IntKind.wrap .i64 (0 - t13_7))
    let t22_9 : Bool := (bif (decide (t16_8 ≤ v_2)) then (decide (v_2 < t13_7)) else false)
    some t22_9
  else
    let t24_10 : Bool := (decide ((0 : Int) ≤ v_2))
    chk none (((decide ((0 : Int) ≤ i_1)) && (decide (i_1 < (8 : Int)))) || !t24_10) <|
    let t29_11 : Int := (List.getD [glob_0.1, glob_0.2.1, glob_0.2.2.1, glob_0.2.2.2.1, glob_0.2.2.2.2.1, glob_0.2.2.2.2.2.1, glob_0.2.2.2.2.2.2.1, glob_0.2.2.2.2.2.2.2] i_1.toNat (0 : Int))
    let t30_12 : Int := (IntKind.wrap .u64 t29_11)
    chk none ((decide ((0 : Int) ≤ t30_12)) || !t24_10) <|
    let t31_13 : Int := (IntKind.wrap .i64 ((1 : Int) * 2 ^ (min t30_12.toNat 64)))
    let t33_14 : Bool := (bif t24_10 then (decide (v_2 < t31_13)) else false)
    some t33_14)
noncomputable def con_F_packet_fits : Con := { f := 20, ps := [.dat (.int .i64), .dat (.int .i64)], boxes := [], ins := (.pair (.int .i64) (.int .i64)), nin := 2, outs := .bool, rs := [.dat .bool], nout := 1, F := fun x => F_packet_fits x.1 x.2 }
def hint_F_packet_fits : Hint := H0
theorem run_F_packet_fits : runE ⟨tdGet tys, [con_F_packet_signed], [], [], []⟩ con_F_packet_fits Tryd.f20 hint_F_packet_fits = con_F_packet_fits.F := by
  funext x
  kernel_rfl
theorem ok_F_packet_fits : ConOK Tryd.prog con_F_packet_fits :=
  con_of_run (Γ := ⟨tdGet tys, [con_F_packet_signed], [], [], []⟩) ⟨fun T d h => tysB_ok tys tys_ok T d h, by simp [ok_F_packet_signed], by simp [], by simp [], ptrs_ok Tryd.prog [] (by kernel_rfl)⟩ (by kernel_rfl) Tryd.func20 rfl (by kernel_rfl) run_F_packet_fits
/-- (odograph/packet.Packet).Right -/
noncomputable def F_packet_Packet_Right (p_1 : (Int × (Int × (Int × (Int × (Int × (Int × (Int × (Int × (Bool × (Bool × (Bool × (Bool × (Bool × (Bool × Bool))))))))))))))) : Option Bool :=
  (F_packet_Packet_numbers p_1).bind fun t6_2 =>
  Option.bind (α := Bool ⊕ Unit) (
    loopO (X := Bool ⊕ Unit) (fun (s_3 : Int) =>
      let t8_4 : Bool := (decide (s_3 < (8 : Int)))
      (bif t8_4 then
        chk none ((decide ((0 : Int) ≤ s_3)) && (decide (s_3 < (8 : Int)))) <|
        let t10_5 : Int := (List.getD [t6_2.1, t6_2.2.1, t6_2.2.2.1, t6_2.2.2.2.1, t6_2.2.2.2.2.1, t6_2.2.2.2.2.2.1, t6_2.2.2.2.2.2.2.1, t6_2.2.2.2.2.2.2.2] s_3.toNat (0 : Int))
        (F_packet_fits s_3 t10_5).bind fun t13_6 =>
        (bif (!t13_6) then
          some (.inr (.inl false))
        else
          let t15_7 : Int := (IntKind.wrap .i64 (s_3 + (1 : Int)))
          some (.inl t15_7))
      else
        some (.inr (.inr ())))) (0 : Int)) fun z => match z with
  | .inl r_8 =>
    some r_8
  | .inr _ =>
    let t18_9 : Bool := (decide ((1 : Int) ≤ p_1.2.1))
    let t22_10 : Bool := (decide (p_1.2.1 ≤ (4 : Int)))
    let t23_11 : Bool := (bif t18_9 then t22_10 else false)
    let t29_12 : Bool := (decide (p_1.2.2.2.1 ≤ p_1.2.2.2.2.2.1))
    let t30_13 : Bool := (bif t23_11 then t29_12 else false)
    let t36_14 : Bool := (decide (p_1.2.2.2.2.2.1 ≤ p_1.2.2.2.2.1))
    let t37_15 : Bool := (bif t30_13 then t36_14 else false)
    let t43_16 : Bool := (decide (p_1.2.2.2.2.2.2.1 ≤ p_1.2.2.2.2.2.2.2.1))
    let t44_17 : Bool := (bif t37_15 then t43_16 else false)
    let t52_18 : Bool := (p_1.2.2.2.1 == (0 : Int))
    let t56_19 : Bool := (p_1.2.2.2.2.1 == (0 : Int))
    let t57_20 : Bool := (bif t52_18 then t56_19 else false)
    let t58_21 : Bool := (bif (p_1.2.2.1 != (0 : Int)) then true else t57_20)
    let t59_22 : Bool := (bif t44_17 then t58_21 else false)
    some t59_22
noncomputable def con_F_packet_Packet_Right : Con := { f := 7, ps := [.dat (.agg (.pair (.int .i64) (.pair (.int .i64) (.pair (.int .i64) (.pair (.int .i64) (.pair (.int .i64) (.pair (.int .i64) (.pair (.int .i64) (.pair (.int .i64) (.agg (.pair .bool (.pair .bool (.pair .bool (.pair .bool (.pair .bool (.pair .bool .bool))))))))))))))))], boxes := [], ins := (.agg (.pair (.int .i64) (.pair (.int .i64) (.pair (.int .i64) (.pair (.int .i64) (.pair (.int .i64) (.pair (.int .i64) (.pair (.int .i64) (.pair (.int .i64) (.agg (.pair .bool (.pair .bool (.pair .bool (.pair .bool (.pair .bool (.pair .bool .bool)))))))))))))))), nin := 1, outs := .bool, rs := [.dat .bool], nout := 1, F := fun x => F_packet_Packet_Right x }
def hint_F_packet_Packet_Right : Hint := (.mk .plain [H0, (.mk .plain [(.mk .plain [H0, (.mk .plain [(.mk (.loop [⟨.slot 7, (.int .i64), none⟩] [(0, 4), (0, 10), (0, 13), (0, 3), (0, 9), (0, 12), (0, 2), (0, 8), (0, 14), (0, 11), (0, 15)] [(.ret, [⟨.slot 2, .bool, none⟩]), (.exit 0, [])]) [])])])])])
theorem run_F_packet_Packet_Right : runE ⟨tdGet tys, [con_F_packet_Packet_numbers, con_F_packet_fits], [], [], []⟩ con_F_packet_Packet_Right Tryd.f7 hint_F_packet_Packet_Right = con_F_packet_Packet_Right.F := by
  funext x
  kernel_rfl
theorem ok_F_packet_Packet_Right : ConOK Tryd.prog con_F_packet_Packet_Right :=
  con_of_run (Γ := ⟨tdGet tys, [con_F_packet_Packet_numbers, con_F_packet_fits], [], [], []⟩) ⟨fun T d h => tysB_ok tys tys_ok T d h, by simp [ok_F_packet_Packet_numbers, ok_F_packet_fits], by simp [], by simp [], ptrs_ok Tryd.prog [] (by kernel_rfl)⟩ (by kernel_rfl) Tryd.func7 rfl (by kernel_rfl) run_F_packet_Packet_Right
/-- odograph/packet.Of -/
noncomputable def F_packet_Of (r_1 : (Int × (Int × (Int × ((Int × Int) × (Int × ((Int × Int) × (Int × (Int × ((List (List Int)) × (Int × (Bool × (Bool × ((Int × Int) × (Bool × (Bool × (Bool × (Bool × (Bool × ((Int × Int) × (Int × (((Int × Int) × (Int × Int)) × (Int × (Int × (Int × Int))))))))))))))))))))))))) : Option ((Int × (Int × (Int × (Int × (Int × (Int × (Int × (Int × (Bool × (Bool × (Bool × (Bool × (Bool × (Bool × Bool)))))))))))))) × Bool) :=
  let t7_2 : Int := (bits .i64 .and r_1.1 (65535 : Int))
  (F_packet_floor r_1.2.2.2.1.1).bind fun t15_3 =>
  (F_packet_ceil r_1.2.2.2.1.2).bind fun t19_4 =>
  (F_packet_floor r_1.2.2.2.2.2.1.1).bind fun t23_5 =>
  (F_packet_ceil r_1.2.2.2.2.2.1.2).bind fun t27_6 =>
  let t28_7 : (Int × (Int × (Int × (Int × (Int × (Int × (Int × (Int × (Bool × (Bool × (Bool × (Bool × (Bool × (Bool × Bool)))))))))))))) := (t7_2, (r_1.2.1, (r_1.2.2.1, (t15_3, (t19_4, ((0 : Int), (t23_5, (t27_6, (false, (false, (false, (false, (false, (false, false))))))))))))))
  (F_packet_floor r_1.2.2.2.2.1).bind fun t31_8 =>
  let t34_9 : Int := (if t28_7.2.2.2.1 > t31_8 then t28_7.2.2.2.1 else t31_8)
  let t37_10 : Int := (if t28_7.2.2.2.2.1 < t34_9 then t28_7.2.2.2.2.1 else t34_9)
  let t40_11 : Bool := r_1.2.2.2.2.2.2.2.2.2.2.1
  let t42_12 : Bool := r_1.2.2.2.2.2.2.2.2.2.2.2.1
  let t44_13 : Bool := r_1.2.2.2.2.2.2.2.2.2.2.2.2.2.1
  let t46_14 : Bool := r_1.2.2.2.2.2.2.2.2.2.2.2.2.2.2.1
  let t48_15 : Bool := r_1.2.2.2.2.2.2.2.2.2.2.2.2.2.2.2.1
  let t50_16 : Bool := r_1.2.2.2.2.2.2.2.2.2.2.2.2.2.2.2.2.1
  let t52_17 : Bool := r_1.2.2.2.2.2.2.2.2.2.2.2.2.2.2.2.2.2.1
  let t53_18 : (Bool × (Bool × (Bool × (Bool × (Bool × (Bool × Bool)))))) := (t40_11, (t42_12, (t44_13, (t46_14, (t48_15, (t50_16, t52_17))))))
  let t55_19 : (Int × (Int × (Int × (Int × (Int × (Int × (Int × (Int × (Bool × (Bool × (Bool × (Bool × (Bool × (Bool × Bool)))))))))))))) := (t28_7.1, (t28_7.2.1, (t28_7.2.2.1, (t28_7.2.2.2.1, (t28_7.2.2.2.2.1, (t37_10, (t28_7.2.2.2.2.2.2.1, (t28_7.2.2.2.2.2.2.2.1, t53_18))))))))
  (F_packet_Packet_Right t55_19).bind fun t56_20 =>
  (bif (!t56_20) then
    let t58_21 : (Int × (Int × (Int × (Int × (Int × (Int × (Int × (Int × (Bool × (Bool × (Bool × (Bool × (Bool × (Bool × Bool)))))))))))))) := ((0 : Int), ((0 : Int), ((0 : Int), ((0 : Int), ((0 : Int), ((0 : Int), ((0 : Int), ((0 : Int), (false, (false, (false, (false, (false, (false, false))))))))))))))
    some (t58_21, false)
  else
    let t59_22 : (Int × (Int × (Int × (Int × (Int × (Int × (Int × (Int × (Bool × (Bool × (Bool × (Bool × (Bool × (Bool × Bool)))))))))))))) := (t28_7.1, (t28_7.2.1, (t28_7.2.2.1, (t28_7.2.2.2.1, (t28_7.2.2.2.2.1, (t37_10, (t28_7.2.2.2.2.2.2.1, (t28_7.2.2.2.2.2.2.2.1, t53_18))))))))
    some (t59_22, true))
noncomputable def con_F_packet_Of : Con := { f := 13, ps := [.dat (.agg (.pair (.int .i64) (.pair (.int .i64) (.pair (.int .i64) (.pair (.agg (.pair (.int .i64) (.int .i64))) (.pair (.int .i64) (.pair (.agg (.pair (.int .i64) (.int .i64))) (.pair (.int .i64) (.pair (.int .i64) (.pair (.slice (.slice (.int .i64))) (.pair (.int .i64) (.pair .bool (.pair .bool (.pair (.agg (.pair (.int .i64) (.int .i64))) (.pair .bool (.pair .bool (.pair .bool (.pair .bool (.pair .bool (.pair (.agg (.pair (.int .i64) (.int .i64))) (.pair (.int .i64) (.pair (.agg (.pair (.agg (.pair (.int .i64) (.int .i64))) (.agg (.pair (.int .i64) (.int .i64))))) (.pair (.int .i64) (.pair (.int .i64) (.pair (.int .i64) (.int .i64))))))))))))))))))))))))))], boxes := [], ins := (.agg (.pair (.int .i64) (.pair (.int .i64) (.pair (.int .i64) (.pair (.agg (.pair (.int .i64) (.int .i64))) (.pair (.int .i64) (.pair (.agg (.pair (.int .i64) (.int .i64))) (.pair (.int .i64) (.pair (.int .i64) (.pair (.slice (.slice (.int .i64))) (.pair (.int .i64) (.pair .bool (.pair .bool (.pair (.agg (.pair (.int .i64) (.int .i64))) (.pair .bool (.pair .bool (.pair .bool (.pair .bool (.pair .bool (.pair (.agg (.pair (.int .i64) (.int .i64))) (.pair (.int .i64) (.pair (.agg (.pair (.agg (.pair (.int .i64) (.int .i64))) (.agg (.pair (.int .i64) (.int .i64))))) (.pair (.int .i64) (.pair (.int .i64) (.pair (.int .i64) (.int .i64)))))))))))))))))))))))))), nin := 1, outs := (.pair (.agg (.pair (.int .i64) (.pair (.int .i64) (.pair (.int .i64) (.pair (.int .i64) (.pair (.int .i64) (.pair (.int .i64) (.pair (.int .i64) (.pair (.int .i64) (.agg (.pair .bool (.pair .bool (.pair .bool (.pair .bool (.pair .bool (.pair .bool .bool)))))))))))))))) .bool), rs := [.dat (.agg (.pair (.int .i64) (.pair (.int .i64) (.pair (.int .i64) (.pair (.int .i64) (.pair (.int .i64) (.pair (.int .i64) (.pair (.int .i64) (.pair (.int .i64) (.agg (.pair .bool (.pair .bool (.pair .bool (.pair .bool (.pair .bool (.pair .bool .bool)))))))))))))))), .dat .bool], nout := 2, F := fun x => F_packet_Of x }
def hint_F_packet_Of : Hint := H0
theorem run_F_packet_Of : runE ⟨tdGet tys, [con_F_packet_floor, con_F_packet_ceil, con_F_packet_Packet_Right], [], [], []⟩ con_F_packet_Of Tryd.f13 hint_F_packet_Of = con_F_packet_Of.F := by
  funext x
  kernel_rfl
theorem ok_F_packet_Of : ConOK Tryd.prog con_F_packet_Of :=
  con_of_run (Γ := ⟨tdGet tys, [con_F_packet_floor, con_F_packet_ceil, con_F_packet_Packet_Right], [], [], []⟩) ⟨fun T d h => tysB_ok tys tys_ok T d h, by simp [ok_F_packet_floor, ok_F_packet_ceil, ok_F_packet_Packet_Right], by simp [], by simp [], ptrs_ok Tryd.prog [] (by kernel_rfl)⟩ (by kernel_rfl) Tryd.func13 rfl (by kernel_rfl) run_F_packet_Of
/-- (odograph/packet.Packet).Pos -/
noncomputable def F_packet_Packet_Pos (p_1 : (Int × (Int × (Int × (Int × (Int × (Int × (Int × (Int × (Bool × (Bool × (Bool × (Bool × (Bool × (Bool × Bool))))))))))))))) : Option (Int × Int) :=
  let t5_2 : Int := (IntKind.wrap .i64 (p_1.2.2.2.1 * (1000 : Int)))
  let t8_3 : Int := (IntKind.wrap .i64 (p_1.2.2.2.2.1 * (1000 : Int)))
  let w_4 : (Int × Int) := (t5_2, t8_3)
  some w_4
noncomputable def con_F_packet_Packet_Pos : Con := { f := 14, ps := [.dat (.agg (.pair (.int .i64) (.pair (.int .i64) (.pair (.int .i64) (.pair (.int .i64) (.pair (.int .i64) (.pair (.int .i64) (.pair (.int .i64) (.pair (.int .i64) (.agg (.pair .bool (.pair .bool (.pair .bool (.pair .bool (.pair .bool (.pair .bool .bool))))))))))))))))], boxes := [], ins := (.agg (.pair (.int .i64) (.pair (.int .i64) (.pair (.int .i64) (.pair (.int .i64) (.pair (.int .i64) (.pair (.int .i64) (.pair (.int .i64) (.pair (.int .i64) (.agg (.pair .bool (.pair .bool (.pair .bool (.pair .bool (.pair .bool (.pair .bool .bool)))))))))))))))), nin := 1, outs := (.agg (.pair (.int .i64) (.int .i64))), rs := [.dat (.agg (.pair (.int .i64) (.int .i64)))], nout := 1, F := fun x => F_packet_Packet_Pos x }
def hint_F_packet_Packet_Pos : Hint := H0
theorem run_F_packet_Packet_Pos : runE ⟨tdGet tys, [], [], [], []⟩ con_F_packet_Packet_Pos Tryd.f14 hint_F_packet_Packet_Pos = con_F_packet_Packet_Pos.F := by
  funext x
  kernel_rfl
theorem ok_F_packet_Packet_Pos : ConOK Tryd.prog con_F_packet_Packet_Pos :=
  con_of_run (Γ := ⟨tdGet tys, [], [], [], []⟩) ⟨fun T d h => tysB_ok tys tys_ok T d h, by simp [], by simp [], by simp [], ptrs_ok Tryd.prog [] (by kernel_rfl)⟩ (by kernel_rfl) Tryd.func14 rfl (by kernel_rfl) run_F_packet_Packet_Pos
/-- odograph/odographlaw35.anchor -/
noncomputable def F_law35_anchor (_ : Unit) : Option Bool :=
  let t4_1 : (Int × Int) := ((-5 : Int), (1001 : Int))
  (F_packet_Of ((0 : Int), ((2 : Int), ((5 : Int), (t4_1, ((0 : Int), (((0 : Int), (0 : Int)), ((0 : Int), ((0 : Int), ([], ((0 : Int), (false, (false, (((0 : Int), (0 : Int)), (false, (false, (false, (false, (false, (((0 : Int), (0 : Int)), ((0 : Int), ((((0 : Int), (0 : Int)), ((0 : Int), (0 : Int))), ((0 : Int), ((0 : Int), ((0 : Int), (0 : Int)))))))))))))))))))))))))).bind fun t6_2 =>
  let t13_3 : Bool := (t6_2.1.2.2.2.1 == (-1 : Int))
  let t14_4 : Bool := (bif t6_2.2 then t13_3 else false)
  let t18_5 : Bool := (t6_2.1.2.2.2.2.1 == (2 : Int))
  let t19_6 : Bool := (bif t14_4 then t18_5 else false)
  (bif t19_6 then F_packet_Packet_Pos t6_2.1 else some ((0 : Int), (0 : Int))).bind fun t22_7 =>
  let t23_8 : (Int × Int) := ((-1000 : Int), (2000 : Int))
  let t24_9 : Bool := (eqT (.agg (.pair (.int .i64) (.int .i64))) t22_7 t23_8)
  let t25_10 : Bool := (bif t19_6 then t24_9 else false)
  some t25_10
noncomputable def con_F_law35_anchor : Con := { f := 5, ps := [], boxes := [], ins := .unit, nin := 0, outs := .bool, rs := [.dat .bool], nout := 1, F := fun x => F_law35_anchor () }
def hint_F_law35_anchor : Hint := H0
theorem run_F_law35_anchor : runE ⟨tdGet tys, [con_F_packet_Of, con_F_packet_Packet_Pos], [], [], []⟩ con_F_law35_anchor Tryd.f5 hint_F_law35_anchor = con_F_law35_anchor.F := by
  funext x
  kernel_rfl
theorem ok_F_law35_anchor : ConOK Tryd.prog con_F_law35_anchor :=
  con_of_run (Γ := ⟨tdGet tys, [con_F_packet_Of, con_F_packet_Packet_Pos], [], [], []⟩) ⟨fun T d h => tysB_ok tys tys_ok T d h, by simp [ok_F_packet_Of, ok_F_packet_Packet_Pos], by simp [], by simp [], ptrs_ok Tryd.prog [] (by kernel_rfl)⟩ (by kernel_rfl) Tryd.func5 rfl (by kernel_rfl) run_F_law35_anchor
/-- (*odograph/bits.Row).Put -/
noncomputable def F_bits_Row_Put (v_1 : Int) (many_2 : Int) (x_3 : (List Int)) (x_4 : Int) : Option ((List Int) × Int) :=
  let t8_5 : Int := (if (64 : Int) < many_2 then (64 : Int) else many_2)
  let t9_6 : Int := (IntKind.wrap .i64 (t8_5 - (1 : Int)))
  Option.bind (
    loopO (X := ((List Int) × Int)) (fun (s_7 : ((List Int) × (Int × Int))) =>
      let b0_8 : (List Int) := s_7.1
      let b0_9 : Int := s_7.2.1
      let i_10 : Int := s_7.2.2
      let t11_11 : Bool := (decide ((0 : Int) ≤ i_10))
      (bif t11_11 then
        let t19_12 : Bool := ((b0_9.tmod (8 : Int)) == (0 : Int))
        Option.bind (
          (bif t19_12 then
            chk none (decide ((b0_8.length + ([(0 : Int)] : List Int).length) * 1 ≤ 140737488355328)) <|
            let t26_13 : (List Int) := (b0_8 ++ ([(0 : Int)] : List Int))
            some t26_13
          else
            some b0_8)) fun r_14 =>
        let t37_15 : Int := (IntKind.wrap .i64 (b0_9.tdiv (8 : Int)))
        chk none ((decide ((0 : Int) ≤ t37_15)) && (decide (t37_15 < (r_14.length : Int)))) <|
        chk none (decide ((0 : Int) ≤ (IntKind.wrap .u64 i_10))) <|
        let t43_16 : Int := (v_1.fdiv (2 ^ (min (IntKind.wrap .u64 i_10).toNat 64)))
        let t44_17 : Int := (bits .u64 .and t43_16 (1 : Int))
        let t45_18 : Int := (IntKind.wrap .u8 t44_17)
        let t51_19 : Int := (IntKind.wrap .i64 ((7 : Int) - (b0_9.tmod (8 : Int))))
        let t52_20 : Int := (IntKind.wrap .u64 t51_19)
        chk none (decide ((0 : Int) ≤ t52_20)) <|
        let t53_21 : Int := (IntKind.wrap .u8 (t45_18 * 2 ^ (min t52_20.toNat 8)))
        let t54_22 : Int := (bits .u8 .or (r_14.getD t37_15.toNat (0 : Int)) t53_21)
        chk none ((decide ((0 : Int) ≤ t37_15)) && (decide (t37_15 < (r_14.length : Int)))) <|
        let l_23 : (List Int) := (r_14.set t37_15.toNat t54_22)
        let l_24 : (List Int) := (bif Nat.beq r_14.length l_23.length then l_23 else [])
        let t60_25 : Int := (IntKind.wrap .i64 (b0_9 + (1 : Int)))
        let t13_26 : Int := (IntKind.wrap .i64 (i_10 - (1 : Int)))
        some (.inl (l_24, t60_25, t13_26))
      else
        some (.inr (b0_8, b0_9)))) (x_3, x_4, t9_6)) fun r_27 =>
  let b0_28 : (List Int) := r_27.1
  let b0_29 : Int := r_27.2
  some (b0_28, b0_29)
noncomputable def con_F_bits_Row_Put : OCon := { f := 17, ps := [.ref 0 0, .dat (.int .u64), .dat (.int .i64)], boxes := [[.own 600050005 (.int .u8), .dat (.int .i64)]], ins := (.pair (.int .u64) (.pair (.int .i64) (.pair (.slice (.int .u8)) (.int .i64)))), nin := 4, outs := (.pair (.slice (.int .u8)) (.int .i64)), rs := [], aft := [[.own 600050005 (.int .u8), .dat (.int .i64)]], nout := 2, F := fun x => F_bits_Row_Put x.1 x.2.1 x.2.2.1 x.2.2.2 }
def hint_F_bits_Row_Put : Hint := (.mk .plain [H0, (.mk .plain [(.mk (.loop [⟨.cell 0 0, (.slice (.int .u8)), some 600050005⟩, ⟨.cell 0 1, (.int .i64), none⟩, ⟨.slot 6, (.int .i64), none⟩] [(0, 30), (0, 36), (0, 42), (0, 39), (0, 45), (0, 48), (0, 54), (0, 51), (0, 57), (0, 60), (0, 14), (0, 11), (0, 17), (0, 23), (0, 20), (0, 26), (0, 29), (0, 35), (0, 32), (0, 38), (0, 41), (0, 47), (0, 44), (0, 50), (0, 53), (0, 59), (0, 56), (0, 62), (0, 10), (0, 16), (0, 13), (0, 19), (0, 22), (0, 28), (0, 25), (0, 31), (0, 34), (0, 40), (0, 37), (0, 43), (0, 46), (0, 52), (0, 49), (0, 55), (0, 61), (0, 58), (0, 12), (0, 15), (0, 21), (0, 18), (0, 24), (0, 27), (0, 33)] [(.exit 0, [⟨.cell 0 0, (.slice (.int .u8)), some 600050005⟩, ⟨.cell 0 1, (.int .i64), none⟩])]) [(.mk .plain [H0, (.mk .plain [(.mk .plain [(.mk .plain [(.mk .plain [H0, (.mk (.join [(0, 23), (0, 20), (0, 26), (0, 22), (0, 28), (0, 25), (0, 21), (0, 24), (0, 27)] [(.normal, [⟨.cell 0 0, (.slice (.int .u8)), some 600050005⟩])]) [])])])])])])])])])
theorem run_F_bits_Row_Put : runO ⟨tdGet tys, [], [], [], []⟩ con_F_bits_Row_Put Tryd.f17 hint_F_bits_Row_Put = con_F_bits_Row_Put.F := by
  funext x
  kernel_rfl
theorem ok_F_bits_Row_Put : OConOK Tryd.prog con_F_bits_Row_Put :=
  ocon_of_run (Γ := ⟨tdGet tys, [], [], [], []⟩) ⟨fun T d h => tysB_ok tys tys_ok T d h, by simp [], by simp [], by simp [], ptrs_ok Tryd.prog [] (by kernel_rfl)⟩ (by kernel_rfl) Tryd.func17 rfl (by kernel_rfl) rfl run_F_bits_Row_Put
/-- (*odograph/bits.Row).PutSigned -/
noncomputable def F_bits_Row_PutSigned (v_1 : Int) (many_2 : Int) (x_3 : (List Int)) (x_4 : Int) : Option ((List Int) × Int) :=
  (F_bits_Row_Put (IntKind.wrap .u64 v_1) many_2 x_3 x_4).bind fun t10_5 =>
  some (t10_5.1, t10_5.2)
noncomputable def con_F_bits_Row_PutSigned : OCon := { f := 16, ps := [.ref 0 0, .dat (.int .i64), .dat (.int .i64)], boxes := [[.own 600050005 (.int .u8), .dat (.int .i64)]], ins := (.pair (.int .i64) (.pair (.int .i64) (.pair (.slice (.int .u8)) (.int .i64)))), nin := 4, outs := (.pair (.slice (.int .u8)) (.int .i64)), rs := [], aft := [[.own 600050005 (.int .u8), .dat (.int .i64)]], nout := 2, F := fun x => F_bits_Row_PutSigned x.1 x.2.1 x.2.2.1 x.2.2.2 }
def hint_F_bits_Row_PutSigned : Hint := H0
theorem run_F_bits_Row_PutSigned : runO ⟨tdGet tys, [], [], [con_F_bits_Row_Put], []⟩ con_F_bits_Row_PutSigned Tryd.f16 hint_F_bits_Row_PutSigned = con_F_bits_Row_PutSigned.F := by
  funext x
  kernel_rfl
theorem ok_F_bits_Row_PutSigned : OConOK Tryd.prog con_F_bits_Row_PutSigned :=
  ocon_of_run (Γ := ⟨tdGet tys, [], [], [con_F_bits_Row_Put], []⟩) ⟨fun T d h => tysB_ok tys tys_ok T d h, by simp [], by simp [], by simp [ok_F_bits_Row_Put], ptrs_ok Tryd.prog [] (by kernel_rfl)⟩ (by kernel_rfl) Tryd.func16 rfl (by kernel_rfl) rfl run_F_bits_Row_PutSigned
/-- (*odograph/bits.Row).Bytes -/
noncomputable def F_bits_Row_Bytes (x_1 : (List Int)) (x_2 : Int) : Option ((List Int) × ((List Int) × Int)) :=
  chk none (decide ((([] : List Int).length + x_1.length) * 1 ≤ 140737488355328)) <|
  let t8_3 : (List Int) := (([] : List Int) ++ x_1)
  some (t8_3, x_1, x_2)
noncomputable def con_F_bits_Row_Bytes : Con := { f := 19, ps := [.ref 0 0], boxes := [[.dat (.slice (.int .u8)), .dat (.int .i64)]], ins := (.pair (.slice (.int .u8)) (.int .i64)), nin := 2, outs := (.pair (.slice (.int .u8)) (.pair (.slice (.int .u8)) (.int .i64))), rs := [.dat (.slice (.int .u8))], nout := 3, F := fun x => F_bits_Row_Bytes x.1 x.2 }
def hint_F_bits_Row_Bytes : Hint := H0
theorem run_F_bits_Row_Bytes : runE ⟨tdGet tys, [], [], [], []⟩ con_F_bits_Row_Bytes Tryd.f19 hint_F_bits_Row_Bytes = con_F_bits_Row_Bytes.F := by
  funext x
  kernel_rfl
theorem ok_F_bits_Row_Bytes : ConOK Tryd.prog con_F_bits_Row_Bytes :=
  con_of_run (Γ := ⟨tdGet tys, [], [], [], []⟩) ⟨fun T d h => tysB_ok tys tys_ok T d h, by simp [], by simp [], by simp [], ptrs_ok Tryd.prog [] (by kernel_rfl)⟩ (by kernel_rfl) Tryd.func19 rfl (by kernel_rfl) run_F_bits_Row_Bytes
/-- odograph/crc.more -/
noncomputable def F_crc_more (sum_1 : Int) (b_2 : Int) : Option Int :=
  let t8_3 : Int := (IntKind.wrap .u16 ((IntKind.wrap .u16 b_2) * 2 ^ 8))
  let t9_4 : Int := (bits .u16 .xor sum_1 t8_3)
  Option.bind (
    loopO (X := Int) (fun (s_5 : (Int × Int)) =>
      let t10_6 : Int := s_5.1
      let sum_7 : Int := s_5.2
      let t11_8 : Bool := (decide (t10_6 < (8 : Int)))
      (bif t11_8 then
        let t13_9 : Int := (bits .u16 .and sum_7 (32768 : Int))
        Option.bind (
          (bif (t13_9 != (0 : Int)) then
            let t16_10 : Int := (IntKind.wrap .u16 (sum_7 * 2 ^ 1))
            let t17_11 : Int := (bits .u16 .xor t16_10 (4129 : Int))
            some t17_11
          else
            let t19_12 : Int := (IntKind.wrap .u16 (sum_7 * 2 ^ 1))
            some t19_12)) fun r_13 =>
        let t20_14 : Int := (IntKind.wrap .i64 (t10_6 + (1 : Int)))
        some (.inl (t20_14, r_13))
      else
        some (.inr sum_7))) ((0 : Int), t9_4)) fun r_15 =>
  some r_15
noncomputable def con_F_crc_more : Con := { f := 40, ps := [.dat (.int .u16), .dat (.int .u8)], boxes := [], ins := (.pair (.int .u16) (.int .u8)), nin := 2, outs := (.int .u16), rs := [.dat (.int .u16)], nout := 1, F := fun x => F_crc_more x.1 x.2 }
def hint_F_crc_more : Hint := (.mk .plain [H0, (.mk .plain [H0, (.mk .plain [(.mk .plain [H0, (.mk .plain [(.mk (.loop [⟨.slot 10, (.int .i64), none⟩, ⟨.slot 0, (.int .u16), none⟩] [(0, 20), (0, 16), (0, 13), (0, 19), (0, 12), (0, 15), (0, 18), (0, 14), (0, 11), (0, 17)] [(.exit 0, [⟨.slot 0, (.int .u16), none⟩])]) [(.mk .plain [H0, (.mk .plain [H0, (.mk .plain [(.mk .plain [(.mk .plain [H0, (.mk (.join [(0, 15), (0, 16), (0, 17), (0, 18), (0, 19)] [(.normal, [⟨.slot 0, (.int .u16), none⟩])]) [])])])])])])])])])])])])
theorem run_F_crc_more : runE ⟨tdGet tys, [], [], [], []⟩ con_F_crc_more Tryd.f40 hint_F_crc_more = con_F_crc_more.F := by
  funext x
  kernel_rfl
theorem ok_F_crc_more : ConOK Tryd.prog con_F_crc_more :=
  con_of_run (Γ := ⟨tdGet tys, [], [], [], []⟩) ⟨fun T d h => tysB_ok tys tys_ok T d h, by simp [], by simp [], by simp [], ptrs_ok Tryd.prog [] (by kernel_rfl)⟩ (by kernel_rfl) Tryd.func40 rfl (by kernel_rfl) run_F_crc_more
/-- odograph/crc.Go -/
noncomputable def F_crc_Go (sum_1 : Int) (b_2 : (List Int)) : Option Int :=
  Option.bind (
    loopO (X := Int) (fun (s_3 : (Int × Int)) =>
      let sum_4 : Int := s_3.1
      let t9_5 : Int := s_3.2
      let t10_6 : Bool := (decide (t9_5 < (b_2.length : Int)))
      (bif t10_6 then
        chk none ((decide ((0 : Int) ≤ t9_5)) && (decide (t9_5 < (b_2.length : Int)))) <|
        let t12_7 : Int := (b_2.getD t9_5.toNat (0 : Int))
        (F_crc_more sum_4 t12_7).bind fun t15_8 =>
        let t16_9 : Int := (IntKind.wrap .i64 (t9_5 + (1 : Int)))
        some (.inl (t15_8, t16_9))
      else
        some (.inr sum_4))) (sum_1, (0 : Int))) fun r_10 =>
  some r_10
noncomputable def con_F_crc_Go : Con := { f := 36, ps := [.dat (.int .u16), .dat (.slice (.int .u8))], boxes := [], ins := (.pair (.int .u16) (.slice (.int .u8))), nin := 2, outs := (.int .u16), rs := [.dat (.int .u16)], nout := 1, F := fun x => F_crc_Go x.1 x.2 }
def hint_F_crc_Go : Hint := (.mk .plain [H0, (.mk .plain [(.mk .plain [H0, (.mk .plain [(.mk (.loop [⟨.slot 0, (.int .u16), none⟩, ⟨.slot 9, (.int .i64), none⟩] [(0, 10), (0, 16), (0, 13), (0, 6), (0, 12), (0, 15), (0, 14), (0, 11)] [(.exit 0, [⟨.slot 0, (.int .u16), none⟩])]) [])])])])])
theorem run_F_crc_Go : runE ⟨tdGet tys, [con_F_crc_more], [], [], []⟩ con_F_crc_Go Tryd.f36 hint_F_crc_Go = con_F_crc_Go.F := by
  funext x
  kernel_rfl
theorem ok_F_crc_Go : ConOK Tryd.prog con_F_crc_Go :=
  con_of_run (Γ := ⟨tdGet tys, [con_F_crc_more], [], [], []⟩) ⟨fun T d h => tysB_ok tys tys_ok T d h, by simp [ok_F_crc_more], by simp [], by simp [], ptrs_ok Tryd.prog [] (by kernel_rfl)⟩ (by kernel_rfl) Tryd.func36 rfl (by kernel_rfl) run_F_crc_Go
/-- odograph/crc.Sum -/
noncomputable def F_crc_Sum (b_1 : (List Int)) : Option Int :=
  (F_crc_Go (65535 : Int) b_1).bind fun t4_2 =>
  some t4_2
noncomputable def con_F_crc_Sum : Con := { f := 22, ps := [.dat (.slice (.int .u8))], boxes := [], ins := (.slice (.int .u8)), nin := 1, outs := (.int .u16), rs := [.dat (.int .u16)], nout := 1, F := fun x => F_crc_Sum x }
def hint_F_crc_Sum : Hint := H0
theorem run_F_crc_Sum : runE ⟨tdGet tys, [con_F_crc_Go], [], [], []⟩ con_F_crc_Sum Tryd.f22 hint_F_crc_Sum = con_F_crc_Sum.F := by
  funext x
  kernel_rfl
theorem ok_F_crc_Sum : ConOK Tryd.prog con_F_crc_Sum :=
  con_of_run (Γ := ⟨tdGet tys, [con_F_crc_Go], [], [], []⟩) ⟨fun T d h => tysB_ok tys tys_ok T d h, by simp [ok_F_crc_Go], by simp [], by simp [], ptrs_ok Tryd.prog [] (by kernel_rfl)⟩ (by kernel_rfl) Tryd.func22 rfl (by kernel_rfl) run_F_crc_Sum
/-- odograph/crc.Seal -/
noncomputable def F_crc_Seal (b_1 : (List Int)) : Option (List Int) :=
  (F_crc_Sum b_1).bind fun t6_2 =>
  let t11_3 : Int := (IntKind.wrap .i64 ((b_1.length : Int) + (2 : Int)))
  chk none ((decide ((0 : Int) ≤ (b_1.length : Int))) && (decide ((b_1.length : Int) ≤ t11_3)) && (decide (t11_3 * 1 ≤ (140737488355328 : Int))) && (decide (t11_3 ≤ (140737488355328 : Int)))) <|
  chk none (decide (0 < (List.replicate (b_1.length : Int).toNat (0 : Int)).length)) <|
  let l_4 : (List Int) := (b_1.take (List.replicate (b_1.length : Int).toNat (0 : Int)).length ++ (List.replicate (b_1.length : Int).toNat (0 : Int)).drop b_1.length)
  let t19_5 : Int := (IntKind.wrap .u8 (t6_2.fdiv (2 ^ 8)))
  chk none (decide ((l_4.length + ([t19_5, (IntKind.wrap .u8 t6_2)] : List Int).length) * 1 ≤ 140737488355328)) <|
  let t23_6 : (List Int) := (l_4 ++ ([t19_5, (IntKind.wrap .u8 t6_2)] : List Int))
  some t23_6
noncomputable def con_F_crc_Seal : Con := { f := 18, ps := [.dat (.slice (.int .u8))], boxes := [], ins := (.slice (.int .u8)), nin := 1, outs := (.slice (.int .u8)), rs := [.dat (.slice (.int .u8))], nout := 1, F := fun x => F_crc_Seal x }
def hint_F_crc_Seal : Hint := H0
theorem run_F_crc_Seal : runE ⟨tdGet tys, [con_F_crc_Sum], [], [], []⟩ con_F_crc_Seal Tryd.f18 hint_F_crc_Seal = con_F_crc_Seal.F := by
  funext x
  kernel_rfl
theorem ok_F_crc_Seal : ConOK Tryd.prog con_F_crc_Seal :=
  con_of_run (Γ := ⟨tdGet tys, [con_F_crc_Sum], [], [], []⟩) ⟨fun T d h => tysB_ok tys tys_ok T d h, by simp [ok_F_crc_Sum], by simp [], by simp [], ptrs_ok Tryd.prog [] (by kernel_rfl)⟩ (by kernel_rfl) Tryd.func18 rfl (by kernel_rfl) run_F_crc_Seal
/-- odograph/packet.Put -/
noncomputable def F_packet_Put (p_1 : (Int × (Int × (Int × (Int × (Int × (Int × (Int × (Int × (Bool × (Bool × (Bool × (Bool × (Bool × (Bool × Bool))))))))))))))) : Option ((List Int) × Int) :=
  (F_packet_Packet_Right p_1).bind fun t11_2 =>
  (bif (!t11_2) then
    some ([], (10 : Int))
  else
    (F_packet_Packet_numbers p_1).bind fun t14_3 =>
    Option.bind (
      loopO (X := (Int × (List Int))) (fun (s_4 : (Int × ((List Int) × Int))) =>
        let b1_5 : Int := s_4.1
        let b1_6 : (List Int) := s_4.2.1
        let t15_7 : Int := s_4.2.2
        let t16_8 : Bool := (decide (t15_7 < (8 : Int)))
        (bif t16_8 then
          chk none ((decide ((0 : Int) ≤ t15_7)) && (decide (t15_7 < (8 : Int)))) <|
          let t18_9 : Int := (List.getD [t14_3.1, t14_3.2.1, t14_3.2.2.1, t14_3.2.2.2.1, t14_3.2.2.2.2.1, t14_3.2.2.2.2.2.1, t14_3.2.2.2.2.2.2.1, t14_3.2.2.2.2.2.2.2] t15_7.toNat (0 : Int))
          chk none ((decide ((0 : Int) ≤ t15_7)) && (decide (t15_7 < (8 : Int)))) <|
          let t22_10 : Int := (List.getD [glob_0.1, glob_0.2.1, glob_0.2.2.1, glob_0.2.2.2.1, glob_0.2.2.2.2.1, glob_0.2.2.2.2.2.1, glob_0.2.2.2.2.2.2.1, glob_0.2.2.2.2.2.2.2] t15_7.toNat (0 : Int))
          (F_bits_Row_PutSigned t18_9 t22_10 b1_6 b1_5).bind fun t23_11 =>
          let t24_12 : Int := (IntKind.wrap .i64 (t15_7 + (1 : Int)))
          some (.inl (t23_11.2, t23_11.1, t24_12))
        else
          some (.inr (b1_5, b1_6)))) ((0 : Int), [], (0 : Int))) fun r_13 =>
    let b1_14 : Int := r_13.1
    let b1_15 : (List Int) := r_13.2
    Option.bind (
      (bif p_1.2.2.2.2.2.2.2.2.1 then
        some (1 : Int)
      else
        some (0 : Int))) fun r_16 =>
    (F_bits_Row_Put r_16 (1 : Int) b1_15 b1_14).bind fun t32_17 =>
    Option.bind (
      (bif p_1.2.2.2.2.2.2.2.2.2.1 then
        some (1 : Int)
      else
        some (0 : Int))) fun r_18 =>
    (F_bits_Row_Put r_18 (1 : Int) t32_17.1 t32_17.2).bind fun t32_19 =>
    let t29_20 : Bool := p_1.2.2.2.2.2.2.2.2.2.2.1
    Option.bind (
      (bif t29_20 then
        some (1 : Int)
      else
        some (0 : Int))) fun r_21 =>
    (F_bits_Row_Put r_21 (1 : Int) t32_19.1 t32_19.2).bind fun t32_22 =>
    let t29_23 : Bool := p_1.2.2.2.2.2.2.2.2.2.2.2.1
    Option.bind (
      (bif t29_23 then
        some (1 : Int)
      else
        some (0 : Int))) fun r_24 =>
    (F_bits_Row_Put r_24 (1 : Int) t32_22.1 t32_22.2).bind fun t32_25 =>
    let t29_26 : Bool := p_1.2.2.2.2.2.2.2.2.2.2.2.2.1
    Option.bind (
      (bif t29_26 then
        some (1 : Int)
      else
        some (0 : Int))) fun r_27 =>
    (F_bits_Row_Put r_27 (1 : Int) t32_25.1 t32_25.2).bind fun t32_28 =>
    let t29_29 : Bool := p_1.2.2.2.2.2.2.2.2.2.2.2.2.2.1
    Option.bind (
      (bif t29_29 then
        some (1 : Int)
      else
        some (0 : Int))) fun r_30 =>
    (F_bits_Row_Put r_30 (1 : Int) t32_28.1 t32_28.2).bind fun t32_31 =>
    let t29_32 : Bool := p_1.2.2.2.2.2.2.2.2.2.2.2.2.2.2
    Option.bind (
      (bif t29_32 then
        some (1 : Int)
      else
        some (0 : Int))) fun r_33 =>
    (F_bits_Row_Put r_33 (1 : Int) t32_31.1 t32_31.2).bind fun t32_34 =>
    (F_bits_Row_Bytes t32_34.1 t32_34.2).bind fun t34_35 =>
    (F_crc_Seal t34_35.1).bind fun t35_36 =>
    some (t35_36, (0 : Int)))
noncomputable def con_F_packet_Put : Con := { f := 6, ps := [.dat (.agg (.pair (.int .i64) (.pair (.int .i64) (.pair (.int .i64) (.pair (.int .i64) (.pair (.int .i64) (.pair (.int .i64) (.pair (.int .i64) (.pair (.int .i64) (.agg (.pair .bool (.pair .bool (.pair .bool (.pair .bool (.pair .bool (.pair .bool .bool))))))))))))))))], boxes := [], ins := (.agg (.pair (.int .i64) (.pair (.int .i64) (.pair (.int .i64) (.pair (.int .i64) (.pair (.int .i64) (.pair (.int .i64) (.pair (.int .i64) (.pair (.int .i64) (.agg (.pair .bool (.pair .bool (.pair .bool (.pair .bool (.pair .bool (.pair .bool .bool)))))))))))))))), nin := 1, outs := (.pair (.slice (.int .u8)) (.int .i64)), rs := [.dat (.slice (.int .u8)), .dat (.int .i64)], nout := 2, F := fun x => F_packet_Put x }
def hint_F_packet_Put : Hint := (.mk .plain [H0, (.mk .plain [H0, (.mk .plain [H0, (.mk .plain [(.mk .plain [H0, (.mk .plain [(.mk (.loop [⟨.cell 1 1, (.int .i64), none⟩, ⟨.cell 1 0, (.slice (.int .u8)), some 3000050005⟩, ⟨.slot 15, (.int .i64), none⟩] [(0, 23), (0, 20), (0, 16), (0, 19), (0, 22), (0, 6), (0, 21), (0, 5), (0, 18), (0, 24), (0, 17)] [(.exit 0, [⟨.cell 1 1, (.int .i64), none⟩, ⟨.cell 1 0, (.slice (.int .u8)), some 3000050005⟩])]) [])])]), (.mk .plain [(.mk .plain [H0, (.mk .plain [(.mk (.unroll 8) [(.mk .plain [H0, (.mk .plain [H0, (.mk .plain [(.mk .plain [(.mk .plain [H0, (.mk .plain [H0, (.mk .plain [(.mk .plain [H0, (.mk (.join [] [(.normal, [⟨.slot 9, (.int .u64), none⟩])]) [])])])])])])])])])])])])])])])])])
theorem run_F_packet_Put : runE ⟨tdGet tys, [con_F_packet_Packet_Right, con_F_packet_Packet_numbers, con_F_bits_Row_Bytes, con_F_crc_Seal], [], [con_F_bits_Row_PutSigned, con_F_bits_Row_Put], []⟩ con_F_packet_Put Tryd.f6 hint_F_packet_Put = con_F_packet_Put.F := by
  funext x
  kernel_rfl
theorem ok_F_packet_Put : ConOK Tryd.prog con_F_packet_Put :=
  con_of_run (Γ := ⟨tdGet tys, [con_F_packet_Packet_Right, con_F_packet_Packet_numbers, con_F_bits_Row_Bytes, con_F_crc_Seal], [], [con_F_bits_Row_PutSigned, con_F_bits_Row_Put], []⟩) ⟨fun T d h => tysB_ok tys tys_ok T d h, by simp [ok_F_packet_Packet_Right, ok_F_packet_Packet_numbers, ok_F_bits_Row_Bytes, ok_F_crc_Seal], by simp [], by simp [ok_F_bits_Row_PutSigned, ok_F_bits_Row_Put], ptrs_ok Tryd.prog [] (by kernel_rfl)⟩ (by kernel_rfl) Tryd.func6 rfl (by kernel_rfl) run_F_packet_Put
/-- odograph/odographlaw35.ref -/
noncomputable def F_law35_ref (p_1 : (Int × (Int × (Int × (Int × (Int × (Int × (Int × (Int × (Bool × (Bool × (Bool × (Bool × (Bool × (Bool × Bool))))))))))))))) : Option ((Int × (Int × (Int × (Int × (Int × (Int × (Int × Int))))))) × (Int × (Int × (Int × (Int × (Int × (Int × Int))))))) :=
  let t22_2 : (Int × (Int × (Int × (Int × (Int × (Int × (Int × Int))))))) := (p_1.1, (p_1.2.1, (p_1.2.2.1, (p_1.2.2.2.1, (p_1.2.2.2.2.1, (p_1.2.2.2.2.2.1, (p_1.2.2.2.2.2.2.1, p_1.2.2.2.2.2.2.2.1)))))))
  let t23_3 : ((Int × (Int × (Int × (Int × (Int × (Int × (Int × Int))))))) × (Int × (Int × (Int × (Int × (Int × (Int × Int))))))) := (t22_2, ((0 : Int), ((0 : Int), ((0 : Int), ((0 : Int), ((0 : Int), ((0 : Int), (0 : Int))))))))
  Option.bind (
    (bif p_1.2.2.2.2.2.2.2.2.1 then
      some (t23_3.1.2.2.2.2.1, t23_3.1.2.1, t23_3.1.2.2.2.2.2.2.2, t23_3.2.2.2.1, t23_3.2.2.2.2.2.2.1, t23_3.1.2.2.1, t23_3.1.2.2.2.2.2.1, t23_3.2.2.2.2.1, (1 : Int), t23_3.2.2.2.2.2.2.2, t23_3.1.1, t23_3.1.2.2.2.1, t23_3.2.2.1, t23_3.1.2.2.2.2.2.2.1, t23_3.2.2.2.2.2.1)
    else
      some (t23_3.1.2.2.2.2.1, t23_3.1.2.1, t23_3.1.2.2.2.2.2.2.2, t23_3.2.2.2.1, t23_3.2.2.2.2.2.2.1, t23_3.1.2.2.1, t23_3.1.2.2.2.2.2.1, t23_3.2.2.2.2.1, t23_3.2.1, t23_3.2.2.2.2.2.2.2, t23_3.1.1, t23_3.1.2.2.2.1, t23_3.2.2.1, t23_3.1.2.2.2.2.2.2.1, t23_3.2.2.2.2.2.1))) fun r_4 =>
  let b2_5 : Int := r_4.1
  let b2_6 : Int := r_4.2.1
  let b2_7 : Int := r_4.2.2.1
  let b2_8 : Int := r_4.2.2.2.1
  let b2_9 : Int := r_4.2.2.2.2.1
  let b2_10 : Int := r_4.2.2.2.2.2.1
  let b2_11 : Int := r_4.2.2.2.2.2.2.1
  let b2_12 : Int := r_4.2.2.2.2.2.2.2.1
  let b2_13 : Int := r_4.2.2.2.2.2.2.2.2.1
  let b2_14 : Int := r_4.2.2.2.2.2.2.2.2.2.1
  let b2_15 : Int := r_4.2.2.2.2.2.2.2.2.2.2.1
  let b2_16 : Int := r_4.2.2.2.2.2.2.2.2.2.2.2.1
  let b2_17 : Int := r_4.2.2.2.2.2.2.2.2.2.2.2.2.1
  let b2_18 : Int := r_4.2.2.2.2.2.2.2.2.2.2.2.2.2.1
  let b2_19 : Int := r_4.2.2.2.2.2.2.2.2.2.2.2.2.2.2
  Option.bind (
    (bif p_1.2.2.2.2.2.2.2.2.2.1 then
      some (b2_5, b2_6, b2_7, b2_8, b2_9, b2_10, b2_11, b2_12, b2_13, b2_14, b2_15, b2_16, (1 : Int), b2_18, b2_19)
    else
      some (b2_5, b2_6, b2_7, b2_8, b2_9, b2_10, b2_11, b2_12, b2_13, b2_14, b2_15, b2_16, b2_17, b2_18, b2_19))) fun r_20 =>
  let b2_21 : Int := r_20.1
  let b2_22 : Int := r_20.2.1
  let b2_23 : Int := r_20.2.2.1
  let b2_24 : Int := r_20.2.2.2.1
  let b2_25 : Int := r_20.2.2.2.2.1
  let b2_26 : Int := r_20.2.2.2.2.2.1
  let b2_27 : Int := r_20.2.2.2.2.2.2.1
  let b2_28 : Int := r_20.2.2.2.2.2.2.2.1
  let b2_29 : Int := r_20.2.2.2.2.2.2.2.2.1
  let b2_30 : Int := r_20.2.2.2.2.2.2.2.2.2.1
  let b2_31 : Int := r_20.2.2.2.2.2.2.2.2.2.2.1
  let b2_32 : Int := r_20.2.2.2.2.2.2.2.2.2.2.2.1
  let b2_33 : Int := r_20.2.2.2.2.2.2.2.2.2.2.2.2.1
  let b2_34 : Int := r_20.2.2.2.2.2.2.2.2.2.2.2.2.2.1
  let b2_35 : Int := r_20.2.2.2.2.2.2.2.2.2.2.2.2.2.2
  let t29_36 : Bool := p_1.2.2.2.2.2.2.2.2.2.2.1
  Option.bind (
    (bif t29_36 then
      some (b2_21, b2_22, b2_23, (1 : Int), b2_25, b2_26, b2_27, b2_28, b2_29, b2_30, b2_31, b2_32, b2_33, b2_34, b2_35)
    else
      some (b2_21, b2_22, b2_23, b2_24, b2_25, b2_26, b2_27, b2_28, b2_29, b2_30, b2_31, b2_32, b2_33, b2_34, b2_35))) fun r_37 =>
  let b2_38 : Int := r_37.1
  let b2_39 : Int := r_37.2.1
  let b2_40 : Int := r_37.2.2.1
  let b2_41 : Int := r_37.2.2.2.1
  let b2_42 : Int := r_37.2.2.2.2.1
  let b2_43 : Int := r_37.2.2.2.2.2.1
  let b2_44 : Int := r_37.2.2.2.2.2.2.1
  let b2_45 : Int := r_37.2.2.2.2.2.2.2.1
  let b2_46 : Int := r_37.2.2.2.2.2.2.2.2.1
  let b2_47 : Int := r_37.2.2.2.2.2.2.2.2.2.1
  let b2_48 : Int := r_37.2.2.2.2.2.2.2.2.2.2.1
  let b2_49 : Int := r_37.2.2.2.2.2.2.2.2.2.2.2.1
  let b2_50 : Int := r_37.2.2.2.2.2.2.2.2.2.2.2.2.1
  let b2_51 : Int := r_37.2.2.2.2.2.2.2.2.2.2.2.2.2.1
  let b2_52 : Int := r_37.2.2.2.2.2.2.2.2.2.2.2.2.2.2
  let t29_53 : Bool := p_1.2.2.2.2.2.2.2.2.2.2.2.1
  Option.bind (
    (bif t29_53 then
      some (b2_38, b2_39, b2_40, b2_41, b2_42, b2_43, b2_44, (1 : Int), b2_46, b2_47, b2_48, b2_49, b2_50, b2_51, b2_52)
    else
      some (b2_38, b2_39, b2_40, b2_41, b2_42, b2_43, b2_44, b2_45, b2_46, b2_47, b2_48, b2_49, b2_50, b2_51, b2_52))) fun r_54 =>
  let b2_55 : Int := r_54.1
  let b2_56 : Int := r_54.2.1
  let b2_57 : Int := r_54.2.2.1
  let b2_58 : Int := r_54.2.2.2.1
  let b2_59 : Int := r_54.2.2.2.2.1
  let b2_60 : Int := r_54.2.2.2.2.2.1
  let b2_61 : Int := r_54.2.2.2.2.2.2.1
  let b2_62 : Int := r_54.2.2.2.2.2.2.2.1
  let b2_63 : Int := r_54.2.2.2.2.2.2.2.2.1
  let b2_64 : Int := r_54.2.2.2.2.2.2.2.2.2.1
  let b2_65 : Int := r_54.2.2.2.2.2.2.2.2.2.2.1
  let b2_66 : Int := r_54.2.2.2.2.2.2.2.2.2.2.2.1
  let b2_67 : Int := r_54.2.2.2.2.2.2.2.2.2.2.2.2.1
  let b2_68 : Int := r_54.2.2.2.2.2.2.2.2.2.2.2.2.2.1
  let b2_69 : Int := r_54.2.2.2.2.2.2.2.2.2.2.2.2.2.2
  let t29_70 : Bool := p_1.2.2.2.2.2.2.2.2.2.2.2.2.1
  Option.bind (
    (bif t29_70 then
      some (b2_55, b2_56, b2_57, b2_58, b2_59, b2_60, b2_61, b2_62, b2_63, b2_64, b2_65, b2_66, b2_67, b2_68, (1 : Int))
    else
      some (b2_55, b2_56, b2_57, b2_58, b2_59, b2_60, b2_61, b2_62, b2_63, b2_64, b2_65, b2_66, b2_67, b2_68, b2_69))) fun r_71 =>
  let b2_72 : Int := r_71.1
  let b2_73 : Int := r_71.2.1
  let b2_74 : Int := r_71.2.2.1
  let b2_75 : Int := r_71.2.2.2.1
  let b2_76 : Int := r_71.2.2.2.2.1
  let b2_77 : Int := r_71.2.2.2.2.2.1
  let b2_78 : Int := r_71.2.2.2.2.2.2.1
  let b2_79 : Int := r_71.2.2.2.2.2.2.2.1
  let b2_80 : Int := r_71.2.2.2.2.2.2.2.2.1
  let b2_81 : Int := r_71.2.2.2.2.2.2.2.2.2.1
  let b2_82 : Int := r_71.2.2.2.2.2.2.2.2.2.2.1
  let b2_83 : Int := r_71.2.2.2.2.2.2.2.2.2.2.2.1
  let b2_84 : Int := r_71.2.2.2.2.2.2.2.2.2.2.2.2.1
  let b2_85 : Int := r_71.2.2.2.2.2.2.2.2.2.2.2.2.2.1
  let b2_86 : Int := r_71.2.2.2.2.2.2.2.2.2.2.2.2.2.2
  let t29_87 : Bool := p_1.2.2.2.2.2.2.2.2.2.2.2.2.2.1
  Option.bind (
    (bif t29_87 then
      some (b2_72, b2_73, b2_74, b2_75, (1 : Int), b2_77, b2_78, b2_79, b2_80, b2_81, b2_82, b2_83, b2_84, b2_85, b2_86)
    else
      some (b2_72, b2_73, b2_74, b2_75, b2_76, b2_77, b2_78, b2_79, b2_80, b2_81, b2_82, b2_83, b2_84, b2_85, b2_86))) fun r_88 =>
  let b2_89 : Int := r_88.1
  let b2_90 : Int := r_88.2.1
  let b2_91 : Int := r_88.2.2.1
  let b2_92 : Int := r_88.2.2.2.1
  let b2_93 : Int := r_88.2.2.2.2.1
  let b2_94 : Int := r_88.2.2.2.2.2.1
  let b2_95 : Int := r_88.2.2.2.2.2.2.1
  let b2_96 : Int := r_88.2.2.2.2.2.2.2.1
  let b2_97 : Int := r_88.2.2.2.2.2.2.2.2.1
  let b2_98 : Int := r_88.2.2.2.2.2.2.2.2.2.1
  let b2_99 : Int := r_88.2.2.2.2.2.2.2.2.2.2.1
  let b2_100 : Int := r_88.2.2.2.2.2.2.2.2.2.2.2.1
  let b2_101 : Int := r_88.2.2.2.2.2.2.2.2.2.2.2.2.1
  let b2_102 : Int := r_88.2.2.2.2.2.2.2.2.2.2.2.2.2.1
  let b2_103 : Int := r_88.2.2.2.2.2.2.2.2.2.2.2.2.2.2
  let t29_104 : Bool := p_1.2.2.2.2.2.2.2.2.2.2.2.2.2.2
  Option.bind (
    (bif t29_104 then
      some (b2_89, b2_90, b2_91, b2_92, b2_93, b2_94, b2_95, b2_96, b2_97, (1 : Int), b2_99, b2_100, b2_101, b2_102, b2_103)
    else
      some (b2_89, b2_90, b2_91, b2_92, b2_93, b2_94, b2_95, b2_96, b2_97, b2_98, b2_99, b2_100, b2_101, b2_102, b2_103))) fun r_105 =>
  let b2_106 : Int := r_105.1
  let b2_107 : Int := r_105.2.1
  let b2_108 : Int := r_105.2.2.1
  let b2_109 : Int := r_105.2.2.2.1
  let b2_110 : Int := r_105.2.2.2.2.1
  let b2_111 : Int := r_105.2.2.2.2.2.1
  let b2_112 : Int := r_105.2.2.2.2.2.2.1
  let b2_113 : Int := r_105.2.2.2.2.2.2.2.1
  let b2_114 : Int := r_105.2.2.2.2.2.2.2.2.1
  let b2_115 : Int := r_105.2.2.2.2.2.2.2.2.2.1
  let b2_116 : Int := r_105.2.2.2.2.2.2.2.2.2.2.1
  let b2_117 : Int := r_105.2.2.2.2.2.2.2.2.2.2.2.1
  let b2_118 : Int := r_105.2.2.2.2.2.2.2.2.2.2.2.2.1
  let b2_119 : Int := r_105.2.2.2.2.2.2.2.2.2.2.2.2.2.1
  let b2_120 : Int := r_105.2.2.2.2.2.2.2.2.2.2.2.2.2.2
  let t35_121 : ((Int × (Int × (Int × (Int × (Int × (Int × (Int × Int))))))) × (Int × (Int × (Int × (Int × (Int × (Int × Int))))))) := ((b2_116, (b2_107, (b2_111, (b2_117, (b2_106, (b2_112, (b2_119, b2_108))))))), (b2_114, (b2_118, (b2_109, (b2_113, (b2_120, (b2_110, b2_115)))))))
  some t35_121
noncomputable def con_F_law35_ref : Con := { f := 9, ps := [.dat (.agg (.pair (.int .i64) (.pair (.int .i64) (.pair (.int .i64) (.pair (.int .i64) (.pair (.int .i64) (.pair (.int .i64) (.pair (.int .i64) (.pair (.int .i64) (.agg (.pair .bool (.pair .bool (.pair .bool (.pair .bool (.pair .bool (.pair .bool .bool))))))))))))))))], boxes := [], ins := (.agg (.pair (.int .i64) (.pair (.int .i64) (.pair (.int .i64) (.pair (.int .i64) (.pair (.int .i64) (.pair (.int .i64) (.pair (.int .i64) (.pair (.int .i64) (.agg (.pair .bool (.pair .bool (.pair .bool (.pair .bool (.pair .bool (.pair .bool .bool)))))))))))))))), nin := 1, outs := (.agg (.pair (.agg (.pair (.int .i64) (.pair (.int .i64) (.pair (.int .i64) (.pair (.int .i64) (.pair (.int .i64) (.pair (.int .i64) (.pair (.int .i64) (.int .i64))))))))) (.agg (.pair (.int .i64) (.pair (.int .i64) (.pair (.int .i64) (.pair (.int .i64) (.pair (.int .i64) (.pair (.int .i64) (.int .i64)))))))))), rs := [.dat (.agg (.pair (.agg (.pair (.int .i64) (.pair (.int .i64) (.pair (.int .i64) (.pair (.int .i64) (.pair (.int .i64) (.pair (.int .i64) (.pair (.int .i64) (.int .i64))))))))) (.agg (.pair (.int .i64) (.pair (.int .i64) (.pair (.int .i64) (.pair (.int .i64) (.pair (.int .i64) (.pair (.int .i64) (.int .i64))))))))))], nout := 1, F := fun x => F_law35_ref x }
def hint_F_law35_ref : Hint := (.mk .plain [H0, (.mk .plain [H0, (.mk .plain [(.mk .plain [H0, (.mk .plain [(.mk (.unroll 8) [(.mk .plain [H0, (.mk .plain [H0, (.mk .plain [(.mk .plain [(.mk .plain [H0, (.mk .plain [H0, (.mk (.join [(0, 31), (0, 32), (0, 33)] [(.normal, [⟨.cell 2 4, (.int .i64), none⟩, ⟨.cell 2 1, (.int .i64), none⟩, ⟨.cell 2 7, (.int .i64), none⟩, ⟨.cell 2 10, (.int .i64), none⟩, ⟨.cell 2 13, (.int .i64), none⟩, ⟨.cell 2 2, (.int .i64), none⟩, ⟨.cell 2 5, (.int .i64), none⟩, ⟨.cell 2 11, (.int .i64), none⟩, ⟨.cell 2 8, (.int .i64), none⟩, ⟨.cell 2 14, (.int .i64), none⟩, ⟨.cell 2 0, (.int .i64), none⟩, ⟨.cell 2 3, (.int .i64), none⟩, ⟨.cell 2 9, (.int .i64), none⟩, ⟨.cell 2 6, (.int .i64), none⟩, ⟨.cell 2 12, (.int .i64), none⟩])]) [])])])])])])])])])])])])])
theorem run_F_law35_ref : runE ⟨tdGet tys, [], [], [], []⟩ con_F_law35_ref Tryd.f9 hint_F_law35_ref = con_F_law35_ref.F := by
  funext x
  kernel_rfl
theorem ok_F_law35_ref : ConOK Tryd.prog con_F_law35_ref :=
  con_of_run (Γ := ⟨tdGet tys, [], [], [], []⟩) ⟨fun T d h => tysB_ok tys tys_ok T d h, by simp [], by simp [], by simp [], ptrs_ok Tryd.prog [] (by kernel_rfl)⟩ (by kernel_rfl) Tryd.func9 rfl (by kernel_rfl) run_F_law35_ref
/-- odograph/odographref35.Widths -/
noncomputable def F_ref35_Widths (_ : Unit) : Option (Int × (Int × (Int × (Int × (Int × (Int × (Int × Int))))))) :=
  let t1_1 : (Int × (Int × (Int × (Int × (Int × (Int × (Int × Int))))))) := ((16 : Int), ((3 : Int), ((16 : Int), ((36 : Int), ((36 : Int), ((36 : Int), ((20 : Int), (20 : Int))))))))
  some t1_1
noncomputable def con_F_ref35_Widths : Con := { f := 21, ps := [], boxes := [], ins := .unit, nin := 0, outs := (.agg (.pair (.int .i64) (.pair (.int .i64) (.pair (.int .i64) (.pair (.int .i64) (.pair (.int .i64) (.pair (.int .i64) (.pair (.int .i64) (.int .i64))))))))), rs := [.dat (.agg (.pair (.int .i64) (.pair (.int .i64) (.pair (.int .i64) (.pair (.int .i64) (.pair (.int .i64) (.pair (.int .i64) (.pair (.int .i64) (.int .i64)))))))))], nout := 1, F := fun x => F_ref35_Widths () }
def hint_F_ref35_Widths : Hint := H0
theorem run_F_ref35_Widths : runE ⟨tdGet tys, [], [], [], []⟩ con_F_ref35_Widths Tryd.f21 hint_F_ref35_Widths = con_F_ref35_Widths.F := by
  funext x
  kernel_rfl
theorem ok_F_ref35_Widths : ConOK Tryd.prog con_F_ref35_Widths :=
  con_of_run (Γ := ⟨tdGet tys, [], [], [], []⟩) ⟨fun T d h => tysB_ok tys tys_ok T d h, by simp [], by simp [], by simp [], ptrs_ok Tryd.prog [] (by kernel_rfl)⟩ (by kernel_rfl) Tryd.func21 rfl (by kernel_rfl) run_F_ref35_Widths
/-- odograph/odographref35.Right -/
noncomputable def F_ref35_Right (p_1 : ((Int × (Int × (Int × (Int × (Int × (Int × (Int × Int))))))) × (Int × (Int × (Int × (Int × (Int × (Int × Int)))))))) : Option Bool :=
  (F_ref35_Widths ()).bind fun t7_2 =>
  Option.bind (α := Bool ⊕ Unit) (
    loopO (X := Bool ⊕ Unit) (fun (s_3 : Int) =>
      let t9_4 : Bool := (decide (s_3 < (8 : Int)))
      (bif t9_4 then
        Option.bind (
          loopO (X := Int) (fun (s_5 : (Int × Int)) =>
            let k_6 : Int := s_5.1
            let half_7 : Int := s_5.2
            chk none ((decide ((0 : Int) ≤ s_3)) && (decide (s_3 < (8 : Int)))) <|
            let t15_8 : Int := (List.getD [t7_2.1, t7_2.2.1, t7_2.2.2.1, t7_2.2.2.2.1, t7_2.2.2.2.2.1, t7_2.2.2.2.2.2.1, t7_2.2.2.2.2.2.2.1, t7_2.2.2.2.2.2.2.2] s_3.toNat (0 : Int))
            (bif (decide (k_6 < t15_8)) then
              let t20_9 : Int := (IntKind.wrap .i64 ((2 : Int) * half_7))
              let t18_10 : Int := (IntKind.wrap .i64 (k_6 + (1 : Int)))
              some (.inl (t18_10, t20_9))
            else
              some (.inr half_7))) ((1 : Int), (1 : Int))) fun r_11 =>
        let t22_12 : Bool := (decide (s_3 < (3 : Int)))
        chk none (((decide ((0 : Int) ≤ s_3)) && (decide (s_3 < (8 : Int)))) || !t22_12) <|
        let t27_13 : Int := (List.getD [p_1.1.1, p_1.1.2.1, p_1.1.2.2.1, p_1.1.2.2.2.1, p_1.1.2.2.2.2.1, p_1.1.2.2.2.2.2.1, p_1.1.2.2.2.2.2.2.1, p_1.1.2.2.2.2.2.2.2] s_3.toNat (0 : Int))
        let t28_14 : Bool := (decide (t27_13 < (0 : Int)))
        chk none (((decide ((0 : Int) ≤ s_3)) && (decide (s_3 < (8 : Int)))) || !(!t28_14 && t22_12)) <|
        let t33_15 : Int := (List.getD [p_1.1.1, p_1.1.2.1, p_1.1.2.2.1, p_1.1.2.2.2.1, p_1.1.2.2.2.2.1, p_1.1.2.2.2.2.2.1, p_1.1.2.2.2.2.2.2.1, p_1.1.2.2.2.2.2.2.2] s_3.toNat (0 : Int))
        let t35_16 : Int := (IntKind.wrap .i64 ((2 : Int) * r_11))
        let t36_17 : Bool := (decide (t35_16 ≤ t33_15))
        let t37_18 : Bool := (bif t28_14 then true else t36_17)
        let t38_19 : Bool := (bif t22_12 then t37_18 else false)
        let t41_20 : Bool := (decide ((3 : Int) ≤ s_3))
        chk none (((decide ((0 : Int) ≤ s_3)) && (decide (s_3 < (8 : Int)))) || !(t41_20 && !t38_19)) <|
        let t46_21 : Int := (List.getD [p_1.1.1, p_1.1.2.1, p_1.1.2.2.1, p_1.1.2.2.2.1, p_1.1.2.2.2.2.1, p_1.1.2.2.2.2.2.1, p_1.1.2.2.2.2.2.2.1, p_1.1.2.2.2.2.2.2.2] s_3.toNat (0 : Int))
        let t48_22 : Int := (IntKind.wrap .i64 (0 - r_11))
        let t49_23 : Bool := (decide (t46_21 < t48_22))
        chk none (((decide ((0 : Int) ≤ s_3)) && (decide (s_3 < (8 : Int)))) || !(!t49_23 && (t41_20 && !t38_19))) <|
        let t54_24 : Int := (List.getD [p_1.1.1, p_1.1.2.1, p_1.1.2.2.1, p_1.1.2.2.2.1, p_1.1.2.2.2.2.1, p_1.1.2.2.2.2.2.1, p_1.1.2.2.2.2.2.2.1, p_1.1.2.2.2.2.2.2.2] s_3.toNat (0 : Int))
        let t57_25 : Bool := (bif t49_23 then true else (decide (r_11 ≤ t54_24)))
        let t58_26 : Bool := (bif t41_20 then t57_25 else false)
        let t59_27 : Bool := (bif t38_19 then true else t58_26)
        (bif t59_27 then
          some (.inr (.inl false))
        else
          let t11_28 : Int := (IntKind.wrap .i64 (s_3 + (1 : Int)))
          some (.inl t11_28))
      else
        some (.inr (.inr ())))) (0 : Int)) fun z => match z with
  | .inl r_29 =>
    some r_29
  | .inr _ =>
    let t63_30 : Bool := (decide (p_1.1.2.1 < (1 : Int)))
    let t68_31 : Bool := (decide ((4 : Int) < p_1.1.2.1))
    let t69_32 : Bool := (bif t63_30 then true else t68_31)
    let t77_33 : Bool := (decide (p_1.1.2.2.2.2.2.1 < p_1.1.2.2.2.1))
    let t78_34 : Bool := (bif t69_32 then true else t77_33)
    let t86_35 : Bool := (decide (p_1.1.2.2.2.2.1 < p_1.1.2.2.2.2.2.1))
    let t87_36 : Bool := (bif t78_34 then true else t86_35)
    let t95_37 : Bool := (decide (p_1.1.2.2.2.2.2.2.2 < p_1.1.2.2.2.2.2.2.1))
    let t96_38 : Bool := (bif t87_36 then true else t95_37)
    (bif t96_38 then
      some false
    else
      let t100_39 : Bool := (p_1.1.2.2.1 != (0 : Int))
      let t105_40 : Bool := (p_1.1.2.2.2.1 == (0 : Int))
      let t110_41 : Bool := (p_1.1.2.2.2.2.1 == (0 : Int))
      let t111_42 : Bool := (bif t105_40 then t110_41 else false)
      let t112_43 : Bool := (bif t100_39 then true else t111_42)
      some t112_43)
noncomputable def con_F_ref35_Right : Con := { f := 8, ps := [.dat (.agg (.pair (.agg (.pair (.int .i64) (.pair (.int .i64) (.pair (.int .i64) (.pair (.int .i64) (.pair (.int .i64) (.pair (.int .i64) (.pair (.int .i64) (.int .i64))))))))) (.agg (.pair (.int .i64) (.pair (.int .i64) (.pair (.int .i64) (.pair (.int .i64) (.pair (.int .i64) (.pair (.int .i64) (.int .i64))))))))))], boxes := [], ins := (.agg (.pair (.agg (.pair (.int .i64) (.pair (.int .i64) (.pair (.int .i64) (.pair (.int .i64) (.pair (.int .i64) (.pair (.int .i64) (.pair (.int .i64) (.int .i64))))))))) (.agg (.pair (.int .i64) (.pair (.int .i64) (.pair (.int .i64) (.pair (.int .i64) (.pair (.int .i64) (.pair (.int .i64) (.int .i64)))))))))), nin := 1, outs := .bool, rs := [.dat .bool], nout := 1, F := fun x => F_ref35_Right x }
def hint_F_ref35_Right : Hint := (.mk .plain [H0, (.mk .plain [H0, (.mk .plain [(.mk .plain [H0, (.mk .plain [(.mk (.loop [⟨.slot 4, (.int .i64), none⟩] [(0, 30), (0, 36), (0, 42), (0, 39), (0, 45), (0, 48), (0, 54), (0, 51), (0, 57), (0, 2), (0, 5), (0, 8), (0, 14), (0, 17), (0, 23), (0, 20), (0, 26), (0, 29), (0, 35), (0, 32), (0, 38), (0, 41), (0, 47), (0, 44), (0, 50), (0, 53), (0, 59), (0, 56), (0, 16), (0, 13), (0, 19), (0, 22), (0, 28), (0, 25), (0, 31), (0, 34), (0, 40), (0, 37), (0, 43), (0, 46), (0, 52), (0, 49), (0, 55), (0, 58), (0, 9), (0, 6), (0, 12), (0, 15), (0, 21), (0, 18), (0, 24), (0, 27), (0, 33), (0, 11), (0, 10)] [(.ret, [⟨.slot 2, .bool, none⟩]), (.exit 0, [])]) [(.mk .plain [H0, (.mk .plain [(.mk .plain [(.mk .plain [H0, (.mk .plain [(.mk .plain [H0, (.mk .plain [(.mk (.loop [⟨.slot 6, (.int .i64), none⟩, ⟨.slot 5, (.int .i64), none⟩] [(0, 20), (0, 16), (0, 13), (0, 19), (0, 12), (0, 15), (0, 18), (0, 14), (0, 17)] [(.exit 2, [⟨.slot 5, (.int .i64), none⟩])]) [])])])])])])])])])])])])])])
theorem run_F_ref35_Right : runE ⟨tdGet tys, [con_F_ref35_Widths], [], [], []⟩ con_F_ref35_Right Tryd.f8 hint_F_ref35_Right = con_F_ref35_Right.F := by
  funext x
  kernel_rfl
theorem ok_F_ref35_Right : ConOK Tryd.prog con_F_ref35_Right :=
  con_of_run (Γ := ⟨tdGet tys, [con_F_ref35_Widths], [], [], []⟩) ⟨fun T d h => tysB_ok tys tys_ok T d h, by simp [ok_F_ref35_Widths], by simp [], by simp [], ptrs_ok Tryd.prog [] (by kernel_rfl)⟩ (by kernel_rfl) Tryd.func8 rfl (by kernel_rfl) run_F_ref35_Right
/-- odograph/bits.Over -/
noncomputable def F_bits_Over (b_1 : (List Int)) : Option ((List Int) × (Int × Bool)) :=
  chk none (decide ((([] : List Int).length + b_1.length) * 1 ≤ 140737488355328)) <|
  let t5_2 : (List Int) := (([] : List Int) ++ b_1)
  some (t5_2, (0 : Int), false)
noncomputable def con_F_bits_Over : NCon := { f := 23, ps := [.dat (.slice (.int .u8))], ins := (.slice (.int .u8)), nin := 1, outs := (.pair (.slice (.int .u8)) (.pair (.int .i64) .bool)), rs := [.ref 0 0], new := [.dat (.slice (.int .u8)), .dat (.int .i64), .dat .bool], nout := 3, F := fun x => F_bits_Over x }
def hint_F_bits_Over : Hint := H0
theorem run_F_bits_Over : runN ⟨tdGet tys, [], [], [], []⟩ con_F_bits_Over Tryd.f23 hint_F_bits_Over = con_F_bits_Over.F := by
  funext x
  kernel_rfl
theorem ok_F_bits_Over : NOK Tryd.prog con_F_bits_Over :=
  ncon_of_run (Γ := ⟨tdGet tys, [], [], [], []⟩) ⟨fun T d h => tysB_ok tys tys_ok T d h, by simp [], by simp [], by simp [], ptrs_ok Tryd.prog [] (by kernel_rfl)⟩ (by kernel_rfl) Tryd.func23 rfl (by kernel_rfl) run_F_bits_Over
/-- (*odograph/bits.Reader).Get -/
noncomputable def F_bits_Reader_Get (many_1 : Int) (x_2 : (List Int)) (x_3 : Int) (x_4 : Bool) : Option (Int × ((List Int) × (Int × Bool))) :=
  let t7_5 : Bool := (decide (many_1 < (1 : Int)))
  let t10_6 : Bool := (decide ((64 : Int) < many_1))
  let t11_7 : Bool := (bif t7_5 then true else t10_6)
  (bif t11_7 then
    some ((0 : Int), x_2, x_3, x_4)
  else
    let t23_8 : Int := (IntKind.wrap .i64 ((8 : Int) * (x_2.length : Int)))
    let t28_9 : Int := (IntKind.wrap .i64 (t23_8 - x_3))
    let t30_10 : Bool := (decide (t28_9 < many_1))
    let t31_11 : Bool := (bif x_4 then true else t30_10)
    (bif t31_11 then
      some ((0 : Int), x_2, x_3, t31_11)
    else
      Option.bind (
        loopO (X := (Int × Int)) (fun (s_12 : (Int × (Int × Int))) =>
          let t39_13 : Int := s_12.1
          let v_14 : Int := s_12.2.1
          let b0_15 : Int := s_12.2.2
          let t40_16 : Bool := (decide (t39_13 < many_1))
          (bif t40_16 then
            let t42_17 : Int := (IntKind.wrap .u64 (v_14 * 2 ^ 1))
            let t51_18 : Int := (IntKind.wrap .i64 (b0_15.tdiv (8 : Int)))
            chk none ((decide ((0 : Int) ≤ t51_18)) && (decide (t51_18 < (x_2.length : Int)))) <|
            let t53_19 : Int := (x_2.getD t51_18.toNat (0 : Int))
            let t59_20 : Int := (IntKind.wrap .i64 ((7 : Int) - (b0_15.tmod (8 : Int))))
            let t60_21 : Int := (IntKind.wrap .u64 t59_20)
            chk none (decide ((0 : Int) ≤ t60_21)) <|
            let t61_22 : Int := (t53_19.fdiv (2 ^ (min t60_21.toNat 8)))
            let t62_23 : Int := (bits .u8 .and t61_22 (1 : Int))
            let t63_24 : Int := (IntKind.wrap .u64 t62_23)
            let t64_25 : Int := (bits .u64 .or t42_17 t63_24)
            let t69_26 : Int := (IntKind.wrap .i64 (b0_15 + (1 : Int)))
            let t72_27 : Int := (IntKind.wrap .i64 (t39_13 + (1 : Int)))
            some (.inl (t72_27, t64_25, t69_26))
          else
            some (.inr (v_14, b0_15)))) ((0 : Int), (0 : Int), x_3)) fun r_28 =>
      let v_29 : Int := r_28.1
      let b0_30 : Int := r_28.2
      some (v_29, x_2, b0_30, t31_11)))
noncomputable def con_F_bits_Reader_Get : Con := { f := 26, ps := [.ref 0 0, .dat (.int .i64)], boxes := [[.dat (.slice (.int .u8)), .dat (.int .i64), .dat .bool]], ins := (.pair (.int .i64) (.pair (.slice (.int .u8)) (.pair (.int .i64) .bool))), nin := 4, outs := (.pair (.int .u64) (.pair (.slice (.int .u8)) (.pair (.int .i64) .bool))), rs := [.dat (.int .u64)], nout := 4, F := fun x => F_bits_Reader_Get x.1 x.2.1 x.2.2.1 x.2.2.2 }
def hint_F_bits_Reader_Get : Hint := (.mk .plain [H0, (.mk .plain [H0, (.mk .plain [H0, (.mk .plain [H0, (.mk .plain [(.mk .plain [H0, (.mk .plain [(.mk (.loop [⟨.slot 39, (.int .i64), none⟩, ⟨.slot 5, (.int .u64), none⟩, ⟨.cell 0 1, (.int .i64), none⟩] [(0, 42), (0, 45), (0, 48), (0, 54), (0, 51), (0, 57), (0, 60), (0, 66), (0, 63), (0, 69), (0, 72), (0, 41), (0, 47), (0, 44), (0, 50), (0, 53), (0, 59), (0, 56), (0, 62), (0, 68), (0, 65), (0, 71), (0, 40), (0, 43), (0, 46), (0, 52), (0, 49), (0, 55), (0, 61), (0, 58), (0, 64), (0, 67), (0, 70)] [(.exit 0, [⟨.slot 5, (.int .u64), none⟩, ⟨.cell 0 1, (.int .i64), none⟩])]) [])])])])])])])])
theorem run_F_bits_Reader_Get : runE ⟨tdGet tys, [], [], [], []⟩ con_F_bits_Reader_Get Tryd.f26 hint_F_bits_Reader_Get = con_F_bits_Reader_Get.F := by
  funext x
  kernel_rfl
theorem ok_F_bits_Reader_Get : ConOK Tryd.prog con_F_bits_Reader_Get :=
  con_of_run (Γ := ⟨tdGet tys, [], [], [], []⟩) ⟨fun T d h => tysB_ok tys tys_ok T d h, by simp [], by simp [], by simp [], ptrs_ok Tryd.prog [] (by kernel_rfl)⟩ (by kernel_rfl) Tryd.func26 rfl (by kernel_rfl) run_F_bits_Reader_Get
/-- (*odograph/bits.Reader).GetSigned -/
noncomputable def F_bits_Reader_GetSigned (many_1 : Int) (x_2 : (List Int)) (x_3 : Int) (x_4 : Bool) : Option (Int × ((List Int) × (Int × Bool))) :=
  (F_bits_Reader_Get many_1 x_2 x_3 x_4).bind fun t8_5 =>
  let t10_6 : Bool := (decide (many_1 < (1 : Int)))
  let t13_7 : Bool := (decide ((64 : Int) < many_1))
  let t14_8 : Bool := (bif t10_6 then true else t13_7)
  (bif t14_8 then
    some ((0 : Int), t8_5.2.1, t8_5.2.2.1, t8_5.2.2.2)
  else
    let t17_9 : Int := (IntKind.wrap .i64 ((64 : Int) - many_1))
    let t18_10 : Int := (IntKind.wrap .u64 t17_9)
    chk none (decide ((0 : Int) ≤ t18_10)) <|
    let t19_11 : Int := (IntKind.wrap .u64 (t8_5.1 * 2 ^ (min t18_10.toNat 64)))
    let t20_12 : Int := (IntKind.wrap .i64 t19_11)
    let t22_13 : Int := (IntKind.wrap .i64 ((64 : Int) - many_1))
    let t23_14 : Int := (IntKind.wrap .u64 t22_13)
    chk none (decide ((0 : Int) ≤ t23_14)) <|
    let t24_15 : Int := (t20_12.fdiv (2 ^ (min t23_14.toNat 64)))
    some (t24_15, t8_5.2.1, t8_5.2.2.1, t8_5.2.2.2))
noncomputable def con_F_bits_Reader_GetSigned : Con := { f := 25, ps := [.ref 0 0, .dat (.int .i64)], boxes := [[.dat (.slice (.int .u8)), .dat (.int .i64), .dat .bool]], ins := (.pair (.int .i64) (.pair (.slice (.int .u8)) (.pair (.int .i64) .bool))), nin := 4, outs := (.pair (.int .i64) (.pair (.slice (.int .u8)) (.pair (.int .i64) .bool))), rs := [.dat (.int .i64)], nout := 4, F := fun x => F_bits_Reader_GetSigned x.1 x.2.1 x.2.2.1 x.2.2.2 }
def hint_F_bits_Reader_GetSigned : Hint := H0
theorem run_F_bits_Reader_GetSigned : runE ⟨tdGet tys, [con_F_bits_Reader_Get], [], [], []⟩ con_F_bits_Reader_GetSigned Tryd.f25 hint_F_bits_Reader_GetSigned = con_F_bits_Reader_GetSigned.F := by
  funext x
  kernel_rfl
theorem ok_F_bits_Reader_GetSigned : ConOK Tryd.prog con_F_bits_Reader_GetSigned :=
  con_of_run (Γ := ⟨tdGet tys, [con_F_bits_Reader_Get], [], [], []⟩) ⟨fun T d h => tysB_ok tys tys_ok T d h, by simp [ok_F_bits_Reader_Get], by simp [], by simp [], ptrs_ok Tryd.prog [] (by kernel_rfl)⟩ (by kernel_rfl) Tryd.func25 rfl (by kernel_rfl) run_F_bits_Reader_GetSigned
/-- (*odograph/bits.Reader).Left -/
noncomputable def F_bits_Reader_Left (x_1 : (List Int)) (x_2 : Int) (x_3 : Bool) : Option (Int × ((List Int) × (Int × Bool))) :=
  let t8_4 : Int := (IntKind.wrap .i64 ((8 : Int) * (x_1.length : Int)))
  let t13_5 : Int := (IntKind.wrap .i64 (t8_4 - x_2))
  some (t13_5, x_1, x_2, x_3)
noncomputable def con_F_bits_Reader_Left : Con := { f := 27, ps := [.ref 0 0], boxes := [[.dat (.slice (.int .u8)), .dat (.int .i64), .dat .bool]], ins := (.pair (.slice (.int .u8)) (.pair (.int .i64) .bool)), nin := 3, outs := (.pair (.int .i64) (.pair (.slice (.int .u8)) (.pair (.int .i64) .bool))), rs := [.dat (.int .i64)], nout := 4, F := fun x => F_bits_Reader_Left x.1 x.2.1 x.2.2 }
def hint_F_bits_Reader_Left : Hint := H0
theorem run_F_bits_Reader_Left : runE ⟨tdGet tys, [], [], [], []⟩ con_F_bits_Reader_Left Tryd.f27 hint_F_bits_Reader_Left = con_F_bits_Reader_Left.F := by
  funext x
  kernel_rfl
theorem ok_F_bits_Reader_Left : ConOK Tryd.prog con_F_bits_Reader_Left :=
  con_of_run (Γ := ⟨tdGet tys, [], [], [], []⟩) ⟨fun T d h => tysB_ok tys tys_ok T d h, by simp [], by simp [], by simp [], ptrs_ok Tryd.prog [] (by kernel_rfl)⟩ (by kernel_rfl) Tryd.func27 rfl (by kernel_rfl) run_F_bits_Reader_Left
/-- odograph/packet.Get -/
noncomputable def F_packet_Get (b_1 : (List Int)) : Option ((Int × (Int × (Int × (Int × (Int × (Int × (Int × (Int × (Bool × (Bool × (Bool × (Bool × (Bool × (Bool × Bool)))))))))))))) × Int) :=
  let t12_2 : Bool := (decide ((b_1.length : Int) < (26 : Int)))
  (bif t12_2 then
    let t13_3 : (Int × (Int × (Int × (Int × (Int × (Int × (Int × (Int × (Bool × (Bool × (Bool × (Bool × (Bool × (Bool × Bool)))))))))))))) := ((0 : Int), ((0 : Int), ((0 : Int), ((0 : Int), ((0 : Int), ((0 : Int), ((0 : Int), ((0 : Int), (false, (false, (false, (false, (false, (false, false))))))))))))))
    some (t13_3, (14 : Int))
  else
    let t17_4 : Bool := (decide ((26 : Int) < (b_1.length : Int)))
    (bif t17_4 then
      let t18_5 : (Int × (Int × (Int × (Int × (Int × (Int × (Int × (Int × (Bool × (Bool × (Bool × (Bool × (Bool × (Bool × Bool)))))))))))))) := ((0 : Int), ((0 : Int), ((0 : Int), ((0 : Int), ((0 : Int), ((0 : Int), ((0 : Int), ((0 : Int), (false, (false, (false, (false, (false, (false, false))))))))))))))
      some (t18_5, (15 : Int))
    else
      (F_crc_Sum b_1).bind fun t21_6 =>
      (bif (t21_6 != (0 : Int)) then
        let t23_7 : (Int × (Int × (Int × (Int × (Int × (Int × (Int × (Int × (Bool × (Bool × (Bool × (Bool × (Bool × (Bool × Bool)))))))))))))) := ((0 : Int), ((0 : Int), ((0 : Int), ((0 : Int), ((0 : Int), ((0 : Int), ((0 : Int), ((0 : Int), (false, (false, (false, (false, (false, (false, false))))))))))))))
        some (t23_7, (31 : Int))
      else
        chk none (true && true && (decide ((24 : Int) ≤ (b_1.length : Int)))) <|
        let t25_8 : (List Int) := ((b_1.take (24 : Int).toNat).drop (0 : Int).toNat)
        (F_bits_Over t25_8).bind fun t26_9 =>
        Option.bind (
          loopO (X := (Int × (Int × (Int × (Bool × (Int × (Int × (Int × (Int × (Int × (Int × (List Int)))))))))))) (fun (s_10 : (Int × (Int × (Int × (Bool × (Int × (Int × (Int × (Int × (Int × (Int × ((List Int) × Int)))))))))))) =>
            let b2_11 : Int := s_10.1
            let b2_12 : Int := s_10.2.1
            let b2_13 : Int := s_10.2.2.1
            let b1_14 : Bool := s_10.2.2.2.1
            let b2_15 : Int := s_10.2.2.2.2.1
            let b2_16 : Int := s_10.2.2.2.2.2.1
            let b2_17 : Int := s_10.2.2.2.2.2.2.1
            let b1_18 : Int := s_10.2.2.2.2.2.2.2.1
            let b2_19 : Int := s_10.2.2.2.2.2.2.2.2.1
            let b2_20 : Int := s_10.2.2.2.2.2.2.2.2.2.1
            let b1_21 : (List Int) := s_10.2.2.2.2.2.2.2.2.2.2.1
            let t27_22 : Int := s_10.2.2.2.2.2.2.2.2.2.2.2
            let t28_23 : Bool := (decide (t27_22 < (8 : Int)))
            (bif t28_23 then
              (F_packet_signed t27_22).bind fun t31_24 =>
              Option.bind (
                (bif t31_24 then
                  chk none ((decide ((0 : Int) ≤ t27_22)) && (decide (t27_22 < (8 : Int)))) <|
                  let t36_25 : Int := (List.getD [glob_0.1, glob_0.2.1, glob_0.2.2.1, glob_0.2.2.2.1, glob_0.2.2.2.2.1, glob_0.2.2.2.2.2.1, glob_0.2.2.2.2.2.2.1, glob_0.2.2.2.2.2.2.2] t27_22.toNat (0 : Int))
                  (F_bits_Reader_GetSigned t36_25 b1_21 b1_18 b1_14).bind fun t37_26 =>
                  chk none ((decide ((0 : Int) ≤ t27_22)) && (decide (t27_22 < (8 : Int)))) <|
                  some (t37_26.2.2.1, (bif (t27_22 == (4 : Int)) then t37_26.1 else b2_11), (bif (t27_22 == (1 : Int)) then t37_26.1 else b2_12), (bif (t27_22 == (7 : Int)) then t37_26.1 else b2_13), t37_26.2.2.2, (bif (t27_22 == (2 : Int)) then t37_26.1 else b2_19), (bif (t27_22 == (5 : Int)) then t37_26.1 else b2_20), t37_26.2.1, (bif (t27_22 == (0 : Int)) then t37_26.1 else b2_15), (bif (t27_22 == (3 : Int)) then t37_26.1 else b2_16), (bif (t27_22 == (6 : Int)) then t37_26.1 else b2_17))
                else
                  chk none ((decide ((0 : Int) ≤ t27_22)) && (decide (t27_22 < (8 : Int)))) <|
                  let t43_27 : Int := (List.getD [glob_0.1, glob_0.2.1, glob_0.2.2.1, glob_0.2.2.2.1, glob_0.2.2.2.2.1, glob_0.2.2.2.2.2.1, glob_0.2.2.2.2.2.2.1, glob_0.2.2.2.2.2.2.2] t27_22.toNat (0 : Int))
                  (F_bits_Reader_Get t43_27 b1_21 b1_18 b1_14).bind fun t44_28 =>
                  let t45_29 : Int := (IntKind.wrap .i64 t44_28.1)
                  chk none ((decide ((0 : Int) ≤ t27_22)) && (decide (t27_22 < (8 : Int)))) <|
                  some (t44_28.2.2.1, (bif (t27_22 == (4 : Int)) then t45_29 else b2_11), (bif (t27_22 == (1 : Int)) then t45_29 else b2_12), (bif (t27_22 == (7 : Int)) then t45_29 else b2_13), t44_28.2.2.2, (bif (t27_22 == (2 : Int)) then t45_29 else b2_19), (bif (t27_22 == (5 : Int)) then t45_29 else b2_20), t44_28.2.1, (bif (t27_22 == (0 : Int)) then t45_29 else b2_15), (bif (t27_22 == (3 : Int)) then t45_29 else b2_16), (bif (t27_22 == (6 : Int)) then t45_29 else b2_17)))) fun r_30 =>
              let b1_31 : Int := r_30.1
              let b2_32 : Int := r_30.2.1
              let b2_33 : Int := r_30.2.2.1
              let b2_34 : Int := r_30.2.2.2.1
              let b1_35 : Bool := r_30.2.2.2.2.1
              let b2_36 : Int := r_30.2.2.2.2.2.1
              let b2_37 : Int := r_30.2.2.2.2.2.2.1
              let b1_38 : (List Int) := r_30.2.2.2.2.2.2.2.1
              let b2_39 : Int := r_30.2.2.2.2.2.2.2.2.1
              let b2_40 : Int := r_30.2.2.2.2.2.2.2.2.2.1
              let b2_41 : Int := r_30.2.2.2.2.2.2.2.2.2.2
              let t47_42 : Int := (IntKind.wrap .i64 (t27_22 + (1 : Int)))
              some (.inl (b2_32, b2_33, b2_34, b1_35, b2_39, b2_40, b2_41, b1_31, b2_36, b2_37, b1_38, t47_42))
            else
              some (.inr (b2_11, b2_12, b2_13, b1_14, b2_15, b2_16, b2_17, b1_18, b2_19, b2_20, b1_21)))) ((0 : Int), (0 : Int), (0 : Int), t26_9.2.2, (0 : Int), (0 : Int), (0 : Int), t26_9.2.1, (0 : Int), (0 : Int), t26_9.1, (0 : Int))) fun r_43 =>
        let b2_44 : Int := r_43.1
        let b2_45 : Int := r_43.2.1
        let b2_46 : Int := r_43.2.2.1
        let b1_47 : Bool := r_43.2.2.2.1
        let b2_48 : Int := r_43.2.2.2.2.1
        let b2_49 : Int := r_43.2.2.2.2.2.1
        let b2_50 : Int := r_43.2.2.2.2.2.2.1
        let b1_51 : Int := r_43.2.2.2.2.2.2.2.1
        let b2_52 : Int := r_43.2.2.2.2.2.2.2.2.1
        let b2_53 : Int := r_43.2.2.2.2.2.2.2.2.2.1
        let b1_54 : (List Int) := r_43.2.2.2.2.2.2.2.2.2.2
        let t64_55 : (Int × (Int × (Int × (Int × (Int × (Int × (Int × (Int × (Bool × (Bool × (Bool × (Bool × (Bool × (Bool × Bool)))))))))))))) := (b2_48, (b2_45, (b2_52, (b2_49, (b2_44, (b2_53, (b2_50, (b2_46, (false, (false, (false, (false, (false, (false, false))))))))))))))
        (F_bits_Reader_Get (1 : Int) b1_54 b1_51 b1_47).bind fun t70_56 =>
        (F_bits_Reader_Get (1 : Int) t70_56.2.1 t70_56.2.2.1 t70_56.2.2.2).bind fun t70_57 =>
        (F_bits_Reader_Get (1 : Int) t70_57.2.1 t70_57.2.2.1 t70_57.2.2.2).bind fun t70_58 =>
        (F_bits_Reader_Get (1 : Int) t70_58.2.1 t70_58.2.2.1 t70_58.2.2.2).bind fun t70_59 =>
        (F_bits_Reader_Get (1 : Int) t70_59.2.1 t70_59.2.2.1 t70_59.2.2.2).bind fun t70_60 =>
        (F_bits_Reader_Get (1 : Int) t70_60.2.1 t70_60.2.2.1 t70_60.2.2.2).bind fun t70_61 =>
        (F_bits_Reader_Get (1 : Int) t70_61.2.1 t70_61.2.2.1 t70_61.2.2.2).bind fun t70_62 =>
        (F_bits_Reader_Left t70_62.2.1 t70_62.2.2.1 t70_62.2.2.2).bind fun t77_63 =>
        (F_bits_Reader_Get t77_63.1 t77_63.2.1 t77_63.2.2.1 t77_63.2.2.2).bind fun t78_64 =>
        let t81_65 : (Int × (Int × (Int × (Int × (Int × (Int × (Int × (Int × (Bool × (Bool × (Bool × (Bool × (Bool × (Bool × Bool)))))))))))))) := (t64_55.1, (t64_55.2.1, (t64_55.2.2.1, (t64_55.2.2.2.1, (t64_55.2.2.2.2.1, (t64_55.2.2.2.2.2.1, (t64_55.2.2.2.2.2.2.1, (t64_55.2.2.2.2.2.2.2.1, ((t70_56.1 == (1 : Int)), ((t70_57.1 == (1 : Int)), ((t70_58.1 == (1 : Int)), ((t70_59.1 == (1 : Int)), ((t70_60.1 == (1 : Int)), ((t70_61.1 == (1 : Int)), (t70_62.1 == (1 : Int))))))))))))))))
        (bif !(t78_64.1 != (0 : Int)) then F_packet_Packet_Right t81_65 else some false).bind fun t82_66 =>
        let t84_67 : Bool := (bif (t78_64.1 != (0 : Int)) then true else (!t82_66))
        (bif t84_67 then
          let t85_68 : (Int × (Int × (Int × (Int × (Int × (Int × (Int × (Int × (Bool × (Bool × (Bool × (Bool × (Bool × (Bool × Bool)))))))))))))) := ((0 : Int), ((0 : Int), ((0 : Int), ((0 : Int), ((0 : Int), ((0 : Int), ((0 : Int), ((0 : Int), (false, (false, (false, (false, (false, (false, false))))))))))))))
          some (t85_68, (11 : Int))
        else
          let t86_69 : (Int × (Int × (Int × (Int × (Int × (Int × (Int × (Int × (Bool × (Bool × (Bool × (Bool × (Bool × (Bool × Bool)))))))))))))) := (t64_55.1, (t64_55.2.1, (t64_55.2.2.1, (t64_55.2.2.2.1, (t64_55.2.2.2.2.1, (t64_55.2.2.2.2.2.1, (t64_55.2.2.2.2.2.2.1, (t64_55.2.2.2.2.2.2.2.1, ((t70_56.1 == (1 : Int)), ((t70_57.1 == (1 : Int)), ((t70_58.1 == (1 : Int)), ((t70_59.1 == (1 : Int)), ((t70_60.1 == (1 : Int)), ((t70_61.1 == (1 : Int)), (t70_62.1 == (1 : Int))))))))))))))))
          some (t86_69, (0 : Int))))))
noncomputable def con_F_packet_Get : Con := { f := 10, ps := [.dat (.slice (.int .u8))], boxes := [], ins := (.slice (.int .u8)), nin := 1, outs := (.pair (.agg (.pair (.int .i64) (.pair (.int .i64) (.pair (.int .i64) (.pair (.int .i64) (.pair (.int .i64) (.pair (.int .i64) (.pair (.int .i64) (.pair (.int .i64) (.agg (.pair .bool (.pair .bool (.pair .bool (.pair .bool (.pair .bool (.pair .bool .bool)))))))))))))))) (.int .i64)), rs := [.dat (.agg (.pair (.int .i64) (.pair (.int .i64) (.pair (.int .i64) (.pair (.int .i64) (.pair (.int .i64) (.pair (.int .i64) (.pair (.int .i64) (.pair (.int .i64) (.agg (.pair .bool (.pair .bool (.pair .bool (.pair .bool (.pair .bool (.pair .bool .bool)))))))))))))))), .dat (.int .i64)], nout := 2, F := fun x => F_packet_Get x }
def hint_F_packet_Get : Hint := (.mk .plain [H0, (.mk .plain [H0, (.mk .plain [H0, (.mk .plain [H0, (.mk .plain [(.mk .plain [H0, (.mk .plain [(.mk (.loop [⟨.cell 2 4, (.int .i64), none⟩, ⟨.cell 2 1, (.int .i64), none⟩, ⟨.cell 2 7, (.int .i64), none⟩, ⟨.cell 1 2, .bool, none⟩, ⟨.cell 2 0, (.int .i64), none⟩, ⟨.cell 2 3, (.int .i64), none⟩, ⟨.cell 2 6, (.int .i64), none⟩, ⟨.cell 1 1, (.int .i64), none⟩, ⟨.cell 2 2, (.int .i64), none⟩, ⟨.cell 2 5, (.int .i64), none⟩, ⟨.cell 1 0, (.slice (.int .u8)), none⟩, ⟨.slot 27, (.int .i64), none⟩] [(0, 30), (0, 36), (0, 42), (0, 39), (0, 45), (0, 29), (0, 35), (0, 32), (0, 38), (0, 41), (0, 47), (0, 44), (0, 28), (0, 31), (0, 34), (0, 40), (0, 37), (0, 43), (0, 46), (0, 6), (0, 33)] [(.exit 1, [⟨.cell 2 4, (.int .i64), none⟩, ⟨.cell 2 1, (.int .i64), none⟩, ⟨.cell 2 7, (.int .i64), none⟩, ⟨.cell 1 2, .bool, none⟩, ⟨.cell 2 0, (.int .i64), none⟩, ⟨.cell 2 3, (.int .i64), none⟩, ⟨.cell 2 6, (.int .i64), none⟩, ⟨.cell 1 1, (.int .i64), none⟩, ⟨.cell 2 2, (.int .i64), none⟩, ⟨.cell 2 5, (.int .i64), none⟩, ⟨.cell 1 0, (.slice (.int .u8)), none⟩])]) [(.mk .plain [H0, (.mk .plain [H0, (.mk .plain [(.mk .plain [(.mk .plain [H0, (.mk .plain [H0, (.mk (.join [(0, 36), (0, 34), (0, 37), (0, 35), (0, 32), (0, 38), (0, 33), (0, 42), (0, 39), (0, 45), (0, 40), (0, 43), (0, 46), (0, 41), (0, 44)] [(.normal, [⟨.cell 1 1, (.int .i64), none⟩, ⟨.cell 2 4, (.int .i64), none⟩, ⟨.cell 2 1, (.int .i64), none⟩, ⟨.cell 2 7, (.int .i64), none⟩, ⟨.cell 1 2, .bool, none⟩, ⟨.cell 2 2, (.int .i64), none⟩, ⟨.cell 2 5, (.int .i64), none⟩, ⟨.cell 1 0, (.slice (.int .u8)), none⟩, ⟨.cell 2 0, (.int .i64), none⟩, ⟨.cell 2 3, (.int .i64), none⟩, ⟨.cell 2 6, (.int .i64), none⟩])]) [])])])])])])])])])]), (.mk .plain [H0, (.mk .plain [(.mk .plain [H0, (.mk .plain [(.mk (.unroll 8) [])])])])])])])])])])
theorem run_F_packet_Get : runE ⟨tdGet tys, [con_F_crc_Sum, con_F_packet_signed, con_F_bits_Reader_GetSigned, con_F_bits_Reader_Get, con_F_bits_Reader_Left, con_F_packet_Packet_Right], [con_F_bits_Over], [], []⟩ con_F_packet_Get Tryd.f10 hint_F_packet_Get = con_F_packet_Get.F := by
  funext x
  kernel_rfl
theorem ok_F_packet_Get : ConOK Tryd.prog con_F_packet_Get :=
  con_of_run (Γ := ⟨tdGet tys, [con_F_crc_Sum, con_F_packet_signed, con_F_bits_Reader_GetSigned, con_F_bits_Reader_Get, con_F_bits_Reader_Left, con_F_packet_Packet_Right], [con_F_bits_Over], [], []⟩) ⟨fun T d h => tysB_ok tys tys_ok T d h, by simp [ok_F_crc_Sum, ok_F_packet_signed, ok_F_bits_Reader_GetSigned, ok_F_bits_Reader_Get, ok_F_bits_Reader_Left, ok_F_packet_Packet_Right], by simp [ok_F_bits_Over], by simp [], ptrs_ok Tryd.prog [] (by kernel_rfl)⟩ (by kernel_rfl) Tryd.func10 rfl (by kernel_rfl) run_F_packet_Get
/-- odograph/odographref34.Number -/
noncomputable def F_ref34_Number (v_1 : Int) (many_2 : Int) : Option ByteArray :=
  Option.bind (
    loopO (X := ByteArray) (fun (s_3 : (ByteArray × (Int × Int))) =>
      let out_4 : ByteArray := s_3.1
      let v_5 : Int := s_3.2.1
      let i_6 : Int := s_3.2.2
      let t13_7 : Bool := (decide (i_6 < (64 : Int)))
      let t14_8 : Bool := (bif (decide (i_6 < many_2)) then t13_7 else false)
      (bif t14_8 then
        let t19_9 : Bool := ((v_5.tmod (2 : Int)) == (1 : Int))
        Option.bind (
          (bif t19_9 then
            some (⟨#[49]⟩ : ByteArray)
          else
            some (⟨#[48]⟩ : ByteArray))) fun r_10 =>
        chk none (decide (r_10.size + out_4.size ≤ 9223372036854775807)) <|
        let t24_11 : Int := (IntKind.wrap .u64 (v_5.tdiv (2 : Int)))
        let t16_12 : Int := (IntKind.wrap .i64 (i_6 + (1 : Int)))
        some (.inl ((r_10 ++ out_4), t24_11, t16_12))
      else
        some (.inr out_4))) ((⟨#[]⟩ : ByteArray), v_1, (0 : Int))) fun r_13 =>
  some r_13
noncomputable def con_F_ref34_Number : Con := { f := 28, ps := [.dat (.int .u64), .dat (.int .i64)], boxes := [], ins := (.pair (.int .u64) (.int .i64)), nin := 2, outs := .str, rs := [.dat .str], nout := 1, F := fun x => F_ref34_Number x.1 x.2 }
def hint_F_ref34_Number : Hint := (.mk .plain [H0, (.mk .plain [H0, (.mk .plain [(.mk .plain [H0, (.mk .plain [(.mk (.loop [⟨.slot 5, .str, none⟩, ⟨.slot 0, (.int .u64), none⟩, ⟨.slot 6, (.int .i64), none⟩] [(0, 7), (0, 10), (0, 16), (0, 13), (0, 19), (0, 22), (0, 8), (0, 14), (0, 11), (0, 17), (0, 23), (0, 20), (0, 9), (0, 12), (0, 15), (0, 21), (0, 18), (0, 24)] [(.exit 0, [⟨.slot 5, .str, none⟩])]) [(.mk .plain [H0, (.mk .plain [(.mk .plain [(.mk .plain [H0, (.mk .plain [(.mk .plain [H0, (.mk (.join [] [(.normal, [⟨.slot 7, .str, none⟩])]) [])])])])])])])])])])])])])
theorem run_F_ref34_Number : runE ⟨tdGet tys, [], [], [], []⟩ con_F_ref34_Number Tryd.f28 hint_F_ref34_Number = con_F_ref34_Number.F := by
  funext x
  kernel_rfl
theorem ok_F_ref34_Number : ConOK Tryd.prog con_F_ref34_Number :=
  con_of_run (Γ := ⟨tdGet tys, [], [], [], []⟩) ⟨fun T d h => tysB_ok tys tys_ok T d h, by simp [], by simp [], by simp [], ptrs_ok Tryd.prog [] (by kernel_rfl)⟩ (by kernel_rfl) Tryd.func28 rfl (by kernel_rfl) run_F_ref34_Number
/-- odograph/odographref34.Value -/
noncomputable def F_ref34_Value (s_1 : ByteArray) : Option Int :=
  Option.bind (
    loopO (X := Int) (fun (s_2 : (Int × Int)) =>
      let i_3 : Int := s_2.1
      let v_4 : Int := s_2.2
      let t8_5 : Bool := (decide (i_3 < (s_1.size : Int)))
      (bif t8_5 then
        let t12_6 : Int := (IntKind.wrap .u64 ((2 : Int) * v_4))
        chk none ((decide ((0 : Int) ≤ i_3)) && (decide (i_3 < (s_1.size : Int)))) <|
        let t15_7 : Int := ((s_1[i_3.toNat]?.getD 0).toNat : Int)
        Option.bind (
          (bif (t15_7 == (49 : Int)) then
            let t18_8 : Int := (IntKind.wrap .u64 (t12_6 + (1 : Int)))
            some t18_8
          else
            some t12_6)) fun r_9 =>
        let t10_10 : Int := (IntKind.wrap .i64 (i_3 + (1 : Int)))
        some (.inl (t10_10, r_9))
      else
        some (.inr v_4))) ((0 : Int), (0 : Int))) fun r_11 =>
  some r_11
noncomputable def con_F_ref34_Value : Con := { f := 32, ps := [.dat .str], boxes := [], ins := .str, nin := 1, outs := (.int .u64), rs := [.dat (.int .u64)], nout := 1, F := fun x => F_ref34_Value x }
def hint_F_ref34_Value : Hint := (.mk .plain [H0, (.mk .plain [H0, (.mk .plain [(.mk .plain [H0, (.mk .plain [(.mk (.loop [⟨.slot 4, (.int .i64), none⟩, ⟨.slot 3, (.int .u64), none⟩] [(0, 7), (0, 10), (0, 16), (0, 13), (0, 5), (0, 8), (0, 14), (0, 11), (0, 17), (0, 9), (0, 6), (0, 12), (0, 15), (0, 18)] [(.exit 0, [⟨.slot 3, (.int .u64), none⟩])]) [(.mk .plain [H0, (.mk .plain [(.mk .plain [(.mk .plain [H0, (.mk .plain [H0, (.mk (.join [(0, 18), (0, 17)] [(.normal, [⟨.slot 3, (.int .u64), none⟩])]) [])])])])])])])])])])])])
theorem run_F_ref34_Value : runE ⟨tdGet tys, [], [], [], []⟩ con_F_ref34_Value Tryd.f32 hint_F_ref34_Value = con_F_ref34_Value.F := by
  funext x
  kernel_rfl
theorem ok_F_ref34_Value : ConOK Tryd.prog con_F_ref34_Value :=
  con_of_run (Γ := ⟨tdGet tys, [], [], [], []⟩) ⟨fun T d h => tysB_ok tys tys_ok T d h, by simp [], by simp [], by simp [], ptrs_ok Tryd.prog [] (by kernel_rfl)⟩ (by kernel_rfl) Tryd.func32 rfl (by kernel_rfl) run_F_ref34_Value
/-- odograph/odographref34.Bytes -/
noncomputable def F_ref34_Bytes (s_1 : ByteArray) : Option (List Int) :=
  Option.bind (
    loopO (X := ByteArray) (fun (s_2 : ByteArray) =>
      let t7_3 : Int := ((s_2.size : Int).tmod (8 : Int))
      (bif (t7_3 != (0 : Int)) then
        chk none (decide (s_2.size + (⟨#[48]⟩ : ByteArray).size ≤ 9223372036854775807)) <|
        let t10_4 : ByteArray := (s_2 ++ (⟨#[48]⟩ : ByteArray))
        some (.inl t10_4)
      else
        some (.inr s_2))) s_1) fun r_5 =>
  Option.bind (
    loopO (X := (List Int)) (fun (s_6 : (Int × (List Int))) =>
      let i_7 : Int := s_6.1
      let out_8 : (List Int) := s_6.2
      let t14_9 : Bool := (decide (i_7 < (r_5.size : Int)))
      (bif t14_9 then
        let t21_10 : Int := (IntKind.wrap .i64 (i_7 + (8 : Int)))
        chk none ((decide ((0 : Int) ≤ i_7)) && (decide (i_7 ≤ t21_10)) && (decide (t21_10 ≤ (r_5.size : Int)))) <|
        let t22_11 : ByteArray := (r_5.extract i_7.toNat t21_10.toNat)
        (F_ref34_Value t22_11).bind fun t23_12 =>
        let t24_13 : Int := (IntKind.wrap .u8 t23_12)
        chk none (decide ((out_8.length + ([t24_13] : List Int).length) * 1 ≤ 140737488355328)) <|
        let t26_14 : (List Int) := (out_8 ++ ([t24_13] : List Int))
        let t16_15 : Int := (IntKind.wrap .i64 (i_7 + (8 : Int)))
        some (.inl (t16_15, t26_14))
      else
        some (.inr out_8))) ((0 : Int), [])) fun r_16 =>
  some r_16
noncomputable def con_F_ref34_Bytes : OCon := { f := 29, ps := [.dat .str], boxes := [], ins := .str, nin := 1, outs := (.slice (.int .u8)), rs := [.own 700000005 (.int .u8)], aft := [], nout := 1, F := fun x => F_ref34_Bytes x }
def hint_F_ref34_Bytes : Hint := (.mk .plain [H0, (.mk .plain [(.mk .plain [(.mk (.loop [⟨.slot 0, .str, none⟩] [(0, 7), (0, 10), (0, 5), (0, 8), (0, 9), (0, 6)] [(.exit 0, [⟨.slot 0, .str, none⟩])]) [])]), (.mk .plain [H0, (.mk .plain [(.mk .plain [H0, (.mk .plain [(.mk (.loop [⟨.slot 4, (.int .i64), none⟩, ⟨.slot 3, (.slice (.int .u8)), some 2600005⟩] [(0, 16), (0, 13), (0, 19), (0, 22), (0, 25), (0, 14), (0, 11), (0, 17), (0, 23), (0, 20), (0, 26), (0, 12), (0, 15), (0, 21), (0, 18), (0, 24)] [(.exit 2, [⟨.slot 3, (.slice (.int .u8)), some 2600005⟩])]) [])])])])])])])
theorem run_F_ref34_Bytes : runO ⟨tdGet tys, [con_F_ref34_Value], [], [], []⟩ con_F_ref34_Bytes Tryd.f29 hint_F_ref34_Bytes = con_F_ref34_Bytes.F := by
  funext x
  kernel_rfl
theorem ok_F_ref34_Bytes : OConOK Tryd.prog con_F_ref34_Bytes :=
  ocon_of_run (Γ := ⟨tdGet tys, [con_F_ref34_Value], [], [], []⟩) ⟨fun T d h => tysB_ok tys tys_ok T d h, by simp [ok_F_ref34_Value], by simp [], by simp [], ptrs_ok Tryd.prog [] (by kernel_rfl)⟩ (by kernel_rfl) Tryd.func29 rfl (by kernel_rfl) rfl run_F_ref34_Bytes
/-- odograph/odographref06.Xor -/
noncomputable def F_ref06_Xor (a_1 : Int) (b_2 : Int) : Option Int :=
  Option.bind (
    loopO (X := Int) (fun (s_3 : (Int × (Int × Int))) =>
      let i_4 : Int := s_3.1
      let out_5 : Int := s_3.2.1
      let part_6 : Int := s_3.2.2
      let t9_7 : Bool := (decide (i_4 < (16 : Int)))
      (bif t9_7 then
        chk none (!(part_6 == (0 : Int))) <|
        let t14_8 : Int := (IntKind.wrap .i64 (a_1.tdiv part_6))
        chk none (!(part_6 == (0 : Int))) <|
        let t18_9 : Int := (IntKind.wrap .i64 (b_2.tdiv part_6))
        let t20_10 : Bool := ((t14_8.tmod (2 : Int)) != (t18_9.tmod (2 : Int)))
        Option.bind (
          (bif t20_10 then
            let t23_11 : Int := (IntKind.wrap .i64 (out_5 + part_6))
            some t23_11
          else
            some out_5)) fun r_12 =>
        let t25_13 : Int := (IntKind.wrap .i64 ((2 : Int) * part_6))
        let t11_14 : Int := (IntKind.wrap .i64 (i_4 + (1 : Int)))
        some (.inl (t11_14, r_12, t25_13))
      else
        some (.inr out_5))) ((0 : Int), (0 : Int), (1 : Int))) fun r_15 =>
  some r_15
noncomputable def con_F_ref06_Xor : Con := { f := 37, ps := [.dat (.int .i64), .dat (.int .i64)], boxes := [], ins := (.pair (.int .i64) (.int .i64)), nin := 2, outs := (.int .i64), rs := [.dat (.int .i64)], nout := 1, F := fun x => F_ref06_Xor x.1 x.2 }
def hint_F_ref06_Xor : Hint := (.mk .plain [H0, (.mk .plain [H0, (.mk .plain [H0, (.mk .plain [(.mk .plain [H0, (.mk .plain [(.mk (.loop [⟨.slot 7, (.int .i64), none⟩, ⟨.slot 5, (.int .i64), none⟩, ⟨.slot 6, (.int .i64), none⟩] [(0, 10), (0, 16), (0, 13), (0, 19), (0, 22), (0, 25), (0, 8), (0, 14), (0, 11), (0, 17), (0, 23), (0, 20), (0, 9), (0, 12), (0, 15), (0, 21), (0, 18), (0, 24)] [(.exit 0, [⟨.slot 5, (.int .i64), none⟩])]) [(.mk .plain [H0, (.mk .plain [(.mk .plain [(.mk .plain [(.mk .plain [H0, (.mk (.join [(0, 23), (0, 21), (0, 22)] [(.normal, [⟨.slot 5, (.int .i64), none⟩])]) [])])])])])])])])])])])])])
theorem run_F_ref06_Xor : runE ⟨tdGet tys, [], [], [], []⟩ con_F_ref06_Xor Tryd.f37 hint_F_ref06_Xor = con_F_ref06_Xor.F := by
  funext x
  kernel_rfl
theorem ok_F_ref06_Xor : ConOK Tryd.prog con_F_ref06_Xor :=
  con_of_run (Γ := ⟨tdGet tys, [], [], [], []⟩) ⟨fun T d h => tysB_ok tys tys_ok T d h, by simp [], by simp [], by simp [], ptrs_ok Tryd.prog [] (by kernel_rfl)⟩ (by kernel_rfl) Tryd.func37 rfl (by kernel_rfl) run_F_ref06_Xor
/-- odograph/odographref06.Sum -/
noncomputable def F_ref06_Sum (b_1 : (List Int)) : Option Int :=
  let t9_2 : Int := (IntKind.wrap .i64 ((8 : Int) * (b_1.length : Int)))
  let t10_3 : Int := (IntKind.wrap .i64 (t9_2 + (16 : Int)))
  Option.bind (
    loopO (X := Int) (fun (s_4 : (Int × Int)) =>
      let i_5 : Int := s_4.1
      let rest_6 : Int := s_4.2
      (bif (decide (i_5 < t10_3)) then
        let t19_7 : Int := (IntKind.wrap .i64 ((8 : Int) * (b_1.length : Int)))
        Option.bind (
          (bif (decide (i_5 < t19_7)) then
            let t23_8 : Int := (IntKind.wrap .i64 (i_5.tdiv (8 : Int)))
            chk none ((decide ((0 : Int) ≤ t23_8)) && (decide (t23_8 < (b_1.length : Int)))) <|
            let t25_9 : Int := (b_1.getD t23_8.toNat (0 : Int))
            let t28_10 : Int := (IntKind.wrap .i64 ((7 : Int) - (i_5.tmod (8 : Int))))
            let t29_11 : Int := (IntKind.wrap .u64 t28_10)
            chk none (decide ((0 : Int) ≤ t29_11)) <|
            let t30_12 : Int := (t25_9.fdiv (2 ^ (min t29_11.toNat 8)))
            let t31_13 : Int := (IntKind.wrap .i64 t30_12)
            some (t31_13.tmod (2 : Int))
          else
            some (0 : Int))) fun r_14 =>
        let t34_15 : Bool := (decide (i_5 < (16 : Int)))
        Option.bind (
          (bif t34_15 then
            let t36_16 : Int := (IntKind.wrap .i64 ((1 : Int) - r_14))
            some t36_16
          else
            some r_14)) fun r_17 =>
        let t38_18 : Int := (IntKind.wrap .i64 ((2 : Int) * rest_6))
        let t40_19 : Int := (IntKind.wrap .i64 (t38_18 + r_17))
        let t42_20 : Bool := (decide ((65536 : Int) ≤ t40_19))
        Option.bind (
          (bif t42_20 then
            let t44_21 : Int := (IntKind.wrap .i64 (t40_19 - (65536 : Int)))
            (F_ref06_Xor t44_21 (4129 : Int)).bind fun t46_22 =>
            some t46_22
          else
            some t40_19)) fun r_23 =>
        let t15_24 : Int := (IntKind.wrap .i64 (i_5 + (1 : Int)))
        some (.inl (t15_24, r_23))
      else
        some (.inr rest_6))) ((0 : Int), (0 : Int))) fun r_25 =>
  some r_25
noncomputable def con_F_ref06_Sum : Con := { f := 30, ps := [.dat (.slice (.int .u8))], boxes := [], ins := (.slice (.int .u8)), nin := 1, outs := (.int .i64), rs := [.dat (.int .i64)], nout := 1, F := fun x => F_ref06_Sum x }
def hint_F_ref06_Sum : Hint := (.mk .plain [H0, (.mk .plain [H0, (.mk .plain [H0, (.mk .plain [(.mk .plain [H0, (.mk .plain [(.mk (.loop [⟨.slot 5, (.int .i64), none⟩, ⟨.slot 4, (.int .i64), none⟩] [(0, 30), (0, 36), (0, 42), (0, 39), (0, 45), (0, 14), (0, 11), (0, 17), (0, 23), (0, 20), (0, 26), (0, 29), (0, 35), (0, 32), (0, 38), (0, 41), (0, 44), (0, 16), (0, 13), (0, 19), (0, 22), (0, 28), (0, 25), (0, 31), (0, 34), (0, 40), (0, 37), (0, 43), (0, 46), (0, 6), (0, 12), (0, 15), (0, 21), (0, 18), (0, 24), (0, 27), (0, 33)] [(.exit 0, [⟨.slot 4, (.int .i64), none⟩])]) [(.mk .plain [H0, (.mk .plain [(.mk .plain [(.mk .plain [H0, (.mk .plain [(.mk .plain [H0, (.mk (.join [(0, 23), (0, 30), (0, 26), (0, 29), (0, 32), (0, 22), (0, 28), (0, 25), (0, 31), (0, 21), (0, 24), (0, 27)] [(.normal, [⟨.slot 6, (.int .i64), none⟩])]) [])]), (.mk .plain [(.mk .plain [H0, (.mk (.join [(0, 35), (0, 36)] [(.normal, [⟨.slot 6, (.int .i64), none⟩])]) [])]), (.mk .plain [H0, (.mk .plain [H0, (.mk (.join [(0, 46), (0, 44), (0, 45), (0, 43)] [(.normal, [⟨.slot 4, (.int .i64), none⟩])]) [])])])])])])])])])])])])])])])])
theorem run_F_ref06_Sum : runE ⟨tdGet tys, [con_F_ref06_Xor], [], [], []⟩ con_F_ref06_Sum Tryd.f30 hint_F_ref06_Sum = con_F_ref06_Sum.F := by
  funext x
  kernel_rfl
theorem ok_F_ref06_Sum : ConOK Tryd.prog con_F_ref06_Sum :=
  con_of_run (Γ := ⟨tdGet tys, [con_F_ref06_Xor], [], [], []⟩) ⟨fun T d h => tysB_ok tys tys_ok T d h, by simp [ok_F_ref06_Xor], by simp [], by simp [], ptrs_ok Tryd.prog [] (by kernel_rfl)⟩ (by kernel_rfl) Tryd.func30 rfl (by kernel_rfl) run_F_ref06_Sum
/-- odograph/odographref35.Put -/
noncomputable def F_ref35_Put (p_1 : ((Int × (Int × (Int × (Int × (Int × (Int × (Int × Int))))))) × (Int × (Int × (Int × (Int × (Int × (Int × Int)))))))) : Option (List Int) :=
  (F_ref35_Widths ()).bind fun t9_2 =>
  Option.bind (
    loopO (X := ByteArray) (fun (s_3 : (ByteArray × Int)) =>
      let text_4 : ByteArray := s_3.1
      let i_5 : Int := s_3.2
      let t11_6 : Bool := (decide (i_5 < (8 : Int)))
      (bif t11_6 then
        chk none ((decide ((0 : Int) ≤ i_5)) && (decide (i_5 < (8 : Int)))) <|
        let t18_7 : Int := (List.getD [p_1.1.1, p_1.1.2.1, p_1.1.2.2.1, p_1.1.2.2.2.1, p_1.1.2.2.2.2.1, p_1.1.2.2.2.2.2.1, p_1.1.2.2.2.2.2.2.1, p_1.1.2.2.2.2.2.2.2] i_5.toNat (0 : Int))
        let t19_8 : Int := (IntKind.wrap .u64 t18_7)
        chk none ((decide ((0 : Int) ≤ i_5)) && (decide (i_5 < (8 : Int)))) <|
        let t22_9 : Int := (List.getD [t9_2.1, t9_2.2.1, t9_2.2.2.1, t9_2.2.2.2.1, t9_2.2.2.2.2.1, t9_2.2.2.2.2.2.1, t9_2.2.2.2.2.2.2.1, t9_2.2.2.2.2.2.2.2] i_5.toNat (0 : Int))
        (F_ref34_Number t19_8 t22_9).bind fun t23_10 =>
        chk none (decide (text_4.size + t23_10.size ≤ 9223372036854775807)) <|
        let t13_11 : Int := (IntKind.wrap .i64 (i_5 + (1 : Int)))
        some (.inl ((text_4 ++ t23_10), t13_11))
      else
        some (.inr text_4))) ((⟨#[]⟩ : ByteArray), (0 : Int))) fun r_12 =>
  let t34_13 : Int := (IntKind.wrap .u64 p_1.2.1)
  (F_ref34_Number t34_13 (1 : Int)).bind fun t35_14 =>
  chk none (decide (r_12.size + t35_14.size ≤ 9223372036854775807)) <|
  let t34_15 : Int := (IntKind.wrap .u64 p_1.2.2.1)
  (F_ref34_Number t34_15 (1 : Int)).bind fun t35_16 =>
  chk none (decide ((r_12 ++ t35_14).size + t35_16.size ≤ 9223372036854775807)) <|
  let t36_17 : ByteArray := ((r_12 ++ t35_14) ++ t35_16)
  let t34_18 : Int := (IntKind.wrap .u64 p_1.2.2.2.1)
  (F_ref34_Number t34_18 (1 : Int)).bind fun t35_19 =>
  chk none (decide (t36_17.size + t35_19.size ≤ 9223372036854775807)) <|
  let t34_20 : Int := (IntKind.wrap .u64 p_1.2.2.2.2.1)
  (F_ref34_Number t34_20 (1 : Int)).bind fun t35_21 =>
  chk none (decide ((t36_17 ++ t35_19).size + t35_21.size ≤ 9223372036854775807)) <|
  let t36_22 : ByteArray := ((t36_17 ++ t35_19) ++ t35_21)
  let t34_23 : Int := (IntKind.wrap .u64 p_1.2.2.2.2.2.1)
  (F_ref34_Number t34_23 (1 : Int)).bind fun t35_24 =>
  chk none (decide (t36_22.size + t35_24.size ≤ 9223372036854775807)) <|
  let t34_25 : Int := (IntKind.wrap .u64 p_1.2.2.2.2.2.2.1)
  (F_ref34_Number t34_25 (1 : Int)).bind fun t35_26 =>
  chk none (decide ((t36_22 ++ t35_24).size + t35_26.size ≤ 9223372036854775807)) <|
  let t36_27 : ByteArray := ((t36_22 ++ t35_24) ++ t35_26)
  let t34_28 : Int := (IntKind.wrap .u64 p_1.2.2.2.2.2.2.2)
  (F_ref34_Number t34_28 (1 : Int)).bind fun t35_29 =>
  chk none (decide (t36_27.size + t35_29.size ≤ 9223372036854775807)) <|
  (F_ref34_Bytes (t36_27 ++ t35_29)).bind fun t38_30 =>
  (F_ref06_Sum t38_30).bind fun t40_31 =>
  let t43_32 : Int := (IntKind.wrap .i64 (t40_31.tdiv (256 : Int)))
  let t44_33 : Int := (IntKind.wrap .u8 t43_32)
  let t46_34 : Int := (t40_31.tmod (256 : Int))
  let t47_35 : Int := (IntKind.wrap .u8 t46_34)
  chk none (decide ((t38_30.length + ([t44_33, t47_35] : List Int).length) * 1 ≤ 140737488355328)) <|
  let t49_36 : (List Int) := (t38_30 ++ ([t44_33, t47_35] : List Int))
  some t49_36
noncomputable def con_F_ref35_Put : Con := { f := 11, ps := [.dat (.agg (.pair (.agg (.pair (.int .i64) (.pair (.int .i64) (.pair (.int .i64) (.pair (.int .i64) (.pair (.int .i64) (.pair (.int .i64) (.pair (.int .i64) (.int .i64))))))))) (.agg (.pair (.int .i64) (.pair (.int .i64) (.pair (.int .i64) (.pair (.int .i64) (.pair (.int .i64) (.pair (.int .i64) (.int .i64))))))))))], boxes := [], ins := (.agg (.pair (.agg (.pair (.int .i64) (.pair (.int .i64) (.pair (.int .i64) (.pair (.int .i64) (.pair (.int .i64) (.pair (.int .i64) (.pair (.int .i64) (.int .i64))))))))) (.agg (.pair (.int .i64) (.pair (.int .i64) (.pair (.int .i64) (.pair (.int .i64) (.pair (.int .i64) (.pair (.int .i64) (.int .i64)))))))))), nin := 1, outs := (.slice (.int .u8)), rs := [.dat (.slice (.int .u8))], nout := 1, F := fun x => F_ref35_Put x }
def hint_F_ref35_Put : Hint := (.mk .plain [H0, (.mk .plain [H0, (.mk .plain [H0, (.mk .plain [(.mk .plain [H0, (.mk .plain [(.mk (.loop [⟨.slot 4, .str, none⟩, ⟨.slot 5, (.int .i64), none⟩] [(0, 10), (0, 16), (0, 13), (0, 19), (0, 22), (0, 14), (0, 11), (0, 17), (0, 23), (0, 20), (0, 12), (0, 15), (0, 21), (0, 18), (0, 24)] [(.exit 0, [⟨.slot 4, .str, none⟩])]) [])])]), (.mk .plain [(.mk .plain [H0, (.mk .plain [(.mk (.unroll 8) [])])])])])])])])
theorem run_F_ref35_Put : runE ⟨tdGet tys, [con_F_ref35_Widths, con_F_ref34_Number, con_F_ref06_Sum], [], [con_F_ref34_Bytes], []⟩ con_F_ref35_Put Tryd.f11 hint_F_ref35_Put = con_F_ref35_Put.F := by
  funext x
  kernel_rfl
theorem ok_F_ref35_Put : ConOK Tryd.prog con_F_ref35_Put :=
  con_of_run (Γ := ⟨tdGet tys, [con_F_ref35_Widths, con_F_ref34_Number, con_F_ref06_Sum], [], [con_F_ref34_Bytes], []⟩) ⟨fun T d h => tysB_ok tys tys_ok T d h, by simp [ok_F_ref35_Widths, ok_F_ref34_Number, ok_F_ref06_Sum], by simp [], by simp [ok_F_ref34_Bytes], ptrs_ok Tryd.prog [] (by kernel_rfl)⟩ (by kernel_rfl) Tryd.func11 rfl (by kernel_rfl) run_F_ref35_Put
/-- odograph/odographlaw35.PacketPuts -/
noncomputable def F_law35_PacketPuts (p_1 : (Int × (Int × (Int × (Int × (Int × (Int × (Int × (Int × (Bool × (Bool × (Bool × (Bool × (Bool × (Bool × Bool))))))))))))))) : Option Bool :=
  (F_law35_anchor ()).bind fun t7_2 =>
  (bif (!t7_2) then
    some false
  else
    (F_packet_Put p_1).bind fun t11_3 =>
    (F_packet_Packet_Right p_1).bind fun t15_4 =>
    (F_law35_ref p_1).bind fun t17_5 =>
    (F_ref35_Right t17_5).bind fun t18_6 =>
    (bif (!(t15_4 == t18_6)) then
      some false
    else
      (F_law35_ref p_1).bind fun t21_7 =>
      (F_ref35_Right t21_7).bind fun t22_8 =>
      (bif (!t22_8) then
        let t29_9 : Bool := ((t11_3.1.length : Int) == (0 : Int))
        let t30_10 : Bool := (bif (t11_3.2 == (10 : Int)) then t29_9 else false)
        some t30_10
      else
        (F_packet_Get t11_3.1).bind fun t33_11 =>
        (bif (t11_3.2 == (0 : Int)) then F_law35_ref p_1 else some (((0 : Int), ((0 : Int), ((0 : Int), ((0 : Int), ((0 : Int), ((0 : Int), ((0 : Int), (0 : Int)))))))), ((0 : Int), ((0 : Int), ((0 : Int), ((0 : Int), ((0 : Int), ((0 : Int), (0 : Int))))))))).bind fun t42_12 =>
        (bif (t11_3.2 == (0 : Int)) then F_ref35_Put t42_12 else some []).bind fun t43_13 =>
        let t45_14 : Bool := ((bytesOf t11_3.1).toList == (bytesOf t43_13).toList)
        let t46_15 : Bool := (bif (t11_3.2 == (0 : Int)) then t45_14 else false)
        let t50_16 : Bool := ((t11_3.1.length : Int) == (26 : Int))
        let t51_17 : Bool := (bif t46_15 then t50_16 else false)
        let t55_18 : Bool := (bif t51_17 then (t33_11.2 == (0 : Int)) else false)
        let t59_19 : Bool := (eqT (.agg (.pair (.int .i64) (.pair (.int .i64) (.pair (.int .i64) (.pair (.int .i64) (.pair (.int .i64) (.pair (.int .i64) (.pair (.int .i64) (.pair (.int .i64) (.agg (.pair .bool (.pair .bool (.pair .bool (.pair .bool (.pair .bool (.pair .bool .bool)))))))))))))))) t33_11.1 p_1)
        let t60_20 : Bool := (bif t55_18 then t59_19 else false)
        some t60_20)))
noncomputable def con_F_law35_PacketPuts : Con := { f := 3, ps := [.dat (.agg (.pair (.int .i64) (.pair (.int .i64) (.pair (.int .i64) (.pair (.int .i64) (.pair (.int .i64) (.pair (.int .i64) (.pair (.int .i64) (.pair (.int .i64) (.agg (.pair .bool (.pair .bool (.pair .bool (.pair .bool (.pair .bool (.pair .bool .bool))))))))))))))))], boxes := [], ins := (.agg (.pair (.int .i64) (.pair (.int .i64) (.pair (.int .i64) (.pair (.int .i64) (.pair (.int .i64) (.pair (.int .i64) (.pair (.int .i64) (.pair (.int .i64) (.agg (.pair .bool (.pair .bool (.pair .bool (.pair .bool (.pair .bool (.pair .bool .bool)))))))))))))))), nin := 1, outs := .bool, rs := [.dat .bool], nout := 1, F := fun x => F_law35_PacketPuts x }
def hint_F_law35_PacketPuts : Hint := H0
theorem run_F_law35_PacketPuts : runE ⟨tdGet tys, [con_F_law35_anchor, con_F_packet_Put, con_F_packet_Packet_Right, con_F_law35_ref, con_F_ref35_Right, con_F_packet_Get, con_F_ref35_Put], [], [], []⟩ con_F_law35_PacketPuts Tryd.f3 hint_F_law35_PacketPuts = con_F_law35_PacketPuts.F := by
  funext x
  kernel_rfl
theorem ok_F_law35_PacketPuts : ConOK Tryd.prog con_F_law35_PacketPuts :=
  con_of_run (Γ := ⟨tdGet tys, [con_F_law35_anchor, con_F_packet_Put, con_F_packet_Packet_Right, con_F_law35_ref, con_F_ref35_Right, con_F_packet_Get, con_F_ref35_Put], [], [], []⟩) ⟨fun T d h => tysB_ok tys tys_ok T d h, by simp [ok_F_law35_anchor, ok_F_packet_Put, ok_F_packet_Packet_Right, ok_F_law35_ref, ok_F_ref35_Right, ok_F_packet_Get, ok_F_ref35_Put], by simp [], by simp [], ptrs_ok Tryd.prog [] (by kernel_rfl)⟩ (by kernel_rfl) Tryd.func3 rfl (by kernel_rfl) run_F_law35_PacketPuts
/-- odograph/odographref34.Text -/
noncomputable def F_ref34_Text (b_1 : (List Int)) : Option ByteArray :=
  Option.bind (
    loopO (X := ByteArray) (fun (s_2 : (Int × ByteArray)) =>
      let i_3 : Int := s_2.1
      let out_4 : ByteArray := s_2.2
      let t8_5 : Bool := (decide (i_3 < (b_1.length : Int)))
      (bif t8_5 then
        chk none ((decide ((0 : Int) ≤ i_3)) && (decide (i_3 < (b_1.length : Int)))) <|
        let t15_6 : Int := (b_1.getD i_3.toNat (0 : Int))
        let t16_7 : Int := (IntKind.wrap .u64 t15_6)
        (F_ref34_Number t16_7 (8 : Int)).bind fun t17_8 =>
        chk none (decide (out_4.size + t17_8.size ≤ 9223372036854775807)) <|
        let t10_9 : Int := (IntKind.wrap .i64 (i_3 + (1 : Int)))
        some (.inl (t10_9, (out_4 ++ t17_8)))
      else
        some (.inr out_4))) ((0 : Int), (⟨#[]⟩ : ByteArray))) fun r_10 =>
  some r_10
noncomputable def con_F_ref34_Text : Con := { f := 31, ps := [.dat (.slice (.int .u8))], boxes := [], ins := (.slice (.int .u8)), nin := 1, outs := .str, rs := [.dat .str], nout := 1, F := fun x => F_ref34_Text x }
def hint_F_ref34_Text : Hint := (.mk .plain [H0, (.mk .plain [H0, (.mk .plain [(.mk .plain [H0, (.mk .plain [(.mk (.loop [⟨.slot 4, (.int .i64), none⟩, ⟨.slot 3, .str, none⟩] [(0, 7), (0, 10), (0, 16), (0, 13), (0, 5), (0, 8), (0, 14), (0, 11), (0, 17), (0, 9), (0, 6), (0, 12), (0, 15), (0, 18)] [(.exit 0, [⟨.slot 3, .str, none⟩])]) [])])])])])])
theorem run_F_ref34_Text : runE ⟨tdGet tys, [con_F_ref34_Number], [], [], []⟩ con_F_ref34_Text Tryd.f31 hint_F_ref34_Text = con_F_ref34_Text.F := by
  funext x
  kernel_rfl
theorem ok_F_ref34_Text : ConOK Tryd.prog con_F_ref34_Text :=
  con_of_run (Γ := ⟨tdGet tys, [con_F_ref34_Number], [], [], []⟩) ⟨fun T d h => tysB_ok tys tys_ok T d h, by simp [ok_F_ref34_Number], by simp [], by simp [], ptrs_ok Tryd.prog [] (by kernel_rfl)⟩ (by kernel_rfl) Tryd.func31 rfl (by kernel_rfl) run_F_ref34_Text
/-- odograph/odographref34.Signed -/
noncomputable def F_ref34_Signed (s_1 : ByteArray) : Option Int :=
  let t8_2 : Bool := ((s_1.size : Int) == (0 : Int))
  (bif t8_2 then
    some (0 : Int)
  else
    chk none (true && (decide ((0 : Int) < (s_1.size : Int)))) <|
    let t10_3 : Int := ((s_1[(0 : Int).toNat]?.getD 0).toNat : Int)
    (bif (t10_3 == (48 : Int)) then
      (F_ref34_Value s_1).bind fun t13_4 =>
      let t14_5 : Int := (IntKind.wrap .i64 t13_4)
      some t14_5
    else
      Option.bind (
        loopO (X := ByteArray) (fun (s_6 : (Int × ByteArray)) =>
          let i_7 : Int := s_6.1
          let t_8 : ByteArray := s_6.2
          let t18_9 : Bool := (decide (i_7 < (s_1.size : Int)))
          (bif t18_9 then
            chk none ((decide ((0 : Int) ≤ i_7)) && (decide (i_7 < (s_1.size : Int)))) <|
            let t23_10 : Int := ((s_1[i_7.toNat]?.getD 0).toNat : Int)
            Option.bind (
              (bif (t23_10 == (49 : Int)) then
                some (⟨#[48]⟩ : ByteArray)
              else
                some (⟨#[49]⟩ : ByteArray))) fun r_11 =>
            chk none (decide (t_8.size + r_11.size ≤ 9223372036854775807)) <|
            let t20_12 : Int := (IntKind.wrap .i64 (i_7 + (1 : Int)))
            some (.inl (t20_12, (t_8 ++ r_11)))
          else
            some (.inr t_8))) ((0 : Int), (⟨#[]⟩ : ByteArray))) fun r_13 =>
      (F_ref34_Value r_13).bind fun t29_14 =>
      let t30_15 : Int := (IntKind.wrap .i64 t29_14)
      let t31_16 : Int := (IntKind.wrap .i64 (0 - t30_15))
      let t32_17 : Int := (IntKind.wrap .i64 (t31_16 - (1 : Int)))
      some t32_17))
noncomputable def con_F_ref34_Signed : Con := { f := 33, ps := [.dat .str], boxes := [], ins := .str, nin := 1, outs := (.int .i64), rs := [.dat (.int .i64)], nout := 1, F := fun x => F_ref34_Signed x }
def hint_F_ref34_Signed : Hint := (.mk .plain [H0, (.mk .plain [H0, (.mk .plain [H0, (.mk .plain [H0, (.mk .plain [(.mk .plain [H0, (.mk .plain [(.mk (.loop [⟨.slot 4, (.int .i64), none⟩, ⟨.slot 3, .str, none⟩] [(0, 16), (0, 19), (0, 22), (0, 25), (0, 5), (0, 17), (0, 23), (0, 20), (0, 26), (0, 15), (0, 21), (0, 18), (0, 24), (0, 27)] [(.exit 0, [⟨.slot 3, .str, none⟩])]) [(.mk .plain [H0, (.mk .plain [(.mk .plain [(.mk .plain [H0, (.mk .plain [(.mk .plain [H0, (.mk (.join [] [(.normal, [⟨.slot 5, .str, none⟩])]) [])])])])])])])])])])])])])])])
theorem run_F_ref34_Signed : runE ⟨tdGet tys, [con_F_ref34_Value], [], [], []⟩ con_F_ref34_Signed Tryd.f33 hint_F_ref34_Signed = con_F_ref34_Signed.F := by
  funext x
  kernel_rfl
theorem ok_F_ref34_Signed : ConOK Tryd.prog con_F_ref34_Signed :=
  con_of_run (Γ := ⟨tdGet tys, [con_F_ref34_Value], [], [], []⟩) ⟨fun T d h => tysB_ok tys tys_ok T d h, by simp [ok_F_ref34_Value], by simp [], by simp [], ptrs_ok Tryd.prog [] (by kernel_rfl)⟩ (by kernel_rfl) Tryd.func33 rfl (by kernel_rfl) run_F_ref34_Signed
/-- odograph/odographref35.Get -/
noncomputable def F_ref35_Get (b_1 : (List Int)) : Option (((Int × (Int × (Int × (Int × (Int × (Int × (Int × Int))))))) × (Int × (Int × (Int × (Int × (Int × (Int × Int))))))) × Int) :=
  let t11_2 : Bool := (decide ((b_1.length : Int) < (26 : Int)))
  (bif t11_2 then
    let t12_3 : ((Int × (Int × (Int × (Int × (Int × (Int × (Int × Int))))))) × (Int × (Int × (Int × (Int × (Int × (Int × Int))))))) := (((0 : Int), ((0 : Int), ((0 : Int), ((0 : Int), ((0 : Int), ((0 : Int), ((0 : Int), (0 : Int)))))))), ((0 : Int), ((0 : Int), ((0 : Int), ((0 : Int), ((0 : Int), ((0 : Int), (0 : Int))))))))
    some (t12_3, (14 : Int))
  else
    let t15_4 : Bool := (decide ((26 : Int) < (b_1.length : Int)))
    (bif t15_4 then
      let t16_5 : ((Int × (Int × (Int × (Int × (Int × (Int × (Int × Int))))))) × (Int × (Int × (Int × (Int × (Int × (Int × Int))))))) := (((0 : Int), ((0 : Int), ((0 : Int), ((0 : Int), ((0 : Int), ((0 : Int), ((0 : Int), (0 : Int)))))))), ((0 : Int), ((0 : Int), ((0 : Int), ((0 : Int), ((0 : Int), ((0 : Int), (0 : Int))))))))
      some (t16_5, (15 : Int))
    else
      chk none (true && true && (decide ((24 : Int) ≤ (b_1.length : Int)))) <|
      let t18_6 : (List Int) := ((b_1.take (24 : Int).toNat).drop (0 : Int).toNat)
      (F_ref06_Sum t18_6).bind fun t19_7 =>
      chk none (true && (decide ((24 : Int) < (b_1.length : Int)))) <|
      let t22_8 : Int := (b_1.getD (24 : Int).toNat (0 : Int))
      let t23_9 : Int := (IntKind.wrap .i64 t22_8)
      let t24_10 : Int := (IntKind.wrap .i64 (t23_9 * (256 : Int)))
      chk none (true && (decide ((25 : Int) < (b_1.length : Int)))) <|
      let t27_11 : Int := (b_1.getD (25 : Int).toNat (0 : Int))
      let t28_12 : Int := (IntKind.wrap .i64 t27_11)
      let t29_13 : Int := (IntKind.wrap .i64 (t24_10 + t28_12))
      (bif (t19_7 != t29_13) then
        let t31_14 : ((Int × (Int × (Int × (Int × (Int × (Int × (Int × Int))))))) × (Int × (Int × (Int × (Int × (Int × (Int × Int))))))) := (((0 : Int), ((0 : Int), ((0 : Int), ((0 : Int), ((0 : Int), ((0 : Int), ((0 : Int), (0 : Int)))))))), ((0 : Int), ((0 : Int), ((0 : Int), ((0 : Int), ((0 : Int), ((0 : Int), (0 : Int))))))))
        some (t31_14, (31 : Int))
      else
        chk none (true && true && (decide ((24 : Int) ≤ (b_1.length : Int)))) <|
        let t33_15 : (List Int) := ((b_1.take (24 : Int).toNat).drop (0 : Int).toNat)
        (F_ref34_Text t33_15).bind fun t34_16 =>
        (F_ref35_Widths ()).bind fun t35_17 =>
        Option.bind (
          loopO (X := (ByteArray × (Int × (Int × (Int × (Int × (Int × (Int × (Int × (Int × (Int × (Int × (Int × (Int × (Int × (Int × Int)))))))))))))))) (fun (s_18 : (ByteArray × (Int × (Int × (Int × (Int × (Int × (Int × (Int × (Int × (Int × (Int × (Int × (Int × (Int × (Int × (Int × Int))))))))))))))))) =>
            let text_19 : ByteArray := s_18.1
            let b1_20 : Int := s_18.2.1
            let b1_21 : Int := s_18.2.2.1
            let b1_22 : Int := s_18.2.2.2.1
            let b1_23 : Int := s_18.2.2.2.2.1
            let b1_24 : Int := s_18.2.2.2.2.2.1
            let i_25 : Int := s_18.2.2.2.2.2.2.1
            let b1_26 : Int := s_18.2.2.2.2.2.2.2.1
            let b1_27 : Int := s_18.2.2.2.2.2.2.2.2.1
            let b1_28 : Int := s_18.2.2.2.2.2.2.2.2.2.1
            let b1_29 : Int := s_18.2.2.2.2.2.2.2.2.2.2.1
            let b1_30 : Int := s_18.2.2.2.2.2.2.2.2.2.2.2.1
            let b1_31 : Int := s_18.2.2.2.2.2.2.2.2.2.2.2.2.1
            let b1_32 : Int := s_18.2.2.2.2.2.2.2.2.2.2.2.2.2.1
            let b1_33 : Int := s_18.2.2.2.2.2.2.2.2.2.2.2.2.2.2.1
            let b1_34 : Int := s_18.2.2.2.2.2.2.2.2.2.2.2.2.2.2.2.1
            let b1_35 : Int := s_18.2.2.2.2.2.2.2.2.2.2.2.2.2.2.2.2
            let t37_36 : Bool := (decide (i_25 < (8 : Int)))
            (bif t37_36 then
              chk none ((decide ((0 : Int) ≤ i_25)) && (decide (i_25 < (8 : Int)))) <|
              let t44_37 : Int := (List.getD [t35_17.1, t35_17.2.1, t35_17.2.2.1, t35_17.2.2.2.1, t35_17.2.2.2.2.1, t35_17.2.2.2.2.2.1, t35_17.2.2.2.2.2.2.1, t35_17.2.2.2.2.2.2.2] i_25.toNat (0 : Int))
              chk none (true && (decide ((0 : Int) ≤ t44_37)) && (decide (t44_37 ≤ (text_19.size : Int)))) <|
              let t45_38 : ByteArray := (text_19.extract (0 : Int).toNat t44_37.toNat)
              (F_ref34_Value t45_38).bind fun t46_39 =>
              let t47_40 : Int := (IntKind.wrap .i64 t46_39)
              chk none ((decide ((0 : Int) ≤ i_25)) && (decide (i_25 < (8 : Int)))) <|
              let t51_41 : Bool := (decide ((3 : Int) ≤ i_25))
              Option.bind (
                (bif t51_41 then
                  chk none ((decide ((0 : Int) ≤ i_25)) && (decide (i_25 < (8 : Int)))) <|
                  let t56_42 : Int := (List.getD [t35_17.1, t35_17.2.1, t35_17.2.2.1, t35_17.2.2.2.1, t35_17.2.2.2.2.1, t35_17.2.2.2.2.2.1, t35_17.2.2.2.2.2.2.1, t35_17.2.2.2.2.2.2.2] i_25.toNat (0 : Int))
                  chk none (true && (decide ((0 : Int) ≤ t56_42)) && (decide (t56_42 ≤ (text_19.size : Int)))) <|
                  let t57_43 : ByteArray := (text_19.extract (0 : Int).toNat t56_42.toNat)
                  (F_ref34_Signed t57_43).bind fun t58_44 =>
                  chk none ((decide ((0 : Int) ≤ i_25)) && (decide (i_25 < (8 : Int)))) <|
                  some ((bif (i_25 == (4 : Int)) then t58_44 else (bif (i_25 == (4 : Int)) then t47_40 else b1_26)), (bif (i_25 == (1 : Int)) then t58_44 else (bif (i_25 == (1 : Int)) then t47_40 else b1_27)), (bif (i_25 == (7 : Int)) then t58_44 else (bif (i_25 == (7 : Int)) then t47_40 else b1_28)), b1_29, b1_30, (bif (i_25 == (2 : Int)) then t58_44 else (bif (i_25 == (2 : Int)) then t47_40 else b1_20)), (bif (i_25 == (5 : Int)) then t58_44 else (bif (i_25 == (5 : Int)) then t47_40 else b1_21)), b1_22, b1_23, b1_24, (bif (i_25 == (0 : Int)) then t58_44 else (bif (i_25 == (0 : Int)) then t47_40 else b1_31)), (bif (i_25 == (3 : Int)) then t58_44 else (bif (i_25 == (3 : Int)) then t47_40 else b1_32)), b1_33, (bif (i_25 == (6 : Int)) then t58_44 else (bif (i_25 == (6 : Int)) then t47_40 else b1_34)), b1_35)
                else
                  some ((bif (i_25 == (4 : Int)) then t47_40 else b1_26), (bif (i_25 == (1 : Int)) then t47_40 else b1_27), (bif (i_25 == (7 : Int)) then t47_40 else b1_28), b1_29, b1_30, (bif (i_25 == (2 : Int)) then t47_40 else b1_20), (bif (i_25 == (5 : Int)) then t47_40 else b1_21), b1_22, b1_23, b1_24, (bif (i_25 == (0 : Int)) then t47_40 else b1_31), (bif (i_25 == (3 : Int)) then t47_40 else b1_32), b1_33, (bif (i_25 == (6 : Int)) then t47_40 else b1_34), b1_35))) fun r_45 =>
              let b1_46 : Int := r_45.1
              let b1_47 : Int := r_45.2.1
              let b1_48 : Int := r_45.2.2.1
              let b1_49 : Int := r_45.2.2.2.1
              let b1_50 : Int := r_45.2.2.2.2.1
              let b1_51 : Int := r_45.2.2.2.2.2.1
              let b1_52 : Int := r_45.2.2.2.2.2.2.1
              let b1_53 : Int := r_45.2.2.2.2.2.2.2.1
              let b1_54 : Int := r_45.2.2.2.2.2.2.2.2.1
              let b1_55 : Int := r_45.2.2.2.2.2.2.2.2.2.1
              let b1_56 : Int := r_45.2.2.2.2.2.2.2.2.2.2.1
              let b1_57 : Int := r_45.2.2.2.2.2.2.2.2.2.2.2.1
              let b1_58 : Int := r_45.2.2.2.2.2.2.2.2.2.2.2.2.1
              let b1_59 : Int := r_45.2.2.2.2.2.2.2.2.2.2.2.2.2.1
              let b1_60 : Int := r_45.2.2.2.2.2.2.2.2.2.2.2.2.2.2
              chk none ((decide ((0 : Int) ≤ i_25)) && (decide (i_25 < (8 : Int)))) <|
              let t64_61 : Int := (List.getD [t35_17.1, t35_17.2.1, t35_17.2.2.1, t35_17.2.2.2.1, t35_17.2.2.2.2.1, t35_17.2.2.2.2.2.1, t35_17.2.2.2.2.2.2.1, t35_17.2.2.2.2.2.2.2] i_25.toNat (0 : Int))
              chk none ((decide ((0 : Int) ≤ t64_61)) && (decide (t64_61 ≤ (text_19.size : Int))) && (decide ((text_19.size : Int) ≤ (text_19.size : Int)))) <|
              let t65_62 : ByteArray := (text_19.extract t64_61.toNat (text_19.size : Int).toNat)
              let t39_63 : Int := (IntKind.wrap .i64 (i_25 + (1 : Int)))
              some (.inl (t65_62, b1_51, b1_52, b1_53, b1_54, b1_55, t39_63, b1_46, b1_47, b1_48, b1_49, b1_50, b1_56, b1_57, b1_58, b1_59, b1_60))
            else
              some (.inr (text_19, b1_20, b1_21, b1_22, b1_23, b1_24, b1_26, b1_27, b1_28, b1_29, b1_30, b1_31, b1_32, b1_33, b1_34, b1_35)))) (t34_16, (0 : Int), (0 : Int), (0 : Int), (0 : Int), (0 : Int), (0 : Int), (0 : Int), (0 : Int), (0 : Int), (0 : Int), (0 : Int), (0 : Int), (0 : Int), (0 : Int), (0 : Int), (0 : Int))) fun r_64 =>
        let text_65 : ByteArray := r_64.1
        let b1_66 : Int := r_64.2.1
        let b1_67 : Int := r_64.2.2.1
        let b1_68 : Int := r_64.2.2.2.1
        let b1_69 : Int := r_64.2.2.2.2.1
        let b1_70 : Int := r_64.2.2.2.2.2.1
        let b1_71 : Int := r_64.2.2.2.2.2.2.1
        let b1_72 : Int := r_64.2.2.2.2.2.2.2.1
        let b1_73 : Int := r_64.2.2.2.2.2.2.2.2.1
        let b1_74 : Int := r_64.2.2.2.2.2.2.2.2.2.1
        let b1_75 : Int := r_64.2.2.2.2.2.2.2.2.2.2.1
        let b1_76 : Int := r_64.2.2.2.2.2.2.2.2.2.2.2.1
        let b1_77 : Int := r_64.2.2.2.2.2.2.2.2.2.2.2.2.1
        let b1_78 : Int := r_64.2.2.2.2.2.2.2.2.2.2.2.2.2.1
        let b1_79 : Int := r_64.2.2.2.2.2.2.2.2.2.2.2.2.2.2.1
        let b1_80 : Int := r_64.2.2.2.2.2.2.2.2.2.2.2.2.2.2.2
        chk none (true && true && (decide ((1 : Int) ≤ (text_65.size : Int)))) <|
        let t75_81 : ByteArray := (text_65.extract (0 : Int).toNat (1 : Int).toNat)
        (F_ref34_Value t75_81).bind fun t76_82 =>
        let t77_83 : Int := (IntKind.wrap .i64 t76_82)
        chk none (true && true && (decide ((2 : Int) ≤ (text_65.size : Int)))) <|
        let t75_84 : ByteArray := (text_65.extract (1 : Int).toNat (2 : Int).toNat)
        (F_ref34_Value t75_84).bind fun t76_85 =>
        let t77_86 : Int := (IntKind.wrap .i64 t76_85)
        chk none (true && true && (decide ((3 : Int) ≤ (text_65.size : Int)))) <|
        let t75_87 : ByteArray := (text_65.extract (2 : Int).toNat (3 : Int).toNat)
        (F_ref34_Value t75_87).bind fun t76_88 =>
        let t77_89 : Int := (IntKind.wrap .i64 t76_88)
        chk none (true && true && (decide ((4 : Int) ≤ (text_65.size : Int)))) <|
        let t75_90 : ByteArray := (text_65.extract (3 : Int).toNat (4 : Int).toNat)
        (F_ref34_Value t75_90).bind fun t76_91 =>
        let t77_92 : Int := (IntKind.wrap .i64 t76_91)
        chk none (true && true && (decide ((5 : Int) ≤ (text_65.size : Int)))) <|
        let t75_93 : ByteArray := (text_65.extract (4 : Int).toNat (5 : Int).toNat)
        (F_ref34_Value t75_93).bind fun t76_94 =>
        let t77_95 : Int := (IntKind.wrap .i64 t76_94)
        chk none (true && true && (decide ((6 : Int) ≤ (text_65.size : Int)))) <|
        let t75_96 : ByteArray := (text_65.extract (5 : Int).toNat (6 : Int).toNat)
        (F_ref34_Value t75_96).bind fun t76_97 =>
        let t77_98 : Int := (IntKind.wrap .i64 t76_97)
        chk none (true && true && (decide ((7 : Int) ≤ (text_65.size : Int)))) <|
        let t75_99 : ByteArray := (text_65.extract (6 : Int).toNat (7 : Int).toNat)
        (F_ref34_Value t75_99).bind fun t76_100 =>
        let t77_101 : Int := (IntKind.wrap .i64 t76_100)
        chk none (true && (decide ((7 : Int) ≤ (text_65.size : Int))) && (decide ((text_65.size : Int) ≤ (text_65.size : Int)))) <|
        let t81_102 : ByteArray := (text_65.extract (7 : Int).toNat (text_65.size : Int).toNat)
        (F_ref34_Value t81_102).bind fun t82_103 =>
        let t85_104 : ((Int × (Int × (Int × (Int × (Int × (Int × (Int × Int))))))) × (Int × (Int × (Int × (Int × (Int × (Int × Int))))))) := ((b1_76, (b1_72, (b1_66, (b1_77, (b1_71, (b1_67, (b1_79, b1_73))))))), (t77_83, (t77_86, (t77_89, (t77_92, (t77_95, (t77_98, t77_101)))))))
        (bif !(t82_103 != (0 : Int)) then F_ref35_Right t85_104 else some false).bind fun t86_105 =>
        let t88_106 : Bool := (bif (t82_103 != (0 : Int)) then true else (!t86_105))
        (bif t88_106 then
          let t89_107 : ((Int × (Int × (Int × (Int × (Int × (Int × (Int × Int))))))) × (Int × (Int × (Int × (Int × (Int × (Int × Int))))))) := (((0 : Int), ((0 : Int), ((0 : Int), ((0 : Int), ((0 : Int), ((0 : Int), ((0 : Int), (0 : Int)))))))), ((0 : Int), ((0 : Int), ((0 : Int), ((0 : Int), ((0 : Int), ((0 : Int), (0 : Int))))))))
          some (t89_107, (11 : Int))
        else
          let t90_108 : ((Int × (Int × (Int × (Int × (Int × (Int × (Int × Int))))))) × (Int × (Int × (Int × (Int × (Int × (Int × Int))))))) := ((b1_76, (b1_72, (b1_66, (b1_77, (b1_71, (b1_67, (b1_79, b1_73))))))), (t77_83, (t77_86, (t77_89, (t77_92, (t77_95, (t77_98, t77_101)))))))
          some (t90_108, (0 : Int))))))
noncomputable def con_F_ref35_Get : Con := { f := 12, ps := [.dat (.slice (.int .u8))], boxes := [], ins := (.slice (.int .u8)), nin := 1, outs := (.pair (.agg (.pair (.agg (.pair (.int .i64) (.pair (.int .i64) (.pair (.int .i64) (.pair (.int .i64) (.pair (.int .i64) (.pair (.int .i64) (.pair (.int .i64) (.int .i64))))))))) (.agg (.pair (.int .i64) (.pair (.int .i64) (.pair (.int .i64) (.pair (.int .i64) (.pair (.int .i64) (.pair (.int .i64) (.int .i64)))))))))) (.int .i64)), rs := [.dat (.agg (.pair (.agg (.pair (.int .i64) (.pair (.int .i64) (.pair (.int .i64) (.pair (.int .i64) (.pair (.int .i64) (.pair (.int .i64) (.pair (.int .i64) (.int .i64))))))))) (.agg (.pair (.int .i64) (.pair (.int .i64) (.pair (.int .i64) (.pair (.int .i64) (.pair (.int .i64) (.pair (.int .i64) (.int .i64)))))))))), .dat (.int .i64)], nout := 2, F := fun x => F_ref35_Get x }
def hint_F_ref35_Get : Hint := (.mk .plain [H0, (.mk .plain [H0, (.mk .plain [H0, (.mk .plain [H0, (.mk .plain [H0, (.mk .plain [H0, (.mk .plain [H0, (.mk .plain [(.mk .plain [H0, (.mk .plain [(.mk (.loop [⟨.slot 5, .str, none⟩, ⟨.cell 1 2, (.int .i64), none⟩, ⟨.cell 1 5, (.int .i64), none⟩, ⟨.cell 1 11, (.int .i64), none⟩, ⟨.cell 1 8, (.int .i64), none⟩, ⟨.cell 1 14, (.int .i64), none⟩, ⟨.slot 7, (.int .i64), none⟩, ⟨.cell 1 4, (.int .i64), none⟩, ⟨.cell 1 1, (.int .i64), none⟩, ⟨.cell 1 7, (.int .i64), none⟩, ⟨.cell 1 10, (.int .i64), none⟩, ⟨.cell 1 13, (.int .i64), none⟩, ⟨.cell 1 0, (.int .i64), none⟩, ⟨.cell 1 3, (.int .i64), none⟩, ⟨.cell 1 9, (.int .i64), none⟩, ⟨.cell 1 6, (.int .i64), none⟩, ⟨.cell 1 12, (.int .i64), none⟩] [(0, 36), (0, 42), (0, 39), (0, 45), (0, 48), (0, 51), (0, 63), (0, 38), (0, 41), (0, 47), (0, 44), (0, 50), (0, 62), (0, 65), (0, 40), (0, 37), (0, 43), (0, 46), (0, 49), (0, 61), (0, 64), (0, 54), (0, 57), (0, 60), (0, 53), (0, 59), (0, 56), (0, 52), (0, 55), (0, 58)] [(.exit 0, [⟨.slot 5, .str, none⟩, ⟨.cell 1 2, (.int .i64), none⟩, ⟨.cell 1 5, (.int .i64), none⟩, ⟨.cell 1 11, (.int .i64), none⟩, ⟨.cell 1 8, (.int .i64), none⟩, ⟨.cell 1 14, (.int .i64), none⟩, ⟨.cell 1 4, (.int .i64), none⟩, ⟨.cell 1 1, (.int .i64), none⟩, ⟨.cell 1 7, (.int .i64), none⟩, ⟨.cell 1 10, (.int .i64), none⟩, ⟨.cell 1 13, (.int .i64), none⟩, ⟨.cell 1 0, (.int .i64), none⟩, ⟨.cell 1 3, (.int .i64), none⟩, ⟨.cell 1 9, (.int .i64), none⟩, ⟨.cell 1 6, (.int .i64), none⟩, ⟨.cell 1 12, (.int .i64), none⟩])]) [(.mk .plain [H0, (.mk .plain [(.mk .plain [(.mk .plain [H0, (.mk .plain [(.mk .plain [H0, (.mk (.join [(0, 54), (0, 57), (0, 60), (0, 52), (0, 55), (0, 58), (0, 53), (0, 59), (0, 56)] [(.normal, [⟨.cell 1 4, (.int .i64), none⟩, ⟨.cell 1 1, (.int .i64), none⟩, ⟨.cell 1 7, (.int .i64), none⟩, ⟨.cell 1 10, (.int .i64), none⟩, ⟨.cell 1 13, (.int .i64), none⟩, ⟨.cell 1 2, (.int .i64), none⟩, ⟨.cell 1 5, (.int .i64), none⟩, ⟨.cell 1 11, (.int .i64), none⟩, ⟨.cell 1 8, (.int .i64), none⟩, ⟨.cell 1 14, (.int .i64), none⟩, ⟨.cell 1 0, (.int .i64), none⟩, ⟨.cell 1 3, (.int .i64), none⟩, ⟨.cell 1 9, (.int .i64), none⟩, ⟨.cell 1 6, (.int .i64), none⟩, ⟨.cell 1 12, (.int .i64), none⟩])]) [])])])])])])])])])]), (.mk .plain [(.mk .plain [H0, (.mk .plain [(.mk (.unroll 8) [])])])])])])])])])])])])
theorem run_F_ref35_Get : runE ⟨tdGet tys, [con_F_ref06_Sum, con_F_ref34_Text, con_F_ref35_Widths, con_F_ref34_Value, con_F_ref34_Signed, con_F_ref35_Right], [], [], []⟩ con_F_ref35_Get Tryd.f12 hint_F_ref35_Get = con_F_ref35_Get.F := by
  funext x
  kernel_rfl
theorem ok_F_ref35_Get : ConOK Tryd.prog con_F_ref35_Get :=
  con_of_run (Γ := ⟨tdGet tys, [con_F_ref06_Sum, con_F_ref34_Text, con_F_ref35_Widths, con_F_ref34_Value, con_F_ref34_Signed, con_F_ref35_Right], [], [], []⟩) ⟨fun T d h => tysB_ok tys tys_ok T d h, by simp [ok_F_ref06_Sum, ok_F_ref34_Text, ok_F_ref35_Widths, ok_F_ref34_Value, ok_F_ref34_Signed, ok_F_ref35_Right], by simp [], by simp [], ptrs_ok Tryd.prog [] (by kernel_rfl)⟩ (by kernel_rfl) Tryd.func12 rfl (by kernel_rfl) run_F_ref35_Get
/-- odograph/odographlaw35.PacketGets -/
noncomputable def F_law35_PacketGets (b_1 : (List Int)) : Option Bool :=
  (F_law35_anchor ()).bind fun t9_2 =>
  (bif (!t9_2) then
    some false
  else
    let t13_3 : Bool := (decide ((200 : Int) < (b_1.length : Int)))
    (bif t13_3 then
      some true
    else
      (F_packet_Get b_1).bind fun t16_4 =>
      (F_ref35_Get b_1).bind fun t21_5 =>
      (bif !(t16_4.2 != t21_5.2) then F_law35_ref t16_4.1 else some (((0 : Int), ((0 : Int), ((0 : Int), ((0 : Int), ((0 : Int), ((0 : Int), ((0 : Int), (0 : Int)))))))), ((0 : Int), ((0 : Int), ((0 : Int), ((0 : Int), ((0 : Int), ((0 : Int), (0 : Int))))))))).bind fun t29_6 =>
      let t31_7 : Bool := (!(eqT (.agg (.pair (.agg (.pair (.int .i64) (.pair (.int .i64) (.pair (.int .i64) (.pair (.int .i64) (.pair (.int .i64) (.pair (.int .i64) (.pair (.int .i64) (.int .i64))))))))) (.agg (.pair (.int .i64) (.pair (.int .i64) (.pair (.int .i64) (.pair (.int .i64) (.pair (.int .i64) (.pair (.int .i64) (.int .i64)))))))))) t29_6 t21_5.1))
      let t32_8 : Bool := (bif (t16_4.2 != t21_5.2) then true else t31_7)
      (bif t32_8 then
        some false
      else
        (bif (t16_4.2 != (0 : Int)) then
          let t36_9 : (Int × (Int × (Int × (Int × (Int × (Int × (Int × (Int × (Bool × (Bool × (Bool × (Bool × (Bool × (Bool × Bool)))))))))))))) := ((0 : Int), ((0 : Int), ((0 : Int), ((0 : Int), ((0 : Int), ((0 : Int), ((0 : Int), ((0 : Int), (false, (false, (false, (false, (false, (false, false))))))))))))))
          let t37_10 : Bool := (eqT (.agg (.pair (.int .i64) (.pair (.int .i64) (.pair (.int .i64) (.pair (.int .i64) (.pair (.int .i64) (.pair (.int .i64) (.pair (.int .i64) (.pair (.int .i64) (.agg (.pair .bool (.pair .bool (.pair .bool (.pair .bool (.pair .bool (.pair .bool .bool)))))))))))))))) t16_4.1 t36_9)
          some t37_10
        else
          (F_packet_Put t16_4.1).bind fun t40_11 =>
          let t50_12 : Bool := ((bytesOf t40_11.1).toList == (bytesOf b_1).toList)
          let t51_13 : Bool := (bif (t40_11.2 == (0 : Int)) then t50_12 else false)
          some t51_13))))
noncomputable def con_F_law35_PacketGets : Con := { f := 4, ps := [.dat (.slice (.int .u8))], boxes := [], ins := (.slice (.int .u8)), nin := 1, outs := .bool, rs := [.dat .bool], nout := 1, F := fun x => F_law35_PacketGets x }
def hint_F_law35_PacketGets : Hint := H0
theorem run_F_law35_PacketGets : runE ⟨tdGet tys, [con_F_law35_anchor, con_F_packet_Get, con_F_ref35_Get, con_F_law35_ref, con_F_packet_Put], [], [], []⟩ con_F_law35_PacketGets Tryd.f4 hint_F_law35_PacketGets = con_F_law35_PacketGets.F := by
  funext x
  kernel_rfl
theorem ok_F_law35_PacketGets : ConOK Tryd.prog con_F_law35_PacketGets :=
  con_of_run (Γ := ⟨tdGet tys, [con_F_law35_anchor, con_F_packet_Get, con_F_ref35_Get, con_F_law35_ref, con_F_packet_Put], [], [], []⟩) ⟨fun T d h => tysB_ok tys tys_ok T d h, by simp [ok_F_law35_anchor, ok_F_packet_Get, ok_F_ref35_Get, ok_F_law35_ref, ok_F_packet_Put], by simp [], by simp [], ptrs_ok Tryd.prog [] (by kernel_rfl)⟩ (by kernel_rfl) Tryd.func4 rfl (by kernel_rfl) run_F_law35_PacketGets
end Go.Proofs.YtomkodhihiloiaaDoor
