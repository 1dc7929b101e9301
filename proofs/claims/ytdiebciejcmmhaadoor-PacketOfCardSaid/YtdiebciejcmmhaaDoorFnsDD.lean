/- The functional reading of the code (printed). -/
import Derived.Test.YtdiebciejcmmhaaDoorTysDD
set_option linter.unusedSimpArgs false
set_option linter.unusedVariables false
namespace Go.Proofs.YtdiebciejcmmhaaDoor
open Go
/-- odograph/num.Size -/
noncomputable def F_num_Size (a_1 : Int) : Option Int :=
  let t4_2 : Bool := (decide (a_1 < (0 : Int)))
  (bif t4_2 then
    let t7_3 : Int := (IntKind.wrap .u64 (0 - (IntKind.wrap .u64 a_1)))
    some t7_3
  else
    some (IntKind.wrap .u64 a_1))
noncomputable def con_F_num_Size : Con := { f := 49, ps := [.dat (.int .i64)], boxes := [], ins := (.int .i64), nin := 1, outs := (.int .u64), rs := [.dat (.int .u64)], nout := 1, F := fun x => F_num_Size x }
def hint_F_num_Size : Hint := H0
theorem run_F_num_Size : runE ⟨tdGet tys, [], []⟩ con_F_num_Size Tryd.f49 hint_F_num_Size = con_F_num_Size.F := by
  funext x
  kernel_rfl
theorem ok_F_num_Size : ConOK Tryd.prog con_F_num_Size :=
  con_of_run (Γ := ⟨tdGet tys, [], []⟩) ⟨fun T d h => tysB_ok tys tys_ok T d h, by simp [], by simp []⟩ (by kernel_rfl) Tryd.func49 rfl (by kernel_rfl) run_F_num_Size
/-- odograph/wide.Mul -/
noncomputable def F_wide_Mul (a_1 : Int) (b_2 : Int) : Option (Int × Int) :=
  let t15_3 : Int := (bits .u64 .and a_1 (4294967295 : Int))
  let t19_4 : Int := (bits .u64 .and b_2 (4294967295 : Int))
  let t22_5 : Int := (IntKind.wrap .u64 (t15_3 * t19_4))
  let t25_6 : Int := (IntKind.wrap .u64 ((a_1.fdiv (2 ^ 32)) * t19_4))
  let t28_7 : Int := (IntKind.wrap .u64 (t25_6 + (t22_5.fdiv (2 ^ 32))))
  let t31_8 : Int := (IntKind.wrap .u64 (t15_3 * (b_2.fdiv (2 ^ 32))))
  let t33_9 : Int := (bits .u64 .and t28_7 (4294967295 : Int))
  let t34_10 : Int := (IntKind.wrap .u64 (t31_8 + t33_9))
  let t37_11 : Int := (IntKind.wrap .u64 ((a_1.fdiv (2 ^ 32)) * (b_2.fdiv (2 ^ 32))))
  let t40_12 : Int := (IntKind.wrap .u64 (t37_11 + (t28_7.fdiv (2 ^ 32))))
  let t43_13 : Int := (IntKind.wrap .u64 (t40_12 + (t34_10.fdiv (2 ^ 32))))
  let t45_14 : Int := (IntKind.wrap .u64 (t34_10 * 2 ^ 32))
  let t47_15 : Int := (bits .u64 .and t22_5 (4294967295 : Int))
  let t48_16 : Int := (bits .u64 .or t45_14 t47_15)
  let w_17 : (Int × Int) := (t43_13, t48_16)
  some w_17
noncomputable def con_F_wide_Mul : Con := { f := 48, ps := [.dat (.int .u64), .dat (.int .u64)], boxes := [], ins := (.pair (.int .u64) (.int .u64)), nin := 2, outs := (.agg (.pair (.int .u64) (.int .u64))), rs := [.dat (.agg (.pair (.int .u64) (.int .u64)))], nout := 1, F := fun x => F_wide_Mul x.1 x.2 }
def hint_F_wide_Mul : Hint := H0
theorem run_F_wide_Mul : runE ⟨tdGet tys, [], []⟩ con_F_wide_Mul Tryd.f48 hint_F_wide_Mul = con_F_wide_Mul.F := by
  funext x
  kernel_rfl
theorem ok_F_wide_Mul : ConOK Tryd.prog con_F_wide_Mul :=
  con_of_run (Γ := ⟨tdGet tys, [], []⟩) ⟨fun T d h => tysB_ok tys tys_ok T d h, by simp [], by simp []⟩ (by kernel_rfl) Tryd.func48 rfl (by kernel_rfl) run_F_wide_Mul
/-- (odograph/wide.U).Shl -/
noncomputable def F_wide_U_Shl (x_1 : (Int × Int)) (n_2 : Int) : Option (Int × Int) :=
  let t7_3 : Bool := (decide (n_2 ≤ (0 : Int)))
  (bif t7_3 then
    some x_1
  else
    let t11_4 : Bool := (decide ((64 : Int) ≤ n_2))
    (bif t11_4 then
      let t15_5 : Int := (IntKind.wrap .i64 (n_2 - (64 : Int)))
      let t16_6 : Int := (IntKind.wrap .u64 t15_5)
      chk none (decide ((0 : Int) ≤ t16_6)) <|
      let t17_7 : Int := (IntKind.wrap .u64 (x_1.2 * 2 ^ (min t16_6.toNat 64)))
      let w_8 : (Int × Int) := (t17_7, (0 : Int))
      some w_8
    else
      chk none (decide ((0 : Int) ≤ (IntKind.wrap .u64 n_2))) <|
      let t23_9 : Int := (IntKind.wrap .u64 (x_1.1 * 2 ^ (min (IntKind.wrap .u64 n_2).toNat 64)))
      let t27_10 : Int := (IntKind.wrap .i64 ((64 : Int) - n_2))
      let t28_11 : Int := (IntKind.wrap .u64 t27_10)
      chk none (decide ((0 : Int) ≤ t28_11)) <|
      let t29_12 : Int := (x_1.2.fdiv (2 ^ (min t28_11.toNat 64)))
      let t30_13 : Int := (bits .u64 .or t23_9 t29_12)
      chk none (decide ((0 : Int) ≤ (IntKind.wrap .u64 n_2))) <|
      let t35_14 : Int := (IntKind.wrap .u64 (x_1.2 * 2 ^ (min (IntKind.wrap .u64 n_2).toNat 64)))
      let w_15 : (Int × Int) := (t30_13, t35_14)
      some w_15))
noncomputable def con_F_wide_U_Shl : Con := { f := 53, ps := [.dat (.agg (.pair (.int .u64) (.int .u64))), .dat (.int .i64)], boxes := [], ins := (.pair (.agg (.pair (.int .u64) (.int .u64))) (.int .i64)), nin := 2, outs := (.agg (.pair (.int .u64) (.int .u64))), rs := [.dat (.agg (.pair (.int .u64) (.int .u64)))], nout := 1, F := fun x => F_wide_U_Shl x.1 x.2 }
def hint_F_wide_U_Shl : Hint := H0
theorem run_F_wide_U_Shl : runE ⟨tdGet tys, [], []⟩ con_F_wide_U_Shl Tryd.f53 hint_F_wide_U_Shl = con_F_wide_U_Shl.F := by
  funext x
  kernel_rfl
theorem ok_F_wide_U_Shl : ConOK Tryd.prog con_F_wide_U_Shl :=
  con_of_run (Γ := ⟨tdGet tys, [], []⟩) ⟨fun T d h => tysB_ok tys tys_ok T d h, by simp [], by simp []⟩ (by kernel_rfl) Tryd.func53 rfl (by kernel_rfl) run_F_wide_U_Shl
/-- (odograph/wide.U).Shr -/
noncomputable def F_wide_U_Shr (x_1 : (Int × Int)) (n_2 : Int) : Option (Int × Int) :=
  let t7_3 : Bool := (decide (n_2 ≤ (0 : Int)))
  (bif t7_3 then
    some x_1
  else
    let t11_4 : Bool := (decide ((64 : Int) ≤ n_2))
    (bif t11_4 then
      let t15_5 : Int := (IntKind.wrap .i64 (n_2 - (64 : Int)))
      let t16_6 : Int := (IntKind.wrap .u64 t15_5)
      chk none (decide ((0 : Int) ≤ t16_6)) <|
      let t17_7 : Int := (x_1.1.fdiv (2 ^ (min t16_6.toNat 64)))
      let w_8 : (Int × Int) := ((0 : Int), t17_7)
      some w_8
    else
      chk none (decide ((0 : Int) ≤ (IntKind.wrap .u64 n_2))) <|
      let t23_9 : Int := (x_1.1.fdiv (2 ^ (min (IntKind.wrap .u64 n_2).toNat 64)))
      chk none (decide ((0 : Int) ≤ (IntKind.wrap .u64 n_2))) <|
      let t28_10 : Int := (x_1.2.fdiv (2 ^ (min (IntKind.wrap .u64 n_2).toNat 64)))
      let t32_11 : Int := (IntKind.wrap .i64 ((64 : Int) - n_2))
      let t33_12 : Int := (IntKind.wrap .u64 t32_11)
      chk none (decide ((0 : Int) ≤ t33_12)) <|
      let t34_13 : Int := (IntKind.wrap .u64 (x_1.1 * 2 ^ (min t33_12.toNat 64)))
      let t35_14 : Int := (bits .u64 .or t28_10 t34_13)
      let w_15 : (Int × Int) := (t23_9, t35_14)
      some w_15))
noncomputable def con_F_wide_U_Shr : Con := { f := 54, ps := [.dat (.agg (.pair (.int .u64) (.int .u64))), .dat (.int .i64)], boxes := [], ins := (.pair (.agg (.pair (.int .u64) (.int .u64))) (.int .i64)), nin := 2, outs := (.agg (.pair (.int .u64) (.int .u64))), rs := [.dat (.agg (.pair (.int .u64) (.int .u64)))], nout := 1, F := fun x => F_wide_U_Shr x.1 x.2 }
def hint_F_wide_U_Shr : Hint := H0
theorem run_F_wide_U_Shr : runE ⟨tdGet tys, [], []⟩ con_F_wide_U_Shr Tryd.f54 hint_F_wide_U_Shr = con_F_wide_U_Shr.F := by
  funext x
  kernel_rfl
theorem ok_F_wide_U_Shr : ConOK Tryd.prog con_F_wide_U_Shr :=
  con_of_run (Γ := ⟨tdGet tys, [], []⟩) ⟨fun T d h => tysB_ok tys tys_ok T d h, by simp [], by simp []⟩ (by kernel_rfl) Tryd.func54 rfl (by kernel_rfl) run_F_wide_U_Shr
/-- (odograph/wide.U).Cmp -/
noncomputable def F_wide_U_Cmp (x_1 : (Int × Int)) (y_2 : (Int × Int)) : Option Int :=
  let t8_3 : Bool := (eqT (.agg (.pair (.int .u64) (.int .u64))) x_1 y_2)
  (bif t8_3 then
    some (0 : Int)
  else
    let t27_4 : Bool := (bif (x_1.1 == y_2.1) then (decide (x_1.2 < y_2.2)) else false)
    let t28_5 : Bool := (bif (decide (x_1.1 < y_2.1)) then true else t27_4)
    (bif t28_5 then
      some (-1 : Int)
    else
      some (1 : Int)))
noncomputable def con_F_wide_U_Cmp : Con := { f := 55, ps := [.dat (.agg (.pair (.int .u64) (.int .u64))), .dat (.agg (.pair (.int .u64) (.int .u64)))], boxes := [], ins := (.pair (.agg (.pair (.int .u64) (.int .u64))) (.agg (.pair (.int .u64) (.int .u64)))), nin := 2, outs := (.int .i64), rs := [.dat (.int .i64)], nout := 1, F := fun x => F_wide_U_Cmp x.1 x.2 }
def hint_F_wide_U_Cmp : Hint := H0
theorem run_F_wide_U_Cmp : runE ⟨tdGet tys, [], []⟩ con_F_wide_U_Cmp Tryd.f55 hint_F_wide_U_Cmp = con_F_wide_U_Cmp.F := by
  funext x
  kernel_rfl
theorem ok_F_wide_U_Cmp : ConOK Tryd.prog con_F_wide_U_Cmp :=
  con_of_run (Γ := ⟨tdGet tys, [], []⟩) ⟨fun T d h => tysB_ok tys tys_ok T d h, by simp [], by simp []⟩ (by kernel_rfl) Tryd.func55 rfl (by kernel_rfl) run_F_wide_U_Cmp
/-- (odograph/wide.U).Sub -/
noncomputable def F_wide_U_Sub (x_1 : (Int × Int)) (y_2 : (Int × Int)) : Option ((Int × Int) × Bool) :=
  let t11_3 : Int := (IntKind.wrap .u64 (x_1.1 - y_2.1))
  let t16_4 : Int := (IntKind.wrap .u64 (x_1.2 - y_2.2))
  let w_5 : (Int × Int) := (t11_3, t16_4)
  Option.bind (
    (bif (decide (x_1.2 < y_2.2)) then
      let t25_6 : Int := (IntKind.wrap .u64 (w_5.1 - (1 : Int)))
      some t25_6
    else
      some w_5.1)) fun r_7 =>
  (F_wide_U_Cmp x_1 y_2).bind fun t30_8 =>
  let t31_9 : Bool := (decide (t30_8 < (0 : Int)))
  let w_10 : (Int × Int) := (r_7, w_5.2)
  some (w_10, t31_9)
noncomputable def con_F_wide_U_Sub : Con := { f := 56, ps := [.dat (.agg (.pair (.int .u64) (.int .u64))), .dat (.agg (.pair (.int .u64) (.int .u64)))], boxes := [], ins := (.pair (.agg (.pair (.int .u64) (.int .u64))) (.agg (.pair (.int .u64) (.int .u64)))), nin := 2, outs := (.pair (.agg (.pair (.int .u64) (.int .u64))) .bool), rs := [.dat (.agg (.pair (.int .u64) (.int .u64))), .dat .bool], nout := 2, F := fun x => F_wide_U_Sub x.1 x.2 }
def hint_F_wide_U_Sub : Hint := (.mk .plain [H0, (.mk .plain [H0, (.mk .plain [(.mk .plain [H0, (.mk (.join [(0, 23), (0, 25), (0, 26), (0, 24)] [(.normal, [⟨.cell 3 0, (.int .u64), none⟩])]) [])])])])])
theorem run_F_wide_U_Sub : runE ⟨tdGet tys, [con_F_wide_U_Cmp], []⟩ con_F_wide_U_Sub Tryd.f56 hint_F_wide_U_Sub = con_F_wide_U_Sub.F := by
  funext x
  kernel_rfl
theorem ok_F_wide_U_Sub : ConOK Tryd.prog con_F_wide_U_Sub :=
  con_of_run (Γ := ⟨tdGet tys, [con_F_wide_U_Cmp], []⟩) ⟨fun T d h => tysB_ok tys tys_ok T d h, by simp [ok_F_wide_U_Cmp], by simp []⟩ (by kernel_rfl) Tryd.func56 rfl (by kernel_rfl) run_F_wide_U_Sub
/-- (odograph/wide.U).Div -/
noncomputable def F_wide_U_Div (x_1 : (Int × Int)) (d_2 : Int) : Option ((Int × Int) × (Int × Int)) :=
  (bif (d_2 == (0 : Int)) then
    let w_3 : (Int × Int) := ((0 : Int), (0 : Int))
    some (w_3, (0 : Int), (21 : Int))
  else
    let w_4 : (Int × Int) := ((0 : Int), (0 : Int))
    Option.bind (
      loopO (X := (Int × (Int × (Int × Int)))) (fun (s_5 : (Int × (Int × (Int × (Int × Int))))) =>
        let b3_6 : Int := s_5.1
        let b2_7 : Int := s_5.2.1
        let b2_8 : Int := s_5.2.2.1
        let b3_9 : Int := s_5.2.2.2.1
        let i_10 : Int := s_5.2.2.2.2
        let t15_11 : Bool := (decide ((0 : Int) ≤ i_10))
        (bif t15_11 then
          (F_wide_U_Shl (b3_6, b3_9) (1 : Int)).bind fun t19_12 =>
          (F_wide_U_Shr x_1 i_10).bind fun t24_13 =>
          let t26_14 : Int := (bits .u64 .and t24_13.2 (1 : Int))
          let t27_15 : Int := (bits .u64 .or t19_12.2 t26_14)
          (F_wide_U_Shl (b2_8, b2_7) (1 : Int)).bind fun t30_16 =>
          (F_wide_U_Cmp (t19_12.1, t27_15) ((0 : Int), d_2)).bind fun t34_17 =>
          let t35_18 : Bool := (decide ((0 : Int) ≤ t34_17))
          Option.bind (
            (bif t35_18 then
              (F_wide_U_Sub (t19_12.1, t27_15) ((0 : Int), d_2)).bind fun t40_19 =>
              let t45_20 : Int := (bits .u64 .or t30_16.2 (1 : Int))
              some (t40_19.1.1, t45_20, t40_19.1.2)
            else
              some (t19_12.1, t30_16.2, t27_15))) fun r_21 =>
          let b3_22 : Int := r_21.1
          let b2_23 : Int := r_21.2.1
          let b3_24 : Int := r_21.2.2
          let t17_25 : Int := (IntKind.wrap .i64 (i_10 - (1 : Int)))
          some (.inl (b3_22, b2_23, t30_16.1, b3_24, t17_25))
        else
          some (.inr (b3_6, b2_7, b2_8, b3_9)))) (w_4.1, (0 : Int), (0 : Int), w_4.2, (127 : Int))) fun r_26 =>
    let b3_27 : Int := r_26.1
    let b2_28 : Int := r_26.2.1
    let b2_29 : Int := r_26.2.2.1
    let b3_30 : Int := r_26.2.2.2
    let w_31 : (Int × Int) := (b2_29, b2_28)
    some (w_31, b3_30, (0 : Int)))
noncomputable def con_F_wide_U_Div : Con := { f := 50, ps := [.dat (.agg (.pair (.int .u64) (.int .u64))), .dat (.int .u64)], boxes := [], ins := (.pair (.agg (.pair (.int .u64) (.int .u64))) (.int .u64)), nin := 2, outs := (.pair (.agg (.pair (.int .u64) (.int .u64))) (.pair (.int .u64) (.int .i64))), rs := [.dat (.agg (.pair (.int .u64) (.int .u64))), .dat (.int .u64), .dat (.int .i64)], nout := 3, F := fun x => F_wide_U_Div x.1 x.2 }
def hint_F_wide_U_Div : Hint := (.mk .plain [H0, (.mk .plain [H0, (.mk .plain [H0, (.mk .plain [H0, (.mk .plain [(.mk .plain [H0, (.mk .plain [(.mk (.loop [⟨.cell 3 0, (.int .u64), none⟩, ⟨.cell 2 1, (.int .u64), none⟩, ⟨.cell 2 0, (.int .u64), none⟩, ⟨.cell 3 1, (.int .u64), none⟩, ⟨.slot 9, (.int .i64), none⟩] [(0, 30), (0, 36), (0, 42), (0, 39), (0, 45), (0, 14), (0, 17), (0, 23), (0, 20), (0, 26), (0, 29), (0, 35), (0, 32), (0, 38), (0, 41), (0, 44), (0, 16), (0, 19), (0, 22), (0, 28), (0, 25), (0, 31), (0, 34), (0, 40), (0, 37), (0, 43), (0, 46), (0, 15), (0, 21), (0, 18), (0, 24), (0, 27), (0, 33)] [(.exit 0, [⟨.cell 3 0, (.int .u64), none⟩, ⟨.cell 2 1, (.int .u64), none⟩, ⟨.cell 2 0, (.int .u64), none⟩, ⟨.cell 3 1, (.int .u64), none⟩])]) [(.mk .plain [H0, (.mk .plain [(.mk .plain [(.mk .plain [H0, (.mk .plain [H0, (.mk .plain [H0, (.mk .plain [H0, (.mk (.join [(0, 46), (0, 36), (0, 42), (0, 43), (0, 39), (0, 45), (0, 38), (0, 41), (0, 44), (0, 40), (0, 37)] [(.normal, [⟨.cell 3 0, (.int .u64), none⟩, ⟨.cell 2 1, (.int .u64), none⟩, ⟨.cell 3 1, (.int .u64), none⟩])]) [])])])])])])])])])])])])])])])])
theorem run_F_wide_U_Div : runE ⟨tdGet tys, [con_F_wide_U_Shl, con_F_wide_U_Shr, con_F_wide_U_Cmp, con_F_wide_U_Sub], []⟩ con_F_wide_U_Div Tryd.f50 hint_F_wide_U_Div = con_F_wide_U_Div.F := by
  funext x
  kernel_rfl
theorem ok_F_wide_U_Div : ConOK Tryd.prog con_F_wide_U_Div :=
  con_of_run (Γ := ⟨tdGet tys, [con_F_wide_U_Shl, con_F_wide_U_Shr, con_F_wide_U_Cmp, con_F_wide_U_Sub], []⟩) ⟨fun T d h => tysB_ok tys tys_ok T d h, by simp [ok_F_wide_U_Shl, ok_F_wide_U_Shr, ok_F_wide_U_Cmp, ok_F_wide_U_Sub], by simp []⟩ (by kernel_rfl) Tryd.func50 rfl (by kernel_rfl) run_F_wide_U_Div
/-- (odograph/wide.U).Add -/
noncomputable def F_wide_U_Add (x_1 : (Int × Int)) (y_2 : (Int × Int)) : Option ((Int × Int) × Bool) :=
  let t12_3 : Int := (IntKind.wrap .u64 (x_1.2 + y_2.2))
  let w_4 : (Int × Int) := ((0 : Int), t12_3)
  let t18_5 : Int := (IntKind.wrap .u64 (x_1.1 + y_2.1))
  Option.bind (
    (bif (decide (w_4.2 < x_1.2)) then
      let t32_6 : Int := (IntKind.wrap .u64 (t18_5 + (1 : Int)))
      let t39_7 : Bool := (bif (decide (t18_5 < x_1.1)) then true else (t32_6 == (0 : Int)))
      some (t32_6, t39_7)
    else
      some (t18_5, (decide (t18_5 < x_1.1))))) fun r_8 =>
  let b3_9 : Int := r_8.1
  let over_10 : Bool := r_8.2
  let w_11 : (Int × Int) := (b3_9, w_4.2)
  some (w_11, over_10)
noncomputable def con_F_wide_U_Add : Con := { f := 51, ps := [.dat (.agg (.pair (.int .u64) (.int .u64))), .dat (.agg (.pair (.int .u64) (.int .u64)))], boxes := [], ins := (.pair (.agg (.pair (.int .u64) (.int .u64))) (.agg (.pair (.int .u64) (.int .u64)))), nin := 2, outs := (.pair (.agg (.pair (.int .u64) (.int .u64))) .bool), rs := [.dat (.agg (.pair (.int .u64) (.int .u64))), .dat .bool], nout := 2, F := fun x => F_wide_U_Add x.1 x.2 }
def hint_F_wide_U_Add : Hint := (.mk .plain [H0, (.mk .plain [H0, (.mk .plain [H0, (.mk .plain [H0, (.mk .plain [(.mk .plain [H0, (.mk (.join [(0, 30), (0, 36), (0, 39), (0, 35), (0, 32), (0, 38), (0, 31), (0, 34), (0, 37), (0, 33)] [(.normal, [⟨.cell 3 0, (.int .u64), none⟩, ⟨.slot 7, .bool, none⟩])]) [])])])])])])])
theorem run_F_wide_U_Add : runE ⟨tdGet tys, [], []⟩ con_F_wide_U_Add Tryd.f51 hint_F_wide_U_Add = con_F_wide_U_Add.F := by
  funext x
  kernel_rfl
theorem ok_F_wide_U_Add : ConOK Tryd.prog con_F_wide_U_Add :=
  con_of_run (Γ := ⟨tdGet tys, [], []⟩) ⟨fun T d h => tysB_ok tys tys_ok T d h, by simp [], by simp []⟩ (by kernel_rfl) Tryd.func51 rfl (by kernel_rfl) run_F_wide_U_Add
/-- odograph/ratio.signed -/
noncomputable def F_ratio_signed (x_1 : (Int × Int)) (below_2 : Bool) : Option (Int × Int) :=
  let t7_3 : (Int × Int) := ((0 : Int), (9223372036854775807 : Int))
  Option.bind (
    (bif below_2 then
      let t11_4 : Int := (IntKind.wrap .u64 (t7_3.2 + (1 : Int)))
      some t11_4
    else
      some t7_3.2)) fun r_5 =>
  (F_wide_U_Cmp x_1 (t7_3.1, r_5)).bind fun t15_6 =>
  let t16_7 : Bool := (decide ((0 : Int) < t15_6))
  (bif t16_7 then
    some ((0 : Int), (20 : Int))
  else
    (bif below_2 then
      let t20_8 : Int := (IntKind.wrap .u64 (0 - x_1.2))
      let t21_9 : Int := (IntKind.wrap .i64 t20_8)
      some (t21_9, (0 : Int))
    else
      let t24_10 : Int := (IntKind.wrap .i64 x_1.2)
      some (t24_10, (0 : Int))))
noncomputable def con_F_ratio_signed : Con := { f := 52, ps := [.dat (.agg (.pair (.int .u64) (.int .u64))), .dat .bool], boxes := [], ins := (.pair (.agg (.pair (.int .u64) (.int .u64))) .bool), nin := 2, outs := (.pair (.int .i64) (.int .i64)), rs := [.dat (.int .i64), .dat (.int .i64)], nout := 2, F := fun x => F_ratio_signed x.1 x.2 }
def hint_F_ratio_signed : Hint := (.mk .plain [H0, (.mk .plain [H0, (.mk .plain [(.mk .plain [H0, (.mk (.join [(0, 12), (0, 10), (0, 9), (0, 11)] [(.normal, [⟨.cell 1 1, (.int .u64), none⟩])]) [])])])])])
theorem run_F_ratio_signed : runE ⟨tdGet tys, [con_F_wide_U_Cmp], []⟩ con_F_ratio_signed Tryd.f52 hint_F_ratio_signed = con_F_ratio_signed.F := by
  funext x
  kernel_rfl
theorem ok_F_ratio_signed : ConOK Tryd.prog con_F_ratio_signed :=
  con_of_run (Γ := ⟨tdGet tys, [con_F_wide_U_Cmp], []⟩) ⟨fun T d h => tysB_ok tys tys_ok T d h, by simp [ok_F_wide_U_Cmp], by simp []⟩ (by kernel_rfl) Tryd.func52 rfl (by kernel_rfl) run_F_ratio_signed
/-- odograph/ratio.divide -/
noncomputable def F_ratio_divide (a_1 : Int) (b_2 : Int) (c_3 : Int) (up_4 : Bool) : Option (Int × Int) :=
  (bif (c_3 == (0 : Int)) then
    some ((0 : Int), (21 : Int))
  else
    let t17_5 : Bool := (decide (a_1 < (0 : Int)))
    let t19_6 : Bool := (decide (b_2 < (0 : Int)))
    let t22_7 : Bool := (decide (c_3 < (0 : Int)))
    let t23_8 : Bool := (!((!(t17_5 == t19_6)) == t22_7))
    (F_num_Size a_1).bind fun t26_9 =>
    (F_num_Size b_2).bind fun t28_10 =>
    (F_wide_Mul t26_9 t28_10).bind fun t29_11 =>
    (F_num_Size c_3).bind fun t31_12 =>
    (F_wide_U_Div t29_11 t31_12).bind fun t32_13 =>
    let t37_14 : Bool := (decide ((0 : Int) < t32_13.2.1))
    let t42_15 : Bool := (bif t37_14 then (!(up_4 == t23_8)) else false)
    Option.bind (
      (bif t42_15 then
        (F_wide_U_Add t32_13.1 ((0 : Int), (1 : Int))).bind fun t46_16 =>
        some (t46_16.1.2, t46_16.1.1)
      else
        some (t32_13.1.2, t32_13.1.1))) fun r_17 =>
    let b0_18 : Int := r_17.1
    let b0_19 : Int := r_17.2
    (F_ratio_signed (b0_19, b0_18) t23_8).bind fun t51_20 =>
    some (t51_20.1, t51_20.2))
noncomputable def con_F_ratio_divide : Con := { f := 46, ps := [.dat (.int .i64), .dat (.int .i64), .dat (.int .i64), .dat .bool], boxes := [], ins := (.pair (.int .i64) (.pair (.int .i64) (.pair (.int .i64) .bool))), nin := 4, outs := (.pair (.int .i64) (.int .i64)), rs := [.dat (.int .i64), .dat (.int .i64)], nout := 2, F := fun x => F_ratio_divide x.1 x.2.1 x.2.2.1 x.2.2.2 }
def hint_F_ratio_divide : Hint := (.mk .plain [H0, (.mk .plain [H0, (.mk .plain [H0, (.mk .plain [H0, (.mk .plain [(.mk .plain [H0, (.mk (.join [(0, 46), (0, 45), (0, 48), (0, 47), (0, 44), (0, 43)] [(.normal, [⟨.cell 0 1, (.int .u64), none⟩, ⟨.cell 0 0, (.int .u64), none⟩])]) [])])])])])])])
theorem run_F_ratio_divide : runE ⟨tdGet tys, [con_F_num_Size, con_F_wide_Mul, con_F_wide_U_Div, con_F_wide_U_Add, con_F_ratio_signed], []⟩ con_F_ratio_divide Tryd.f46 hint_F_ratio_divide = con_F_ratio_divide.F := by
  funext x
  kernel_rfl
theorem ok_F_ratio_divide : ConOK Tryd.prog con_F_ratio_divide :=
  con_of_run (Γ := ⟨tdGet tys, [con_F_num_Size, con_F_wide_Mul, con_F_wide_U_Div, con_F_wide_U_Add, con_F_ratio_signed], []⟩) ⟨fun T d h => tysB_ok tys tys_ok T d h, by simp [ok_F_num_Size, ok_F_wide_Mul, ok_F_wide_U_Div, ok_F_wide_U_Add, ok_F_ratio_signed], by simp []⟩ (by kernel_rfl) Tryd.func46 rfl (by kernel_rfl) run_F_ratio_divide
/-- odograph/ratio.Floor -/
noncomputable def F_ratio_Floor (a_1 : Int) (b_2 : Int) (c_3 : Int) : Option (Int × Int) :=
  (F_ratio_divide a_1 b_2 c_3 false).bind fun t11_4 =>
  some (t11_4.1, t11_4.2)
noncomputable def con_F_ratio_Floor : Con := { f := 42, ps := [.dat (.int .i64), .dat (.int .i64), .dat (.int .i64)], boxes := [], ins := (.pair (.int .i64) (.pair (.int .i64) (.int .i64))), nin := 3, outs := (.pair (.int .i64) (.int .i64)), rs := [.dat (.int .i64), .dat (.int .i64)], nout := 2, F := fun x => F_ratio_Floor x.1 x.2.1 x.2.2 }
def hint_F_ratio_Floor : Hint := H0
theorem run_F_ratio_Floor : runE ⟨tdGet tys, [con_F_ratio_divide], []⟩ con_F_ratio_Floor Tryd.f42 hint_F_ratio_Floor = con_F_ratio_Floor.F := by
  funext x
  kernel_rfl
theorem ok_F_ratio_Floor : ConOK Tryd.prog con_F_ratio_Floor :=
  con_of_run (Γ := ⟨tdGet tys, [con_F_ratio_divide], []⟩) ⟨fun T d h => tysB_ok tys tys_ok T d h, by simp [ok_F_ratio_divide], by simp []⟩ (by kernel_rfl) Tryd.func42 rfl (by kernel_rfl) run_F_ratio_Floor
/-- odograph/packet.floor -/
noncomputable def F_packet_floor (x_1 : Int) : Option Int :=
  (F_ratio_Floor x_1 (1 : Int) (1000 : Int)).bind fun t7_2 =>
  some t7_2.1
noncomputable def con_F_packet_floor : Con := { f := 19, ps := [.dat (.int .i64)], boxes := [], ins := (.int .i64), nin := 1, outs := (.int .i64), rs := [.dat (.int .i64)], nout := 1, F := fun x => F_packet_floor x }
def hint_F_packet_floor : Hint := H0
theorem run_F_packet_floor : runE ⟨tdGet tys, [con_F_ratio_Floor], []⟩ con_F_packet_floor Tryd.f19 hint_F_packet_floor = con_F_packet_floor.F := by
  funext x
  kernel_rfl
theorem ok_F_packet_floor : ConOK Tryd.prog con_F_packet_floor :=
  con_of_run (Γ := ⟨tdGet tys, [con_F_ratio_Floor], []⟩) ⟨fun T d h => tysB_ok tys tys_ok T d h, by simp [ok_F_ratio_Floor], by simp []⟩ (by kernel_rfl) Tryd.func19 rfl (by kernel_rfl) run_F_packet_floor
/-- odograph/ratio.Ceil -/
noncomputable def F_ratio_Ceil (a_1 : Int) (b_2 : Int) (c_3 : Int) : Option (Int × Int) :=
  (F_ratio_divide a_1 b_2 c_3 true).bind fun t11_4 =>
  some (t11_4.1, t11_4.2)
noncomputable def con_F_ratio_Ceil : Con := { f := 43, ps := [.dat (.int .i64), .dat (.int .i64), .dat (.int .i64)], boxes := [], ins := (.pair (.int .i64) (.pair (.int .i64) (.int .i64))), nin := 3, outs := (.pair (.int .i64) (.int .i64)), rs := [.dat (.int .i64), .dat (.int .i64)], nout := 2, F := fun x => F_ratio_Ceil x.1 x.2.1 x.2.2 }
def hint_F_ratio_Ceil : Hint := H0
theorem run_F_ratio_Ceil : runE ⟨tdGet tys, [con_F_ratio_divide], []⟩ con_F_ratio_Ceil Tryd.f43 hint_F_ratio_Ceil = con_F_ratio_Ceil.F := by
  funext x
  kernel_rfl
theorem ok_F_ratio_Ceil : ConOK Tryd.prog con_F_ratio_Ceil :=
  con_of_run (Γ := ⟨tdGet tys, [con_F_ratio_divide], []⟩) ⟨fun T d h => tysB_ok tys tys_ok T d h, by simp [ok_F_ratio_divide], by simp []⟩ (by kernel_rfl) Tryd.func43 rfl (by kernel_rfl) run_F_ratio_Ceil
/-- odograph/packet.ceil -/
noncomputable def F_packet_ceil (x_1 : Int) : Option Int :=
  (F_ratio_Ceil x_1 (1 : Int) (1000 : Int)).bind fun t7_2 =>
  some t7_2.1
noncomputable def con_F_packet_ceil : Con := { f := 20, ps := [.dat (.int .i64)], boxes := [], ins := (.int .i64), nin := 1, outs := (.int .i64), rs := [.dat (.int .i64)], nout := 1, F := fun x => F_packet_ceil x }
def hint_F_packet_ceil : Hint := H0
theorem run_F_packet_ceil : runE ⟨tdGet tys, [con_F_ratio_Ceil], []⟩ con_F_packet_ceil Tryd.f20 hint_F_packet_ceil = con_F_packet_ceil.F := by
  funext x
  kernel_rfl
theorem ok_F_packet_ceil : ConOK Tryd.prog con_F_packet_ceil :=
  con_of_run (Γ := ⟨tdGet tys, [con_F_ratio_Ceil], []⟩) ⟨fun T d h => tysB_ok tys tys_ok T d h, by simp [ok_F_ratio_Ceil], by simp []⟩ (by kernel_rfl) Tryd.func20 rfl (by kernel_rfl) run_F_packet_ceil
/-- (odograph/packet.Packet).numbers -/
noncomputable def F_packet_Packet_numbers (p_1 : (Int × (Int × (Int × (Int × (Int × (Int × (Int × (Int × (Bool × (Bool × (Bool × (Bool × (Bool × (Bool × Bool))))))))))))))) : Option (Int × (Int × (Int × (Int × (Int × (Int × (Int × Int))))))) :=
  let t19_2 : (Int × (Int × (Int × (Int × (Int × (Int × (Int × Int))))))) := (p_1.1, (p_1.2.1, (p_1.2.2.1, (p_1.2.2.2.1, (p_1.2.2.2.2.1, (p_1.2.2.2.2.2.1, (p_1.2.2.2.2.2.2.1, p_1.2.2.2.2.2.2.2.1)))))))
  some t19_2
noncomputable def con_F_packet_Packet_numbers : Con := { f := 24, ps := [.dat (.agg (.pair (.int .i64) (.pair (.int .i64) (.pair (.int .i64) (.pair (.int .i64) (.pair (.int .i64) (.pair (.int .i64) (.pair (.int .i64) (.pair (.int .i64) (.agg (.pair .bool (.pair .bool (.pair .bool (.pair .bool (.pair .bool (.pair .bool .bool))))))))))))))))], boxes := [], ins := (.agg (.pair (.int .i64) (.pair (.int .i64) (.pair (.int .i64) (.pair (.int .i64) (.pair (.int .i64) (.pair (.int .i64) (.pair (.int .i64) (.pair (.int .i64) (.agg (.pair .bool (.pair .bool (.pair .bool (.pair .bool (.pair .bool (.pair .bool .bool)))))))))))))))), nin := 1, outs := (.agg (.pair (.int .i64) (.pair (.int .i64) (.pair (.int .i64) (.pair (.int .i64) (.pair (.int .i64) (.pair (.int .i64) (.pair (.int .i64) (.int .i64))))))))), rs := [.dat (.agg (.pair (.int .i64) (.pair (.int .i64) (.pair (.int .i64) (.pair (.int .i64) (.pair (.int .i64) (.pair (.int .i64) (.pair (.int .i64) (.int .i64)))))))))], nout := 1, F := fun x => F_packet_Packet_numbers x }
def hint_F_packet_Packet_numbers : Hint := H0
theorem run_F_packet_Packet_numbers : runE ⟨tdGet tys, [], []⟩ con_F_packet_Packet_numbers Tryd.f24 hint_F_packet_Packet_numbers = con_F_packet_Packet_numbers.F := by
  funext x
  kernel_rfl
theorem ok_F_packet_Packet_numbers : ConOK Tryd.prog con_F_packet_Packet_numbers :=
  con_of_run (Γ := ⟨tdGet tys, [], []⟩) ⟨fun T d h => tysB_ok tys tys_ok T d h, by simp [], by simp []⟩ (by kernel_rfl) Tryd.func24 rfl (by kernel_rfl) run_F_packet_Packet_numbers
/-- odograph/packet.signed -/
noncomputable def F_packet_signed (i_1 : Int) : Option Bool :=
  let t4_2 : Bool := (decide ((2 : Int) < i_1))
  some t4_2
noncomputable def con_F_packet_signed : Con := { f := 32, ps := [.dat (.int .i64)], boxes := [], ins := (.int .i64), nin := 1, outs := .bool, rs := [.dat .bool], nout := 1, F := fun x => F_packet_signed x }
def hint_F_packet_signed : Hint := H0
theorem run_F_packet_signed : runE ⟨tdGet tys, [], []⟩ con_F_packet_signed Tryd.f32 hint_F_packet_signed = con_F_packet_signed.F := by
  funext x
  kernel_rfl
theorem ok_F_packet_signed : ConOK Tryd.prog con_F_packet_signed :=
  con_of_run (Γ := ⟨tdGet tys, [], []⟩) ⟨fun T d h => tysB_ok tys tys_ok T d h, by simp [], by simp []⟩ (by kernel_rfl) Tryd.func32 rfl (by kernel_rfl) run_F_packet_signed
/-- odograph/packet.fits -/
noncomputable def F_packet_fits (i_1 : Int) (v_2 : Int) : Option Bool :=
  (F_packet_signed i_1).bind fun t7_3 =>
  (bif t7_3 then
    chk none ((decide ((0 : Int) ≤ i_1)) && (decide (i_1 < (8 : Int)))) <|
    let t10_4 : Int := (List.getD [glob_0.1, glob_0.2.1, glob_0.2.2.1, glob_0.2.2.2.1, glob_0.2.2.2.2.1, glob_0.2.2.2.2.2.1, glob_0.2.2.2.2.2.2.1, glob_0.2.2.2.2.2.2.2] i_1.toNat (0 : Int))
    let t11_5 : Int := (IntKind.wrap .i64 (t10_4 - (1 : Int)))
    let t12_6 : Int := (IntKind.wrap .u64 t11_5)
    chk none (decide ((0 : Int) ≤ t12_6)) <|
    let t13_7 : Int := (IntKind.wrap .i64 ((1 : Int) * 2 ^ (min t12_6.toNat 64)))
    let t16_8 : Int := (IntKind.wrap .i64 (0 - t13_7))
    let t22_9 : Bool := (bif (decide (t16_8 ≤ v_2)) then (decide (v_2 < t13_7)) else false)
    some t22_9
  else
    let t24_10 : Bool := (decide ((0 : Int) ≤ v_2))
    chk none (((decide ((0 : Int) ≤ i_1)) && (decide (i_1 < (8 : Int)))) || !t24_10) <|
    let t29_11 : Int := (List.getD [glob_0.1, glob_0.2.1, glob_0.2.2.1, glob_0.2.2.2.1, glob_0.2.2.2.2.1, glob_0.2.2.2.2.2.1, glob_0.2.2.2.2.2.2.1, glob_0.2.2.2.2.2.2.2] i_1.toNat (0 : Int))
    let t30_12 : Int := (IntKind.wrap .u64 t29_11)
    chk none ((decide ((0 : Int) ≤ t30_12)) || !t24_10) <|
    let t31_13 : Int := (IntKind.wrap .i64 ((1 : Int) * 2 ^ (min t30_12.toNat 64)))
    let t33_14 : Bool := (bif t24_10 then (decide (v_2 < t31_13)) else false)
    some t33_14)
noncomputable def con_F_packet_fits : Con := { f := 25, ps := [.dat (.int .i64), .dat (.int .i64)], boxes := [], ins := (.pair (.int .i64) (.int .i64)), nin := 2, outs := .bool, rs := [.dat .bool], nout := 1, F := fun x => F_packet_fits x.1 x.2 }
def hint_F_packet_fits : Hint := H0
theorem run_F_packet_fits : runE ⟨tdGet tys, [con_F_packet_signed], []⟩ con_F_packet_fits Tryd.f25 hint_F_packet_fits = con_F_packet_fits.F := by
  funext x
  kernel_rfl
theorem ok_F_packet_fits : ConOK Tryd.prog con_F_packet_fits :=
  con_of_run (Γ := ⟨tdGet tys, [con_F_packet_signed], []⟩) ⟨fun T d h => tysB_ok tys tys_ok T d h, by simp [ok_F_packet_signed], by simp []⟩ (by kernel_rfl) Tryd.func25 rfl (by kernel_rfl) run_F_packet_fits
/-- (odograph/packet.Packet).Right -/
noncomputable def F_packet_Packet_Right (p_1 : (Int × (Int × (Int × (Int × (Int × (Int × (Int × (Int × (Bool × (Bool × (Bool × (Bool × (Bool × (Bool × Bool))))))))))))))) : Option Bool :=
  (F_packet_Packet_numbers p_1).bind fun t6_2 =>
  Option.bind (α := Bool ⊕ Unit) (
    loopO (X := Bool ⊕ Unit) (fun (s_3 : Int) =>
      let t8_4 : Bool := (decide (s_3 < (8 : Int)))
      (bif t8_4 then
        chk none ((decide ((0 : Int) ≤ s_3)) && (decide (s_3 < (8 : Int)))) <|
        let t10_5 : Int := (List.getD [t6_2.1, t6_2.2.1, t6_2.2.2.1, t6_2.2.2.2.1, t6_2.2.2.2.2.1, t6_2.2.2.2.2.2.1, t6_2.2.2.2.2.2.2.1, t6_2.2.2.2.2.2.2.2] s_3.toNat (0 : Int))
        (F_packet_fits s_3 t10_5).bind fun t13_6 =>
        (bif (!t13_6) then
          some (.inr (.inl false))
        else
          let t15_7 : Int := (IntKind.wrap .i64 (s_3 + (1 : Int)))
          some (.inl t15_7))
      else
        some (.inr (.inr ())))) (0 : Int)) fun z => match z with
  | .inl r_8 =>
    some r_8
  | .inr _ =>
    let t18_9 : Bool := (decide ((1 : Int) ≤ p_1.2.1))
    let t22_10 : Bool := (decide (p_1.2.1 ≤ (4 : Int)))
    let t23_11 : Bool := (bif t18_9 then t22_10 else false)
    let t29_12 : Bool := (decide (p_1.2.2.2.1 ≤ p_1.2.2.2.2.2.1))
    let t30_13 : Bool := (bif t23_11 then t29_12 else false)
    let t36_14 : Bool := (decide (p_1.2.2.2.2.2.1 ≤ p_1.2.2.2.2.1))
    let t37_15 : Bool := (bif t30_13 then t36_14 else false)
    let t43_16 : Bool := (decide (p_1.2.2.2.2.2.2.1 ≤ p_1.2.2.2.2.2.2.2.1))
    let t44_17 : Bool := (bif t37_15 then t43_16 else false)
    let t52_18 : Bool := (p_1.2.2.2.1 == (0 : Int))
    let t56_19 : Bool := (p_1.2.2.2.2.1 == (0 : Int))
    let t57_20 : Bool := (bif t52_18 then t56_19 else false)
    let t58_21 : Bool := (bif (p_1.2.2.1 != (0 : Int)) then true else t57_20)
    let t59_22 : Bool := (bif t44_17 then t58_21 else false)
    some t59_22
noncomputable def con_F_packet_Packet_Right : Con := { f := 12, ps := [.dat (.agg (.pair (.int .i64) (.pair (.int .i64) (.pair (.int .i64) (.pair (.int .i64) (.pair (.int .i64) (.pair (.int .i64) (.pair (.int .i64) (.pair (.int .i64) (.agg (.pair .bool (.pair .bool (.pair .bool (.pair .bool (.pair .bool (.pair .bool .bool))))))))))))))))], boxes := [], ins := (.agg (.pair (.int .i64) (.pair (.int .i64) (.pair (.int .i64) (.pair (.int .i64) (.pair (.int .i64) (.pair (.int .i64) (.pair (.int .i64) (.pair (.int .i64) (.agg (.pair .bool (.pair .bool (.pair .bool (.pair .bool (.pair .bool (.pair .bool .bool)))))))))))))))), nin := 1, outs := .bool, rs := [.dat .bool], nout := 1, F := fun x => F_packet_Packet_Right x }
def hint_F_packet_Packet_Right : Hint := (.mk .plain [H0, (.mk .plain [(.mk .plain [H0, (.mk .plain [(.mk (.loop [⟨.slot 7, (.int .i64), none⟩] [(0, 4), (0, 10), (0, 13), (0, 3), (0, 9), (0, 12), (0, 2), (0, 8), (0, 14), (0, 11), (0, 15)] [(.ret, [⟨.slot 2, .bool, none⟩]), (.exit 0, [])]) [])])])])])
theorem run_F_packet_Packet_Right : runE ⟨tdGet tys, [con_F_packet_Packet_numbers, con_F_packet_fits], []⟩ con_F_packet_Packet_Right Tryd.f12 hint_F_packet_Packet_Right = con_F_packet_Packet_Right.F := by
  funext x
  kernel_rfl
theorem ok_F_packet_Packet_Right : ConOK Tryd.prog con_F_packet_Packet_Right :=
  con_of_run (Γ := ⟨tdGet tys, [con_F_packet_Packet_numbers, con_F_packet_fits], []⟩) ⟨fun T d h => tysB_ok tys tys_ok T d h, by simp [ok_F_packet_Packet_numbers, ok_F_packet_fits], by simp []⟩ (by kernel_rfl) Tryd.func12 rfl (by kernel_rfl) run_F_packet_Packet_Right
/-- odograph/packet.Of -/
noncomputable def F_packet_Of (r_1 : (Int × (Int × (Int × ((Int × Int) × (Int × ((Int × Int) × (Int × (Int × ((List (List Int)) × (Int × (Bool × (Bool × ((Int × Int) × (Bool × (Bool × (Bool × (Bool × (Bool × ((Int × Int) × (Int × (((Int × Int) × (Int × Int)) × (Int × (Int × (Int × Int))))))))))))))))))))))))) : Option ((Int × (Int × (Int × (Int × (Int × (Int × (Int × (Int × (Bool × (Bool × (Bool × (Bool × (Bool × (Bool × Bool)))))))))))))) × Bool) :=
  let t7_2 : Int := (bits .i64 .and r_1.1 (65535 : Int))
  (F_packet_floor r_1.2.2.2.1.1).bind fun t15_3 =>
  (F_packet_ceil r_1.2.2.2.1.2).bind fun t19_4 =>
  (F_packet_floor r_1.2.2.2.2.2.1.1).bind fun t23_5 =>
  (F_packet_ceil r_1.2.2.2.2.2.1.2).bind fun t27_6 =>
  let t28_7 : (Int × (Int × (Int × (Int × (Int × (Int × (Int × (Int × (Bool × (Bool × (Bool × (Bool × (Bool × (Bool × Bool)))))))))))))) := (t7_2, (r_1.2.1, (r_1.2.2.1, (t15_3, (t19_4, ((0 : Int), (t23_5, (t27_6, (false, (false, (false, (false, (false, (false, false))))))))))))))
  (F_packet_floor r_1.2.2.2.2.1).bind fun t31_8 =>
  let t34_9 : Int := (if t28_7.2.2.2.1 > t31_8 then t28_7.2.2.2.1 else t31_8)
  let t37_10 : Int := (if t28_7.2.2.2.2.1 < t34_9 then t28_7.2.2.2.2.1 else t34_9)
  let t40_11 : Bool := r_1.2.2.2.2.2.2.2.2.2.2.1
  let t42_12 : Bool := r_1.2.2.2.2.2.2.2.2.2.2.2.1
  let t44_13 : Bool := r_1.2.2.2.2.2.2.2.2.2.2.2.2.2.1
  let t46_14 : Bool := r_1.2.2.2.2.2.2.2.2.2.2.2.2.2.2.1
  let t48_15 : Bool := r_1.2.2.2.2.2.2.2.2.2.2.2.2.2.2.2.1
  let t50_16 : Bool := r_1.2.2.2.2.2.2.2.2.2.2.2.2.2.2.2.2.1
  let t52_17 : Bool := r_1.2.2.2.2.2.2.2.2.2.2.2.2.2.2.2.2.2.1
  let t53_18 : (Bool × (Bool × (Bool × (Bool × (Bool × (Bool × Bool)))))) := (t40_11, (t42_12, (t44_13, (t46_14, (t48_15, (t50_16, t52_17))))))
  let t55_19 : (Int × (Int × (Int × (Int × (Int × (Int × (Int × (Int × (Bool × (Bool × (Bool × (Bool × (Bool × (Bool × Bool)))))))))))))) := (t28_7.1, (t28_7.2.1, (t28_7.2.2.1, (t28_7.2.2.2.1, (t28_7.2.2.2.2.1, (t37_10, (t28_7.2.2.2.2.2.2.1, (t28_7.2.2.2.2.2.2.2.1, t53_18))))))))
  (F_packet_Packet_Right t55_19).bind fun t56_20 =>
  (bif (!t56_20) then
    let t58_21 : (Int × (Int × (Int × (Int × (Int × (Int × (Int × (Int × (Bool × (Bool × (Bool × (Bool × (Bool × (Bool × Bool)))))))))))))) := ((0 : Int), ((0 : Int), ((0 : Int), ((0 : Int), ((0 : Int), ((0 : Int), ((0 : Int), ((0 : Int), (false, (false, (false, (false, (false, (false, false))))))))))))))
    some (t58_21, false)
  else
    let t59_22 : (Int × (Int × (Int × (Int × (Int × (Int × (Int × (Int × (Bool × (Bool × (Bool × (Bool × (Bool × (Bool × Bool)))))))))))))) := (t28_7.1, (t28_7.2.1, (t28_7.2.2.1, (t28_7.2.2.2.1, (t28_7.2.2.2.2.1, (t37_10, (t28_7.2.2.2.2.2.2.1, (t28_7.2.2.2.2.2.2.2.1, t53_18))))))))
    some (t59_22, true))
noncomputable def con_F_packet_Of : Con := { f := 8, ps := [.dat (.agg (.pair (.int .i64) (.pair (.int .i64) (.pair (.int .i64) (.pair (.agg (.pair (.int .i64) (.int .i64))) (.pair (.int .i64) (.pair (.agg (.pair (.int .i64) (.int .i64))) (.pair (.int .i64) (.pair (.int .i64) (.pair (.slice (.slice (.int .i64))) (.pair (.int .i64) (.pair .bool (.pair .bool (.pair (.agg (.pair (.int .i64) (.int .i64))) (.pair .bool (.pair .bool (.pair .bool (.pair .bool (.pair .bool (.pair (.agg (.pair (.int .i64) (.int .i64))) (.pair (.int .i64) (.pair (.agg (.pair (.agg (.pair (.int .i64) (.int .i64))) (.agg (.pair (.int .i64) (.int .i64))))) (.pair (.int .i64) (.pair (.int .i64) (.pair (.int .i64) (.int .i64))))))))))))))))))))))))))], boxes := [], ins := (.agg (.pair (.int .i64) (.pair (.int .i64) (.pair (.int .i64) (.pair (.agg (.pair (.int .i64) (.int .i64))) (.pair (.int .i64) (.pair (.agg (.pair (.int .i64) (.int .i64))) (.pair (.int .i64) (.pair (.int .i64) (.pair (.slice (.slice (.int .i64))) (.pair (.int .i64) (.pair .bool (.pair .bool (.pair (.agg (.pair (.int .i64) (.int .i64))) (.pair .bool (.pair .bool (.pair .bool (.pair .bool (.pair .bool (.pair (.agg (.pair (.int .i64) (.int .i64))) (.pair (.int .i64) (.pair (.agg (.pair (.agg (.pair (.int .i64) (.int .i64))) (.agg (.pair (.int .i64) (.int .i64))))) (.pair (.int .i64) (.pair (.int .i64) (.pair (.int .i64) (.int .i64)))))))))))))))))))))))))), nin := 1, outs := (.pair (.agg (.pair (.int .i64) (.pair (.int .i64) (.pair (.int .i64) (.pair (.int .i64) (.pair (.int .i64) (.pair (.int .i64) (.pair (.int .i64) (.pair (.int .i64) (.agg (.pair .bool (.pair .bool (.pair .bool (.pair .bool (.pair .bool (.pair .bool .bool)))))))))))))))) .bool), rs := [.dat (.agg (.pair (.int .i64) (.pair (.int .i64) (.pair (.int .i64) (.pair (.int .i64) (.pair (.int .i64) (.pair (.int .i64) (.pair (.int .i64) (.pair (.int .i64) (.agg (.pair .bool (.pair .bool (.pair .bool (.pair .bool (.pair .bool (.pair .bool .bool)))))))))))))))), .dat .bool], nout := 2, F := fun x => F_packet_Of x }
def hint_F_packet_Of : Hint := H0
theorem run_F_packet_Of : runE ⟨tdGet tys, [con_F_packet_floor, con_F_packet_ceil, con_F_packet_Packet_Right], []⟩ con_F_packet_Of Tryd.f8 hint_F_packet_Of = con_F_packet_Of.F := by
  funext x
  kernel_rfl
theorem ok_F_packet_Of : ConOK Tryd.prog con_F_packet_Of :=
  con_of_run (Γ := ⟨tdGet tys, [con_F_packet_floor, con_F_packet_ceil, con_F_packet_Packet_Right], []⟩) ⟨fun T d h => tysB_ok tys tys_ok T d h, by simp [ok_F_packet_floor, ok_F_packet_ceil, ok_F_packet_Packet_Right], by simp []⟩ (by kernel_rfl) Tryd.func8 rfl (by kernel_rfl) run_F_packet_Of
/-- (odograph/packet.Packet).Pos -/
noncomputable def F_packet_Packet_Pos (p_1 : (Int × (Int × (Int × (Int × (Int × (Int × (Int × (Int × (Bool × (Bool × (Bool × (Bool × (Bool × (Bool × Bool))))))))))))))) : Option (Int × Int) :=
  let t5_2 : Int := (IntKind.wrap .i64 (p_1.2.2.2.1 * (1000 : Int)))
  let t8_3 : Int := (IntKind.wrap .i64 (p_1.2.2.2.2.1 * (1000 : Int)))
  let w_4 : (Int × Int) := (t5_2, t8_3)
  some w_4
noncomputable def con_F_packet_Packet_Pos : Con := { f := 13, ps := [.dat (.agg (.pair (.int .i64) (.pair (.int .i64) (.pair (.int .i64) (.pair (.int .i64) (.pair (.int .i64) (.pair (.int .i64) (.pair (.int .i64) (.pair (.int .i64) (.agg (.pair .bool (.pair .bool (.pair .bool (.pair .bool (.pair .bool (.pair .bool .bool))))))))))))))))], boxes := [], ins := (.agg (.pair (.int .i64) (.pair (.int .i64) (.pair (.int .i64) (.pair (.int .i64) (.pair (.int .i64) (.pair (.int .i64) (.pair (.int .i64) (.pair (.int .i64) (.agg (.pair .bool (.pair .bool (.pair .bool (.pair .bool (.pair .bool (.pair .bool .bool)))))))))))))))), nin := 1, outs := (.agg (.pair (.int .i64) (.int .i64))), rs := [.dat (.agg (.pair (.int .i64) (.int .i64)))], nout := 1, F := fun x => F_packet_Packet_Pos x }
def hint_F_packet_Packet_Pos : Hint := H0
theorem run_F_packet_Packet_Pos : runE ⟨tdGet tys, [], []⟩ con_F_packet_Packet_Pos Tryd.f13 hint_F_packet_Packet_Pos = con_F_packet_Packet_Pos.F := by
  funext x
  kernel_rfl
theorem ok_F_packet_Packet_Pos : ConOK Tryd.prog con_F_packet_Packet_Pos :=
  con_of_run (Γ := ⟨tdGet tys, [], []⟩) ⟨fun T d h => tysB_ok tys tys_ok T d h, by simp [], by simp []⟩ (by kernel_rfl) Tryd.func13 rfl (by kernel_rfl) run_F_packet_Packet_Pos
/-- odograph/odographlaw35.anchor -/
noncomputable def F_law35_anchor (_ : Unit) : Option Bool :=
  let t4_1 : (Int × Int) := ((-5 : Int), (1001 : Int))
  (F_packet_Of ((0 : Int), ((2 : Int), ((5 : Int), (t4_1, ((0 : Int), (((0 : Int), (0 : Int)), ((0 : Int), ((0 : Int), ([], ((0 : Int), (false, (false, (((0 : Int), (0 : Int)), (false, (false, (false, (false, (false, (((0 : Int), (0 : Int)), ((0 : Int), ((((0 : Int), (0 : Int)), ((0 : Int), (0 : Int))), ((0 : Int), ((0 : Int), ((0 : Int), (0 : Int)))))))))))))))))))))))))).bind fun t6_2 =>
  let t13_3 : Bool := (t6_2.1.2.2.2.1 == (-1 : Int))
  let t14_4 : Bool := (bif t6_2.2 then t13_3 else false)
  let t18_5 : Bool := (t6_2.1.2.2.2.2.1 == (2 : Int))
  let t19_6 : Bool := (bif t14_4 then t18_5 else false)
  (bif t19_6 then F_packet_Packet_Pos t6_2.1 else some ((0 : Int), (0 : Int))).bind fun t22_7 =>
  let t23_8 : (Int × Int) := ((-1000 : Int), (2000 : Int))
  let t24_9 : Bool := (eqT (.agg (.pair (.int .i64) (.int .i64))) t22_7 t23_8)
  let t25_10 : Bool := (bif t19_6 then t24_9 else false)
  some t25_10
noncomputable def con_F_law35_anchor : Con := { f := 7, ps := [], boxes := [], ins := .unit, nin := 0, outs := .bool, rs := [.dat .bool], nout := 1, F := fun x => F_law35_anchor () }
def hint_F_law35_anchor : Hint := H0
theorem run_F_law35_anchor : runE ⟨tdGet tys, [con_F_packet_Of, con_F_packet_Packet_Pos], []⟩ con_F_law35_anchor Tryd.f7 hint_F_law35_anchor = con_F_law35_anchor.F := by
  funext x
  kernel_rfl
theorem ok_F_law35_anchor : ConOK Tryd.prog con_F_law35_anchor :=
  con_of_run (Γ := ⟨tdGet tys, [con_F_packet_Of, con_F_packet_Packet_Pos], []⟩) ⟨fun T d h => tysB_ok tys tys_ok T d h, by simp [ok_F_packet_Of, ok_F_packet_Packet_Pos], by simp []⟩ (by kernel_rfl) Tryd.func7 rfl (by kernel_rfl) run_F_law35_anchor
/-- odograph/odographref15.Down -/
noncomputable def F_ref15_Down (a_1 : Int) (b_2 : Int) : Option Int :=
  chk none (!(b_2 == (0 : Int))) <|
  let t8_3 : Int := (IntKind.wrap .i64 (a_1.tdiv b_2))
  chk none (!(b_2 == (0 : Int))) <|
  let t12_4 : Bool := (decide ((a_1.tmod b_2) < (0 : Int)))
  Option.bind (
    (bif t12_4 then
      let t14_5 : Int := (IntKind.wrap .i64 (t8_3 - (1 : Int)))
      some t14_5
    else
      some t8_3)) fun r_6 =>
  some r_6
noncomputable def con_F_ref15_Down : Con := { f := 21, ps := [.dat (.int .i64), .dat (.int .i64)], boxes := [], ins := (.pair (.int .i64) (.int .i64)), nin := 2, outs := (.int .i64), rs := [.dat (.int .i64)], nout := 1, F := fun x => F_ref15_Down x.1 x.2 }
def hint_F_ref15_Down : Hint := (.mk .plain [H0, (.mk .plain [H0, (.mk .plain [(.mk .plain [H0, (.mk (.join [(0, 13), (0, 14)] [(.normal, [⟨.slot 5, (.int .i64), none⟩])]) [])])])])])
theorem run_F_ref15_Down : runE ⟨tdGet tys, [], []⟩ con_F_ref15_Down Tryd.f21 hint_F_ref15_Down = con_F_ref15_Down.F := by
  funext x
  kernel_rfl
theorem ok_F_ref15_Down : ConOK Tryd.prog con_F_ref15_Down :=
  con_of_run (Γ := ⟨tdGet tys, [], []⟩) ⟨fun T d h => tysB_ok tys tys_ok T d h, by simp [], by simp []⟩ (by kernel_rfl) Tryd.func21 rfl (by kernel_rfl) run_F_ref15_Down
/-- odograph/odographref35.Up -/
noncomputable def F_ref35_Up (x_1 : Int) : Option Int :=
  (F_ref15_Down x_1 (1000 : Int)).bind fun t5_2 =>
  let t7_3 : Int := (IntKind.wrap .i64 (t5_2 * (1000 : Int)))
  Option.bind (
    (bif (t7_3 != x_1) then
      let t11_4 : Int := (IntKind.wrap .i64 (t5_2 + (1 : Int)))
      some t11_4
    else
      some t5_2)) fun r_5 =>
  some r_5
noncomputable def con_F_ref35_Up : Con := { f := 22, ps := [.dat (.int .i64)], boxes := [], ins := (.int .i64), nin := 1, outs := (.int .i64), rs := [.dat (.int .i64)], nout := 1, F := fun x => F_ref35_Up x }
def hint_F_ref35_Up : Hint := (.mk .plain [H0, (.mk .plain [H0, (.mk .plain [(.mk .plain [H0, (.mk (.join [(0, 10), (0, 11)] [(.normal, [⟨.slot 3, (.int .i64), none⟩])]) [])])])])])
theorem run_F_ref35_Up : runE ⟨tdGet tys, [con_F_ref15_Down], []⟩ con_F_ref35_Up Tryd.f22 hint_F_ref35_Up = con_F_ref35_Up.F := by
  funext x
  kernel_rfl
theorem ok_F_ref35_Up : ConOK Tryd.prog con_F_ref35_Up :=
  con_of_run (Γ := ⟨tdGet tys, [con_F_ref15_Down], []⟩) ⟨fun T d h => tysB_ok tys tys_ok T d h, by simp [ok_F_ref15_Down], by simp []⟩ (by kernel_rfl) Tryd.func22 rfl (by kernel_rfl) run_F_ref35_Up
/-- odograph/odographref35.Of -/
noncomputable def F_ref35_Of (n_1 : (Int × (Int × (Int × (Int × (Int × (Int × (Int × Int)))))))) (flags_2 : (Int × (Int × (Int × (Int × (Int × (Int × Int))))))) : Option ((Int × (Int × (Int × (Int × (Int × (Int × (Int × Int))))))) × (Int × (Int × (Int × (Int × (Int × (Int × Int))))))) :=
  let w_3 : ((Int × (Int × (Int × (Int × (Int × (Int × (Int × Int))))))) × (Int × (Int × (Int × (Int × (Int × (Int × Int))))))) := (n_1, flags_2)
  let t11_4 : Int := (n_1.1.tmod (65536 : Int))
  let t12_5 : Int := (IntKind.wrap .i64 (t11_4 + (65536 : Int)))
  let t13_6 : Int := (t12_5.tmod (65536 : Int))
  (F_ref15_Down n_1.2.2.2.1 (1000 : Int)).bind fun t18_7 =>
  (F_ref35_Up n_1.2.2.2.2.1).bind fun t23_8 =>
  (F_ref15_Down n_1.2.2.2.2.2.1 (1000 : Int)).bind fun t28_9 =>
  Option.bind (
    (bif (decide (t28_9 < t18_7)) then
      some t18_7
    else
      some t28_9)) fun r_10 =>
  Option.bind (
    (bif (decide (t23_8 < r_10)) then
      some t23_8
    else
      some r_10)) fun r_11 =>
  (F_ref15_Down n_1.2.2.2.2.2.2.1 (1000 : Int)).bind fun t57_12 =>
  (F_ref35_Up n_1.2.2.2.2.2.2.2).bind fun t62_13 =>
  let t65_14 : ((Int × (Int × (Int × (Int × (Int × (Int × (Int × Int))))))) × (Int × (Int × (Int × (Int × (Int × (Int × Int))))))) := ((t13_6, (w_3.1.2.1, (w_3.1.2.2.1, (t18_7, (t23_8, (r_11, (t57_12, t62_13))))))), w_3.2)
  some t65_14
noncomputable def con_F_ref35_Of : Con := { f := 9, ps := [.dat (.agg (.pair (.int .i64) (.pair (.int .i64) (.pair (.int .i64) (.pair (.int .i64) (.pair (.int .i64) (.pair (.int .i64) (.pair (.int .i64) (.int .i64))))))))), .dat (.agg (.pair (.int .i64) (.pair (.int .i64) (.pair (.int .i64) (.pair (.int .i64) (.pair (.int .i64) (.pair (.int .i64) (.int .i64))))))))], boxes := [], ins := (.pair (.agg (.pair (.int .i64) (.pair (.int .i64) (.pair (.int .i64) (.pair (.int .i64) (.pair (.int .i64) (.pair (.int .i64) (.pair (.int .i64) (.int .i64))))))))) (.agg (.pair (.int .i64) (.pair (.int .i64) (.pair (.int .i64) (.pair (.int .i64) (.pair (.int .i64) (.pair (.int .i64) (.int .i64))))))))), nin := 2, outs := (.agg (.pair (.agg (.pair (.int .i64) (.pair (.int .i64) (.pair (.int .i64) (.pair (.int .i64) (.pair (.int .i64) (.pair (.int .i64) (.pair (.int .i64) (.int .i64))))))))) (.agg (.pair (.int .i64) (.pair (.int .i64) (.pair (.int .i64) (.pair (.int .i64) (.pair (.int .i64) (.pair (.int .i64) (.int .i64)))))))))), rs := [.dat (.agg (.pair (.agg (.pair (.int .i64) (.pair (.int .i64) (.pair (.int .i64) (.pair (.int .i64) (.pair (.int .i64) (.pair (.int .i64) (.pair (.int .i64) (.int .i64))))))))) (.agg (.pair (.int .i64) (.pair (.int .i64) (.pair (.int .i64) (.pair (.int .i64) (.pair (.int .i64) (.pair (.int .i64) (.int .i64))))))))))], nout := 1, F := fun x => F_ref35_Of x.1 x.2 }
def hint_F_ref35_Of : Hint := (.mk .plain [H0, (.mk .plain [H0, (.mk .plain [H0, (.mk .plain [H0, (.mk .plain [H0, (.mk .plain [H0, (.mk .plain [(.mk .plain [H0, (.mk (.join [(0, 41), (0, 42), (0, 39), (0, 40), (0, 38)] [(.normal, [⟨.cell 3 5, (.int .i64), none⟩])]) [])]), (.mk .plain [(.mk .plain [H0, (.mk (.join [(0, 52), (0, 50), (0, 53), (0, 54), (0, 51)] [(.normal, [⟨.cell 3 5, (.int .i64), none⟩])]) [])])])])])])])])])])
theorem run_F_ref35_Of : runE ⟨tdGet tys, [con_F_ref15_Down, con_F_ref35_Up], []⟩ con_F_ref35_Of Tryd.f9 hint_F_ref35_Of = con_F_ref35_Of.F := by
  funext x
  kernel_rfl
theorem ok_F_ref35_Of : ConOK Tryd.prog con_F_ref35_Of :=
  con_of_run (Γ := ⟨tdGet tys, [con_F_ref15_Down, con_F_ref35_Up], []⟩) ⟨fun T d h => tysB_ok tys tys_ok T d h, by simp [ok_F_ref15_Down, ok_F_ref35_Up], by simp []⟩ (by kernel_rfl) Tryd.func9 rfl (by kernel_rfl) run_F_ref35_Of
/-- odograph/odographref35.Widths -/
noncomputable def F_ref35_Widths (_ : Unit) : Option (Int × (Int × (Int × (Int × (Int × (Int × (Int × Int))))))) :=
  let t1_1 : (Int × (Int × (Int × (Int × (Int × (Int × (Int × Int))))))) := ((16 : Int), ((3 : Int), ((16 : Int), ((36 : Int), ((36 : Int), ((36 : Int), ((20 : Int), (20 : Int))))))))
  some t1_1
noncomputable def con_F_ref35_Widths : Con := { f := 23, ps := [], boxes := [], ins := .unit, nin := 0, outs := (.agg (.pair (.int .i64) (.pair (.int .i64) (.pair (.int .i64) (.pair (.int .i64) (.pair (.int .i64) (.pair (.int .i64) (.pair (.int .i64) (.int .i64))))))))), rs := [.dat (.agg (.pair (.int .i64) (.pair (.int .i64) (.pair (.int .i64) (.pair (.int .i64) (.pair (.int .i64) (.pair (.int .i64) (.pair (.int .i64) (.int .i64)))))))))], nout := 1, F := fun x => F_ref35_Widths () }
def hint_F_ref35_Widths : Hint := H0
theorem run_F_ref35_Widths : runE ⟨tdGet tys, [], []⟩ con_F_ref35_Widths Tryd.f23 hint_F_ref35_Widths = con_F_ref35_Widths.F := by
  funext x
  kernel_rfl
theorem ok_F_ref35_Widths : ConOK Tryd.prog con_F_ref35_Widths :=
  con_of_run (Γ := ⟨tdGet tys, [], []⟩) ⟨fun T d h => tysB_ok tys tys_ok T d h, by simp [], by simp []⟩ (by kernel_rfl) Tryd.func23 rfl (by kernel_rfl) run_F_ref35_Widths
/-- odograph/odographref35.Right -/
noncomputable def F_ref35_Right (p_1 : ((Int × (Int × (Int × (Int × (Int × (Int × (Int × Int))))))) × (Int × (Int × (Int × (Int × (Int × (Int × Int)))))))) : Option Bool :=
  (F_ref35_Widths ()).bind fun t7_2 =>
  Option.bind (α := Bool ⊕ Unit) (
    loopO (X := Bool ⊕ Unit) (fun (s_3 : Int) =>
      let t9_4 : Bool := (decide (s_3 < (8 : Int)))
      (bif t9_4 then
        Option.bind (
          loopO (X := Int) (fun (s_5 : (Int × Int)) =>
            let k_6 : Int := s_5.1
            let half_7 : Int := s_5.2
            chk none ((decide ((0 : Int) ≤ s_3)) && (decide (s_3 < (8 : Int)))) <|
            let t15_8 : Int := (List.getD [t7_2.1, t7_2.2.1, t7_2.2.2.1, t7_2.2.2.2.1, t7_2.2.2.2.2.1, t7_2.2.2.2.2.2.1, t7_2.2.2.2.2.2.2.1, t7_2.2.2.2.2.2.2.2] s_3.toNat (0 : Int))
            (bif (decide (k_6 < t15_8)) then
              let t20_9 : Int := (IntKind.wrap .i64 ((2 : Int) * half_7))
              let t18_10 : Int := (IntKind.wrap .i64 (k_6 + (1 : Int)))
              some (.inl (t18_10, t20_9))
            else
              some (.inr half_7))) ((1 : Int), (1 : Int))) fun r_11 =>
        let t22_12 : Bool := (decide (s_3 < (3 : Int)))
        chk none (((decide ((0 : Int) ≤ s_3)) && (decide (s_3 < (8 : Int)))) || !t22_12) <|
        let t27_13 : Int := (List.getD [p_1.1.1, p_1.1.2.1, p_1.1.2.2.1, p_1.1.2.2.2.1, p_1.1.2.2.2.2.1, p_1.1.2.2.2.2.2.1, p_1.1.2.2.2.2.2.2.1, p_1.1.2.2.2.2.2.2.2] s_3.toNat (0 : Int))
        let t28_14 : Bool := (decide (t27_13 < (0 : Int)))
        chk none (((decide ((0 : Int) ≤ s_3)) && (decide (s_3 < (8 : Int)))) || !(!t28_14 && t22_12)) <|
        let t33_15 : Int := (List.getD [p_1.1.1, p_1.1.2.1, p_1.1.2.2.1, p_1.1.2.2.2.1, p_1.1.2.2.2.2.1, p_1.1.2.2.2.2.2.1, p_1.1.2.2.2.2.2.2.1, p_1.1.2.2.2.2.2.2.2] s_3.toNat (0 : Int))
        let t35_16 : Int := (IntKind.wrap .i64 ((2 : Int) * r_11))
        let t36_17 : Bool := (decide (t35_16 ≤ t33_15))
        let t37_18 : Bool := (bif t28_14 then true else t36_17)
        let t38_19 : Bool := (bif t22_12 then t37_18 else false)
        let t41_20 : Bool := (decide ((3 : Int) ≤ s_3))
        chk none (((decide ((0 : Int) ≤ s_3)) && (decide (s_3 < (8 : Int)))) || !(t41_20 && !t38_19)) <|
        let t46_21 : Int := (List.getD [p_1.1.1, p_1.1.2.1, p_1.1.2.2.1, p_1.1.2.2.2.1, p_1.1.2.2.2.2.1, p_1.1.2.2.2.2.2.1, p_1.1.2.2.2.2.2.2.1, p_1.1.2.2.2.2.2.2.2] s_3.toNat (0 : Int))
        let t48_22 : Int := (IntKind.wrap .i64 (0 - r_11))
        let t49_23 : Bool := (decide (t46_21 < t48_22))
        chk none (((decide ((0 : Int) ≤ s_3)) && (decide (s_3 < (8 : Int)))) || !(!t49_23 && (t41_20 && !t38_19))) <|
        let t54_24 : Int := (List.getD [p_1.1.1, p_1.1.2.1, p_1.1.2.2.1, p_1.1.2.2.2.1, p_1.1.2.2.2.2.1, p_1.1.2.2.2.2.2.1, p_1.1.2.2.2.2.2.2.1, p_1.1.2.2.2.2.2.2.2] s_3.toNat (0 : Int))
        let t57_25 : Bool := (bif t49_23 then true else (decide (r_11 ≤ t54_24)))
        let t58_26 : Bool := (bif t41_20 then t57_25 else false)
        let t59_27 : Bool := (bif t38_19 then true else t58_26)
        (bif t59_27 then
          some (.inr (.inl false))
        else
          let t11_28 : Int := (IntKind.wrap .i64 (s_3 + (1 : Int)))
          some (.inl t11_28))
      else
        some (.inr (.inr ())))) (0 : Int)) fun z => match z with
  | .inl r_29 =>
    some r_29
  | .inr _ =>
    let t63_30 : Bool := (decide (p_1.1.2.1 < (1 : Int)))
    let t68_31 : Bool := (decide ((4 : Int) < p_1.1.2.1))
    let t69_32 : Bool := (bif t63_30 then true else t68_31)
    let t77_33 : Bool := (decide (p_1.1.2.2.2.2.2.1 < p_1.1.2.2.2.1))
    let t78_34 : Bool := (bif t69_32 then true else t77_33)
    let t86_35 : Bool := (decide (p_1.1.2.2.2.2.1 < p_1.1.2.2.2.2.2.1))
    let t87_36 : Bool := (bif t78_34 then true else t86_35)
    let t95_37 : Bool := (decide (p_1.1.2.2.2.2.2.2.2 < p_1.1.2.2.2.2.2.2.1))
    let t96_38 : Bool := (bif t87_36 then true else t95_37)
    (bif t96_38 then
      some false
    else
      let t100_39 : Bool := (p_1.1.2.2.1 != (0 : Int))
      let t105_40 : Bool := (p_1.1.2.2.2.1 == (0 : Int))
      let t110_41 : Bool := (p_1.1.2.2.2.2.1 == (0 : Int))
      let t111_42 : Bool := (bif t105_40 then t110_41 else false)
      let t112_43 : Bool := (bif t100_39 then true else t111_42)
      some t112_43)
noncomputable def con_F_ref35_Right : Con := { f := 10, ps := [.dat (.agg (.pair (.agg (.pair (.int .i64) (.pair (.int .i64) (.pair (.int .i64) (.pair (.int .i64) (.pair (.int .i64) (.pair (.int .i64) (.pair (.int .i64) (.int .i64))))))))) (.agg (.pair (.int .i64) (.pair (.int .i64) (.pair (.int .i64) (.pair (.int .i64) (.pair (.int .i64) (.pair (.int .i64) (.int .i64))))))))))], boxes := [], ins := (.agg (.pair (.agg (.pair (.int .i64) (.pair (.int .i64) (.pair (.int .i64) (.pair (.int .i64) (.pair (.int .i64) (.pair (.int .i64) (.pair (.int .i64) (.int .i64))))))))) (.agg (.pair (.int .i64) (.pair (.int .i64) (.pair (.int .i64) (.pair (.int .i64) (.pair (.int .i64) (.pair (.int .i64) (.int .i64)))))))))), nin := 1, outs := .bool, rs := [.dat .bool], nout := 1, F := fun x => F_ref35_Right x }
def hint_F_ref35_Right : Hint := (.mk .plain [H0, (.mk .plain [H0, (.mk .plain [(.mk .plain [H0, (.mk .plain [(.mk (.loop [⟨.slot 4, (.int .i64), none⟩] [(0, 30), (0, 36), (0, 42), (0, 39), (0, 45), (0, 48), (0, 54), (0, 51), (0, 57), (0, 2), (0, 5), (0, 8), (0, 14), (0, 17), (0, 23), (0, 20), (0, 26), (0, 29), (0, 35), (0, 32), (0, 38), (0, 41), (0, 47), (0, 44), (0, 50), (0, 53), (0, 59), (0, 56), (0, 16), (0, 13), (0, 19), (0, 22), (0, 28), (0, 25), (0, 31), (0, 34), (0, 40), (0, 37), (0, 43), (0, 46), (0, 52), (0, 49), (0, 55), (0, 58), (0, 9), (0, 6), (0, 12), (0, 15), (0, 21), (0, 18), (0, 24), (0, 27), (0, 33), (0, 11), (0, 10)] [(.ret, [⟨.slot 2, .bool, none⟩]), (.exit 0, [])]) [(.mk .plain [H0, (.mk .plain [(.mk .plain [(.mk .plain [H0, (.mk .plain [(.mk .plain [H0, (.mk .plain [(.mk (.loop [⟨.slot 6, (.int .i64), none⟩, ⟨.slot 5, (.int .i64), none⟩] [(0, 20), (0, 16), (0, 13), (0, 19), (0, 12), (0, 15), (0, 18), (0, 14), (0, 17)] [(.exit 2, [⟨.slot 5, (.int .i64), none⟩])]) [])])])])])])])])])])])])])])
theorem run_F_ref35_Right : runE ⟨tdGet tys, [con_F_ref35_Widths], []⟩ con_F_ref35_Right Tryd.f10 hint_F_ref35_Right = con_F_ref35_Right.F := by
  funext x
  kernel_rfl
theorem ok_F_ref35_Right : ConOK Tryd.prog con_F_ref35_Right :=
  con_of_run (Γ := ⟨tdGet tys, [con_F_ref35_Widths], []⟩) ⟨fun T d h => tysB_ok tys tys_ok T d h, by simp [ok_F_ref35_Widths], by simp []⟩ (by kernel_rfl) Tryd.func10 rfl (by kernel_rfl) run_F_ref35_Right
/-- odograph/odographlaw35.ref -/
noncomputable def F_law35_ref (p_1 : (Int × (Int × (Int × (Int × (Int × (Int × (Int × (Int × (Bool × (Bool × (Bool × (Bool × (Bool × (Bool × Bool))))))))))))))) : Option ((Int × (Int × (Int × (Int × (Int × (Int × (Int × Int))))))) × (Int × (Int × (Int × (Int × (Int × (Int × Int))))))) :=
  let t22_2 : (Int × (Int × (Int × (Int × (Int × (Int × (Int × Int))))))) := (p_1.1, (p_1.2.1, (p_1.2.2.1, (p_1.2.2.2.1, (p_1.2.2.2.2.1, (p_1.2.2.2.2.2.1, (p_1.2.2.2.2.2.2.1, p_1.2.2.2.2.2.2.2.1)))))))
  let t23_3 : ((Int × (Int × (Int × (Int × (Int × (Int × (Int × Int))))))) × (Int × (Int × (Int × (Int × (Int × (Int × Int))))))) := (t22_2, ((0 : Int), ((0 : Int), ((0 : Int), ((0 : Int), ((0 : Int), ((0 : Int), (0 : Int))))))))
  Option.bind (
    (bif p_1.2.2.2.2.2.2.2.2.1 then
      some (t23_3.1.2.2.2.2.1, t23_3.1.2.1, t23_3.1.2.2.2.2.2.2.2, t23_3.2.2.2.1, t23_3.2.2.2.2.2.2.1, t23_3.1.2.2.1, t23_3.1.2.2.2.2.2.1, t23_3.2.2.2.2.1, (1 : Int), t23_3.2.2.2.2.2.2.2, t23_3.1.1, t23_3.1.2.2.2.1, t23_3.2.2.1, t23_3.1.2.2.2.2.2.2.1, t23_3.2.2.2.2.2.1)
    else
      some (t23_3.1.2.2.2.2.1, t23_3.1.2.1, t23_3.1.2.2.2.2.2.2.2, t23_3.2.2.2.1, t23_3.2.2.2.2.2.2.1, t23_3.1.2.2.1, t23_3.1.2.2.2.2.2.1, t23_3.2.2.2.2.1, t23_3.2.1, t23_3.2.2.2.2.2.2.2, t23_3.1.1, t23_3.1.2.2.2.1, t23_3.2.2.1, t23_3.1.2.2.2.2.2.2.1, t23_3.2.2.2.2.2.1))) fun r_4 =>
  let b2_5 : Int := r_4.1
  let b2_6 : Int := r_4.2.1
  let b2_7 : Int := r_4.2.2.1
  let b2_8 : Int := r_4.2.2.2.1
  let b2_9 : Int := r_4.2.2.2.2.1
  let b2_10 : Int := r_4.2.2.2.2.2.1
  let b2_11 : Int := r_4.2.2.2.2.2.2.1
  let b2_12 : Int := r_4.2.2.2.2.2.2.2.1
  let b2_13 : Int := r_4.2.2.2.2.2.2.2.2.1
  let b2_14 : Int := r_4.2.2.2.2.2.2.2.2.2.1
  let b2_15 : Int := r_4.2.2.2.2.2.2.2.2.2.2.1
  let b2_16 : Int := r_4.2.2.2.2.2.2.2.2.2.2.2.1
  let b2_17 : Int := r_4.2.2.2.2.2.2.2.2.2.2.2.2.1
  let b2_18 : Int := r_4.2.2.2.2.2.2.2.2.2.2.2.2.2.1
  let b2_19 : Int := r_4.2.2.2.2.2.2.2.2.2.2.2.2.2.2
  Option.bind (
    (bif p_1.2.2.2.2.2.2.2.2.2.1 then
      some (b2_5, b2_6, b2_7, b2_8, b2_9, b2_10, b2_11, b2_12, b2_13, b2_14, b2_15, b2_16, (1 : Int), b2_18, b2_19)
    else
      some (b2_5, b2_6, b2_7, b2_8, b2_9, b2_10, b2_11, b2_12, b2_13, b2_14, b2_15, b2_16, b2_17, b2_18, b2_19))) fun r_20 =>
  let b2_21 : Int := r_20.1
  let b2_22 : Int := r_20.2.1
  let b2_23 : Int := r_20.2.2.1
  let b2_24 : Int := r_20.2.2.2.1
  let b2_25 : Int := r_20.2.2.2.2.1
  let b2_26 : Int := r_20.2.2.2.2.2.1
  let b2_27 : Int := r_20.2.2.2.2.2.2.1
  let b2_28 : Int := r_20.2.2.2.2.2.2.2.1
  let b2_29 : Int := r_20.2.2.2.2.2.2.2.2.1
  let b2_30 : Int := r_20.2.2.2.2.2.2.2.2.2.1
  let b2_31 : Int := r_20.2.2.2.2.2.2.2.2.2.2.1
  let b2_32 : Int := r_20.2.2.2.2.2.2.2.2.2.2.2.1
  let b2_33 : Int := r_20.2.2.2.2.2.2.2.2.2.2.2.2.1
  let b2_34 : Int := r_20.2.2.2.2.2.2.2.2.2.2.2.2.2.1
  let b2_35 : Int := r_20.2.2.2.2.2.2.2.2.2.2.2.2.2.2
  let t29_36 : Bool := p_1.2.2.2.2.2.2.2.2.2.2.1
  Option.bind (
    (bif t29_36 then
      some (b2_21, b2_22, b2_23, (1 : Int), b2_25, b2_26, b2_27, b2_28, b2_29, b2_30, b2_31, b2_32, b2_33, b2_34, b2_35)
    else
      some (b2_21, b2_22, b2_23, b2_24, b2_25, b2_26, b2_27, b2_28, b2_29, b2_30, b2_31, b2_32, b2_33, b2_34, b2_35))) fun r_37 =>
  let b2_38 : Int := r_37.1
  let b2_39 : Int := r_37.2.1
  let b2_40 : Int := r_37.2.2.1
  let b2_41 : Int := r_37.2.2.2.1
  let b2_42 : Int := r_37.2.2.2.2.1
  let b2_43 : Int := r_37.2.2.2.2.2.1
  let b2_44 : Int := r_37.2.2.2.2.2.2.1
  let b2_45 : Int := r_37.2.2.2.2.2.2.2.1
  let b2_46 : Int := r_37.2.2.2.2.2.2.2.2.1
  let b2_47 : Int := r_37.2.2.2.2.2.2.2.2.2.1
  let b2_48 : Int := r_37.2.2.2.2.2.2.2.2.2.2.1
  let b2_49 : Int := r_37.2.2.2.2.2.2.2.2.2.2.2.1
  let b2_50 : Int := r_37.2.2.2.2.2.2.2.2.2.2.2.2.1
  let b2_51 : Int := r_37.2.2.2.2.2.2.2.2.2.2.2.2.2.1
  let b2_52 : Int := r_37.2.2.2.2.2.2.2.2.2.2.2.2.2.2
  let t29_53 : Bool := p_1.2.2.2.2.2.2.2.2.2.2.2.1
  Option.bind (
    (bif t29_53 then
      some (b2_38, b2_39, b2_40, b2_41, b2_42, b2_43, b2_44, (1 : Int), b2_46, b2_47, b2_48, b2_49, b2_50, b2_51, b2_52)
    else
      some (b2_38, b2_39, b2_40, b2_41, b2_42, b2_43, b2_44, b2_45, b2_46, b2_47, b2_48, b2_49, b2_50, b2_51, b2_52))) fun r_54 =>
  let b2_55 : Int := r_54.1
  let b2_56 : Int := r_54.2.1
  let b2_57 : Int := r_54.2.2.1
  let b2_58 : Int := r_54.2.2.2.1
  let b2_59 : Int := r_54.2.2.2.2.1
  let b2_60 : Int := r_54.2.2.2.2.2.1
  let b2_61 : Int := r_54.2.2.2.2.2.2.1
  let b2_62 : Int := r_54.2.2.2.2.2.2.2.1
  let b2_63 : Int := r_54.2.2.2.2.2.2.2.2.1
  let b2_64 : Int := r_54.2.2.2.2.2.2.2.2.2.1
  let b2_65 : Int := r_54.2.2.2.2.2.2.2.2.2.2.1
  let b2_66 : Int := r_54.2.2.2.2.2.2.2.2.2.2.2.1
  let b2_67 : Int := r_54.2.2.2.2.2.2.2.2.2.2.2.2.1
  let b2_68 : Int := r_54.2.2.2.2.2.2.2.2.2.2.2.2.2.1
  let b2_69 : Int := r_54.2.2.2.2.2.2.2.2.2.2.2.2.2.2
  let t29_70 : Bool := p_1.2.2.2.2.2.2.2.2.2.2.2.2.1
  Option.bind (
    (bif t29_70 then
      some (b2_55, b2_56, b2_57, b2_58, b2_59, b2_60, b2_61, b2_62, b2_63, b2_64, b2_65, b2_66, b2_67, b2_68, (1 : Int))
    else
      some (b2_55, b2_56, b2_57, b2_58, b2_59, b2_60, b2_61, b2_62, b2_63, b2_64, b2_65, b2_66, b2_67, b2_68, b2_69))) fun r_71 =>
  let b2_72 : Int := r_71.1
  let b2_73 : Int := r_71.2.1
  let b2_74 : Int := r_71.2.2.1
  let b2_75 : Int := r_71.2.2.2.1
  let b2_76 : Int := r_71.2.2.2.2.1
  let b2_77 : Int := r_71.2.2.2.2.2.1
  let b2_78 : Int := r_71.2.2.2.2.2.2.1
  let b2_79 : Int := r_71.2.2.2.2.2.2.2.1
  let b2_80 : Int := r_71.2.2.2.2.2.2.2.2.1
  let b2_81 : Int := r_71.2.2.2.2.2.2.2.2.2.1
  let b2_82 : Int := r_71.2.2.2.2.2.2.2.2.2.2.1
  let b2_83 : Int := r_71.2.2.2.2.2.2.2.2.2.2.2.1
  let b2_84 : Int := r_71.2.2.2.2.2.2.2.2.2.2.2.2.1
  let b2_85 : Int := r_71.2.2.2.2.2.2.2.2.2.2.2.2.2.1
  let b2_86 : Int := r_71.2.2.2.2.2.2.2.2.2.2.2.2.2.2
  let t29_87 : Bool := p_1.2.2.2.2.2.2.2.2.2.2.2.2.2.1
  Option.bind (
    (bif t29_87 then
      some (b2_72, b2_73, b2_74, b2_75, (1 : Int), b2_77, b2_78, b2_79, b2_80, b2_81, b2_82, b2_83, b2_84, b2_85, b2_86)
    else
      some (b2_72, b2_73, b2_74, b2_75, b2_76, b2_77, b2_78, b2_79, b2_80, b2_81, b2_82, b2_83, b2_84, b2_85, b2_86))) fun r_88 =>
  let b2_89 : Int := r_88.1
  let b2_90 : Int := r_88.2.1
  let b2_91 : Int := r_88.2.2.1
  let b2_92 : Int := r_88.2.2.2.1
  let b2_93 : Int := r_88.2.2.2.2.1
  let b2_94 : Int := r_88.2.2.2.2.2.1
  let b2_95 : Int := r_88.2.2.2.2.2.2.1
  let b2_96 : Int := r_88.2.2.2.2.2.2.2.1
  let b2_97 : Int := r_88.2.2.2.2.2.2.2.2.1
  let b2_98 : Int := r_88.2.2.2.2.2.2.2.2.2.1
  let b2_99 : Int := r_88.2.2.2.2.2.2.2.2.2.2.1
  let b2_100 : Int := r_88.2.2.2.2.2.2.2.2.2.2.2.1
  let b2_101 : Int := r_88.2.2.2.2.2.2.2.2.2.2.2.2.1
  let b2_102 : Int := r_88.2.2.2.2.2.2.2.2.2.2.2.2.2.1
  let b2_103 : Int := r_88.2.2.2.2.2.2.2.2.2.2.2.2.2.2
  let t29_104 : Bool := p_1.2.2.2.2.2.2.2.2.2.2.2.2.2.2
  Option.bind (
    (bif t29_104 then
      some (b2_89, b2_90, b2_91, b2_92, b2_93, b2_94, b2_95, b2_96, b2_97, (1 : Int), b2_99, b2_100, b2_101, b2_102, b2_103)
    else
      some (b2_89, b2_90, b2_91, b2_92, b2_93, b2_94, b2_95, b2_96, b2_97, b2_98, b2_99, b2_100, b2_101, b2_102, b2_103))) fun r_105 =>
  let b2_106 : Int := r_105.1
  let b2_107 : Int := r_105.2.1
  let b2_108 : Int := r_105.2.2.1
  let b2_109 : Int := r_105.2.2.2.1
  let b2_110 : Int := r_105.2.2.2.2.1
  let b2_111 : Int := r_105.2.2.2.2.2.1
  let b2_112 : Int := r_105.2.2.2.2.2.2.1
  let b2_113 : Int := r_105.2.2.2.2.2.2.2.1
  let b2_114 : Int := r_105.2.2.2.2.2.2.2.2.1
  let b2_115 : Int := r_105.2.2.2.2.2.2.2.2.2.1
  let b2_116 : Int := r_105.2.2.2.2.2.2.2.2.2.2.1
  let b2_117 : Int := r_105.2.2.2.2.2.2.2.2.2.2.2.1
  let b2_118 : Int := r_105.2.2.2.2.2.2.2.2.2.2.2.2.1
  let b2_119 : Int := r_105.2.2.2.2.2.2.2.2.2.2.2.2.2.1
  let b2_120 : Int := r_105.2.2.2.2.2.2.2.2.2.2.2.2.2.2
  let t35_121 : ((Int × (Int × (Int × (Int × (Int × (Int × (Int × Int))))))) × (Int × (Int × (Int × (Int × (Int × (Int × Int))))))) := ((b2_116, (b2_107, (b2_111, (b2_117, (b2_106, (b2_112, (b2_119, b2_108))))))), (b2_114, (b2_118, (b2_109, (b2_113, (b2_120, (b2_110, b2_115)))))))
  some t35_121
noncomputable def con_F_law35_ref : Con := { f := 11, ps := [.dat (.agg (.pair (.int .i64) (.pair (.int .i64) (.pair (.int .i64) (.pair (.int .i64) (.pair (.int .i64) (.pair (.int .i64) (.pair (.int .i64) (.pair (.int .i64) (.agg (.pair .bool (.pair .bool (.pair .bool (.pair .bool (.pair .bool (.pair .bool .bool))))))))))))))))], boxes := [], ins := (.agg (.pair (.int .i64) (.pair (.int .i64) (.pair (.int .i64) (.pair (.int .i64) (.pair (.int .i64) (.pair (.int .i64) (.pair (.int .i64) (.pair (.int .i64) (.agg (.pair .bool (.pair .bool (.pair .bool (.pair .bool (.pair .bool (.pair .bool .bool)))))))))))))))), nin := 1, outs := (.agg (.pair (.agg (.pair (.int .i64) (.pair (.int .i64) (.pair (.int .i64) (.pair (.int .i64) (.pair (.int .i64) (.pair (.int .i64) (.pair (.int .i64) (.int .i64))))))))) (.agg (.pair (.int .i64) (.pair (.int .i64) (.pair (.int .i64) (.pair (.int .i64) (.pair (.int .i64) (.pair (.int .i64) (.int .i64)))))))))), rs := [.dat (.agg (.pair (.agg (.pair (.int .i64) (.pair (.int .i64) (.pair (.int .i64) (.pair (.int .i64) (.pair (.int .i64) (.pair (.int .i64) (.pair (.int .i64) (.int .i64))))))))) (.agg (.pair (.int .i64) (.pair (.int .i64) (.pair (.int .i64) (.pair (.int .i64) (.pair (.int .i64) (.pair (.int .i64) (.int .i64))))))))))], nout := 1, F := fun x => F_law35_ref x }
def hint_F_law35_ref : Hint := (.mk .plain [H0, (.mk .plain [H0, (.mk .plain [(.mk .plain [H0, (.mk .plain [(.mk (.unroll 8) [(.mk .plain [H0, (.mk .plain [H0, (.mk .plain [(.mk .plain [(.mk .plain [H0, (.mk .plain [H0, (.mk (.join [(0, 31), (0, 32), (0, 33)] [(.normal, [⟨.cell 2 4, (.int .i64), none⟩, ⟨.cell 2 1, (.int .i64), none⟩, ⟨.cell 2 7, (.int .i64), none⟩, ⟨.cell 2 10, (.int .i64), none⟩, ⟨.cell 2 13, (.int .i64), none⟩, ⟨.cell 2 2, (.int .i64), none⟩, ⟨.cell 2 5, (.int .i64), none⟩, ⟨.cell 2 11, (.int .i64), none⟩, ⟨.cell 2 8, (.int .i64), none⟩, ⟨.cell 2 14, (.int .i64), none⟩, ⟨.cell 2 0, (.int .i64), none⟩, ⟨.cell 2 3, (.int .i64), none⟩, ⟨.cell 2 9, (.int .i64), none⟩, ⟨.cell 2 6, (.int .i64), none⟩, ⟨.cell 2 12, (.int .i64), none⟩])]) [])])])])])])])])])])])])])
theorem run_F_law35_ref : runE ⟨tdGet tys, [], []⟩ con_F_law35_ref Tryd.f11 hint_F_law35_ref = con_F_law35_ref.F := by
  funext x
  kernel_rfl
theorem ok_F_law35_ref : ConOK Tryd.prog con_F_law35_ref :=
  con_of_run (Γ := ⟨tdGet tys, [], []⟩) ⟨fun T d h => tysB_ok tys tys_ok T d h, by simp [], by simp []⟩ (by kernel_rfl) Tryd.func11 rfl (by kernel_rfl) run_F_law35_ref
/-- odograph/odographlaw35.PacketOf -/
noncomputable def F_law35_PacketOf (r_1 : (Int × (Int × (Int × ((Int × Int) × (Int × ((Int × Int) × (Int × (Int × ((List (List Int)) × (Int × (Bool × (Bool × ((Int × Int) × (Bool × (Bool × (Bool × (Bool × (Bool × ((Int × Int) × (Int × (((Int × Int) × (Int × Int)) × (Int × (Int × (Int × Int))))))))))))))))))))))))) : Option Bool :=
  (F_law35_anchor ()).bind fun t9_2 =>
  (bif (!t9_2) then
    some false
  else
    (F_packet_Of r_1).bind fun t13_3 =>
    let t17_4 : Bool := r_1.2.2.2.2.2.2.2.2.2.2.1
    let t19_5 : Bool := r_1.2.2.2.2.2.2.2.2.2.2.2.1
    let t21_6 : Bool := r_1.2.2.2.2.2.2.2.2.2.2.2.2.2.1
    let t23_7 : Bool := r_1.2.2.2.2.2.2.2.2.2.2.2.2.2.2.1
    let t25_8 : Bool := r_1.2.2.2.2.2.2.2.2.2.2.2.2.2.2.2.1
    let t27_9 : Bool := r_1.2.2.2.2.2.2.2.2.2.2.2.2.2.2.2.2.1
    let t29_10 : Bool := r_1.2.2.2.2.2.2.2.2.2.2.2.2.2.2.2.2.2.1
    let t30_11 : (Bool × (Bool × (Bool × (Bool × (Bool × (Bool × Bool)))))) := (t17_4, (t19_5, (t21_6, (t23_7, (t25_8, (t27_9, t29_10))))))
    Option.bind (
      (bif t30_11.1 then
        some ((0 : Int), (0 : Int), (1 : Int), (0 : Int), (0 : Int), (0 : Int), (0 : Int))
      else
        some ((0 : Int), (0 : Int), (0 : Int), (0 : Int), (0 : Int), (0 : Int), (0 : Int)))) fun r_12 =>
    let b2_13 : Int := r_12.1
    let b2_14 : Int := r_12.2.1
    let b2_15 : Int := r_12.2.2.1
    let b2_16 : Int := r_12.2.2.2.1
    let b2_17 : Int := r_12.2.2.2.2.1
    let b2_18 : Int := r_12.2.2.2.2.2.1
    let b2_19 : Int := r_12.2.2.2.2.2.2
    Option.bind (
      (bif t30_11.2.1 then
        some (b2_13, (1 : Int), b2_15, b2_16, b2_17, b2_18, b2_19)
      else
        some (b2_13, b2_14, b2_15, b2_16, b2_17, b2_18, b2_19))) fun r_20 =>
    let b2_21 : Int := r_20.1
    let b2_22 : Int := r_20.2.1
    let b2_23 : Int := r_20.2.2.1
    let b2_24 : Int := r_20.2.2.2.1
    let b2_25 : Int := r_20.2.2.2.2.1
    let b2_26 : Int := r_20.2.2.2.2.2.1
    let b2_27 : Int := r_20.2.2.2.2.2.2
    Option.bind (
      (bif t30_11.2.2.1 then
        some (b2_21, b2_22, b2_23, b2_24, b2_25, (1 : Int), b2_27)
      else
        some (b2_21, b2_22, b2_23, b2_24, b2_25, b2_26, b2_27))) fun r_28 =>
    let b2_29 : Int := r_28.1
    let b2_30 : Int := r_28.2.1
    let b2_31 : Int := r_28.2.2.1
    let b2_32 : Int := r_28.2.2.2.1
    let b2_33 : Int := r_28.2.2.2.2.1
    let b2_34 : Int := r_28.2.2.2.2.2.1
    let b2_35 : Int := r_28.2.2.2.2.2.2
    Option.bind (
      (bif t30_11.2.2.2.1 then
        some (b2_29, b2_30, b2_31, (1 : Int), b2_33, b2_34, b2_35)
      else
        some (b2_29, b2_30, b2_31, b2_32, b2_33, b2_34, b2_35))) fun r_36 =>
    let b2_37 : Int := r_36.1
    let b2_38 : Int := r_36.2.1
    let b2_39 : Int := r_36.2.2.1
    let b2_40 : Int := r_36.2.2.2.1
    let b2_41 : Int := r_36.2.2.2.2.1
    let b2_42 : Int := r_36.2.2.2.2.2.1
    let b2_43 : Int := r_36.2.2.2.2.2.2
    Option.bind (
      (bif t30_11.2.2.2.2.1 then
        some ((1 : Int), b2_38, b2_39, b2_40, b2_41, b2_42, b2_43)
      else
        some (b2_37, b2_38, b2_39, b2_40, b2_41, b2_42, b2_43))) fun r_44 =>
    let b2_45 : Int := r_44.1
    let b2_46 : Int := r_44.2.1
    let b2_47 : Int := r_44.2.2.1
    let b2_48 : Int := r_44.2.2.2.1
    let b2_49 : Int := r_44.2.2.2.2.1
    let b2_50 : Int := r_44.2.2.2.2.2.1
    let b2_51 : Int := r_44.2.2.2.2.2.2
    Option.bind (
      (bif t30_11.2.2.2.2.2.1 then
        some (b2_45, b2_46, b2_47, b2_48, b2_49, b2_50, (1 : Int))
      else
        some (b2_45, b2_46, b2_47, b2_48, b2_49, b2_50, b2_51))) fun r_52 =>
    let b2_53 : Int := r_52.1
    let b2_54 : Int := r_52.2.1
    let b2_55 : Int := r_52.2.2.1
    let b2_56 : Int := r_52.2.2.2.1
    let b2_57 : Int := r_52.2.2.2.2.1
    let b2_58 : Int := r_52.2.2.2.2.2.1
    let b2_59 : Int := r_52.2.2.2.2.2.2
    Option.bind (
      (bif t30_11.2.2.2.2.2.2 then
        some (b2_53, b2_54, b2_55, b2_56, (1 : Int), b2_58, b2_59)
      else
        some (b2_53, b2_54, b2_55, b2_56, b2_57, b2_58, b2_59))) fun r_60 =>
    let b2_61 : Int := r_60.1
    let b2_62 : Int := r_60.2.1
    let b2_63 : Int := r_60.2.2.1
    let b2_64 : Int := r_60.2.2.2.1
    let b2_65 : Int := r_60.2.2.2.2.1
    let b2_66 : Int := r_60.2.2.2.2.2.1
    let b2_67 : Int := r_60.2.2.2.2.2.2
    let t59_68 : (Int × (Int × (Int × (Int × (Int × (Int × (Int × Int))))))) := (r_1.1, (r_1.2.1, (r_1.2.2.1, (r_1.2.2.2.1.1, (r_1.2.2.2.1.2, (r_1.2.2.2.2.1, r_1.2.2.2.2.2.1))))))
    let t60_69 : (Int × (Int × (Int × (Int × (Int × (Int × Int)))))) := (b2_63, (b2_62, (b2_66, (b2_64, (b2_61, (b2_67, b2_65))))))
    (F_ref35_Of t59_68 t60_69).bind fun t61_70 =>
    (F_ref35_Right t61_70).bind fun t63_71 =>
    (bif (!t63_71) then
      let t69_72 : (Int × (Int × (Int × (Int × (Int × (Int × (Int × (Int × (Bool × (Bool × (Bool × (Bool × (Bool × (Bool × Bool)))))))))))))) := ((0 : Int), ((0 : Int), ((0 : Int), ((0 : Int), ((0 : Int), ((0 : Int), ((0 : Int), ((0 : Int), (false, (false, (false, (false, (false, (false, false))))))))))))))
      let t70_73 : Bool := (eqT (.agg (.pair (.int .i64) (.pair (.int .i64) (.pair (.int .i64) (.pair (.int .i64) (.pair (.int .i64) (.pair (.int .i64) (.pair (.int .i64) (.pair (.int .i64) (.agg (.pair .bool (.pair .bool (.pair .bool (.pair .bool (.pair .bool (.pair .bool .bool)))))))))))))))) t13_3.1 t69_72)
      let t71_74 : Bool := (bif (!t13_3.2) then t70_73 else false)
      some t71_74
    else
      (bif t13_3.2 then F_law35_ref t13_3.1 else some (((0 : Int), ((0 : Int), ((0 : Int), ((0 : Int), ((0 : Int), ((0 : Int), ((0 : Int), (0 : Int)))))))), ((0 : Int), ((0 : Int), ((0 : Int), ((0 : Int), ((0 : Int), ((0 : Int), (0 : Int))))))))).bind fun t75_75 =>
      let t77_76 : Bool := (eqT (.agg (.pair (.agg (.pair (.int .i64) (.pair (.int .i64) (.pair (.int .i64) (.pair (.int .i64) (.pair (.int .i64) (.pair (.int .i64) (.pair (.int .i64) (.int .i64))))))))) (.agg (.pair (.int .i64) (.pair (.int .i64) (.pair (.int .i64) (.pair (.int .i64) (.pair (.int .i64) (.pair (.int .i64) (.int .i64)))))))))) t75_75 t61_70)
      let t78_77 : Bool := (bif t13_3.2 then t77_76 else false)
      (bif t78_77 then F_packet_Packet_Right t13_3.1 else some false).bind fun t81_78 =>
      let t82_79 : Bool := (bif t78_77 then t81_78 else false)
      some t82_79))
noncomputable def con_F_law35_PacketOf : Con := { f := 3, ps := [.dat (.agg (.pair (.int .i64) (.pair (.int .i64) (.pair (.int .i64) (.pair (.agg (.pair (.int .i64) (.int .i64))) (.pair (.int .i64) (.pair (.agg (.pair (.int .i64) (.int .i64))) (.pair (.int .i64) (.pair (.int .i64) (.pair (.slice (.slice (.int .i64))) (.pair (.int .i64) (.pair .bool (.pair .bool (.pair (.agg (.pair (.int .i64) (.int .i64))) (.pair .bool (.pair .bool (.pair .bool (.pair .bool (.pair .bool (.pair (.agg (.pair (.int .i64) (.int .i64))) (.pair (.int .i64) (.pair (.agg (.pair (.agg (.pair (.int .i64) (.int .i64))) (.agg (.pair (.int .i64) (.int .i64))))) (.pair (.int .i64) (.pair (.int .i64) (.pair (.int .i64) (.int .i64))))))))))))))))))))))))))], boxes := [], ins := (.agg (.pair (.int .i64) (.pair (.int .i64) (.pair (.int .i64) (.pair (.agg (.pair (.int .i64) (.int .i64))) (.pair (.int .i64) (.pair (.agg (.pair (.int .i64) (.int .i64))) (.pair (.int .i64) (.pair (.int .i64) (.pair (.slice (.slice (.int .i64))) (.pair (.int .i64) (.pair .bool (.pair .bool (.pair (.agg (.pair (.int .i64) (.int .i64))) (.pair .bool (.pair .bool (.pair .bool (.pair .bool (.pair .bool (.pair (.agg (.pair (.int .i64) (.int .i64))) (.pair (.int .i64) (.pair (.agg (.pair (.agg (.pair (.int .i64) (.int .i64))) (.agg (.pair (.int .i64) (.int .i64))))) (.pair (.int .i64) (.pair (.int .i64) (.pair (.int .i64) (.int .i64)))))))))))))))))))))))))), nin := 1, outs := .bool, rs := [.dat .bool], nout := 1, F := fun x => F_law35_PacketOf x }
def hint_F_law35_PacketOf : Hint := (.mk .plain [H0, (.mk .plain [H0, (.mk .plain [H0, (.mk .plain [H0, (.mk .plain [(.mk .plain [H0, (.mk .plain [(.mk (.unroll 8) [(.mk .plain [H0, (.mk .plain [H0, (.mk .plain [(.mk .plain [(.mk .plain [H0, (.mk .plain [H0, (.mk (.join [(0, 36), (0, 37)] [(.normal, [⟨.cell 2 4, (.int .i64), none⟩, ⟨.cell 2 1, (.int .i64), none⟩, ⟨.cell 2 0, (.int .i64), none⟩, ⟨.cell 2 3, (.int .i64), none⟩, ⟨.cell 2 6, (.int .i64), none⟩, ⟨.cell 2 2, (.int .i64), none⟩, ⟨.cell 2 5, (.int .i64), none⟩])]) [])])])])])])])])])])])])])])])
theorem run_F_law35_PacketOf : runE ⟨tdGet tys, [con_F_law35_anchor, con_F_packet_Of, con_F_ref35_Of, con_F_ref35_Right, con_F_law35_ref, con_F_packet_Packet_Right], []⟩ con_F_law35_PacketOf Tryd.f3 hint_F_law35_PacketOf = con_F_law35_PacketOf.F := by
  funext x
  kernel_rfl
theorem ok_F_law35_PacketOf : ConOK Tryd.prog con_F_law35_PacketOf :=
  con_of_run (Γ := ⟨tdGet tys, [con_F_law35_anchor, con_F_packet_Of, con_F_ref35_Of, con_F_ref35_Right, con_F_law35_ref, con_F_packet_Packet_Right], []⟩) ⟨fun T d h => tysB_ok tys tys_ok T d h, by simp [ok_F_law35_anchor, ok_F_packet_Of, ok_F_ref35_Of, ok_F_ref35_Right, ok_F_law35_ref, ok_F_packet_Packet_Right], by simp []⟩ (by kernel_rfl) Tryd.func3 rfl (by kernel_rfl) run_F_law35_PacketOf
/-- odograph/odographlaw35.near -/
noncomputable def F_law35_near (a_1 : Int) (b_2 : Int) : Option Bool :=
  let t11_3 : Int := (IntKind.wrap .i64 (b_2 - a_1))
  let t12_4 : Bool := (decide (t11_3 < (1000 : Int)))
  let t13_5 : Bool := (bif (decide (a_1 ≤ b_2)) then t12_4 else false)
  some t13_5
noncomputable def con_F_law35_near : Con := { f := 14, ps := [.dat (.int .i64), .dat (.int .i64)], boxes := [], ins := (.pair (.int .i64) (.int .i64)), nin := 2, outs := .bool, rs := [.dat .bool], nout := 1, F := fun x => F_law35_near x.1 x.2 }
def hint_F_law35_near : Hint := H0
theorem run_F_law35_near : runE ⟨tdGet tys, [], []⟩ con_F_law35_near Tryd.f14 hint_F_law35_near = con_F_law35_near.F := by
  funext x
  kernel_rfl
theorem ok_F_law35_near : ConOK Tryd.prog con_F_law35_near :=
  con_of_run (Γ := ⟨tdGet tys, [], []⟩) ⟨fun T d h => tysB_ok tys tys_ok T d h, by simp [], by simp []⟩ (by kernel_rfl) Tryd.func14 rfl (by kernel_rfl) run_F_law35_near
/-- odograph/odographlaw35.PacketHolds -/
noncomputable def F_law35_PacketHolds (r_1 : (Int × (Int × (Int × ((Int × Int) × (Int × ((Int × Int) × (Int × (Int × ((List (List Int)) × (Int × (Bool × (Bool × ((Int × Int) × (Bool × (Bool × (Bool × (Bool × (Bool × ((Int × Int) × (Int × (((Int × Int) × (Int × Int)) × (Int × (Int × (Int × Int))))))))))))))))))))))))) : Option Bool :=
  (F_law35_anchor ()).bind fun t6_2 =>
  (bif (!t6_2) then
    some false
  else
    (F_packet_Of r_1).bind fun t10_3 =>
    (bif (!t10_3.2) then
      some true
    else
      (F_packet_Packet_Pos t10_3.1).bind fun t16_4 =>
      (F_law35_near t16_4.1 r_1.2.2.2.1.1).bind fun t22_5 =>
      (bif t22_5 then F_law35_near r_1.2.2.2.1.2 t16_4.2 else some false).bind fun t29_6 =>
      let t30_7 : Bool := (bif t22_5 then t29_6 else false)
      let t34_8 : Int := (IntKind.wrap .i64 ((1000 : Int) * t10_3.1.2.2.2.2.2.2.1))
      (bif t30_7 then F_law35_near t34_8 r_1.2.2.2.2.2.1.1 else some false).bind fun t38_9 =>
      let t39_10 : Bool := (bif t30_7 then t38_9 else false)
      let t46_11 : Int := (IntKind.wrap .i64 ((1000 : Int) * t10_3.1.2.2.2.2.2.2.2.1))
      (bif t39_10 then F_law35_near r_1.2.2.2.2.2.1.2 t46_11 else some false).bind fun t47_12 =>
      let t48_13 : Bool := (bif t39_10 then t47_12 else false)
      some t48_13))
noncomputable def con_F_law35_PacketHolds : Con := { f := 4, ps := [.dat (.agg (.pair (.int .i64) (.pair (.int .i64) (.pair (.int .i64) (.pair (.agg (.pair (.int .i64) (.int .i64))) (.pair (.int .i64) (.pair (.agg (.pair (.int .i64) (.int .i64))) (.pair (.int .i64) (.pair (.int .i64) (.pair (.slice (.slice (.int .i64))) (.pair (.int .i64) (.pair .bool (.pair .bool (.pair (.agg (.pair (.int .i64) (.int .i64))) (.pair .bool (.pair .bool (.pair .bool (.pair .bool (.pair .bool (.pair (.agg (.pair (.int .i64) (.int .i64))) (.pair (.int .i64) (.pair (.agg (.pair (.agg (.pair (.int .i64) (.int .i64))) (.agg (.pair (.int .i64) (.int .i64))))) (.pair (.int .i64) (.pair (.int .i64) (.pair (.int .i64) (.int .i64))))))))))))))))))))))))))], boxes := [], ins := (.agg (.pair (.int .i64) (.pair (.int .i64) (.pair (.int .i64) (.pair (.agg (.pair (.int .i64) (.int .i64))) (.pair (.int .i64) (.pair (.agg (.pair (.int .i64) (.int .i64))) (.pair (.int .i64) (.pair (.int .i64) (.pair (.slice (.slice (.int .i64))) (.pair (.int .i64) (.pair .bool (.pair .bool (.pair (.agg (.pair (.int .i64) (.int .i64))) (.pair .bool (.pair .bool (.pair .bool (.pair .bool (.pair .bool (.pair (.agg (.pair (.int .i64) (.int .i64))) (.pair (.int .i64) (.pair (.agg (.pair (.agg (.pair (.int .i64) (.int .i64))) (.agg (.pair (.int .i64) (.int .i64))))) (.pair (.int .i64) (.pair (.int .i64) (.pair (.int .i64) (.int .i64)))))))))))))))))))))))))), nin := 1, outs := .bool, rs := [.dat .bool], nout := 1, F := fun x => F_law35_PacketHolds x }
def hint_F_law35_PacketHolds : Hint := H0
theorem run_F_law35_PacketHolds : runE ⟨tdGet tys, [con_F_law35_anchor, con_F_packet_Of, con_F_packet_Packet_Pos, con_F_law35_near], []⟩ con_F_law35_PacketHolds Tryd.f4 hint_F_law35_PacketHolds = con_F_law35_PacketHolds.F := by
  funext x
  kernel_rfl
theorem ok_F_law35_PacketHolds : ConOK Tryd.prog con_F_law35_PacketHolds :=
  con_of_run (Γ := ⟨tdGet tys, [con_F_law35_anchor, con_F_packet_Of, con_F_packet_Packet_Pos, con_F_law35_near], []⟩) ⟨fun T d h => tysB_ok tys tys_ok T d h, by simp [ok_F_law35_anchor, ok_F_packet_Of, ok_F_packet_Packet_Pos, ok_F_law35_near], by simp []⟩ (by kernel_rfl) Tryd.func4 rfl (by kernel_rfl) run_F_law35_PacketHolds
/-- odograph/crc.more -/
noncomputable def F_crc_more (sum_1 : Int) (b_2 : Int) : Option Int :=
  let t8_3 : Int := (IntKind.wrap .u16 ((IntKind.wrap .u16 b_2) * 2 ^ 8))
  let t9_4 : Int := (bits .u16 .xor sum_1 t8_3)
  Option.bind (
    loopO (X := Int) (fun (s_5 : (Int × Int)) =>
      let t10_6 : Int := s_5.1
      let sum_7 : Int := s_5.2
      let t11_8 : Bool := (decide (t10_6 < (8 : Int)))
      (bif t11_8 then
        let t13_9 : Int := (bits .u16 .and sum_7 (32768 : Int))
        Option.bind (
          (bif (t13_9 != (0 : Int)) then
            let t16_10 : Int := (IntKind.wrap .u16 (sum_7 * 2 ^ 1))
            let t17_11 : Int := (bits .u16 .xor t16_10 (4129 : Int))
            some t17_11
          else
            let t19_12 : Int := (IntKind.wrap .u16 (sum_7 * 2 ^ 1))
            some t19_12)) fun r_13 =>
        let t20_14 : Int := (IntKind.wrap .i64 (t10_6 + (1 : Int)))
        some (.inl (t20_14, r_13))
      else
        some (.inr sum_7))) ((0 : Int), t9_4)) fun r_15 =>
  some r_15
noncomputable def con_F_crc_more : Con := { f := 47, ps := [.dat (.int .u16), .dat (.int .u8)], boxes := [], ins := (.pair (.int .u16) (.int .u8)), nin := 2, outs := (.int .u16), rs := [.dat (.int .u16)], nout := 1, F := fun x => F_crc_more x.1 x.2 }
def hint_F_crc_more : Hint := (.mk .plain [H0, (.mk .plain [H0, (.mk .plain [(.mk .plain [H0, (.mk .plain [(.mk (.loop [⟨.slot 10, (.int .i64), none⟩, ⟨.slot 0, (.int .u16), none⟩] [(0, 20), (0, 16), (0, 13), (0, 19), (0, 12), (0, 15), (0, 18), (0, 14), (0, 11), (0, 17)] [(.exit 0, [⟨.slot 0, (.int .u16), none⟩])]) [(.mk .plain [H0, (.mk .plain [H0, (.mk .plain [(.mk .plain [(.mk .plain [H0, (.mk (.join [(0, 15), (0, 16), (0, 17), (0, 18), (0, 19)] [(.normal, [⟨.slot 0, (.int .u16), none⟩])]) [])])])])])])])])])])])])
theorem run_F_crc_more : runE ⟨tdGet tys, [], []⟩ con_F_crc_more Tryd.f47 hint_F_crc_more = con_F_crc_more.F := by
  funext x
  kernel_rfl
theorem ok_F_crc_more : ConOK Tryd.prog con_F_crc_more :=
  con_of_run (Γ := ⟨tdGet tys, [], []⟩) ⟨fun T d h => tysB_ok tys tys_ok T d h, by simp [], by simp []⟩ (by kernel_rfl) Tryd.func47 rfl (by kernel_rfl) run_F_crc_more
/-- odograph/crc.Go -/
noncomputable def F_crc_Go (sum_1 : Int) (b_2 : (List Int)) : Option Int :=
  Option.bind (
    loopO (X := Int) (fun (s_3 : (Int × Int)) =>
      let sum_4 : Int := s_3.1
      let t9_5 : Int := s_3.2
      let t10_6 : Bool := (decide (t9_5 < (b_2.length : Int)))
      (bif t10_6 then
        chk none ((decide ((0 : Int) ≤ t9_5)) && (decide (t9_5 < (b_2.length : Int)))) <|
        let t12_7 : Int := (b_2.getD t9_5.toNat (0 : Int))
        (F_crc_more sum_4 t12_7).bind fun t15_8 =>
        let t16_9 : Int := (IntKind.wrap .i64 (t9_5 + (1 : Int)))
        some (.inl (t15_8, t16_9))
      else
        some (.inr sum_4))) (sum_1, (0 : Int))) fun r_10 =>
  some r_10
noncomputable def con_F_crc_Go : Con := { f := 44, ps := [.dat (.int .u16), .dat (.slice (.int .u8))], boxes := [], ins := (.pair (.int .u16) (.slice (.int .u8))), nin := 2, outs := (.int .u16), rs := [.dat (.int .u16)], nout := 1, F := fun x => F_crc_Go x.1 x.2 }
def hint_F_crc_Go : Hint := (.mk .plain [H0, (.mk .plain [(.mk .plain [H0, (.mk .plain [(.mk (.loop [⟨.slot 0, (.int .u16), none⟩, ⟨.slot 9, (.int .i64), none⟩] [(0, 10), (0, 16), (0, 13), (0, 6), (0, 12), (0, 15), (0, 14), (0, 11)] [(.exit 0, [⟨.slot 0, (.int .u16), none⟩])]) [])])])])])
theorem run_F_crc_Go : runE ⟨tdGet tys, [con_F_crc_more], []⟩ con_F_crc_Go Tryd.f44 hint_F_crc_Go = con_F_crc_Go.F := by
  funext x
  kernel_rfl
theorem ok_F_crc_Go : ConOK Tryd.prog con_F_crc_Go :=
  con_of_run (Γ := ⟨tdGet tys, [con_F_crc_more], []⟩) ⟨fun T d h => tysB_ok tys tys_ok T d h, by simp [ok_F_crc_more], by simp []⟩ (by kernel_rfl) Tryd.func44 rfl (by kernel_rfl) run_F_crc_Go
/-- odograph/crc.Sum -/
noncomputable def F_crc_Sum (b_1 : (List Int)) : Option Int :=
  (F_crc_Go (65535 : Int) b_1).bind fun t4_2 =>
  some t4_2
noncomputable def con_F_crc_Sum : Con := { f := 30, ps := [.dat (.slice (.int .u8))], boxes := [], ins := (.slice (.int .u8)), nin := 1, outs := (.int .u16), rs := [.dat (.int .u16)], nout := 1, F := fun x => F_crc_Sum x }
def hint_F_crc_Sum : Hint := H0
theorem run_F_crc_Sum : runE ⟨tdGet tys, [con_F_crc_Go], []⟩ con_F_crc_Sum Tryd.f30 hint_F_crc_Sum = con_F_crc_Sum.F := by
  funext x
  kernel_rfl
theorem ok_F_crc_Sum : ConOK Tryd.prog con_F_crc_Sum :=
  con_of_run (Γ := ⟨tdGet tys, [con_F_crc_Go], []⟩) ⟨fun T d h => tysB_ok tys tys_ok T d h, by simp [ok_F_crc_Go], by simp []⟩ (by kernel_rfl) Tryd.func30 rfl (by kernel_rfl) run_F_crc_Sum
end Go.Proofs.YtdiebciejcmmhaaDoor
