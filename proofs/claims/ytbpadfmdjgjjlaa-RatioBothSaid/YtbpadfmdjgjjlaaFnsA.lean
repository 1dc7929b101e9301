/- The functional reading of the code (printed). -/
import Derived.Test.YtbpadfmdjgjjlaaTysA
set_option linter.unusedSimpArgs false
set_option linter.unusedVariables false
namespace Go.Proofs.Ytbpadfmdjgjjlaa
open Go
/-- (odograph/wide.U).Shl -/
noncomputable def F_wide_U_Shl (x_1 : (Int × Int)) (n_2 : Int) : Option (Int × Int) :=
  let t7_3 : Bool := (decide (n_2 ≤ (0 : Int)))
  (bif t7_3 then
    some x_1
  else
    let t11_4 : Bool := (decide ((64 : Int) ≤ n_2))
    (bif t11_4 then
      let t15_5 : Int := (IntKind.wrap .i64 (n_2 - (64 : Int)))
      let t16_6 : Int := (IntKind.wrap .u64 t15_5)
      chk none (decide ((0 : Int) ≤ t16_6)) <|
      let t17_7 : Int := (IntKind.wrap .u64 (x_1.2 * 2 ^ (min t16_6.toNat 64)))
      let w_8 : (Int × Int) := (t17_7, (0 : Int))
      some w_8
    else
      chk none (decide ((0 : Int) ≤ (IntKind.wrap .u64 n_2))) <|
      let t23_9 : Int := (IntKind.wrap .u64 (x_1.1 * 2 ^ (min (IntKind.wrap .u64 n_2).toNat 64)))
      let t27_10 : Int := (IntKind.wrap .i64 ((64 : Int) - n_2))
      let t28_11 : Int := (IntKind.wrap .u64 t27_10)
      chk none (decide ((0 : Int) ≤ t28_11)) <|
      let t29_12 : Int := (x_1.2.fdiv (2 ^ (min t28_11.toNat 64)))
      let t30_13 : Int := (bits .u64 .or t23_9 t29_12)
      chk none (decide ((0 : Int) ≤ (IntKind.wrap .u64 n_2))) <|
      let t35_14 : Int := (IntKind.wrap .u64 (x_1.2 * 2 ^ (min (IntKind.wrap .u64 n_2).toNat 64)))
      let w_15 : (Int × Int) := (t30_13, t35_14)
      some w_15))
noncomputable def con_F_wide_U_Shl : Con := { f := 31, ps := [.dat (.agg (.pair (.int .u64) (.int .u64))), .dat (.int .i64)], boxes := [], ins := (.pair (.agg (.pair (.int .u64) (.int .u64))) (.int .i64)), nin := 2, outs := (.agg (.pair (.int .u64) (.int .u64))), rs := [.dat (.agg (.pair (.int .u64) (.int .u64)))], nout := 1, F := fun x => F_wide_U_Shl x.1 x.2 }
def hint_F_wide_U_Shl : Hint := H0
theorem run_F_wide_U_Shl : runE ⟨tdGet tys, []⟩ con_F_wide_U_Shl Try.f31 hint_F_wide_U_Shl = con_F_wide_U_Shl.F := by
  funext x
  kernel_rfl
theorem ok_F_wide_U_Shl : ConOK Try.prog con_F_wide_U_Shl :=
  con_of_run (Γ := ⟨tdGet tys, []⟩) ⟨fun T d h => tysB_ok tys tys_ok T d h, by simp []⟩ (by kernel_rfl) Try.func31 rfl (by kernel_rfl) run_F_wide_U_Shl
/-- (odograph/wide.U).Shr -/
noncomputable def F_wide_U_Shr (x_1 : (Int × Int)) (n_2 : Int) : Option (Int × Int) :=
  let t7_3 : Bool := (decide (n_2 ≤ (0 : Int)))
  (bif t7_3 then
    some x_1
  else
    let t11_4 : Bool := (decide ((64 : Int) ≤ n_2))
    (bif t11_4 then
      let t15_5 : Int := (IntKind.wrap .i64 (n_2 - (64 : Int)))
      let t16_6 : Int := (IntKind.wrap .u64 t15_5)
      chk none (decide ((0 : Int) ≤ t16_6)) <|
      let t17_7 : Int := (x_1.1.fdiv (2 ^ (min t16_6.toNat 64)))
      let w_8 : (Int × Int) := ((0 : Int), t17_7)
      some w_8
    else
      chk none (decide ((0 : Int) ≤ (IntKind.wrap .u64 n_2))) <|
      let t23_9 : Int := (x_1.1.fdiv (2 ^ (min (IntKind.wrap .u64 n_2).toNat 64)))
      chk none (decide ((0 : Int) ≤ (IntKind.wrap .u64 n_2))) <|
      let t28_10 : Int := (x_1.2.fdiv (2 ^ (min (IntKind.wrap .u64 n_2).toNat 64)))
      let t32_11 : Int := (IntKind.wrap .i64 ((64 : Int) - n_2))
      let t33_12 : Int := (IntKind.wrap .u64 t32_11)
      chk none (decide ((0 : Int) ≤ t33_12)) <|
      let t34_13 : Int := (IntKind.wrap .u64 (x_1.1 * 2 ^ (min t33_12.toNat 64)))
      let t35_14 : Int := (bits .u64 .or t28_10 t34_13)
      let w_15 : (Int × Int) := (t23_9, t35_14)
      some w_15))
noncomputable def con_F_wide_U_Shr : Con := { f := 32, ps := [.dat (.agg (.pair (.int .u64) (.int .u64))), .dat (.int .i64)], boxes := [], ins := (.pair (.agg (.pair (.int .u64) (.int .u64))) (.int .i64)), nin := 2, outs := (.agg (.pair (.int .u64) (.int .u64))), rs := [.dat (.agg (.pair (.int .u64) (.int .u64)))], nout := 1, F := fun x => F_wide_U_Shr x.1 x.2 }
def hint_F_wide_U_Shr : Hint := H0
theorem run_F_wide_U_Shr : runE ⟨tdGet tys, []⟩ con_F_wide_U_Shr Try.f32 hint_F_wide_U_Shr = con_F_wide_U_Shr.F := by
  funext x
  kernel_rfl
theorem ok_F_wide_U_Shr : ConOK Try.prog con_F_wide_U_Shr :=
  con_of_run (Γ := ⟨tdGet tys, []⟩) ⟨fun T d h => tysB_ok tys tys_ok T d h, by simp []⟩ (by kernel_rfl) Try.func32 rfl (by kernel_rfl) run_F_wide_U_Shr
/-- (odograph/wide.U).Cmp -/
noncomputable def F_wide_U_Cmp (x_1 : (Int × Int)) (y_2 : (Int × Int)) : Option Int :=
  let t8_3 : Bool := (eqT (.agg (.pair (.int .u64) (.int .u64))) x_1 y_2)
  (bif t8_3 then
    some (0 : Int)
  else
    let t27_4 : Bool := (bif (x_1.1 == y_2.1) then (decide (x_1.2 < y_2.2)) else false)
    let t28_5 : Bool := (bif (decide (x_1.1 < y_2.1)) then true else t27_4)
    (bif t28_5 then
      some (-1 : Int)
    else
      some (1 : Int)))
noncomputable def con_F_wide_U_Cmp : Con := { f := 36, ps := [.dat (.agg (.pair (.int .u64) (.int .u64))), .dat (.agg (.pair (.int .u64) (.int .u64)))], boxes := [], ins := (.pair (.agg (.pair (.int .u64) (.int .u64))) (.agg (.pair (.int .u64) (.int .u64)))), nin := 2, outs := (.int .i64), rs := [.dat (.int .i64)], nout := 1, F := fun x => F_wide_U_Cmp x.1 x.2 }
def hint_F_wide_U_Cmp : Hint := H0
theorem run_F_wide_U_Cmp : runE ⟨tdGet tys, []⟩ con_F_wide_U_Cmp Try.f36 hint_F_wide_U_Cmp = con_F_wide_U_Cmp.F := by
  funext x
  kernel_rfl
theorem ok_F_wide_U_Cmp : ConOK Try.prog con_F_wide_U_Cmp :=
  con_of_run (Γ := ⟨tdGet tys, []⟩) ⟨fun T d h => tysB_ok tys tys_ok T d h, by simp []⟩ (by kernel_rfl) Try.func36 rfl (by kernel_rfl) run_F_wide_U_Cmp
/-- (odograph/wide.U).Sub -/
noncomputable def F_wide_U_Sub (x_1 : (Int × Int)) (y_2 : (Int × Int)) : Option ((Int × Int) × Bool) :=
  let t11_3 : Int := (IntKind.wrap .u64 (x_1.1 - y_2.1))
  let t16_4 : Int := (IntKind.wrap .u64 (x_1.2 - y_2.2))
  let w_5 : (Int × Int) := (t11_3, t16_4)
  Option.bind (
    (bif (decide (x_1.2 < y_2.2)) then
      let t25_6 : Int := (IntKind.wrap .u64 (w_5.1 - (1 : Int)))
      some t25_6
    else
      some w_5.1)) fun r_7 =>
  (F_wide_U_Cmp x_1 y_2).bind fun t30_8 =>
  let t31_9 : Bool := (decide (t30_8 < (0 : Int)))
  let w_10 : (Int × Int) := (r_7, w_5.2)
  some (w_10, t31_9)
noncomputable def con_F_wide_U_Sub : Con := { f := 35, ps := [.dat (.agg (.pair (.int .u64) (.int .u64))), .dat (.agg (.pair (.int .u64) (.int .u64)))], boxes := [], ins := (.pair (.agg (.pair (.int .u64) (.int .u64))) (.agg (.pair (.int .u64) (.int .u64)))), nin := 2, outs := (.pair (.agg (.pair (.int .u64) (.int .u64))) .bool), rs := [.dat (.agg (.pair (.int .u64) (.int .u64))), .dat .bool], nout := 2, F := fun x => F_wide_U_Sub x.1 x.2 }
def hint_F_wide_U_Sub : Hint := (.mk .plain [H0, (.mk .plain [H0, (.mk .plain [(.mk .plain [H0, (.mk (.join [(0, 23), (0, 25), (0, 26), (0, 24)] [(.normal, [⟨.cell 3 0, (.int .u64), none⟩])]) [])])])])])
theorem run_F_wide_U_Sub : runE ⟨tdGet tys, [con_F_wide_U_Cmp]⟩ con_F_wide_U_Sub Try.f35 hint_F_wide_U_Sub = con_F_wide_U_Sub.F := by
  funext x
  kernel_rfl
theorem ok_F_wide_U_Sub : ConOK Try.prog con_F_wide_U_Sub :=
  con_of_run (Γ := ⟨tdGet tys, [con_F_wide_U_Cmp]⟩) ⟨fun T d h => tysB_ok tys tys_ok T d h, by simp [ok_F_wide_U_Cmp]⟩ (by kernel_rfl) Try.func35 rfl (by kernel_rfl) run_F_wide_U_Sub
/-- (odograph/wide.U).Div -/
noncomputable def F_wide_U_Div (x_1 : (Int × Int)) (d_2 : Int) : Option ((Int × Int) × (Int × Int)) :=
  (bif (d_2 == (0 : Int)) then
    let w_3 : (Int × Int) := ((0 : Int), (0 : Int))
    some (w_3, (0 : Int), (21 : Int))
  else
    let w_4 : (Int × Int) := ((0 : Int), (0 : Int))
    Option.bind (
      loopO (X := (Int × (Int × (Int × Int)))) (fun (s_5 : (Int × (Int × (Int × (Int × Int))))) =>
        let b3_6 : Int := s_5.1
        let b2_7 : Int := s_5.2.1
        let b2_8 : Int := s_5.2.2.1
        let b3_9 : Int := s_5.2.2.2.1
        let i_10 : Int := s_5.2.2.2.2
        let t15_11 : Bool := (decide ((0 : Int) ≤ i_10))
        (bif t15_11 then
          (F_wide_U_Shl (b3_6, b3_9) (1 : Int)).bind fun t19_12 =>
          (F_wide_U_Shr x_1 i_10).bind fun t24_13 =>
          let t26_14 : Int := (bits .u64 .and t24_13.2 (1 : Int))
          let t27_15 : Int := (bits .u64 .or t19_12.2 t26_14)
          (F_wide_U_Shl (b2_8, b2_7) (1 : Int)).bind fun t30_16 =>
          (F_wide_U_Cmp (t19_12.1, t27_15) ((0 : Int), d_2)).bind fun t34_17 =>
          let t35_18 : Bool := (decide ((0 : Int) ≤ t34_17))
          Option.bind (
            (bif t35_18 then
              (F_wide_U_Sub (t19_12.1, t27_15) ((0 : Int), d_2)).bind fun t40_19 =>
              let t45_20 : Int := (bits .u64 .or t30_16.2 (1 : Int))
              some (t40_19.1.1, t45_20, t40_19.1.2)
            else
              some (t19_12.1, t30_16.2, t27_15))) fun r_21 =>
          let b3_22 : Int := r_21.1
          let b2_23 : Int := r_21.2.1
          let b3_24 : Int := r_21.2.2
          let t17_25 : Int := (IntKind.wrap .i64 (i_10 - (1 : Int)))
          some (.inl (b3_22, b2_23, t30_16.1, b3_24, t17_25))
        else
          some (.inr (b3_6, b2_7, b2_8, b3_9)))) (w_4.1, (0 : Int), (0 : Int), w_4.2, (127 : Int))) fun r_26 =>
    let b3_27 : Int := r_26.1
    let b2_28 : Int := r_26.2.1
    let b2_29 : Int := r_26.2.2.1
    let b3_30 : Int := r_26.2.2.2
    let w_31 : (Int × Int) := (b2_29, b2_28)
    some (w_31, b3_30, (0 : Int)))
noncomputable def con_F_wide_U_Div : Con := { f := 23, ps := [.dat (.agg (.pair (.int .u64) (.int .u64))), .dat (.int .u64)], boxes := [], ins := (.pair (.agg (.pair (.int .u64) (.int .u64))) (.int .u64)), nin := 2, outs := (.pair (.agg (.pair (.int .u64) (.int .u64))) (.pair (.int .u64) (.int .i64))), rs := [.dat (.agg (.pair (.int .u64) (.int .u64))), .dat (.int .u64), .dat (.int .i64)], nout := 3, F := fun x => F_wide_U_Div x.1 x.2 }
def hint_F_wide_U_Div : Hint := (.mk .plain [H0, (.mk .plain [H0, (.mk .plain [H0, (.mk .plain [H0, (.mk .plain [(.mk .plain [H0, (.mk .plain [(.mk (.loop [⟨.cell 3 0, (.int .u64), none⟩, ⟨.cell 2 1, (.int .u64), none⟩, ⟨.cell 2 0, (.int .u64), none⟩, ⟨.cell 3 1, (.int .u64), none⟩, ⟨.slot 9, (.int .i64), none⟩] [(0, 30), (0, 36), (0, 42), (0, 39), (0, 45), (0, 14), (0, 17), (0, 23), (0, 20), (0, 26), (0, 29), (0, 35), (0, 32), (0, 38), (0, 41), (0, 44), (0, 16), (0, 19), (0, 22), (0, 28), (0, 25), (0, 31), (0, 34), (0, 40), (0, 37), (0, 43), (0, 46), (0, 15), (0, 21), (0, 18), (0, 24), (0, 27), (0, 33)] [(.exit 0, [⟨.cell 3 0, (.int .u64), none⟩, ⟨.cell 2 1, (.int .u64), none⟩, ⟨.cell 2 0, (.int .u64), none⟩, ⟨.cell 3 1, (.int .u64), none⟩])]) [(.mk .plain [H0, (.mk .plain [(.mk .plain [(.mk .plain [H0, (.mk .plain [H0, (.mk .plain [H0, (.mk .plain [H0, (.mk (.join [(0, 46), (0, 36), (0, 42), (0, 43), (0, 39), (0, 45), (0, 38), (0, 41), (0, 44), (0, 40), (0, 37)] [(.normal, [⟨.cell 3 0, (.int .u64), none⟩, ⟨.cell 2 1, (.int .u64), none⟩, ⟨.cell 3 1, (.int .u64), none⟩])]) [])])])])])])])])])])])])])])])])
theorem run_F_wide_U_Div : runE ⟨tdGet tys, [con_F_wide_U_Shl, con_F_wide_U_Shr, con_F_wide_U_Cmp, con_F_wide_U_Sub]⟩ con_F_wide_U_Div Try.f23 hint_F_wide_U_Div = con_F_wide_U_Div.F := by
  funext x
  kernel_rfl
theorem ok_F_wide_U_Div : ConOK Try.prog con_F_wide_U_Div :=
  con_of_run (Γ := ⟨tdGet tys, [con_F_wide_U_Shl, con_F_wide_U_Shr, con_F_wide_U_Cmp, con_F_wide_U_Sub]⟩) ⟨fun T d h => tysB_ok tys tys_ok T d h, by simp [ok_F_wide_U_Shl, ok_F_wide_U_Shr, ok_F_wide_U_Cmp, ok_F_wide_U_Sub]⟩ (by kernel_rfl) Try.func23 rfl (by kernel_rfl) run_F_wide_U_Div
/-- odograph/wide.Mul -/
noncomputable def F_wide_Mul (a_1 : Int) (b_2 : Int) : Option (Int × Int) :=
  let t15_3 : Int := (bits .u64 .and a_1 (4294967295 : Int))
  let t19_4 : Int := (bits .u64 .and b_2 (4294967295 : Int))
  let t22_5 : Int := (IntKind.wrap .u64 (t15_3 * t19_4))
  let t25_6 : Int := (IntKind.wrap .u64 ((a_1.fdiv (2 ^ 32)) * t19_4))
  let t28_7 : Int := (IntKind.wrap .u64 (t25_6 + (t22_5.fdiv (2 ^ 32))))
  let t31_8 : Int := (IntKind.wrap .u64 (t15_3 * (b_2.fdiv (2 ^ 32))))
  let t33_9 : Int := (bits .u64 .and t28_7 (4294967295 : Int))
  let t34_10 : Int := (IntKind.wrap .u64 (t31_8 + t33_9))
  let t37_11 : Int := (IntKind.wrap .u64 ((a_1.fdiv (2 ^ 32)) * (b_2.fdiv (2 ^ 32))))
  let t40_12 : Int := (IntKind.wrap .u64 (t37_11 + (t28_7.fdiv (2 ^ 32))))
  let t43_13 : Int := (IntKind.wrap .u64 (t40_12 + (t34_10.fdiv (2 ^ 32))))
  let t45_14 : Int := (IntKind.wrap .u64 (t34_10 * 2 ^ 32))
  let t47_15 : Int := (bits .u64 .and t22_5 (4294967295 : Int))
  let t48_16 : Int := (bits .u64 .or t45_14 t47_15)
  let w_17 : (Int × Int) := (t43_13, t48_16)
  some w_17
noncomputable def con_F_wide_Mul : Con := { f := 21, ps := [.dat (.int .u64), .dat (.int .u64)], boxes := [], ins := (.pair (.int .u64) (.int .u64)), nin := 2, outs := (.agg (.pair (.int .u64) (.int .u64))), rs := [.dat (.agg (.pair (.int .u64) (.int .u64)))], nout := 1, F := fun x => F_wide_Mul x.1 x.2 }
def hint_F_wide_Mul : Hint := H0
theorem run_F_wide_Mul : runE ⟨tdGet tys, []⟩ con_F_wide_Mul Try.f21 hint_F_wide_Mul = con_F_wide_Mul.F := by
  funext x
  kernel_rfl
theorem ok_F_wide_Mul : ConOK Try.prog con_F_wide_Mul :=
  con_of_run (Γ := ⟨tdGet tys, []⟩) ⟨fun T d h => tysB_ok tys tys_ok T d h, by simp []⟩ (by kernel_rfl) Try.func21 rfl (by kernel_rfl) run_F_wide_Mul
/-- (odograph/wide.U).Root -/
noncomputable def F_wide_U_Root (x_1 : (Int × Int)) : Option Int :=
  Option.bind (
    loopO (X := Int) (fun (s_2 : (Int × Int)) =>
      let i_3 : Int := s_2.1
      let r_4 : Int := s_2.2
      let t7_5 : Bool := (decide ((0 : Int) ≤ i_3))
      (bif t7_5 then
        chk none (decide ((0 : Int) ≤ (IntKind.wrap .u64 i_3))) <|
        let t13_6 : Int := (IntKind.wrap .u64 ((1 : Int) * 2 ^ (min (IntKind.wrap .u64 i_3).toNat 64)))
        let t14_7 : Int := (bits .u64 .or r_4 t13_6)
        (F_wide_Mul t14_7 t14_7).bind fun t17_8 =>
        (F_wide_U_Cmp t17_8 x_1).bind fun t19_9 =>
        let t20_10 : Bool := (decide (t19_9 ≤ (0 : Int)))
        Option.bind (
          (bif t20_10 then
            some t14_7
          else
            some r_4)) fun r_11 =>
        let t9_12 : Int := (IntKind.wrap .i64 (i_3 - (1 : Int)))
        some (.inl (t9_12, r_11))
      else
        some (.inr r_4))) ((63 : Int), (0 : Int))) fun r_13 =>
  some r_13
noncomputable def con_F_wide_U_Root : Con := { f := 28, ps := [.dat (.agg (.pair (.int .u64) (.int .u64)))], boxes := [], ins := (.agg (.pair (.int .u64) (.int .u64))), nin := 1, outs := (.int .u64), rs := [.dat (.int .u64)], nout := 1, F := fun x => F_wide_U_Root x }
def hint_F_wide_U_Root : Hint := (.mk .plain [H0, (.mk .plain [H0, (.mk .plain [(.mk .plain [H0, (.mk .plain [(.mk (.loop [⟨.slot 4, (.int .i64), none⟩, ⟨.slot 3, (.int .u64), none⟩] [(0, 7), (0, 10), (0, 16), (0, 13), (0, 19), (0, 5), (0, 8), (0, 14), (0, 11), (0, 17), (0, 20), (0, 9), (0, 6), (0, 12), (0, 15), (0, 21), (0, 18)] [(.exit 0, [⟨.slot 3, (.int .u64), none⟩])]) [(.mk .plain [H0, (.mk .plain [(.mk .plain [(.mk .plain [H0, (.mk .plain [H0, (.mk (.join [(0, 21)] [(.normal, [⟨.slot 3, (.int .u64), none⟩])]) [])])])])])])])])])])])])
theorem run_F_wide_U_Root : runE ⟨tdGet tys, [con_F_wide_Mul, con_F_wide_U_Cmp]⟩ con_F_wide_U_Root Try.f28 hint_F_wide_U_Root = con_F_wide_U_Root.F := by
  funext x
  kernel_rfl
theorem ok_F_wide_U_Root : ConOK Try.prog con_F_wide_U_Root :=
  con_of_run (Γ := ⟨tdGet tys, [con_F_wide_Mul, con_F_wide_U_Cmp]⟩) ⟨fun T d h => tysB_ok tys tys_ok T d h, by simp [ok_F_wide_Mul, ok_F_wide_U_Cmp]⟩ (by kernel_rfl) Try.func28 rfl (by kernel_rfl) run_F_wide_U_Root
/-- odograph/odographlaw02.anchor -/
noncomputable def F_law02_anchor (_ : Unit) : Option Bool :=
  (F_wide_U_Div ((1 : Int), (0 : Int)) (3 : Int)).bind fun t6_1 =>
  (F_wide_U_Root ((1 : Int), (0 : Int))).bind fun t11_2 =>
  let t12_3 : Bool := (t11_2 == (4294967296 : Int))
  let t15_4 : (Int × Int) := ((0 : Int), (6148914691236517205 : Int))
  let t16_5 : Bool := (eqT (.agg (.pair (.int .u64) (.int .u64))) t6_1.1 t15_4)
  let t17_6 : Bool := (bif t12_3 then t16_5 else false)
  let t21_7 : Bool := (bif t17_6 then (t6_1.2.1 == (1 : Int)) else false)
  let t25_8 : Bool := (bif t21_7 then (t6_1.2.2 == (0 : Int)) else false)
  some t25_8
noncomputable def con_F_law02_anchor : Con := { f := 19, ps := [], boxes := [], ins := .unit, nin := 0, outs := .bool, rs := [.dat .bool], nout := 1, F := fun x => F_law02_anchor () }
def hint_F_law02_anchor : Hint := H0
theorem run_F_law02_anchor : runE ⟨tdGet tys, [con_F_wide_U_Div, con_F_wide_U_Root]⟩ con_F_law02_anchor Try.f19 hint_F_law02_anchor = con_F_law02_anchor.F := by
  funext x
  kernel_rfl
theorem ok_F_law02_anchor : ConOK Try.prog con_F_law02_anchor :=
  con_of_run (Γ := ⟨tdGet tys, [con_F_wide_U_Div, con_F_wide_U_Root]⟩) ⟨fun T d h => tysB_ok tys tys_ok T d h, by simp [ok_F_wide_U_Div, ok_F_wide_U_Root]⟩ (by kernel_rfl) Try.func19 rfl (by kernel_rfl) run_F_law02_anchor
/-- odograph/odographlaw02.WideBack -/
noncomputable def F_law02_WideBack (a_1 : Int) (b_2 : Int) : Option Bool :=
  (F_law02_anchor ()).bind fun t9_3 =>
  (bif (!t9_3) then
    some false
  else
    (F_wide_Mul a_1 b_2).bind fun t13_4 =>
    (F_wide_Mul a_1 a_1).bind fun t16_5 =>
    (F_wide_U_Root t16_5).bind fun t17_6 =>
    (bif !(t17_6 != a_1) then F_wide_Mul b_2 a_1 else some ((0 : Int), (0 : Int))).bind fun t23_7 =>
    let t25_8 : Bool := (!(eqT (.agg (.pair (.int .u64) (.int .u64))) t23_7 t13_4))
    let t26_9 : Bool := (bif (t17_6 != a_1) then true else t25_8)
    (bif t26_9 then
      some false
    else
      (bif (b_2 == (0 : Int)) then
        let t31_10 : Bool := (eqT (.agg (.pair (.int .u64) (.int .u64))) t13_4 ((0 : Int), (0 : Int)))
        some t31_10
      else
        (F_wide_U_Div t13_4 b_2).bind fun t35_11 =>
        let t40_12 : Bool := (t35_11.2.2 == (0 : Int))
        let t45_13 : Bool := (eqT (.agg (.pair (.int .u64) (.int .u64))) t35_11.1 ((0 : Int), a_1))
        let t46_14 : Bool := (bif t40_12 then t45_13 else false)
        let t49_15 : Bool := (t35_11.2.1 == (0 : Int))
        let t50_16 : Bool := (bif t46_14 then t49_15 else false)
        some t50_16)))
noncomputable def con_F_law02_WideBack : Con := { f := 6, ps := [.dat (.int .u64), .dat (.int .u64)], boxes := [], ins := (.pair (.int .u64) (.int .u64)), nin := 2, outs := .bool, rs := [.dat .bool], nout := 1, F := fun x => F_law02_WideBack x.1 x.2 }
def hint_F_law02_WideBack : Hint := H0
theorem run_F_law02_WideBack : runE ⟨tdGet tys, [con_F_law02_anchor, con_F_wide_Mul, con_F_wide_U_Root, con_F_wide_U_Div]⟩ con_F_law02_WideBack Try.f6 hint_F_law02_WideBack = con_F_law02_WideBack.F := by
  funext x
  kernel_rfl
theorem ok_F_law02_WideBack : ConOK Try.prog con_F_law02_WideBack :=
  con_of_run (Γ := ⟨tdGet tys, [con_F_law02_anchor, con_F_wide_Mul, con_F_wide_U_Root, con_F_wide_U_Div]⟩) ⟨fun T d h => tysB_ok tys tys_ok T d h, by simp [ok_F_law02_anchor, ok_F_wide_Mul, ok_F_wide_U_Root, ok_F_wide_U_Div]⟩ (by kernel_rfl) Try.func6 rfl (by kernel_rfl) run_F_law02_WideBack
/-- (odograph/wide.U).Len -/
noncomputable def F_wide_U_Len (x_1 : (Int × Int)) : Option Int :=
  Option.bind (
    loopO (X := Int) (fun (s_2 : (Int × (Int × Int))) =>
      let b0_3 : Int := s_2.1
      let n_4 : Int := s_2.2.1
      let b0_5 : Int := s_2.2.2
      let t6_6 : Bool := (!(eqT (.agg (.pair (.int .u64) (.int .u64))) (b0_5, b0_3) ((0 : Int), (0 : Int))))
      (bif t6_6 then
        (F_wide_U_Shr (b0_5, b0_3) (1 : Int)).bind fun t8_7 =>
        let t10_8 : Int := (IntKind.wrap .i64 (n_4 + (1 : Int)))
        some (.inl (t8_7.2, t10_8, t8_7.1))
      else
        some (.inr n_4))) (x_1.2, (0 : Int), x_1.1)) fun r_9 =>
  some r_9
noncomputable def con_F_wide_U_Len : Con := { f := 30, ps := [.dat (.agg (.pair (.int .u64) (.int .u64)))], boxes := [], ins := (.agg (.pair (.int .u64) (.int .u64))), nin := 1, outs := (.int .i64), rs := [.dat (.int .i64)], nout := 1, F := fun x => F_wide_U_Len x }
def hint_F_wide_U_Len : Hint := (.mk .plain [H0, (.mk .plain [H0, (.mk .plain [(.mk .plain [(.mk (.loop [⟨.cell 0 1, (.int .u64), none⟩, ⟨.slot 3, (.int .i64), none⟩, ⟨.cell 0 0, (.int .u64), none⟩] [(0, 7), (0, 4), (0, 10), (0, 9), (0, 6), (0, 5), (0, 8)] [(.exit 0, [⟨.slot 3, (.int .i64), none⟩])]) [])])])])])
theorem run_F_wide_U_Len : runE ⟨tdGet tys, [con_F_wide_U_Shr]⟩ con_F_wide_U_Len Try.f30 hint_F_wide_U_Len = con_F_wide_U_Len.F := by
  funext x
  kernel_rfl
theorem ok_F_wide_U_Len : ConOK Try.prog con_F_wide_U_Len :=
  con_of_run (Γ := ⟨tdGet tys, [con_F_wide_U_Shr]⟩) ⟨fun T d h => tysB_ok tys tys_ok T d h, by simp [ok_F_wide_U_Shr]⟩ (by kernel_rfl) Try.func30 rfl (by kernel_rfl) run_F_wide_U_Len
/-- (odograph/wide.U).Add -/
noncomputable def F_wide_U_Add (x_1 : (Int × Int)) (y_2 : (Int × Int)) : Option ((Int × Int) × Bool) :=
  let t12_3 : Int := (IntKind.wrap .u64 (x_1.2 + y_2.2))
  let w_4 : (Int × Int) := ((0 : Int), t12_3)
  let t18_5 : Int := (IntKind.wrap .u64 (x_1.1 + y_2.1))
  Option.bind (
    (bif (decide (w_4.2 < x_1.2)) then
      let t32_6 : Int := (IntKind.wrap .u64 (t18_5 + (1 : Int)))
      let t39_7 : Bool := (bif (decide (t18_5 < x_1.1)) then true else (t32_6 == (0 : Int)))
      some (t32_6, t39_7)
    else
      some (t18_5, (decide (t18_5 < x_1.1))))) fun r_8 =>
  let b3_9 : Int := r_8.1
  let over_10 : Bool := r_8.2
  let w_11 : (Int × Int) := (b3_9, w_4.2)
  some (w_11, over_10)
noncomputable def con_F_wide_U_Add : Con := { f := 34, ps := [.dat (.agg (.pair (.int .u64) (.int .u64))), .dat (.agg (.pair (.int .u64) (.int .u64)))], boxes := [], ins := (.pair (.agg (.pair (.int .u64) (.int .u64))) (.agg (.pair (.int .u64) (.int .u64)))), nin := 2, outs := (.pair (.agg (.pair (.int .u64) (.int .u64))) .bool), rs := [.dat (.agg (.pair (.int .u64) (.int .u64))), .dat .bool], nout := 2, F := fun x => F_wide_U_Add x.1 x.2 }
def hint_F_wide_U_Add : Hint := (.mk .plain [H0, (.mk .plain [H0, (.mk .plain [H0, (.mk .plain [H0, (.mk .plain [(.mk .plain [H0, (.mk (.join [(0, 30), (0, 36), (0, 39), (0, 35), (0, 32), (0, 38), (0, 31), (0, 34), (0, 37), (0, 33)] [(.normal, [⟨.cell 3 0, (.int .u64), none⟩, ⟨.slot 7, .bool, none⟩])]) [])])])])])])])
theorem run_F_wide_U_Add : runE ⟨tdGet tys, []⟩ con_F_wide_U_Add Try.f34 hint_F_wide_U_Add = con_F_wide_U_Add.F := by
  funext x
  kernel_rfl
theorem ok_F_wide_U_Add : ConOK Try.prog con_F_wide_U_Add :=
  con_of_run (Γ := ⟨tdGet tys, []⟩) ⟨fun T d h => tysB_ok tys tys_ok T d h, by simp []⟩ (by kernel_rfl) Try.func34 rfl (by kernel_rfl) run_F_wide_U_Add
/-- odograph/num.Size -/
noncomputable def F_num_Size (a_1 : Int) : Option Int :=
  let t4_2 : Bool := (decide (a_1 < (0 : Int)))
  (bif t4_2 then
    let t7_3 : Int := (IntKind.wrap .u64 (0 - (IntKind.wrap .u64 a_1)))
    some t7_3
  else
    some (IntKind.wrap .u64 a_1))
noncomputable def con_F_num_Size : Con := { f := 78, ps := [.dat (.int .i64)], boxes := [], ins := (.int .i64), nin := 1, outs := (.int .u64), rs := [.dat (.int .u64)], nout := 1, F := fun x => F_num_Size x }
def hint_F_num_Size : Hint := H0
theorem run_F_num_Size : runE ⟨tdGet tys, []⟩ con_F_num_Size Try.f78 hint_F_num_Size = con_F_num_Size.F := by
  funext x
  kernel_rfl
theorem ok_F_num_Size : ConOK Try.prog con_F_num_Size :=
  con_of_run (Γ := ⟨tdGet tys, []⟩) ⟨fun T d h => tysB_ok tys tys_ok T d h, by simp []⟩ (by kernel_rfl) Try.func78 rfl (by kernel_rfl) run_F_num_Size
/-- odograph/ratio.signed -/
noncomputable def F_ratio_signed (x_1 : (Int × Int)) (below_2 : Bool) : Option (Int × Int) :=
  let t7_3 : (Int × Int) := ((0 : Int), (9223372036854775807 : Int))
  Option.bind (
    (bif below_2 then
      let t11_4 : Int := (IntKind.wrap .u64 (t7_3.2 + (1 : Int)))
      some t11_4
    else
      some t7_3.2)) fun r_5 =>
  (F_wide_U_Cmp x_1 (t7_3.1, r_5)).bind fun t15_6 =>
  let t16_7 : Bool := (decide ((0 : Int) < t15_6))
  (bif t16_7 then
    some ((0 : Int), (20 : Int))
  else
    (bif below_2 then
      let t20_8 : Int := (IntKind.wrap .u64 (0 - x_1.2))
      let t21_9 : Int := (IntKind.wrap .i64 t20_8)
      some (t21_9, (0 : Int))
    else
      let t24_10 : Int := (IntKind.wrap .i64 x_1.2)
      some (t24_10, (0 : Int))))
noncomputable def con_F_ratio_signed : Con := { f := 79, ps := [.dat (.agg (.pair (.int .u64) (.int .u64))), .dat .bool], boxes := [], ins := (.pair (.agg (.pair (.int .u64) (.int .u64))) .bool), nin := 2, outs := (.pair (.int .i64) (.int .i64)), rs := [.dat (.int .i64), .dat (.int .i64)], nout := 2, F := fun x => F_ratio_signed x.1 x.2 }
def hint_F_ratio_signed : Hint := (.mk .plain [H0, (.mk .plain [H0, (.mk .plain [(.mk .plain [H0, (.mk (.join [(0, 12), (0, 10), (0, 9), (0, 11)] [(.normal, [⟨.cell 1 1, (.int .u64), none⟩])]) [])])])])])
theorem run_F_ratio_signed : runE ⟨tdGet tys, [con_F_wide_U_Cmp]⟩ con_F_ratio_signed Try.f79 hint_F_ratio_signed = con_F_ratio_signed.F := by
  funext x
  kernel_rfl
theorem ok_F_ratio_signed : ConOK Try.prog con_F_ratio_signed :=
  con_of_run (Γ := ⟨tdGet tys, [con_F_wide_U_Cmp]⟩) ⟨fun T d h => tysB_ok tys tys_ok T d h, by simp [ok_F_wide_U_Cmp]⟩ (by kernel_rfl) Try.func79 rfl (by kernel_rfl) run_F_ratio_signed
/-- odograph/ratio.divide -/
noncomputable def F_ratio_divide (a_1 : Int) (b_2 : Int) (c_3 : Int) (up_4 : Bool) : Option (Int × Int) :=
  (bif (c_3 == (0 : Int)) then
    some ((0 : Int), (21 : Int))
  else
    let t17_5 : Bool := (decide (a_1 < (0 : Int)))
    let t19_6 : Bool := (decide (b_2 < (0 : Int)))
    let t22_7 : Bool := (decide (c_3 < (0 : Int)))
    let t23_8 : Bool := (!((!(t17_5 == t19_6)) == t22_7))
    (F_num_Size a_1).bind fun t26_9 =>
    (F_num_Size b_2).bind fun t28_10 =>
    (F_wide_Mul t26_9 t28_10).bind fun t29_11 =>
    (F_num_Size c_3).bind fun t31_12 =>
    (F_wide_U_Div t29_11 t31_12).bind fun t32_13 =>
    let t37_14 : Bool := (decide ((0 : Int) < t32_13.2.1))
    let t42_15 : Bool := (bif t37_14 then (!(up_4 == t23_8)) else false)
    Option.bind (
      (bif t42_15 then
        (F_wide_U_Add t32_13.1 ((0 : Int), (1 : Int))).bind fun t46_16 =>
        some (t46_16.1.2, t46_16.1.1)
      else
        some (t32_13.1.2, t32_13.1.1))) fun r_17 =>
    let b0_18 : Int := r_17.1
    let b0_19 : Int := r_17.2
    (F_ratio_signed (b0_19, b0_18) t23_8).bind fun t51_20 =>
    some (t51_20.1, t51_20.2))
noncomputable def con_F_ratio_divide : Con := { f := 66, ps := [.dat (.int .i64), .dat (.int .i64), .dat (.int .i64), .dat .bool], boxes := [], ins := (.pair (.int .i64) (.pair (.int .i64) (.pair (.int .i64) .bool))), nin := 4, outs := (.pair (.int .i64) (.int .i64)), rs := [.dat (.int .i64), .dat (.int .i64)], nout := 2, F := fun x => F_ratio_divide x.1 x.2.1 x.2.2.1 x.2.2.2 }
def hint_F_ratio_divide : Hint := (.mk .plain [H0, (.mk .plain [H0, (.mk .plain [H0, (.mk .plain [H0, (.mk .plain [(.mk .plain [H0, (.mk (.join [(0, 46), (0, 45), (0, 48), (0, 47), (0, 44), (0, 43)] [(.normal, [⟨.cell 0 1, (.int .u64), none⟩, ⟨.cell 0 0, (.int .u64), none⟩])]) [])])])])])])])
theorem run_F_ratio_divide : runE ⟨tdGet tys, [con_F_num_Size, con_F_wide_Mul, con_F_wide_U_Div, con_F_wide_U_Add, con_F_ratio_signed]⟩ con_F_ratio_divide Try.f66 hint_F_ratio_divide = con_F_ratio_divide.F := by
  funext x
  kernel_rfl
theorem ok_F_ratio_divide : ConOK Try.prog con_F_ratio_divide :=
  con_of_run (Γ := ⟨tdGet tys, [con_F_num_Size, con_F_wide_Mul, con_F_wide_U_Div, con_F_wide_U_Add, con_F_ratio_signed]⟩) ⟨fun T d h => tysB_ok tys tys_ok T d h, by simp [ok_F_num_Size, ok_F_wide_Mul, ok_F_wide_U_Div, ok_F_wide_U_Add, ok_F_ratio_signed]⟩ (by kernel_rfl) Try.func66 rfl (by kernel_rfl) run_F_ratio_divide
/-- odograph/ratio.Floor -/
noncomputable def F_ratio_Floor (a_1 : Int) (b_2 : Int) (c_3 : Int) : Option (Int × Int) :=
  (F_ratio_divide a_1 b_2 c_3 false).bind fun t11_4 =>
  some (t11_4.1, t11_4.2)
noncomputable def con_F_ratio_Floor : Con := { f := 38, ps := [.dat (.int .i64), .dat (.int .i64), .dat (.int .i64)], boxes := [], ins := (.pair (.int .i64) (.pair (.int .i64) (.int .i64))), nin := 3, outs := (.pair (.int .i64) (.int .i64)), rs := [.dat (.int .i64), .dat (.int .i64)], nout := 2, F := fun x => F_ratio_Floor x.1 x.2.1 x.2.2 }
def hint_F_ratio_Floor : Hint := H0
theorem run_F_ratio_Floor : runE ⟨tdGet tys, [con_F_ratio_divide]⟩ con_F_ratio_Floor Try.f38 hint_F_ratio_Floor = con_F_ratio_Floor.F := by
  funext x
  kernel_rfl
theorem ok_F_ratio_Floor : ConOK Try.prog con_F_ratio_Floor :=
  con_of_run (Γ := ⟨tdGet tys, [con_F_ratio_divide]⟩) ⟨fun T d h => tysB_ok tys tys_ok T d h, by simp [ok_F_ratio_divide]⟩ (by kernel_rfl) Try.func38 rfl (by kernel_rfl) run_F_ratio_Floor
/-- odograph/ratio.Ceil -/
noncomputable def F_ratio_Ceil (a_1 : Int) (b_2 : Int) (c_3 : Int) : Option (Int × Int) :=
  (F_ratio_divide a_1 b_2 c_3 true).bind fun t11_4 =>
  some (t11_4.1, t11_4.2)
noncomputable def con_F_ratio_Ceil : Con := { f := 42, ps := [.dat (.int .i64), .dat (.int .i64), .dat (.int .i64)], boxes := [], ins := (.pair (.int .i64) (.pair (.int .i64) (.int .i64))), nin := 3, outs := (.pair (.int .i64) (.int .i64)), rs := [.dat (.int .i64), .dat (.int .i64)], nout := 2, F := fun x => F_ratio_Ceil x.1 x.2.1 x.2.2 }
def hint_F_ratio_Ceil : Hint := H0
theorem run_F_ratio_Ceil : runE ⟨tdGet tys, [con_F_ratio_divide]⟩ con_F_ratio_Ceil Try.f42 hint_F_ratio_Ceil = con_F_ratio_Ceil.F := by
  funext x
  kernel_rfl
theorem ok_F_ratio_Ceil : ConOK Try.prog con_F_ratio_Ceil :=
  con_of_run (Γ := ⟨tdGet tys, [con_F_ratio_divide]⟩) ⟨fun T d h => tysB_ok tys tys_ok T d h, by simp [ok_F_ratio_divide]⟩ (by kernel_rfl) Try.func42 rfl (by kernel_rfl) run_F_ratio_Ceil
/-- odograph/odographlaw03.anchor -/
noncomputable def F_law03_anchor (_ : Unit) : Option Bool :=
  (F_ratio_Floor (-7 : Int) (1 : Int) (2 : Int)).bind fun t6_1 =>
  (F_ratio_Ceil (-7 : Int) (1 : Int) (2 : Int)).bind fun t10_2 =>
  let t18_3 : Bool := (bif (t6_1.1 == (-4 : Int)) then (t10_2.1 == (-3 : Int)) else false)
  let t22_4 : Bool := (bif t18_3 then (t6_1.2 == (0 : Int)) else false)
  let t26_5 : Bool := (bif t22_4 then (t10_2.2 == (0 : Int)) else false)
  some t26_5
noncomputable def con_F_law03_anchor : Con := { f := 37, ps := [], boxes := [], ins := .unit, nin := 0, outs := .bool, rs := [.dat .bool], nout := 1, F := fun x => F_law03_anchor () }
def hint_F_law03_anchor : Hint := H0
theorem run_F_law03_anchor : runE ⟨tdGet tys, [con_F_ratio_Floor, con_F_ratio_Ceil]⟩ con_F_law03_anchor Try.f37 hint_F_law03_anchor = con_F_law03_anchor.F := by
  funext x
  kernel_rfl
theorem ok_F_law03_anchor : ConOK Try.prog con_F_law03_anchor :=
  con_of_run (Γ := ⟨tdGet tys, [con_F_ratio_Floor, con_F_ratio_Ceil]⟩) ⟨fun T d h => tysB_ok tys tys_ok T d h, by simp [ok_F_ratio_Floor, ok_F_ratio_Ceil]⟩ (by kernel_rfl) Try.func37 rfl (by kernel_rfl) run_F_law03_anchor
/-- odograph/odographref01.Size -/
noncomputable def F_ref01_Size (a_1 : Int) : Option Int :=
  let t4_2 : Bool := (decide ((0 : Int) ≤ a_1))
  (bif t4_2 then
    some (IntKind.wrap .u64 a_1)
  else
    let t8_3 : Int := (IntKind.wrap .i64 (a_1 + (1 : Int)))
    let t9_4 : Int := (IntKind.wrap .i64 (0 - t8_3))
    let t11_5 : Int := (IntKind.wrap .u64 ((IntKind.wrap .u64 t9_4) + (1 : Int)))
    some t11_5)
noncomputable def con_F_ref01_Size : Con := { f := 72, ps := [.dat (.int .i64)], boxes := [], ins := (.int .i64), nin := 1, outs := (.int .u64), rs := [.dat (.int .u64)], nout := 1, F := fun x => F_ref01_Size x }
def hint_F_ref01_Size : Hint := H0
theorem run_F_ref01_Size : runE ⟨tdGet tys, []⟩ con_F_ref01_Size Try.f72 hint_F_ref01_Size = con_F_ref01_Size.F := by
  funext x
  kernel_rfl
theorem ok_F_ref01_Size : ConOK Try.prog con_F_ref01_Size :=
  con_of_run (Γ := ⟨tdGet tys, []⟩) ⟨fun T d h => tysB_ok tys tys_ok T d h, by simp []⟩ (by kernel_rfl) Try.func72 rfl (by kernel_rfl) run_F_ref01_Size
/-- odograph/odographref01.Of -/
noncomputable def F_ref01_Of (a_1 : Int) : Option (Int × (Int × (Int × (Int × Int)))) :=
  (F_ref01_Size a_1).bind fun t6_2 =>
  let t8_3 : Int := (t6_2.tmod (4294967296 : Int))
  let t10_4 : Int := (IntKind.wrap .u64 (t6_2.tdiv (4294967296 : Int)))
  let t11_5 : (Int × (Int × (Int × Int))) := (t8_3, (t10_4, ((0 : Int), (0 : Int))))
  let w_6 : (Int × (Int × (Int × (Int × Int)))) := ((1 : Int), t11_5)
  let t14_7 : Bool := (decide (a_1 < (0 : Int)))
  Option.bind (
    (bif t14_7 then
      some (-1 : Int)
    else
      some w_6.1)) fun r_8 =>
  let w_9 : (Int × (Int × (Int × (Int × Int)))) := (r_8, w_6.2)
  some w_9
noncomputable def con_F_ref01_Of : Con := { f := 52, ps := [.dat (.int .i64)], boxes := [], ins := (.int .i64), nin := 1, outs := (.agg (.pair (.int .i64) (.agg (.pair (.int .u64) (.pair (.int .u64) (.pair (.int .u64) (.int .u64))))))), rs := [.dat (.agg (.pair (.int .i64) (.agg (.pair (.int .u64) (.pair (.int .u64) (.pair (.int .u64) (.int .u64)))))))], nout := 1, F := fun x => F_ref01_Of x }
def hint_F_ref01_Of : Hint := (.mk .plain [H0, (.mk .plain [H0, (.mk .plain [H0, (.mk .plain [(.mk .plain [H0, (.mk (.join [(0, 15)] [(.normal, [⟨.cell 1 0, (.int .i64), none⟩])]) [])])])])])])
theorem run_F_ref01_Of : runE ⟨tdGet tys, [con_F_ref01_Size]⟩ con_F_ref01_Of Try.f52 hint_F_ref01_Of = con_F_ref01_Of.F := by
  funext x
  kernel_rfl
theorem ok_F_ref01_Of : ConOK Try.prog con_F_ref01_Of :=
  con_of_run (Γ := ⟨tdGet tys, [con_F_ref01_Size]⟩) ⟨fun T d h => tysB_ok tys tys_ok T d h, by simp [ok_F_ref01_Size]⟩ (by kernel_rfl) Try.func52 rfl (by kernel_rfl) run_F_ref01_Of
/-- odograph/odographref01.Times -/
noncomputable def F_ref01_Times (a_1 : Int) (b_2 : Int) : Option (Int × (Int × (Int × (Int × Int)))) :=
  (F_ref01_Of a_1).bind fun t13_3 =>
  (F_ref01_Of b_2).bind fun t15_4 =>
  let t20_5 : Int := (IntKind.wrap .i64 (t13_3.1 * t15_4.1))
  let t21_6 : (Int × (Int × (Int × (Int × Int)))) := (t20_5, ((0 : Int), ((0 : Int), ((0 : Int), (0 : Int)))))
  let t38_7 : Int := (IntKind.wrap .u64 (t13_3.2.1 * t15_4.2.1))
  let t45_8 : Int := (IntKind.wrap .u64 (t38_7 + t21_6.2.1))
  let t47_9 : Int := (IntKind.wrap .u64 (t45_8 + (0 : Int)))
  let t52_10 : Int := (t47_9.tmod (4294967296 : Int))
  let t56_11 : Int := (IntKind.wrap .u64 (t47_9.tdiv (4294967296 : Int)))
  let t38_12 : Int := (IntKind.wrap .u64 (t13_3.2.1 * t15_4.2.2.1))
  let t45_13 : Int := (IntKind.wrap .u64 (t38_12 + t21_6.2.2.1))
  let t47_14 : Int := (IntKind.wrap .u64 (t45_13 + t56_11))
  let t52_15 : Int := (t47_14.tmod (4294967296 : Int))
  let t56_16 : Int := (IntKind.wrap .u64 (t47_14.tdiv (4294967296 : Int)))
  let t65_17 : Int := (IntKind.wrap .u64 (t21_6.2.2.2.1 + t56_16))
  let t38_18 : Int := (IntKind.wrap .u64 (t13_3.2.2.1 * t15_4.2.1))
  let t45_19 : Int := (IntKind.wrap .u64 (t38_18 + t52_15))
  let t47_20 : Int := (IntKind.wrap .u64 (t45_19 + (0 : Int)))
  let t52_21 : Int := (t47_20.tmod (4294967296 : Int))
  let t56_22 : Int := (IntKind.wrap .u64 (t47_20.tdiv (4294967296 : Int)))
  let t38_23 : Int := (IntKind.wrap .u64 (t13_3.2.2.1 * t15_4.2.2.1))
  let t45_24 : Int := (IntKind.wrap .u64 (t38_23 + t65_17))
  let t47_25 : Int := (IntKind.wrap .u64 (t45_24 + t56_22))
  let t52_26 : Int := (t47_25.tmod (4294967296 : Int))
  let t56_27 : Int := (IntKind.wrap .u64 (t47_25.tdiv (4294967296 : Int)))
  let t65_28 : Int := (IntKind.wrap .u64 (t21_6.2.2.2.2 + t56_27))
  let t68_29 : (Int × (Int × (Int × (Int × Int)))) := (t21_6.1, (t52_10, (t52_21, (t52_26, t65_28))))
  some t68_29
noncomputable def con_F_ref01_Times : Con := { f := 45, ps := [.dat (.int .i64), .dat (.int .i64)], boxes := [], ins := (.pair (.int .i64) (.int .i64)), nin := 2, outs := (.agg (.pair (.int .i64) (.agg (.pair (.int .u64) (.pair (.int .u64) (.pair (.int .u64) (.int .u64))))))), rs := [.dat (.agg (.pair (.int .i64) (.agg (.pair (.int .u64) (.pair (.int .u64) (.pair (.int .u64) (.int .u64)))))))], nout := 1, F := fun x => F_ref01_Times x.1 x.2 }
def hint_F_ref01_Times : Hint := (.mk .plain [H0, (.mk .plain [H0, (.mk .plain [H0, (.mk .plain [H0, (.mk .plain [(.mk .plain [H0, (.mk .plain [(.mk (.unroll 3) [(.mk .plain [H0, (.mk .plain [(.mk .plain [(.mk .plain [H0, (.mk .plain [(.mk .plain [H0, (.mk .plain [(.mk (.unroll 3) [])])])])])])])])])])])])])])])])
theorem run_F_ref01_Times : runE ⟨tdGet tys, [con_F_ref01_Of]⟩ con_F_ref01_Times Try.f45 hint_F_ref01_Times = con_F_ref01_Times.F := by
  funext x
  kernel_rfl
theorem ok_F_ref01_Times : ConOK Try.prog con_F_ref01_Times :=
  con_of_run (Γ := ⟨tdGet tys, [con_F_ref01_Of]⟩) ⟨fun T d h => tysB_ok tys tys_ok T d h, by simp [ok_F_ref01_Of]⟩ (by kernel_rfl) Try.func45 rfl (by kernel_rfl) run_F_ref01_Times
/-- odograph/odographref01.Minor -/
noncomputable def F_ref01_Minor (x_1 : (Int × (Int × (Int × (Int × Int))))) : Option (Int × (Int × (Int × (Int × Int)))) :=
  let t5_2 : Int := (IntKind.wrap .i64 (0 - x_1.1))
  let w_3 : (Int × (Int × (Int × (Int × Int)))) := (t5_2, x_1.2)
  some w_3
noncomputable def con_F_ref01_Minor : Con := { f := 51, ps := [.dat (.agg (.pair (.int .i64) (.agg (.pair (.int .u64) (.pair (.int .u64) (.pair (.int .u64) (.int .u64)))))))], boxes := [], ins := (.agg (.pair (.int .i64) (.agg (.pair (.int .u64) (.pair (.int .u64) (.pair (.int .u64) (.int .u64))))))), nin := 1, outs := (.agg (.pair (.int .i64) (.agg (.pair (.int .u64) (.pair (.int .u64) (.pair (.int .u64) (.int .u64))))))), rs := [.dat (.agg (.pair (.int .i64) (.agg (.pair (.int .u64) (.pair (.int .u64) (.pair (.int .u64) (.int .u64)))))))], nout := 1, F := fun x => F_ref01_Minor x }
def hint_F_ref01_Minor : Hint := H0
theorem run_F_ref01_Minor : runE ⟨tdGet tys, []⟩ con_F_ref01_Minor Try.f51 hint_F_ref01_Minor = con_F_ref01_Minor.F := by
  funext x
  kernel_rfl
theorem ok_F_ref01_Minor : ConOK Try.prog con_F_ref01_Minor :=
  con_of_run (Γ := ⟨tdGet tys, []⟩) ⟨fun T d h => tysB_ok tys tys_ok T d h, by simp []⟩ (by kernel_rfl) Try.func51 rfl (by kernel_rfl) run_F_ref01_Minor
/-- odograph/odographref01.Plus -/
noncomputable def F_ref01_Plus (a_1 : (Int × (Int × (Int × Int)))) (b_2 : (Int × (Int × (Int × Int)))) : Option (Int × (Int × (Int × Int))) :=
  let t19_3 : Int := (IntKind.wrap .u64 (a_1.1 + b_2.1))
  let t21_4 : Int := (IntKind.wrap .u64 (t19_3 + (0 : Int)))
  let t24_5 : Int := (t21_4.tmod (4294967296 : Int))
  let t27_6 : Int := (IntKind.wrap .u64 (t21_4.tdiv (4294967296 : Int)))
  let t19_7 : Int := (IntKind.wrap .u64 (a_1.2.1 + b_2.2.1))
  let t21_8 : Int := (IntKind.wrap .u64 (t19_7 + t27_6))
  let t24_9 : Int := (t21_8.tmod (4294967296 : Int))
  let t27_10 : Int := (IntKind.wrap .u64 (t21_8.tdiv (4294967296 : Int)))
  let t19_11 : Int := (IntKind.wrap .u64 (a_1.2.2.1 + b_2.2.2.1))
  let t21_12 : Int := (IntKind.wrap .u64 (t19_11 + t27_10))
  let t24_13 : Int := (t21_12.tmod (4294967296 : Int))
  let t27_14 : Int := (IntKind.wrap .u64 (t21_12.tdiv (4294967296 : Int)))
  let t19_15 : Int := (IntKind.wrap .u64 (a_1.2.2.2 + b_2.2.2.2))
  let t21_16 : Int := (IntKind.wrap .u64 (t19_15 + t27_14))
  let t24_17 : Int := (t21_16.tmod (4294967296 : Int))
  let t27_18 : Int := (IntKind.wrap .u64 (t21_16.tdiv (4294967296 : Int)))
  let t28_19 : (Int × (Int × (Int × Int))) := (t24_5, (t24_9, (t24_13, t24_17)))
  some t28_19
noncomputable def con_F_ref01_Plus : Con := { f := 70, ps := [.dat (.agg (.pair (.int .u64) (.pair (.int .u64) (.pair (.int .u64) (.int .u64))))), .dat (.agg (.pair (.int .u64) (.pair (.int .u64) (.pair (.int .u64) (.int .u64)))))], boxes := [], ins := (.pair (.agg (.pair (.int .u64) (.pair (.int .u64) (.pair (.int .u64) (.int .u64))))) (.agg (.pair (.int .u64) (.pair (.int .u64) (.pair (.int .u64) (.int .u64)))))), nin := 2, outs := (.agg (.pair (.int .u64) (.pair (.int .u64) (.pair (.int .u64) (.int .u64))))), rs := [.dat (.agg (.pair (.int .u64) (.pair (.int .u64) (.pair (.int .u64) (.int .u64)))))], nout := 1, F := fun x => F_ref01_Plus x.1 x.2 }
def hint_F_ref01_Plus : Hint := (.mk .plain [H0, (.mk .plain [H0, (.mk .plain [H0, (.mk .plain [(.mk .plain [H0, (.mk .plain [(.mk (.unroll 5) [])])])])])])])
theorem run_F_ref01_Plus : runE ⟨tdGet tys, []⟩ con_F_ref01_Plus Try.f70 hint_F_ref01_Plus = con_F_ref01_Plus.F := by
  funext x
  kernel_rfl
theorem ok_F_ref01_Plus : ConOK Try.prog con_F_ref01_Plus :=
  con_of_run (Γ := ⟨tdGet tys, []⟩) ⟨fun T d h => tysB_ok tys tys_ok T d h, by simp []⟩ (by kernel_rfl) Try.func70 rfl (by kernel_rfl) run_F_ref01_Plus
/-- odograph/odographref01.Less -/
noncomputable def F_ref01_Less (a_1 : (Int × (Int × (Int × Int)))) (b_2 : (Int × (Int × (Int × Int)))) : Option Bool :=
  (bif (a_1.2.2.2 != b_2.2.2.2) then
    let t23_3 : Bool := (decide (a_1.2.2.2 < b_2.2.2.2))
    some t23_3
  else
    (bif (a_1.2.2.1 != b_2.2.2.1) then
      let t23_4 : Bool := (decide (a_1.2.2.1 < b_2.2.2.1))
      some t23_4
    else
      (bif (a_1.2.1 != b_2.2.1) then
        let t23_5 : Bool := (decide (a_1.2.1 < b_2.2.1))
        some t23_5
      else
        (bif (a_1.1 != b_2.1) then
          some (decide (a_1.1 < b_2.1))
        else
          some false))))
noncomputable def con_F_ref01_Less : Con := { f := 46, ps := [.dat (.agg (.pair (.int .u64) (.pair (.int .u64) (.pair (.int .u64) (.int .u64))))), .dat (.agg (.pair (.int .u64) (.pair (.int .u64) (.pair (.int .u64) (.int .u64)))))], boxes := [], ins := (.pair (.agg (.pair (.int .u64) (.pair (.int .u64) (.pair (.int .u64) (.int .u64))))) (.agg (.pair (.int .u64) (.pair (.int .u64) (.pair (.int .u64) (.int .u64)))))), nin := 2, outs := .bool, rs := [.dat .bool], nout := 1, F := fun x => F_ref01_Less x.1 x.2 }
def hint_F_ref01_Less : Hint := (.mk .plain [H0, (.mk .plain [(.mk .plain [H0, (.mk .plain [(.mk (.unroll 5) [])])])])])
theorem run_F_ref01_Less : runE ⟨tdGet tys, []⟩ con_F_ref01_Less Try.f46 hint_F_ref01_Less = con_F_ref01_Less.F := by
  funext x
  kernel_rfl
theorem ok_F_ref01_Less : ConOK Try.prog con_F_ref01_Less :=
  con_of_run (Γ := ⟨tdGet tys, []⟩) ⟨fun T d h => tysB_ok tys tys_ok T d h, by simp []⟩ (by kernel_rfl) Try.func46 rfl (by kernel_rfl) run_F_ref01_Less
/-- odograph/odographref01.Minus -/
noncomputable def F_ref01_Minus (a_1 : (Int × (Int × (Int × Int)))) (b_2 : (Int × (Int × (Int × Int)))) : Option (Int × (Int × (Int × Int))) :=
  let t16_3 : Int := (IntKind.wrap .u64 (a_1.1 + (4294967296 : Int)))
  let t20_4 : Int := (IntKind.wrap .u64 (t16_3 - b_2.1))
  let t22_5 : Int := (IntKind.wrap .u64 (t20_4 - (0 : Int)))
  let t25_6 : Int := (t22_5.tmod (4294967296 : Int))
  let t28_7 : Int := (IntKind.wrap .u64 (t22_5.tdiv (4294967296 : Int)))
  let t29_8 : Int := (IntKind.wrap .u64 ((1 : Int) - t28_7))
  let t16_9 : Int := (IntKind.wrap .u64 (a_1.2.1 + (4294967296 : Int)))
  let t20_10 : Int := (IntKind.wrap .u64 (t16_9 - b_2.2.1))
  let t22_11 : Int := (IntKind.wrap .u64 (t20_10 - t29_8))
  let t25_12 : Int := (t22_11.tmod (4294967296 : Int))
  let t28_13 : Int := (IntKind.wrap .u64 (t22_11.tdiv (4294967296 : Int)))
  let t29_14 : Int := (IntKind.wrap .u64 ((1 : Int) - t28_13))
  let t16_15 : Int := (IntKind.wrap .u64 (a_1.2.2.1 + (4294967296 : Int)))
  let t20_16 : Int := (IntKind.wrap .u64 (t16_15 - b_2.2.2.1))
  let t22_17 : Int := (IntKind.wrap .u64 (t20_16 - t29_14))
  let t25_18 : Int := (t22_17.tmod (4294967296 : Int))
  let t28_19 : Int := (IntKind.wrap .u64 (t22_17.tdiv (4294967296 : Int)))
  let t29_20 : Int := (IntKind.wrap .u64 ((1 : Int) - t28_19))
  let t16_21 : Int := (IntKind.wrap .u64 (a_1.2.2.2 + (4294967296 : Int)))
  let t20_22 : Int := (IntKind.wrap .u64 (t16_21 - b_2.2.2.2))
  let t22_23 : Int := (IntKind.wrap .u64 (t20_22 - t29_20))
  let t25_24 : Int := (t22_23.tmod (4294967296 : Int))
  let t28_25 : Int := (IntKind.wrap .u64 (t22_23.tdiv (4294967296 : Int)))
  let t29_26 : Int := (IntKind.wrap .u64 ((1 : Int) - t28_25))
  let t30_27 : (Int × (Int × (Int × Int))) := (t25_6, (t25_12, (t25_18, t25_24)))
  some t30_27
noncomputable def con_F_ref01_Minus : Con := { f := 71, ps := [.dat (.agg (.pair (.int .u64) (.pair (.int .u64) (.pair (.int .u64) (.int .u64))))), .dat (.agg (.pair (.int .u64) (.pair (.int .u64) (.pair (.int .u64) (.int .u64)))))], boxes := [], ins := (.pair (.agg (.pair (.int .u64) (.pair (.int .u64) (.pair (.int .u64) (.int .u64))))) (.agg (.pair (.int .u64) (.pair (.int .u64) (.pair (.int .u64) (.int .u64)))))), nin := 2, outs := (.agg (.pair (.int .u64) (.pair (.int .u64) (.pair (.int .u64) (.int .u64))))), rs := [.dat (.agg (.pair (.int .u64) (.pair (.int .u64) (.pair (.int .u64) (.int .u64)))))], nout := 1, F := fun x => F_ref01_Minus x.1 x.2 }
def hint_F_ref01_Minus : Hint := (.mk .plain [H0, (.mk .plain [H0, (.mk .plain [H0, (.mk .plain [(.mk .plain [H0, (.mk .plain [(.mk (.unroll 5) [])])])])])])])
theorem run_F_ref01_Minus : runE ⟨tdGet tys, []⟩ con_F_ref01_Minus Try.f71 hint_F_ref01_Minus = con_F_ref01_Minus.F := by
  funext x
  kernel_rfl
theorem ok_F_ref01_Minus : ConOK Try.prog con_F_ref01_Minus :=
  con_of_run (Γ := ⟨tdGet tys, []⟩) ⟨fun T d h => tysB_ok tys tys_ok T d h, by simp []⟩ (by kernel_rfl) Try.func71 rfl (by kernel_rfl) run_F_ref01_Minus
/-- odograph/odographref01.Sum -/
noncomputable def F_ref01_Sum (x_1 : (Int × (Int × (Int × (Int × Int))))) (y_2 : (Int × (Int × (Int × (Int × Int))))) : Option (Int × (Int × (Int × (Int × Int)))) :=
  (bif (x_1.1 == y_2.1) then
    (F_ref01_Plus x_1.2 y_2.2).bind fun t16_3 =>
    let w_4 : (Int × (Int × (Int × (Int × Int)))) := (x_1.1, t16_3)
    some w_4
  else
    (F_ref01_Less x_1.2 y_2.2).bind fun t22_5 =>
    (bif t22_5 then
      (F_ref01_Minus y_2.2 x_1.2).bind fun t29_6 =>
      let w_7 : (Int × (Int × (Int × (Int × Int)))) := (y_2.1, t29_6)
      some w_7
    else
      (F_ref01_Minus x_1.2 y_2.2).bind fun t37_8 =>
      let w_9 : (Int × (Int × (Int × (Int × Int)))) := (x_1.1, t37_8)
      some w_9))
noncomputable def con_F_ref01_Sum : Con := { f := 50, ps := [.dat (.agg (.pair (.int .i64) (.agg (.pair (.int .u64) (.pair (.int .u64) (.pair (.int .u64) (.int .u64))))))), .dat (.agg (.pair (.int .i64) (.agg (.pair (.int .u64) (.pair (.int .u64) (.pair (.int .u64) (.int .u64)))))))], boxes := [], ins := (.pair (.agg (.pair (.int .i64) (.agg (.pair (.int .u64) (.pair (.int .u64) (.pair (.int .u64) (.int .u64))))))) (.agg (.pair (.int .i64) (.agg (.pair (.int .u64) (.pair (.int .u64) (.pair (.int .u64) (.int .u64)))))))), nin := 2, outs := (.agg (.pair (.int .i64) (.agg (.pair (.int .u64) (.pair (.int .u64) (.pair (.int .u64) (.int .u64))))))), rs := [.dat (.agg (.pair (.int .i64) (.agg (.pair (.int .u64) (.pair (.int .u64) (.pair (.int .u64) (.int .u64)))))))], nout := 1, F := fun x => F_ref01_Sum x.1 x.2 }
def hint_F_ref01_Sum : Hint := H0
theorem run_F_ref01_Sum : runE ⟨tdGet tys, [con_F_ref01_Plus, con_F_ref01_Less, con_F_ref01_Minus]⟩ con_F_ref01_Sum Try.f50 hint_F_ref01_Sum = con_F_ref01_Sum.F := by
  funext x
  kernel_rfl
theorem ok_F_ref01_Sum : ConOK Try.prog con_F_ref01_Sum :=
  con_of_run (Γ := ⟨tdGet tys, [con_F_ref01_Plus, con_F_ref01_Less, con_F_ref01_Minus]⟩) ⟨fun T d h => tysB_ok tys tys_ok T d h, by simp [ok_F_ref01_Plus, ok_F_ref01_Less, ok_F_ref01_Minus]⟩ (by kernel_rfl) Try.func50 rfl (by kernel_rfl) run_F_ref01_Sum
/-- odograph/odographlaw03.rest -/
noncomputable def F_law03_rest (a_1 : Int) (b_2 : Int) (q_3 : Int) (c_4 : Int) : Option (Int × (Int × (Int × (Int × Int)))) :=
  (F_ref01_Times a_1 b_2).bind fun t11_5 =>
  (F_ref01_Times q_3 c_4).bind fun t14_6 =>
  (F_ref01_Minor t14_6).bind fun t15_7 =>
  (F_ref01_Sum t11_5 t15_7).bind fun t16_8 =>
  some t16_8
noncomputable def con_F_law03_rest : Con := { f := 41, ps := [.dat (.int .i64), .dat (.int .i64), .dat (.int .i64), .dat (.int .i64)], boxes := [], ins := (.pair (.int .i64) (.pair (.int .i64) (.pair (.int .i64) (.int .i64)))), nin := 4, outs := (.agg (.pair (.int .i64) (.agg (.pair (.int .u64) (.pair (.int .u64) (.pair (.int .u64) (.int .u64))))))), rs := [.dat (.agg (.pair (.int .i64) (.agg (.pair (.int .u64) (.pair (.int .u64) (.pair (.int .u64) (.int .u64)))))))], nout := 1, F := fun x => F_law03_rest x.1 x.2.1 x.2.2.1 x.2.2.2 }
def hint_F_law03_rest : Hint := H0
theorem run_F_law03_rest : runE ⟨tdGet tys, [con_F_ref01_Times, con_F_ref01_Minor, con_F_ref01_Sum]⟩ con_F_law03_rest Try.f41 hint_F_law03_rest = con_F_law03_rest.F := by
  funext x
  kernel_rfl
theorem ok_F_law03_rest : ConOK Try.prog con_F_law03_rest :=
  con_of_run (Γ := ⟨tdGet tys, [con_F_ref01_Times, con_F_ref01_Minor, con_F_ref01_Sum]⟩) ⟨fun T d h => tysB_ok tys tys_ok T d h, by simp [ok_F_ref01_Times, ok_F_ref01_Minor, ok_F_ref01_Sum]⟩ (by kernel_rfl) Try.func41 rfl (by kernel_rfl) run_F_law03_rest
/-- odograph/odographlaw03.sign -/
noncomputable def F_law03_sign (x_1 : (Int × (Int × (Int × (Int × Int))))) : Option Int :=
  (bif (x_1.2.1 != (0 : Int)) then
    some x_1.1
  else
    (bif (x_1.2.2.1 != (0 : Int)) then
      some x_1.1
    else
      let t11_2 : Bool := (x_1.2.2.2.1 != (0 : Int))
      (bif t11_2 then
        some x_1.1
      else
        let t11_3 : Bool := (x_1.2.2.2.2 != (0 : Int))
        (bif t11_3 then
          some x_1.1
        else
          some (0 : Int)))))
noncomputable def con_F_law03_sign : Con := { f := 43, ps := [.dat (.agg (.pair (.int .i64) (.agg (.pair (.int .u64) (.pair (.int .u64) (.pair (.int .u64) (.int .u64)))))))], boxes := [], ins := (.agg (.pair (.int .i64) (.agg (.pair (.int .u64) (.pair (.int .u64) (.pair (.int .u64) (.int .u64))))))), nin := 1, outs := (.int .i64), rs := [.dat (.int .i64)], nout := 1, F := fun x => F_law03_sign x }
def hint_F_law03_sign : Hint := (.mk .plain [H0, (.mk .plain [(.mk .plain [H0, (.mk .plain [(.mk (.unroll 5) [])])])])])
theorem run_F_law03_sign : runE ⟨tdGet tys, []⟩ con_F_law03_sign Try.f43 hint_F_law03_sign = con_F_law03_sign.F := by
  funext x
  kernel_rfl
theorem ok_F_law03_sign : ConOK Try.prog con_F_law03_sign :=
  con_of_run (Γ := ⟨tdGet tys, []⟩) ⟨fun T d h => tysB_ok tys tys_ok T d h, by simp []⟩ (by kernel_rfl) Try.func43 rfl (by kernel_rfl) run_F_law03_sign
/-- odograph/odographlaw03.beyond -/
noncomputable def F_law03_beyond (a_1 : Int) (b_2 : Int) (c_3 : Int) (up_4 : Bool) : Option Bool :=
  (F_law03_rest a_1 b_2 (-9223372036854775808 : Int) c_3).bind fun t17_5 =>
  (F_law03_rest a_1 b_2 (9223372036854775807 : Int) c_3).bind fun t21_6 =>
  (F_law03_sign t17_5).bind fun t23_7 =>
  (F_law03_sign t21_6).bind fun t25_8 =>
  let t27_9 : Bool := (decide (c_3 < (0 : Int)))
  Option.bind (
    (bif t27_9 then
      let t29_10 : Int := (IntKind.wrap .i64 (0 - t23_7))
      let t31_11 : Int := (IntKind.wrap .i64 (0 - t25_8))
      some (t31_11, t29_10)
    else
      some (t25_8, t23_7))) fun r_12 =>
  let y_13 : Int := r_12.1
  let x_14 : Int := r_12.2
  (F_ref01_Of c_3).bind fun t33_15 =>
  let w_16 : (Int × (Int × (Int × (Int × Int)))) := ((1 : Int), t33_15.2)
  (bif up_4 then
    let t38_17 : Bool := (decide ((0 : Int) < y_13))
    let t41_18 : Bool := (decide (x_14 < (0 : Int)))
    (bif (t41_18 && !t38_17) then F_ref01_Less t17_5.2 w_16.2 else some false).bind fun t47_19 =>
    let t49_20 : Bool := (bif t41_18 then (!t47_19) else false)
    let t50_21 : Bool := (bif t38_17 then true else t49_20)
    some t50_21
  else
    let t52_22 : Bool := (decide (x_14 < (0 : Int)))
    let t55_23 : Bool := (decide ((0 : Int) < y_13))
    (bif (t55_23 && !t52_22) then F_ref01_Less t21_6.2 w_16.2 else some false).bind fun t61_24 =>
    let t63_25 : Bool := (bif t55_23 then (!t61_24) else false)
    let t64_26 : Bool := (bif t52_22 then true else t63_25)
    some t64_26)
noncomputable def con_F_law03_beyond : Con := { f := 39, ps := [.dat (.int .i64), .dat (.int .i64), .dat (.int .i64), .dat .bool], boxes := [], ins := (.pair (.int .i64) (.pair (.int .i64) (.pair (.int .i64) .bool))), nin := 4, outs := .bool, rs := [.dat .bool], nout := 1, F := fun x => F_law03_beyond x.1 x.2.1 x.2.2.1 x.2.2.2 }
def hint_F_law03_beyond : Hint := (.mk .plain [H0, (.mk .plain [H0, (.mk .plain [H0, (.mk .plain [(.mk .plain [H0, (.mk (.join [(0, 30), (0, 31), (0, 29), (0, 28)] [(.normal, [⟨.slot 12, (.int .i64), none⟩, ⟨.slot 11, (.int .i64), none⟩])]) [])])])])])])
theorem run_F_law03_beyond : runE ⟨tdGet tys, [con_F_law03_rest, con_F_law03_sign, con_F_ref01_Of, con_F_ref01_Less]⟩ con_F_law03_beyond Try.f39 hint_F_law03_beyond = con_F_law03_beyond.F := by
  funext x
  kernel_rfl
theorem ok_F_law03_beyond : ConOK Try.prog con_F_law03_beyond :=
  con_of_run (Γ := ⟨tdGet tys, [con_F_law03_rest, con_F_law03_sign, con_F_ref01_Of, con_F_ref01_Less]⟩) ⟨fun T d h => tysB_ok tys tys_ok T d h, by simp [ok_F_law03_rest, ok_F_law03_sign, ok_F_ref01_Of, ok_F_ref01_Less]⟩ (by kernel_rfl) Try.func39 rfl (by kernel_rfl) run_F_law03_beyond
/-- odograph/odographlaw03.lies -/
noncomputable def F_law03_lies (r_1 : (Int × (Int × (Int × (Int × Int))))) (c_2 : Int) (up_3 : Bool) : Option Bool :=
  let t9_4 : Bool := (decide (c_2 < (0 : Int)))
  Option.bind (
    (bif (!(t9_4 == up_3)) then
      some (-1 : Int)
    else
      some (1 : Int))) fun r_5 =>
  (F_law03_sign r_1).bind fun t13_6 =>
  (bif !(t13_6 == (0 : Int)) then F_law03_sign r_1 else some (0 : Int)).bind fun t17_7 =>
  (bif ((t17_7 == r_5) && !(t13_6 == (0 : Int))) then F_ref01_Of c_2 else some ((0 : Int), ((0 : Int), ((0 : Int), ((0 : Int), (0 : Int)))))).bind fun t24_8 =>
  (bif ((t17_7 == r_5) && !(t13_6 == (0 : Int))) then F_ref01_Less r_1.2 t24_8.2 else some false).bind fun t26_9 =>
  let t27_10 : Bool := (bif (t17_7 == r_5) then t26_9 else false)
  let t28_11 : Bool := (bif (t13_6 == (0 : Int)) then true else t27_10)
  some t28_11
noncomputable def con_F_law03_lies : Con := { f := 40, ps := [.dat (.agg (.pair (.int .i64) (.agg (.pair (.int .u64) (.pair (.int .u64) (.pair (.int .u64) (.int .u64))))))), .dat (.int .i64), .dat .bool], boxes := [], ins := (.pair (.agg (.pair (.int .i64) (.agg (.pair (.int .u64) (.pair (.int .u64) (.pair (.int .u64) (.int .u64))))))) (.pair (.int .i64) .bool)), nin := 3, outs := .bool, rs := [.dat .bool], nout := 1, F := fun x => F_law03_lies x.1 x.2.1 x.2.2 }
def hint_F_law03_lies : Hint := (.mk .plain [H0, (.mk .plain [H0, (.mk .plain [(.mk .plain [H0, (.mk (.join [] [(.normal, [⟨.slot 7, (.int .i64), none⟩])]) [])])])])])
theorem run_F_law03_lies : runE ⟨tdGet tys, [con_F_law03_sign, con_F_ref01_Of, con_F_ref01_Less]⟩ con_F_law03_lies Try.f40 hint_F_law03_lies = con_F_law03_lies.F := by
  funext x
  kernel_rfl
theorem ok_F_law03_lies : ConOK Try.prog con_F_law03_lies :=
  con_of_run (Γ := ⟨tdGet tys, [con_F_law03_sign, con_F_ref01_Of, con_F_ref01_Less]⟩) ⟨fun T d h => tysB_ok tys tys_ok T d h, by simp [ok_F_law03_sign, ok_F_ref01_Of, ok_F_ref01_Less]⟩ (by kernel_rfl) Try.func40 rfl (by kernel_rfl) run_F_law03_lies
/-- odograph/odographlaw03.RatioFloors -/
noncomputable def F_law03_RatioFloors (a_1 : Int) (b_2 : Int) (c_3 : Int) : Option Bool :=
  (F_law03_anchor ()).bind fun t9_4 =>
  (bif (!t9_4) then
    some false
  else
    (F_ratio_Floor a_1 b_2 c_3).bind fun t15_5 =>
    (bif (c_3 == (0 : Int)) then
      let t25_6 : Bool := (bif (t15_5.2 == (21 : Int)) then (t15_5.1 == (0 : Int)) else false)
      some t25_6
    else
      (bif (t15_5.2 != (0 : Int)) then
        let t33_7 : Bool := (bif (t15_5.2 == (20 : Int)) then (t15_5.1 == (0 : Int)) else false)
        (bif t33_7 then F_law03_beyond a_1 b_2 c_3 false else some false).bind fun t38_8 =>
        let t39_9 : Bool := (bif t33_7 then t38_8 else false)
        some t39_9
      else
        (F_law03_rest a_1 b_2 t15_5.1 c_3).bind fun t44_10 =>
        (F_law03_lies t44_10 c_3 false).bind fun t46_11 =>
        some t46_11)))
noncomputable def con_F_law03_RatioFloors : Con := { f := 9, ps := [.dat (.int .i64), .dat (.int .i64), .dat (.int .i64)], boxes := [], ins := (.pair (.int .i64) (.pair (.int .i64) (.int .i64))), nin := 3, outs := .bool, rs := [.dat .bool], nout := 1, F := fun x => F_law03_RatioFloors x.1 x.2.1 x.2.2 }
def hint_F_law03_RatioFloors : Hint := H0
theorem run_F_law03_RatioFloors : runE ⟨tdGet tys, [con_F_law03_anchor, con_F_ratio_Floor, con_F_law03_beyond, con_F_law03_rest, con_F_law03_lies]⟩ con_F_law03_RatioFloors Try.f9 hint_F_law03_RatioFloors = con_F_law03_RatioFloors.F := by
  funext x
  kernel_rfl
theorem ok_F_law03_RatioFloors : ConOK Try.prog con_F_law03_RatioFloors :=
  con_of_run (Γ := ⟨tdGet tys, [con_F_law03_anchor, con_F_ratio_Floor, con_F_law03_beyond, con_F_law03_rest, con_F_law03_lies]⟩) ⟨fun T d h => tysB_ok tys tys_ok T d h, by simp [ok_F_law03_anchor, ok_F_ratio_Floor, ok_F_law03_beyond, ok_F_law03_rest, ok_F_law03_lies]⟩ (by kernel_rfl) Try.func9 rfl (by kernel_rfl) run_F_law03_RatioFloors
/-- odograph/odographlaw03.RatioCeils -/
noncomputable def F_law03_RatioCeils (a_1 : Int) (b_2 : Int) (c_3 : Int) : Option Bool :=
  (F_law03_anchor ()).bind fun t9_4 =>
  (bif (!t9_4) then
    some false
  else
    (F_ratio_Ceil a_1 b_2 c_3).bind fun t15_5 =>
    (bif (c_3 == (0 : Int)) then
      let t25_6 : Bool := (bif (t15_5.2 == (21 : Int)) then (t15_5.1 == (0 : Int)) else false)
      some t25_6
    else
      (bif (t15_5.2 != (0 : Int)) then
        let t33_7 : Bool := (bif (t15_5.2 == (20 : Int)) then (t15_5.1 == (0 : Int)) else false)
        (bif t33_7 then F_law03_beyond a_1 b_2 c_3 true else some false).bind fun t38_8 =>
        let t39_9 : Bool := (bif t33_7 then t38_8 else false)
        some t39_9
      else
        (F_law03_rest a_1 b_2 t15_5.1 c_3).bind fun t44_10 =>
        (F_law03_lies t44_10 c_3 true).bind fun t46_11 =>
        some t46_11)))
noncomputable def con_F_law03_RatioCeils : Con := { f := 10, ps := [.dat (.int .i64), .dat (.int .i64), .dat (.int .i64)], boxes := [], ins := (.pair (.int .i64) (.pair (.int .i64) (.int .i64))), nin := 3, outs := .bool, rs := [.dat .bool], nout := 1, F := fun x => F_law03_RatioCeils x.1 x.2.1 x.2.2 }
def hint_F_law03_RatioCeils : Hint := H0
theorem run_F_law03_RatioCeils : runE ⟨tdGet tys, [con_F_law03_anchor, con_F_ratio_Ceil, con_F_law03_beyond, con_F_law03_rest, con_F_law03_lies]⟩ con_F_law03_RatioCeils Try.f10 hint_F_law03_RatioCeils = con_F_law03_RatioCeils.F := by
  funext x
  kernel_rfl
theorem ok_F_law03_RatioCeils : ConOK Try.prog con_F_law03_RatioCeils :=
  con_of_run (Γ := ⟨tdGet tys, [con_F_law03_anchor, con_F_ratio_Ceil, con_F_law03_beyond, con_F_law03_rest, con_F_law03_lies]⟩) ⟨fun T d h => tysB_ok tys tys_ok T d h, by simp [ok_F_law03_anchor, ok_F_ratio_Ceil, ok_F_law03_beyond, ok_F_law03_rest, ok_F_law03_lies]⟩ (by kernel_rfl) Try.func10 rfl (by kernel_rfl) run_F_law03_RatioCeils
/-- odograph/odographlaw03.RatioBoth -/
noncomputable def F_law03_RatioBoth (a_1 : Int) (b_2 : Int) (c_3 : Int) : Option Bool :=
  (F_law03_anchor ()).bind fun t13_4 =>
  (bif (!t13_4) then
    some false
  else
    (F_ratio_Floor a_1 b_2 c_3).bind fun t19_5 =>
    (F_ratio_Ceil a_1 b_2 c_3).bind fun t26_6 =>
    let t34_7 : Bool := (bif (t19_5.2 != (0 : Int)) then true else (t26_6.2 != (0 : Int)))
    (bif t34_7 then
      some true
    else
      let t40_8 : Bool := (t19_5.1 == (9223372036854775807 : Int))
      let t44_9 : Int := (IntKind.wrap .i64 (t19_5.1 + (1 : Int)))
      let t46_10 : Bool := (bif t40_8 then true else (t26_6.1 != t44_9))
      let t47_11 : Bool := (bif (t26_6.1 != t19_5.1) then t46_10 else false)
      (bif !t47_11 then F_law03_rest a_1 b_2 t19_5.1 c_3 else some ((0 : Int), ((0 : Int), ((0 : Int), ((0 : Int), (0 : Int)))))).bind fun t56_12 =>
      (bif !t47_11 then F_law03_sign t56_12 else some (0 : Int)).bind fun t57_13 =>
      let t59_14 : Bool := (!((t26_6.1 == t19_5.1) == (t57_13 == (0 : Int))))
      let t60_15 : Bool := (bif t47_11 then true else t59_14)
      (bif t60_15 then
        some false
      else
        let t62_16 : Bool := (a_1 == (-9223372036854775808 : Int))
        let t65_17 : Bool := (t19_5.1 == (-9223372036854775808 : Int))
        let t66_18 : Bool := (bif t62_16 then true else t65_17)
        (bif t66_18 then
          some true
        else
          let t69_19 : Int := (IntKind.wrap .i64 (0 - a_1))
          (F_ratio_Ceil t69_19 b_2 c_3).bind fun t72_20 =>
          let t80_21 : Int := (IntKind.wrap .i64 (0 - t19_5.1))
          let t82_22 : Bool := (bif (t72_20.2 == (0 : Int)) then (t72_20.1 == t80_21) else false)
          some t82_22))))
noncomputable def con_F_law03_RatioBoth : Con := { f := 11, ps := [.dat (.int .i64), .dat (.int .i64), .dat (.int .i64)], boxes := [], ins := (.pair (.int .i64) (.pair (.int .i64) (.int .i64))), nin := 3, outs := .bool, rs := [.dat .bool], nout := 1, F := fun x => F_law03_RatioBoth x.1 x.2.1 x.2.2 }
def hint_F_law03_RatioBoth : Hint := H0
theorem run_F_law03_RatioBoth : runE ⟨tdGet tys, [con_F_law03_anchor, con_F_ratio_Floor, con_F_ratio_Ceil, con_F_law03_rest, con_F_law03_sign]⟩ con_F_law03_RatioBoth Try.f11 hint_F_law03_RatioBoth = con_F_law03_RatioBoth.F := by
  funext x
  kernel_rfl
theorem ok_F_law03_RatioBoth : ConOK Try.prog con_F_law03_RatioBoth :=
  con_of_run (Γ := ⟨tdGet tys, [con_F_law03_anchor, con_F_ratio_Floor, con_F_ratio_Ceil, con_F_law03_rest, con_F_law03_sign]⟩) ⟨fun T d h => tysB_ok tys tys_ok T d h, by simp [ok_F_law03_anchor, ok_F_ratio_Floor, ok_F_ratio_Ceil, ok_F_law03_rest, ok_F_law03_sign]⟩ (by kernel_rfl) Try.func11 rfl (by kernel_rfl) run_F_law03_RatioBoth
/-- odograph/odographlaw03.RatioOrder -/
noncomputable def F_law03_RatioOrder (a_1 : Int) (more_2 : Int) (b_3 : Int) (c_4 : Int) : Option Bool :=
  (F_law03_anchor ()).bind fun t17_5 =>
  (bif (!t17_5) then
    some false
  else
    let t24_6 : Bool := (decide (b_3 < (0 : Int)))
    let t25_7 : Bool := (bif (decide (more_2 < a_1)) then true else t24_6)
    let t28_8 : Bool := (decide (c_4 ≤ (0 : Int)))
    let t29_9 : Bool := (bif t25_7 then true else t28_8)
    (bif t29_9 then
      some true
    else
      (F_ratio_Floor a_1 b_3 c_4).bind fun t34_10 =>
      (F_ratio_Floor more_2 b_3 c_4).bind fun t41_11 =>
      (F_ratio_Ceil a_1 b_3 c_4).bind fun t48_12 =>
      (F_ratio_Ceil more_2 b_3 c_4).bind fun t55_13 =>
      let t63_14 : Bool := (bif (t34_10.2 != (0 : Int)) then true else (t41_11.2 != (0 : Int)))
      let t67_15 : Bool := (decide (t34_10.1 ≤ t41_11.1))
      let t68_16 : Bool := (bif t63_14 then true else t67_15)
      let t75_17 : Bool := (bif (t48_12.2 != (0 : Int)) then true else (t55_13.2 != (0 : Int)))
      let t79_18 : Bool := (decide (t48_12.1 ≤ t55_13.1))
      let t80_19 : Bool := (bif t75_17 then true else t79_18)
      let t81_20 : Bool := (bif t68_16 then t80_19 else false)
      some t81_20))
noncomputable def con_F_law03_RatioOrder : Con := { f := 12, ps := [.dat (.int .i64), .dat (.int .i64), .dat (.int .i64), .dat (.int .i64)], boxes := [], ins := (.pair (.int .i64) (.pair (.int .i64) (.pair (.int .i64) (.int .i64)))), nin := 4, outs := .bool, rs := [.dat .bool], nout := 1, F := fun x => F_law03_RatioOrder x.1 x.2.1 x.2.2.1 x.2.2.2 }
def hint_F_law03_RatioOrder : Hint := H0
theorem run_F_law03_RatioOrder : runE ⟨tdGet tys, [con_F_law03_anchor, con_F_ratio_Floor, con_F_ratio_Ceil]⟩ con_F_law03_RatioOrder Try.f12 hint_F_law03_RatioOrder = con_F_law03_RatioOrder.F := by
  funext x
  kernel_rfl
theorem ok_F_law03_RatioOrder : ConOK Try.prog con_F_law03_RatioOrder :=
  con_of_run (Γ := ⟨tdGet tys, [con_F_law03_anchor, con_F_ratio_Floor, con_F_ratio_Ceil]⟩) ⟨fun T d h => tysB_ok tys tys_ok T d h, by simp [ok_F_law03_anchor, ok_F_ratio_Floor, ok_F_ratio_Ceil]⟩ (by kernel_rfl) Try.func12 rfl (by kernel_rfl) run_F_law03_RatioOrder
/-- odograph/ratio.Root -/
noncomputable def F_ratio_Root (a_1 : Int) (b_2 : Int) : Option (Int × Int) :=
  let t7_3 : Bool := (decide (a_1 < (0 : Int)))
  let t10_4 : Bool := (decide (b_2 < (0 : Int)))
  let t11_5 : Bool := (bif t7_3 then true else t10_4)
  (bif t11_5 then
    some ((0 : Int), (10 : Int))
  else
    (F_wide_Mul (IntKind.wrap .u64 a_1) (IntKind.wrap .u64 b_2)).bind fun t16_6 =>
    (F_wide_U_Root t16_6).bind fun t17_7 =>
    let t18_8 : Int := (IntKind.wrap .i64 t17_7)
    some (t18_8, (0 : Int)))
noncomputable def con_F_ratio_Root : Con := { f := 44, ps := [.dat (.int .i64), .dat (.int .i64)], boxes := [], ins := (.pair (.int .i64) (.int .i64)), nin := 2, outs := (.pair (.int .i64) (.int .i64)), rs := [.dat (.int .i64), .dat (.int .i64)], nout := 2, F := fun x => F_ratio_Root x.1 x.2 }
def hint_F_ratio_Root : Hint := H0
theorem run_F_ratio_Root : runE ⟨tdGet tys, [con_F_wide_Mul, con_F_wide_U_Root]⟩ con_F_ratio_Root Try.f44 hint_F_ratio_Root = con_F_ratio_Root.F := by
  funext x
  kernel_rfl
theorem ok_F_ratio_Root : ConOK Try.prog con_F_ratio_Root :=
  con_of_run (Γ := ⟨tdGet tys, [con_F_wide_Mul, con_F_wide_U_Root]⟩) ⟨fun T d h => tysB_ok tys tys_ok T d h, by simp [ok_F_wide_Mul, ok_F_wide_U_Root]⟩ (by kernel_rfl) Try.func44 rfl (by kernel_rfl) run_F_ratio_Root
/-- odograph/odographlaw03.RatioRoots -/
noncomputable def F_law03_RatioRoots (a_1 : Int) (b_2 : Int) : Option Bool :=
  (F_law03_anchor ()).bind fun t8_3 =>
  (bif (!t8_3) then
    some false
  else
    (F_ratio_Root a_1 b_2).bind fun t13_4 =>
    let t17_5 : Bool := (decide (a_1 < (0 : Int)))
    let t20_6 : Bool := (decide (b_2 < (0 : Int)))
    let t21_7 : Bool := (bif t17_5 then true else t20_6)
    (bif t21_7 then
      let t27_8 : Bool := (bif (t13_4.2 == (10 : Int)) then (t13_4.1 == (0 : Int)) else false)
      some t27_8
    else
      let t32_9 : Bool := (decide (t13_4.1 < (0 : Int)))
      let t33_10 : Bool := (bif (t13_4.2 != (0 : Int)) then true else t32_9)
      let t36_11 : Bool := (t13_4.1 == (9223372036854775807 : Int))
      let t37_12 : Bool := (bif t33_10 then true else t36_11)
      (bif t37_12 then
        let t42_13 : Bool := (t13_4.1 == (9223372036854775807 : Int))
        let t43_14 : Bool := (bif (t13_4.2 == (0 : Int)) then t42_13 else false)
        let t48_15 : Bool := (bif t43_14 then (a_1 == t13_4.1) else false)
        let t53_16 : Bool := (bif t48_15 then (b_2 == t13_4.1) else false)
        some t53_16
      else
        (F_ref01_Times a_1 b_2).bind fun t56_17 =>
        (F_ref01_Times t13_4.1 t13_4.1).bind fun t61_18 =>
        (F_ref01_Less t56_17.2 t61_18.2).bind fun t63_19 =>
        let t69_20 : Int := (IntKind.wrap .i64 (t13_4.1 + (1 : Int)))
        let t71_21 : Int := (IntKind.wrap .i64 (t13_4.1 + (1 : Int)))
        (bif (!t63_19) then F_ref01_Times t69_20 t71_21 else some ((0 : Int), ((0 : Int), ((0 : Int), ((0 : Int), (0 : Int)))))).bind fun t72_22 =>
        (bif (!t63_19) then F_ref01_Less t56_17.2 t72_22.2 else some false).bind fun t74_23 =>
        let t75_24 : Bool := (bif (!t63_19) then t74_23 else false)
        some t75_24)))
noncomputable def con_F_law03_RatioRoots : Con := { f := 13, ps := [.dat (.int .i64), .dat (.int .i64)], boxes := [], ins := (.pair (.int .i64) (.int .i64)), nin := 2, outs := .bool, rs := [.dat .bool], nout := 1, F := fun x => F_law03_RatioRoots x.1 x.2 }
def hint_F_law03_RatioRoots : Hint := H0
theorem run_F_law03_RatioRoots : runE ⟨tdGet tys, [con_F_law03_anchor, con_F_ratio_Root, con_F_ref01_Times, con_F_ref01_Less]⟩ con_F_law03_RatioRoots Try.f13 hint_F_law03_RatioRoots = con_F_law03_RatioRoots.F := by
  funext x
  kernel_rfl
theorem ok_F_law03_RatioRoots : ConOK Try.prog con_F_law03_RatioRoots :=
  con_of_run (Γ := ⟨tdGet tys, [con_F_law03_anchor, con_F_ratio_Root, con_F_ref01_Times, con_F_ref01_Less]⟩) ⟨fun T d h => tysB_ok tys tys_ok T d h, by simp [ok_F_law03_anchor, ok_F_ratio_Root, ok_F_ref01_Times, ok_F_ref01_Less]⟩ (by kernel_rfl) Try.func13 rfl (by kernel_rfl) run_F_law03_RatioRoots
/-- (odograph/span.Span).Right -/
noncomputable def F_span_Span_Right (s_1 : (Int × Int)) : Option Bool :=
  some (decide (s_1.1 ≤ s_1.2))
noncomputable def con_F_span_Span_Right : Con := { f := 55, ps := [.dat (.agg (.pair (.int .i64) (.int .i64)))], boxes := [], ins := (.agg (.pair (.int .i64) (.int .i64))), nin := 1, outs := .bool, rs := [.dat .bool], nout := 1, F := fun x => F_span_Span_Right x }
def hint_F_span_Span_Right : Hint := H0
theorem run_F_span_Span_Right : runE ⟨tdGet tys, []⟩ con_F_span_Span_Right Try.f55 hint_F_span_Span_Right = con_F_span_Span_Right.F := by
  funext x
  kernel_rfl
theorem ok_F_span_Span_Right : ConOK Try.prog con_F_span_Span_Right :=
  con_of_run (Γ := ⟨tdGet tys, []⟩) ⟨fun T d h => tysB_ok tys tys_ok T d h, by simp []⟩ (by kernel_rfl) Try.func55 rfl (by kernel_rfl) run_F_span_Span_Right
/-- (odograph/span.Span).Times -/
noncomputable def F_span_Span_Times (s_1 : (Int × Int)) (k_2 : Int) (by_3 : Int) : Option ((Int × Int) × Int) :=
  (F_span_Span_Right s_1).bind fun t14_4 =>
  let t18_5 : Bool := (decide (by_3 < (1 : Int)))
  let t19_6 : Bool := (bif (!t14_4) then true else t18_5)
  (bif t19_6 then
    let w_7 : (Int × Int) := ((0 : Int), (0 : Int))
    some (w_7, (10 : Int))
  else
    let t26_8 : Bool := (decide (k_2 < (0 : Int)))
    Option.bind (
      (bif t26_8 then
        some (s_1.2, s_1.1)
      else
        some (s_1.1, s_1.2))) fun r_9 =>
    let lo_10 : Int := r_9.1
    let hi_11 : Int := r_9.2
    (F_ratio_Floor k_2 lo_10 by_3).bind fun t33_12 =>
    (bif (t33_12.2 != (0 : Int)) then
      let w_13 : (Int × Int) := ((0 : Int), (0 : Int))
      some (w_13, t33_12.2)
    else
      (F_ratio_Ceil k_2 hi_11 by_3).bind fun t44_14 =>
      (bif (t44_14.2 != (0 : Int)) then
        let w_15 : (Int × Int) := ((0 : Int), (0 : Int))
        some (w_15, t44_14.2)
      else
        let w_16 : (Int × Int) := (t33_12.1, t44_14.1)
        some (w_16, (0 : Int)))))
noncomputable def con_F_span_Span_Times : Con := { f := 48, ps := [.dat (.agg (.pair (.int .i64) (.int .i64))), .dat (.int .i64), .dat (.int .i64)], boxes := [], ins := (.pair (.agg (.pair (.int .i64) (.int .i64))) (.pair (.int .i64) (.int .i64))), nin := 3, outs := (.pair (.agg (.pair (.int .i64) (.int .i64))) (.int .i64)), rs := [.dat (.agg (.pair (.int .i64) (.int .i64))), .dat (.int .i64)], nout := 2, F := fun x => F_span_Span_Times x.1 x.2.1 x.2.2 }
def hint_F_span_Span_Times : Hint := (.mk .plain [H0, (.mk .plain [H0, (.mk .plain [H0, (.mk .plain [(.mk .plain [H0, (.mk (.join [(0, 27), (0, 28)] [(.normal, [⟨.slot 8, (.int .i64), none⟩, ⟨.slot 9, (.int .i64), none⟩])]) [])])])])])])
theorem run_F_span_Span_Times : runE ⟨tdGet tys, [con_F_span_Span_Right, con_F_ratio_Floor, con_F_ratio_Ceil]⟩ con_F_span_Span_Times Try.f48 hint_F_span_Span_Times = con_F_span_Span_Times.F := by
  funext x
  kernel_rfl
theorem ok_F_span_Span_Times : ConOK Try.prog con_F_span_Span_Times :=
  con_of_run (Γ := ⟨tdGet tys, [con_F_span_Span_Right, con_F_ratio_Floor, con_F_ratio_Ceil]⟩) ⟨fun T d h => tysB_ok tys tys_ok T d h, by simp [ok_F_span_Span_Right, ok_F_ratio_Floor, ok_F_ratio_Ceil]⟩ (by kernel_rfl) Try.func48 rfl (by kernel_rfl) run_F_span_Span_Times
/-- odograph/odographlaw04.anchor -/
noncomputable def F_law04_anchor (_ : Unit) : Option Bool :=
  (F_span_Span_Times ((3 : Int), (5 : Int)) (-3 : Int) (2 : Int)).bind fun t5_1 =>
  let t13_2 : Bool := (eqT (.agg (.pair (.int .i64) (.int .i64))) t5_1.1 ((-8 : Int), (-4 : Int)))
  let t14_3 : Bool := (bif (t5_1.2 == (0 : Int)) then t13_2 else false)
  some t14_3
noncomputable def con_F_law04_anchor : Con := { f := 47, ps := [], boxes := [], ins := .unit, nin := 0, outs := .bool, rs := [.dat .bool], nout := 1, F := fun x => F_law04_anchor () }
def hint_F_law04_anchor : Hint := H0
theorem run_F_law04_anchor : runE ⟨tdGet tys, [con_F_span_Span_Times]⟩ con_F_law04_anchor Try.f47 hint_F_law04_anchor = con_F_law04_anchor.F := by
  funext x
  kernel_rfl
theorem ok_F_law04_anchor : ConOK Try.prog con_F_law04_anchor :=
  con_of_run (Γ := ⟨tdGet tys, [con_F_span_Span_Times]⟩) ⟨fun T d h => tysB_ok tys tys_ok T d h, by simp [ok_F_span_Span_Times]⟩ (by kernel_rfl) Try.func47 rfl (by kernel_rfl) run_F_law04_anchor
/-- odograph/odographref04.Above -/
noncomputable def F_ref04_Above (n_1 : Int) (by_2 : Int) (p_3 : (Int × (Int × (Int × (Int × Int))))) : Option Bool :=
  (F_ref01_Times n_1 by_2).bind fun t10_4 =>
  (F_ref01_Minor p_3).bind fun t12_5 =>
  (F_ref01_Sum t10_4 t12_5).bind fun t13_6 =>
  let t16_7 : Bool := (decide ((0 : Int) < t13_6.1))
  let t20_8 : (Int × (Int × (Int × Int))) := ((0 : Int), ((0 : Int), ((0 : Int), (0 : Int))))
  let t21_9 : Bool := (!(eqT (.agg (.pair (.int .u64) (.pair (.int .u64) (.pair (.int .u64) (.int .u64))))) t13_6.2 t20_8))
  let t22_10 : Bool := (bif t16_7 then t21_9 else false)
  some t22_10
noncomputable def con_F_ref04_Above : Con := { f := 67, ps := [.dat (.int .i64), .dat (.int .i64), .dat (.agg (.pair (.int .i64) (.agg (.pair (.int .u64) (.pair (.int .u64) (.pair (.int .u64) (.int .u64)))))))], boxes := [], ins := (.pair (.int .i64) (.pair (.int .i64) (.agg (.pair (.int .i64) (.agg (.pair (.int .u64) (.pair (.int .u64) (.pair (.int .u64) (.int .u64))))))))), nin := 3, outs := .bool, rs := [.dat .bool], nout := 1, F := fun x => F_ref04_Above x.1 x.2.1 x.2.2 }
def hint_F_ref04_Above : Hint := H0
theorem run_F_ref04_Above : runE ⟨tdGet tys, [con_F_ref01_Times, con_F_ref01_Minor, con_F_ref01_Sum]⟩ con_F_ref04_Above Try.f67 hint_F_ref04_Above = con_F_ref04_Above.F := by
  funext x
  kernel_rfl
theorem ok_F_ref04_Above : ConOK Try.prog con_F_ref04_Above :=
  con_of_run (Γ := ⟨tdGet tys, [con_F_ref01_Times, con_F_ref01_Minor, con_F_ref01_Sum]⟩) ⟨fun T d h => tysB_ok tys tys_ok T d h, by simp [ok_F_ref01_Times, ok_F_ref01_Minor, ok_F_ref01_Sum]⟩ (by kernel_rfl) Try.func67 rfl (by kernel_rfl) run_F_ref04_Above
/-- odograph/odographref04.Above2 -/
noncomputable def F_ref04_Above2 (n_1 : Int) (by_2 : Int) (p_3 : (Int × (Int × (Int × (Int × Int))))) : Option Bool :=
  (F_ref01_Times n_1 by_2).bind fun t11_4 =>
  (F_ref01_Of by_2).bind fun t13_5 =>
  (F_ref01_Sum t11_4 t13_5).bind fun t14_6 =>
  (F_ref01_Minor t14_6).bind fun t15_7 =>
  (F_ref01_Sum p_3 t15_7).bind fun t16_8 =>
  let t19_9 : Bool := (decide ((0 : Int) < t16_8.1))
  let t23_10 : (Int × (Int × (Int × Int))) := ((0 : Int), ((0 : Int), ((0 : Int), (0 : Int))))
  let t24_11 : Bool := (eqT (.agg (.pair (.int .u64) (.pair (.int .u64) (.pair (.int .u64) (.int .u64))))) t16_8.2 t23_10)
  let t25_12 : Bool := (bif t19_9 then true else t24_11)
  some t25_12
noncomputable def con_F_ref04_Above2 : Con := { f := 68, ps := [.dat (.int .i64), .dat (.int .i64), .dat (.agg (.pair (.int .i64) (.agg (.pair (.int .u64) (.pair (.int .u64) (.pair (.int .u64) (.int .u64)))))))], boxes := [], ins := (.pair (.int .i64) (.pair (.int .i64) (.agg (.pair (.int .i64) (.agg (.pair (.int .u64) (.pair (.int .u64) (.pair (.int .u64) (.int .u64))))))))), nin := 3, outs := .bool, rs := [.dat .bool], nout := 1, F := fun x => F_ref04_Above2 x.1 x.2.1 x.2.2 }
def hint_F_ref04_Above2 : Hint := H0
theorem run_F_ref04_Above2 : runE ⟨tdGet tys, [con_F_ref01_Times, con_F_ref01_Of, con_F_ref01_Sum, con_F_ref01_Minor]⟩ con_F_ref04_Above2 Try.f68 hint_F_ref04_Above2 = con_F_ref04_Above2.F := by
  funext x
  kernel_rfl
theorem ok_F_ref04_Above2 : ConOK Try.prog con_F_ref04_Above2 :=
  con_of_run (Γ := ⟨tdGet tys, [con_F_ref01_Times, con_F_ref01_Of, con_F_ref01_Sum, con_F_ref01_Minor]⟩) ⟨fun T d h => tysB_ok tys tys_ok T d h, by simp [ok_F_ref01_Times, ok_F_ref01_Of, ok_F_ref01_Sum, ok_F_ref01_Minor]⟩ (by kernel_rfl) Try.func68 rfl (by kernel_rfl) run_F_ref04_Above2
/-- odograph/odographref04.Half -/
noncomputable def F_ref04_Half (lo_1 : Int) (hi_2 : Int) : Option Int :=
  let t9_3 : Int := (IntKind.wrap .u64 ((IntKind.wrap .u64 hi_2) - (IntKind.wrap .u64 lo_1)))
  let t10_4 : Int := (IntKind.wrap .u64 (t9_3.tdiv (2 : Int)))
  let t11_5 : Int := (IntKind.wrap .i64 t10_4)
  some t11_5
noncomputable def con_F_ref04_Half : Con := { f := 69, ps := [.dat (.int .i64), .dat (.int .i64)], boxes := [], ins := (.pair (.int .i64) (.int .i64)), nin := 2, outs := (.int .i64), rs := [.dat (.int .i64)], nout := 1, F := fun x => F_ref04_Half x.1 x.2 }
def hint_F_ref04_Half : Hint := H0
theorem run_F_ref04_Half : runE ⟨tdGet tys, []⟩ con_F_ref04_Half Try.f69 hint_F_ref04_Half = con_F_ref04_Half.F := by
  funext x
  kernel_rfl
theorem ok_F_ref04_Half : ConOK Try.prog con_F_ref04_Half :=
  con_of_run (Γ := ⟨tdGet tys, []⟩) ⟨fun T d h => tysB_ok tys tys_ok T d h, by simp []⟩ (by kernel_rfl) Try.func69 rfl (by kernel_rfl) run_F_ref04_Half
/-- odograph/odographref04.Quotient -/
noncomputable def F_ref04_Quotient (a_1 : Int) (b_2 : Int) (by_3 : Int) : Option (Int × Bool) :=
  (F_ref01_Times a_1 b_2).bind fun t14_4 =>
  (F_ref04_Above (-9223372036854775808 : Int) by_3 t14_4).bind fun t18_5 =>
  (bif !t18_5 then F_ref04_Above (9223372036854775807 : Int) by_3 t14_4 else some false).bind fun t23_6 =>
  (bif ((!t23_6) && !t18_5) then F_ref04_Above2 (9223372036854775807 : Int) by_3 t14_4 else some false).bind fun t29_7 =>
  let t30_8 : Bool := (bif (!t23_6) then t29_7 else false)
  let t31_9 : Bool := (bif t18_5 then true else t30_8)
  (bif t31_9 then
    some ((0 : Int), false)
  else
    Option.bind (
      loopO (X := Int) (fun (s_10 : (Int × Int)) =>
        let hi_11 : Int := s_10.1
        let lo_12 : Int := s_10.2
        (bif (decide (lo_12 < hi_11)) then
          (F_ref04_Half lo_12 hi_11).bind fun t38_13 =>
          let t39_14 : Int := (IntKind.wrap .i64 (hi_11 - t38_13))
          (F_ref04_Above t39_14 by_3 t14_4).bind fun t43_15 =>
          Option.bind (
            (bif t43_15 then
              let t45_16 : Int := (IntKind.wrap .i64 (t39_14 - (1 : Int)))
              some (t45_16, lo_12)
            else
              some (hi_11, t39_14))) fun r_17 =>
          let hi_18 : Int := r_17.1
          let lo_19 : Int := r_17.2
          some (.inl (hi_18, lo_19))
        else
          some (.inr lo_12))) ((9223372036854775807 : Int), (-9223372036854775808 : Int))) fun r_20 =>
    some (r_20, true))
noncomputable def con_F_ref04_Quotient : Con := { f := 49, ps := [.dat (.int .i64), .dat (.int .i64), .dat (.int .i64)], boxes := [], ins := (.pair (.int .i64) (.pair (.int .i64) (.int .i64))), nin := 3, outs := (.pair (.int .i64) .bool), rs := [.dat (.int .i64), .dat .bool], nout := 2, F := fun x => F_ref04_Quotient x.1 x.2.1 x.2.2 }
def hint_F_ref04_Quotient : Hint := (.mk .plain [H0, (.mk .plain [H0, (.mk .plain [H0, (.mk .plain [H0, (.mk .plain [H0, (.mk .plain [(.mk .plain [(.mk (.loop [⟨.slot 10, (.int .i64), none⟩, ⟨.slot 9, (.int .i64), none⟩] [(0, 46), (0, 36), (0, 42), (0, 39), (0, 45), (0, 35), (0, 38), (0, 32), (0, 41), (0, 33), (0, 44), (0, 34), (0, 40), (0, 37), (0, 43), (0, 11)] [(.exit 0, [⟨.slot 9, (.int .i64), none⟩])]) [(.mk .plain [H0, (.mk .plain [(.mk .plain [H0, (.mk .plain [H0, (.mk (.join [(0, 44), (0, 45), (0, 46)] [(.normal, [⟨.slot 10, (.int .i64), none⟩, ⟨.slot 9, (.int .i64), none⟩])]) [])])])])])])])])])])])])])
theorem run_F_ref04_Quotient : runE ⟨tdGet tys, [con_F_ref01_Times, con_F_ref04_Above, con_F_ref04_Above2, con_F_ref04_Half]⟩ con_F_ref04_Quotient Try.f49 hint_F_ref04_Quotient = con_F_ref04_Quotient.F := by
  funext x
  kernel_rfl
theorem ok_F_ref04_Quotient : ConOK Try.prog con_F_ref04_Quotient :=
  con_of_run (Γ := ⟨tdGet tys, [con_F_ref01_Times, con_F_ref04_Above, con_F_ref04_Above2, con_F_ref04_Half]⟩) ⟨fun T d h => tysB_ok tys tys_ok T d h, by simp [ok_F_ref01_Times, ok_F_ref04_Above, ok_F_ref04_Above2, ok_F_ref04_Half]⟩ (by kernel_rfl) Try.func49 rfl (by kernel_rfl) run_F_ref04_Quotient
/-- odograph/odographlaw04.SpanTimes -/
noncomputable def F_law04_SpanTimes (s_1 : (Int × Int)) (k_2 : Int) (by_3 : Int) : Option Bool :=
  (F_law04_anchor ()).bind fun t18_4 =>
  (bif (!t18_4) then
    some false
  else
    (F_span_Span_Times s_1 k_2 by_3).bind fun t24_5 =>
    let t34_6 : Bool := (decide (by_3 < (1 : Int)))
    let t35_7 : Bool := (bif (decide (s_1.2 < s_1.1)) then true else t34_6)
    (bif t35_7 then
      let t41_8 : Bool := (eqT (.agg (.pair (.int .i64) (.int .i64))) t24_5.1 ((0 : Int), (0 : Int)))
      let t42_9 : Bool := (bif (t24_5.2 == (10 : Int)) then t41_8 else false)
      some t42_9
    else
      let t48_10 : Bool := (decide (k_2 < (0 : Int)))
      Option.bind (
        (bif t48_10 then
          some (s_1.2, s_1.1)
        else
          some (s_1.1, s_1.2))) fun r_11 =>
      let lo_12 : Int := r_11.1
      let hi_13 : Int := r_11.2
      (F_ref04_Quotient k_2 lo_12 by_3).bind fun t55_14 =>
      (F_ref04_Quotient k_2 hi_13 by_3).bind fun t62_15 =>
      (F_ref01_Times k_2 hi_13).bind fun t67_16 =>
      Option.bind (
        (bif t62_15.2 then
          (F_ref01_Times t62_15.1 by_3).bind fun t72_17 =>
          (F_ref01_Minor t72_17).bind fun t73_18 =>
          (F_ref01_Sum t67_16 t73_18).bind fun t74_19 =>
          let t77_20 : (Int × (Int × (Int × Int))) := ((0 : Int), ((0 : Int), ((0 : Int), (0 : Int))))
          let t78_21 : Bool := (!(eqT (.agg (.pair (.int .u64) (.pair (.int .u64) (.pair (.int .u64) (.int .u64))))) t74_19.2 t77_20))
          Option.bind (
            (bif t78_21 then
              let t80_22 : Bool := (t62_15.1 != (9223372036854775807 : Int))
              Option.bind (
                (bif t80_22 then
                  let t83_23 : Int := (IntKind.wrap .i64 (t62_15.1 + (1 : Int)))
                  some t83_23
                else
                  some t62_15.1)) fun r_24 =>
              some (r_24, t80_22)
            else
              some (t62_15.1, t62_15.2))) fun r_25 =>
          let b_26 : Int := r_25.1
          let may_27 : Bool := r_25.2
          some (b_26, may_27)
        else
          (F_ref01_Times (-9223372036854775808 : Int) by_3).bind fun t85_28 =>
          (F_ref01_Minor t67_16).bind fun t87_29 =>
          (F_ref01_Sum t85_28 t87_29).bind fun t88_30 =>
          let t91_31 : Bool := (decide ((0 : Int) < t88_30.1))
          (bif t91_31 then F_ref01_Of by_3 else some ((0 : Int), ((0 : Int), ((0 : Int), ((0 : Int), (0 : Int)))))).bind fun t96_32 =>
          (bif t91_31 then F_ref01_Less t88_30.2 t96_32.2 else some false).bind fun t98_33 =>
          let t99_34 : Bool := (bif t91_31 then t98_33 else false)
          Option.bind (
            (bif t99_34 then
              some ((-9223372036854775808 : Int), true)
            else
              some (t62_15.1, t62_15.2))) fun r_35 =>
          let b_36 : Int := r_35.1
          let may_37 : Bool := r_35.2
          some (b_36, may_37))) fun r_38 =>
      let b_39 : Int := r_38.1
      let may_40 : Bool := r_38.2
      let t105_41 : Bool := (bif (!t55_14.2) then true else (!may_40))
      (bif t105_41 then
        let t111_42 : Bool := (eqT (.agg (.pair (.int .i64) (.int .i64))) t24_5.1 ((0 : Int), (0 : Int)))
        let t112_43 : Bool := (bif (t24_5.2 == (20 : Int)) then t111_42 else false)
        some t112_43
      else
        let t120_44 : Bool := (bif (t24_5.2 == (0 : Int)) then (t24_5.1.1 == t55_14.1) else false)
        let t126_45 : Bool := (bif t120_44 then (t24_5.1.2 == b_39) else false)
        some t126_45)))
noncomputable def con_F_law04_SpanTimes : Con := { f := 14, ps := [.dat (.agg (.pair (.int .i64) (.int .i64))), .dat (.int .i64), .dat (.int .i64)], boxes := [], ins := (.pair (.agg (.pair (.int .i64) (.int .i64))) (.pair (.int .i64) (.int .i64))), nin := 3, outs := .bool, rs := [.dat .bool], nout := 1, F := fun x => F_law04_SpanTimes x.1 x.2.1 x.2.2 }
def hint_F_law04_SpanTimes : Hint := (.mk .plain [H0, (.mk .plain [H0, (.mk .plain [H0, (.mk .plain [H0, (.mk .plain [H0, (.mk .plain [(.mk .plain [H0, (.mk (.join [(0, 49), (0, 50)] [(.normal, [⟨.slot 9, (.int .i64), none⟩, ⟨.slot 10, (.int .i64), none⟩])]) [])]), (.mk .plain [H0, (.mk .plain [H0, (.mk .plain [H0, (.mk .plain [(.mk .plain [H0, (.mk (.join [(0, 71), (0, 16), (0, 74), (0, 80), (0, 77), (0, 83), (0, 69), (0, 72), (0, 78), (0, 75), (0, 81), (0, 73), (0, 70), (0, 76), (0, 79), (0, 82), (0, 91), (0, 97), (0, 94), (0, 86), (0, 92), (0, 89), (0, 95), (0, 98), (0, 17), (0, 87), (0, 84), (0, 90), (0, 93), (0, 99), (0, 96), (0, 85), (0, 88)] [(.normal, [⟨.slot 13, (.int .i64), none⟩, ⟨.slot 14, .bool, none⟩])]) [(.mk .plain [H0, (.mk .plain [H0, (.mk (.join [(0, 81), (0, 79), (0, 80), (0, 83), (0, 82)] [(.normal, [⟨.slot 13, (.int .i64), none⟩, ⟨.slot 14, .bool, none⟩])]) [(.mk .plain [H0, (.mk .plain [H0, (.mk (.join [(0, 82), (0, 83)] [(.normal, [⟨.slot 13, (.int .i64), none⟩])]) [])])])])])]), (.mk .plain [H0, (.mk .plain [H0, (.mk (.join [] [(.normal, [⟨.slot 13, (.int .i64), none⟩, ⟨.slot 14, .bool, none⟩])]) [])])])])])])])])])])])])])])])
theorem run_F_law04_SpanTimes : runE ⟨tdGet tys, [con_F_law04_anchor, con_F_span_Span_Times, con_F_ref04_Quotient, con_F_ref01_Times, con_F_ref01_Minor, con_F_ref01_Sum, con_F_ref01_Of, con_F_ref01_Less]⟩ con_F_law04_SpanTimes Try.f14 hint_F_law04_SpanTimes = con_F_law04_SpanTimes.F := by
  funext x
  kernel_rfl
theorem ok_F_law04_SpanTimes : ConOK Try.prog con_F_law04_SpanTimes :=
  con_of_run (Γ := ⟨tdGet tys, [con_F_law04_anchor, con_F_span_Span_Times, con_F_ref04_Quotient, con_F_ref01_Times, con_F_ref01_Minor, con_F_ref01_Sum, con_F_ref01_Of, con_F_ref01_Less]⟩) ⟨fun T d h => tysB_ok tys tys_ok T d h, by simp [ok_F_law04_anchor, ok_F_span_Span_Times, ok_F_ref04_Quotient, ok_F_ref01_Times, ok_F_ref01_Minor, ok_F_ref01_Sum, ok_F_ref01_Of, ok_F_ref01_Less]⟩ (by kernel_rfl) Try.func14 rfl (by kernel_rfl) run_F_law04_SpanTimes
/-- odograph/span.both -/
noncomputable def F_span_both (lo_1 : Int) (a_2 : Bool) (hi_3 : Int) (b_4 : Bool) : Option ((Int × Int) × Bool) :=
  let t15_5 : Bool := (bif (!a_2) then true else (!b_4))
  let t20_6 : Bool := (bif t15_5 then true else (decide (hi_3 < lo_1)))
  (bif t20_6 then
    let w_7 : (Int × Int) := ((0 : Int), (0 : Int))
    some (w_7, false)
  else
    let w_8 : (Int × Int) := (lo_1, hi_3)
    some (w_8, true))
noncomputable def con_F_span_both : Con := { f := 73, ps := [.dat (.int .i64), .dat .bool, .dat (.int .i64), .dat .bool], boxes := [], ins := (.pair (.int .i64) (.pair .bool (.pair (.int .i64) .bool))), nin := 4, outs := (.pair (.agg (.pair (.int .i64) (.int .i64))) .bool), rs := [.dat (.agg (.pair (.int .i64) (.int .i64))), .dat .bool], nout := 2, F := fun x => F_span_both x.1 x.2.1 x.2.2.1 x.2.2.2 }
def hint_F_span_both : Hint := H0
theorem run_F_span_both : runE ⟨tdGet tys, []⟩ con_F_span_both Try.f73 hint_F_span_both = con_F_span_both.F := by
  funext x
  kernel_rfl
theorem ok_F_span_both : ConOK Try.prog con_F_span_both :=
  con_of_run (Γ := ⟨tdGet tys, []⟩) ⟨fun T d h => tysB_ok tys tys_ok T d h, by simp []⟩ (by kernel_rfl) Try.func73 rfl (by kernel_rfl) run_F_span_both
/-- (odograph/span.Span).Meet -/
noncomputable def F_span_Span_Meet (s_1 : (Int × Int)) (t_2 : (Int × Int)) : Option ((Int × Int) × Bool) :=
  let t10_3 : Int := (if t_2.1 > s_1.1 then t_2.1 else s_1.1)
  let t15_4 : Int := (if t_2.2 < s_1.2 then t_2.2 else s_1.2)
  (F_span_both t10_3 true t15_4 true).bind fun t16_5 =>
  some (t16_5.1, t16_5.2)
noncomputable def con_F_span_Span_Meet : Con := { f := 53, ps := [.dat (.agg (.pair (.int .i64) (.int .i64))), .dat (.agg (.pair (.int .i64) (.int .i64)))], boxes := [], ins := (.pair (.agg (.pair (.int .i64) (.int .i64))) (.agg (.pair (.int .i64) (.int .i64)))), nin := 2, outs := (.pair (.agg (.pair (.int .i64) (.int .i64))) .bool), rs := [.dat (.agg (.pair (.int .i64) (.int .i64))), .dat .bool], nout := 2, F := fun x => F_span_Span_Meet x.1 x.2 }
def hint_F_span_Span_Meet : Hint := H0
theorem run_F_span_Span_Meet : runE ⟨tdGet tys, [con_F_span_both]⟩ con_F_span_Span_Meet Try.f53 hint_F_span_Span_Meet = con_F_span_Span_Meet.F := by
  funext x
  kernel_rfl
theorem ok_F_span_Span_Meet : ConOK Try.prog con_F_span_Span_Meet :=
  con_of_run (Γ := ⟨tdGet tys, [con_F_span_both]⟩) ⟨fun T d h => tysB_ok tys tys_ok T d h, by simp [ok_F_span_both]⟩ (by kernel_rfl) Try.func53 rfl (by kernel_rfl) run_F_span_Span_Meet
/-- (odograph/span.Span).In -/
noncomputable def F_span_Span_In (s_1 : (Int × Int)) (t_2 : (Int × Int)) : Option Bool :=
  (F_span_Span_Right s_1).bind fun t6_3 =>
  let t20_4 : Bool := (bif (decide (t_2.1 ≤ s_1.1)) then (decide (s_1.2 ≤ t_2.2)) else false)
  let t21_5 : Bool := (bif (!t6_3) then true else t20_4)
  some t21_5
noncomputable def con_F_span_Span_In : Con := { f := 54, ps := [.dat (.agg (.pair (.int .i64) (.int .i64))), .dat (.agg (.pair (.int .i64) (.int .i64)))], boxes := [], ins := (.pair (.agg (.pair (.int .i64) (.int .i64))) (.agg (.pair (.int .i64) (.int .i64)))), nin := 2, outs := .bool, rs := [.dat .bool], nout := 1, F := fun x => F_span_Span_In x.1 x.2 }
def hint_F_span_Span_In : Hint := H0
theorem run_F_span_Span_In : runE ⟨tdGet tys, [con_F_span_Span_Right]⟩ con_F_span_Span_In Try.f54 hint_F_span_Span_In = con_F_span_Span_In.F := by
  funext x
  kernel_rfl
theorem ok_F_span_Span_In : ConOK Try.prog con_F_span_Span_In :=
  con_of_run (Γ := ⟨tdGet tys, [con_F_span_Span_Right]⟩) ⟨fun T d h => tysB_ok tys tys_ok T d h, by simp [ok_F_span_Span_Right]⟩ (by kernel_rfl) Try.func54 rfl (by kernel_rfl) run_F_span_Span_In
/-- odograph/odographlaw04.SpanLaws -/
noncomputable def F_law04_SpanLaws (s_1 : (Int × Int)) (t_2 : (Int × Int)) (u_3 : (Int × Int)) : Option Bool :=
  (F_law04_anchor ()).bind fun t11_4 =>
  (bif (!t11_4) then
    some false
  else
    (F_span_Span_Meet s_1 t_2).bind fun t16_5 =>
    (F_span_Span_Meet t_2 s_1).bind fun t22_6 =>
    let t31_7 : Bool := (!(eqT (.agg (.pair (.int .i64) (.int .i64))) t16_5.1 t22_6.1))
    let t32_8 : Bool := (bif (!(t16_5.2 == t22_6.2)) then true else t31_7)
    (bif (t16_5.2 && !t32_8) then F_span_Span_In t16_5.1 s_1 else some false).bind fun t38_9 =>
    (bif (!(!t38_9) && (t16_5.2 && !t32_8)) then F_span_Span_In t16_5.1 t_2 else some false).bind fun t43_10 =>
    let t45_11 : Bool := (bif (!t38_9) then true else (!t43_10))
    let t46_12 : Bool := (bif t16_5.2 then t45_11 else false)
    let t47_13 : Bool := (bif t32_8 then true else t46_12)
    (bif t47_13 then
      some false
    else
      (F_span_Span_In s_1 t_2).bind fun t50_14 =>
      (bif !(!t50_14) then F_span_Span_In t_2 u_3 else some false).bind fun t55_15 =>
      let t57_16 : Bool := (bif (!t50_14) then true else (!t55_15))
      (bif !t57_16 then F_span_Span_Right t_2 else some false).bind fun t60_17 =>
      let t62_18 : Bool := (bif t57_16 then true else (!t60_17))
      (bif !t62_18 then F_span_Span_In s_1 u_3 else some false).bind fun t66_19 =>
      let t67_20 : Bool := (bif t62_18 then true else t66_19)
      some t67_20))
noncomputable def con_F_law04_SpanLaws : Con := { f := 15, ps := [.dat (.agg (.pair (.int .i64) (.int .i64))), .dat (.agg (.pair (.int .i64) (.int .i64))), .dat (.agg (.pair (.int .i64) (.int .i64)))], boxes := [], ins := (.pair (.agg (.pair (.int .i64) (.int .i64))) (.pair (.agg (.pair (.int .i64) (.int .i64))) (.agg (.pair (.int .i64) (.int .i64))))), nin := 3, outs := .bool, rs := [.dat .bool], nout := 1, F := fun x => F_law04_SpanLaws x.1 x.2.1 x.2.2 }
def hint_F_law04_SpanLaws : Hint := H0
theorem run_F_law04_SpanLaws : runE ⟨tdGet tys, [con_F_law04_anchor, con_F_span_Span_Meet, con_F_span_Span_In, con_F_span_Span_Right]⟩ con_F_law04_SpanLaws Try.f15 hint_F_law04_SpanLaws = con_F_law04_SpanLaws.F := by
  funext x
  kernel_rfl
theorem ok_F_law04_SpanLaws : ConOK Try.prog con_F_law04_SpanLaws :=
  con_of_run (Γ := ⟨tdGet tys, [con_F_law04_anchor, con_F_span_Span_Meet, con_F_span_Span_In, con_F_span_Span_Right]⟩) ⟨fun T d h => tysB_ok tys tys_ok T d h, by simp [ok_F_law04_anchor, ok_F_span_Span_Meet, ok_F_span_Span_In, ok_F_span_Span_Right]⟩ (by kernel_rfl) Try.func15 rfl (by kernel_rfl) run_F_law04_SpanLaws
/-- (odograph/span.Span).Width -/
noncomputable def F_span_Span_Width (s_1 : (Int × Int)) : Option Int :=
  (F_span_Span_Right s_1).bind fun t4_2 =>
  (bif (!t4_2) then
    some (0 : Int)
  else
    let t8_3 : Int := (IntKind.wrap .u64 s_1.2)
    let t11_4 : Int := (IntKind.wrap .u64 s_1.1)
    let t12_5 : Int := (IntKind.wrap .u64 (t8_3 - t11_4))
    some t12_5)
noncomputable def con_F_span_Span_Width : Con := { f := 56, ps := [.dat (.agg (.pair (.int .i64) (.int .i64)))], boxes := [], ins := (.agg (.pair (.int .i64) (.int .i64))), nin := 1, outs := (.int .u64), rs := [.dat (.int .u64)], nout := 1, F := fun x => F_span_Span_Width x }
def hint_F_span_Span_Width : Hint := H0
theorem run_F_span_Span_Width : runE ⟨tdGet tys, [con_F_span_Span_Right]⟩ con_F_span_Span_Width Try.f56 hint_F_span_Span_Width = con_F_span_Span_Width.F := by
  funext x
  kernel_rfl
theorem ok_F_span_Span_Width : ConOK Try.prog con_F_span_Span_Width :=
  con_of_run (Γ := ⟨tdGet tys, [con_F_span_Span_Right]⟩) ⟨fun T d h => tysB_ok tys tys_ok T d h, by simp [ok_F_span_Span_Right]⟩ (by kernel_rfl) Try.func56 rfl (by kernel_rfl) run_F_span_Span_Width
/-- odograph/num.Mid -/
noncomputable def F_num_Mid (a_1 : Int) (b_2 : Int) : Option Int :=
  let t11_3 : Int := ((bits .i64 .xor a_1 b_2).fdiv (2 ^ 1))
  let t12_4 : Int := (IntKind.wrap .i64 ((bits .i64 .and a_1 b_2) + t11_3))
  some t12_4
noncomputable def con_F_num_Mid : Con := { f := 74, ps := [.dat (.int .i64), .dat (.int .i64)], boxes := [], ins := (.pair (.int .i64) (.int .i64)), nin := 2, outs := (.int .i64), rs := [.dat (.int .i64)], nout := 1, F := fun x => F_num_Mid x.1 x.2 }
def hint_F_num_Mid : Hint := H0
theorem run_F_num_Mid : runE ⟨tdGet tys, []⟩ con_F_num_Mid Try.f74 hint_F_num_Mid = con_F_num_Mid.F := by
  funext x
  kernel_rfl
theorem ok_F_num_Mid : ConOK Try.prog con_F_num_Mid :=
  con_of_run (Γ := ⟨tdGet tys, []⟩) ⟨fun T d h => tysB_ok tys tys_ok T d h, by simp []⟩ (by kernel_rfl) Try.func74 rfl (by kernel_rfl) run_F_num_Mid
/-- (odograph/span.Span).Mid -/
noncomputable def F_span_Span_Mid (s_1 : (Int × Int)) : Option Int :=
  (F_num_Mid s_1.1 s_1.2).bind fun t7_2 =>
  some t7_2
noncomputable def con_F_span_Span_Mid : Con := { f := 57, ps := [.dat (.agg (.pair (.int .i64) (.int .i64)))], boxes := [], ins := (.agg (.pair (.int .i64) (.int .i64))), nin := 1, outs := (.int .i64), rs := [.dat (.int .i64)], nout := 1, F := fun x => F_span_Span_Mid x }
def hint_F_span_Span_Mid : Hint := H0
theorem run_F_span_Span_Mid : runE ⟨tdGet tys, [con_F_num_Mid]⟩ con_F_span_Span_Mid Try.f57 hint_F_span_Span_Mid = con_F_span_Span_Mid.F := by
  funext x
  kernel_rfl
theorem ok_F_span_Span_Mid : ConOK Try.prog con_F_span_Span_Mid :=
  con_of_run (Γ := ⟨tdGet tys, [con_F_num_Mid]⟩) ⟨fun T d h => tysB_ok tys tys_ok T d h, by simp [ok_F_num_Mid]⟩ (by kernel_rfl) Try.func57 rfl (by kernel_rfl) run_F_span_Span_Mid
/-- odograph/odographlaw04.SpanWidths -/
noncomputable def F_law04_SpanWidths (s_1 : (Int × Int)) : Option Bool :=
  (F_law04_anchor ()).bind fun t6_2 =>
  (bif (!t6_2) then
    some false
  else
    (bif (decide (s_1.2 < s_1.1)) then
      (F_span_Span_Width s_1).bind fun t14_3 =>
      some (t14_3 == (0 : Int))
    else
      (F_span_Span_Mid s_1).bind fun t17_4 =>
      (F_ref01_Of s_1.2).bind fun t20_5 =>
      (F_ref01_Of s_1.1).bind fun t23_6 =>
      (F_ref01_Minor t23_6).bind fun t24_7 =>
      (F_ref01_Sum t20_5 t24_7).bind fun t25_8 =>
      (F_span_Span_Width s_1).bind fun t27_9 =>
      let t31_10 : Int := (t27_9.tmod (4294967296 : Int))
      let t33_11 : Int := (IntKind.wrap .u64 (t27_9.tdiv (4294967296 : Int)))
      let t34_12 : (Int × (Int × (Int × Int))) := (t31_10, (t33_11, ((0 : Int), (0 : Int))))
      let t35_13 : Bool := (eqT (.agg (.pair (.int .u64) (.pair (.int .u64) (.pair (.int .u64) (.int .u64))))) t25_8.2 t34_12)
      let t41_14 : Bool := (bif t35_13 then (decide (s_1.1 ≤ t17_4)) else false)
      let t47_15 : Bool := (bif t41_14 then (decide (t17_4 ≤ s_1.2)) else false)
      let t50_16 : Int := (IntKind.wrap .u64 t17_4)
      let t53_17 : Int := (IntKind.wrap .u64 s_1.1)
      let t54_18 : Int := (IntKind.wrap .u64 (t50_16 - t53_17))
      let t56_19 : Int := (IntKind.wrap .u64 (t27_9.tdiv (2 : Int)))
      let t58_20 : Bool := (bif t47_15 then (t54_18 == t56_19) else false)
      some t58_20))
noncomputable def con_F_law04_SpanWidths : Con := { f := 16, ps := [.dat (.agg (.pair (.int .i64) (.int .i64)))], boxes := [], ins := (.agg (.pair (.int .i64) (.int .i64))), nin := 1, outs := .bool, rs := [.dat .bool], nout := 1, F := fun x => F_law04_SpanWidths x }
def hint_F_law04_SpanWidths : Hint := H0
theorem run_F_law04_SpanWidths : runE ⟨tdGet tys, [con_F_law04_anchor, con_F_span_Span_Width, con_F_span_Span_Mid, con_F_ref01_Of, con_F_ref01_Minor, con_F_ref01_Sum]⟩ con_F_law04_SpanWidths Try.f16 hint_F_law04_SpanWidths = con_F_law04_SpanWidths.F := by
  funext x
  kernel_rfl
theorem ok_F_law04_SpanWidths : ConOK Try.prog con_F_law04_SpanWidths :=
  con_of_run (Γ := ⟨tdGet tys, [con_F_law04_anchor, con_F_span_Span_Width, con_F_span_Span_Mid, con_F_ref01_Of, con_F_ref01_Minor, con_F_ref01_Sum]⟩) ⟨fun T d h => tysB_ok tys tys_ok T d h, by simp [ok_F_law04_anchor, ok_F_span_Span_Width, ok_F_span_Span_Mid, ok_F_ref01_Of, ok_F_ref01_Minor, ok_F_ref01_Sum]⟩ (by kernel_rfl) Try.func16 rfl (by kernel_rfl) run_F_law04_SpanWidths
/-- (odograph/span.Span).Hull -/
noncomputable def F_span_Span_Hull (s_1 : (Int × Int)) (t_2 : (Int × Int)) : Option (Int × Int) :=
  (F_span_Span_Right s_1).bind fun t7_3 =>
  (bif (!t7_3) then
    some t_2
  else
    (F_span_Span_Right t_2).bind fun t12_4 =>
    (bif (!t12_4) then
      some s_1
    else
      let t19_5 : Int := (if t_2.1 < s_1.1 then t_2.1 else s_1.1)
      let t24_6 : Int := (if t_2.2 > s_1.2 then t_2.2 else s_1.2)
      let w_7 : (Int × Int) := (t19_5, t24_6)
      some w_7))
noncomputable def con_F_span_Span_Hull : Con := { f := 58, ps := [.dat (.agg (.pair (.int .i64) (.int .i64))), .dat (.agg (.pair (.int .i64) (.int .i64)))], boxes := [], ins := (.pair (.agg (.pair (.int .i64) (.int .i64))) (.agg (.pair (.int .i64) (.int .i64)))), nin := 2, outs := (.agg (.pair (.int .i64) (.int .i64))), rs := [.dat (.agg (.pair (.int .i64) (.int .i64)))], nout := 1, F := fun x => F_span_Span_Hull x.1 x.2 }
def hint_F_span_Span_Hull : Hint := H0
theorem run_F_span_Span_Hull : runE ⟨tdGet tys, [con_F_span_Span_Right]⟩ con_F_span_Span_Hull Try.f58 hint_F_span_Span_Hull = con_F_span_Span_Hull.F := by
  funext x
  kernel_rfl
theorem ok_F_span_Span_Hull : ConOK Try.prog con_F_span_Span_Hull :=
  con_of_run (Γ := ⟨tdGet tys, [con_F_span_Span_Right]⟩) ⟨fun T d h => tysB_ok tys tys_ok T d h, by simp [ok_F_span_Span_Right]⟩ (by kernel_rfl) Try.func58 rfl (by kernel_rfl) run_F_span_Span_Hull
/-- (odograph/span.Span).Has -/
noncomputable def F_span_Span_Has (s_1 : (Int × Int)) (x_2 : Int) : Option Bool :=
  let t14_3 : Bool := (bif (decide (s_1.1 ≤ x_2)) then (decide (x_2 ≤ s_1.2)) else false)
  some t14_3
noncomputable def con_F_span_Span_Has : Con := { f := 59, ps := [.dat (.agg (.pair (.int .i64) (.int .i64))), .dat (.int .i64)], boxes := [], ins := (.pair (.agg (.pair (.int .i64) (.int .i64))) (.int .i64)), nin := 2, outs := .bool, rs := [.dat .bool], nout := 1, F := fun x => F_span_Span_Has x.1 x.2 }
def hint_F_span_Span_Has : Hint := H0
theorem run_F_span_Span_Has : runE ⟨tdGet tys, []⟩ con_F_span_Span_Has Try.f59 hint_F_span_Span_Has = con_F_span_Span_Has.F := by
  funext x
  kernel_rfl
theorem ok_F_span_Span_Has : ConOK Try.prog con_F_span_Span_Has :=
  con_of_run (Γ := ⟨tdGet tys, []⟩) ⟨fun T d h => tysB_ok tys tys_ok T d h, by simp []⟩ (by kernel_rfl) Try.func59 rfl (by kernel_rfl) run_F_span_Span_Has
/-- odograph/span.At -/
noncomputable def F_span_At (x_1 : Int) : Option (Int × Int) :=
  let w_2 : (Int × Int) := (x_1, x_1)
  some w_2
noncomputable def con_F_span_At : Con := { f := 60, ps := [.dat (.int .i64)], boxes := [], ins := (.int .i64), nin := 1, outs := (.agg (.pair (.int .i64) (.int .i64))), rs := [.dat (.agg (.pair (.int .i64) (.int .i64)))], nout := 1, F := fun x => F_span_At x }
def hint_F_span_At : Hint := H0
theorem run_F_span_At : runE ⟨tdGet tys, []⟩ con_F_span_At Try.f60 hint_F_span_At = con_F_span_At.F := by
  funext x
  kernel_rfl
theorem ok_F_span_At : ConOK Try.prog con_F_span_At :=
  con_of_run (Γ := ⟨tdGet tys, []⟩) ⟨fun T d h => tysB_ok tys tys_ok T d h, by simp []⟩ (by kernel_rfl) Try.func60 rfl (by kernel_rfl) run_F_span_At
/-- odograph/odographlaw04.SpanHas -/
noncomputable def F_law04_SpanHas (s_1 : (Int × Int)) (t_2 : (Int × Int)) (x_3 : Int) : Option Bool :=
  (F_law04_anchor ()).bind fun t13_4 =>
  (bif (!t13_4) then
    some false
  else
    let t24_5 : Bool := (bif (decide (s_1.1 ≤ x_3)) then (decide (x_3 ≤ s_1.2)) else false)
    let t34_6 : Bool := (bif (decide (t_2.1 ≤ x_3)) then (decide (x_3 ≤ t_2.2)) else false)
    (F_span_Span_Meet s_1 t_2).bind fun t38_7 =>
    (F_span_Span_Hull s_1 t_2).bind fun t43_8 =>
    (F_span_Span_Has s_1 x_3).bind fun t46_9 =>
    (bif !(!(t46_9 == t24_5)) then F_span_Span_Has t_2 x_3 else some false).bind fun t52_10 =>
    let t55_11 : Bool := (bif (!(t46_9 == t24_5)) then true else (!(t52_10 == t34_6)))
    (bif (t38_7.2 && !t55_11) then F_span_Span_Has t38_7.1 x_3 else some false).bind fun t61_12 =>
    let t65_13 : Bool := (bif t24_5 then t34_6 else false)
    let t67_14 : Bool := (bif t38_7.2 then (!(t61_12 == t65_13)) else false)
    let t68_15 : Bool := (bif t55_11 then true else t67_14)
    let t76_16 : Bool := (bif t24_5 then t34_6 else false)
    let t80_17 : Bool := (!(eqT (.agg (.pair (.int .i64) (.int .i64))) t38_7.1 ((0 : Int), (0 : Int))))
    let t81_18 : Bool := (bif t76_16 then true else t80_17)
    let t82_19 : Bool := (bif (!t38_7.2) then t81_18 else false)
    let t83_20 : Bool := (bif t68_15 then true else t82_19)
    let t88_21 : Bool := (bif t24_5 then true else t34_6)
    (bif (t88_21 && !t83_20) then F_span_Span_Has t43_8 x_3 else some false).bind fun t92_22 =>
    let t94_23 : Bool := (bif t88_21 then (!t92_22) else false)
    let t95_24 : Bool := (bif t83_20 then true else t94_23)
    (bif t95_24 then
      some false
    else
      (F_span_Span_In s_1 t_2).bind fun t98_25 =>
      let t101_26 : Bool := (bif t98_25 then t24_5 else false)
      let t105_27 : Bool := (bif t101_26 then (!t34_6) else false)
      (bif !t105_27 then F_span_Span_Right s_1 else some false).bind fun t108_28 =>
      let t114_29 : Bool := (!(t108_28 == (decide (s_1.1 ≤ s_1.2))))
      let t115_30 : Bool := (bif t105_27 then true else t114_29)
      (bif !t115_30 then F_span_At x_3 else some ((0 : Int), (0 : Int))).bind fun t118_31 =>
      let t122_32 : Bool := (!(eqT (.agg (.pair (.int .i64) (.int .i64))) t118_31 (x_3, x_3)))
      let t123_33 : Bool := (bif t115_30 then true else t122_32)
      (bif t123_33 then
        some false
      else
        let t141_34 : Bool := (bif (decide (t_2.1 ≤ s_1.1)) then (decide (s_1.2 ≤ t_2.2)) else false)
        let t142_35 : Bool := (bif (decide (s_1.2 < s_1.1)) then true else t141_34)
        (F_span_Span_In s_1 t_2).bind fun t145_36 =>
        some (t145_36 == t142_35))))
noncomputable def con_F_law04_SpanHas : Con := { f := 17, ps := [.dat (.agg (.pair (.int .i64) (.int .i64))), .dat (.agg (.pair (.int .i64) (.int .i64))), .dat (.int .i64)], boxes := [], ins := (.pair (.agg (.pair (.int .i64) (.int .i64))) (.pair (.agg (.pair (.int .i64) (.int .i64))) (.int .i64))), nin := 3, outs := .bool, rs := [.dat .bool], nout := 1, F := fun x => F_law04_SpanHas x.1 x.2.1 x.2.2 }
def hint_F_law04_SpanHas : Hint := H0
theorem run_F_law04_SpanHas : runE ⟨tdGet tys, [con_F_law04_anchor, con_F_span_Span_Meet, con_F_span_Span_Hull, con_F_span_Span_Has, con_F_span_Span_In, con_F_span_Span_Right, con_F_span_At]⟩ con_F_law04_SpanHas Try.f17 hint_F_law04_SpanHas = con_F_law04_SpanHas.F := by
  funext x
  kernel_rfl
theorem ok_F_law04_SpanHas : ConOK Try.prog con_F_law04_SpanHas :=
  con_of_run (Γ := ⟨tdGet tys, [con_F_law04_anchor, con_F_span_Span_Meet, con_F_span_Span_Hull, con_F_span_Span_Has, con_F_span_Span_In, con_F_span_Span_Right, con_F_span_At]⟩) ⟨fun T d h => tysB_ok tys tys_ok T d h, by simp [ok_F_law04_anchor, ok_F_span_Span_Meet, ok_F_span_Span_Hull, ok_F_span_Span_Has, ok_F_span_Span_In, ok_F_span_Span_Right, ok_F_span_At]⟩ (by kernel_rfl) Try.func17 rfl (by kernel_rfl) run_F_law04_SpanHas
/-- odograph/num.Add -/
noncomputable def F_num_Add (a_1 : Int) (b_2 : Int) : Option (Int × Bool) :=
  let t9_3 : Int := (IntKind.wrap .i64 (a_1 + b_2))
  let t11_4 : Bool := (decide ((0 : Int) ≤ a_1))
  let t13_5 : Bool := (decide ((0 : Int) ≤ b_2))
  let t17_6 : Bool := (decide ((0 : Int) ≤ t9_3))
  let t19_7 : Bool := (decide ((0 : Int) ≤ a_1))
  let t21_8 : Bool := (bif (t11_4 == t13_5) then (!(t17_6 == t19_7)) else false)
  (bif t21_8 then
    some ((0 : Int), false)
  else
    some (t9_3, true))
noncomputable def con_F_num_Add : Con := { f := 75, ps := [.dat (.int .i64), .dat (.int .i64)], boxes := [], ins := (.pair (.int .i64) (.int .i64)), nin := 2, outs := (.pair (.int .i64) .bool), rs := [.dat (.int .i64), .dat .bool], nout := 2, F := fun x => F_num_Add x.1 x.2 }
def hint_F_num_Add : Hint := H0
theorem run_F_num_Add : runE ⟨tdGet tys, []⟩ con_F_num_Add Try.f75 hint_F_num_Add = con_F_num_Add.F := by
  funext x
  kernel_rfl
theorem ok_F_num_Add : ConOK Try.prog con_F_num_Add :=
  con_of_run (Γ := ⟨tdGet tys, []⟩) ⟨fun T d h => tysB_ok tys tys_ok T d h, by simp []⟩ (by kernel_rfl) Try.func75 rfl (by kernel_rfl) run_F_num_Add
/-- (odograph/span.Span).Add -/
noncomputable def F_span_Span_Add (s_1 : (Int × Int)) (t_2 : (Int × Int)) : Option ((Int × Int) × Bool) :=
  (F_span_Span_Right s_1).bind fun t11_3 =>
  (bif !(!t11_3) then F_span_Span_Right t_2 else some false).bind fun t15_4 =>
  let t17_5 : Bool := (bif (!t11_3) then true else (!t15_4))
  (bif t17_5 then
    let w_6 : (Int × Int) := ((0 : Int), (0 : Int))
    some (w_6, false)
  else
    (F_num_Add s_1.1 t_2.1).bind fun t24_7 =>
    (F_num_Add s_1.2 t_2.2).bind fun t32_8 =>
    (F_span_both t24_7.1 t24_7.2 t32_8.1 t32_8.2).bind fun t39_9 =>
    some (t39_9.1, t39_9.2))
noncomputable def con_F_span_Span_Add : Con := { f := 61, ps := [.dat (.agg (.pair (.int .i64) (.int .i64))), .dat (.agg (.pair (.int .i64) (.int .i64)))], boxes := [], ins := (.pair (.agg (.pair (.int .i64) (.int .i64))) (.agg (.pair (.int .i64) (.int .i64)))), nin := 2, outs := (.pair (.agg (.pair (.int .i64) (.int .i64))) .bool), rs := [.dat (.agg (.pair (.int .i64) (.int .i64))), .dat .bool], nout := 2, F := fun x => F_span_Span_Add x.1 x.2 }
def hint_F_span_Span_Add : Hint := H0
theorem run_F_span_Span_Add : runE ⟨tdGet tys, [con_F_span_Span_Right, con_F_num_Add, con_F_span_both]⟩ con_F_span_Span_Add Try.f61 hint_F_span_Span_Add = con_F_span_Span_Add.F := by
  funext x
  kernel_rfl
theorem ok_F_span_Span_Add : ConOK Try.prog con_F_span_Span_Add :=
  con_of_run (Γ := ⟨tdGet tys, [con_F_span_Span_Right, con_F_num_Add, con_F_span_both]⟩) ⟨fun T d h => tysB_ok tys tys_ok T d h, by simp [ok_F_span_Span_Right, ok_F_num_Add, ok_F_span_both]⟩ (by kernel_rfl) Try.func61 rfl (by kernel_rfl) run_F_span_Span_Add
/-- odograph/num.Sub -/
noncomputable def F_num_Sub (a_1 : Int) (b_2 : Int) : Option (Int × Bool) :=
  let t9_3 : Int := (IntKind.wrap .i64 (a_1 - b_2))
  let t11_4 : Bool := (decide ((0 : Int) ≤ a_1))
  let t13_5 : Bool := (decide ((0 : Int) ≤ b_2))
  let t17_6 : Bool := (decide ((0 : Int) ≤ t9_3))
  let t19_7 : Bool := (decide ((0 : Int) ≤ a_1))
  let t21_8 : Bool := (bif (!(t11_4 == t13_5)) then (!(t17_6 == t19_7)) else false)
  (bif t21_8 then
    some ((0 : Int), false)
  else
    some (t9_3, true))
noncomputable def con_F_num_Sub : Con := { f := 76, ps := [.dat (.int .i64), .dat (.int .i64)], boxes := [], ins := (.pair (.int .i64) (.int .i64)), nin := 2, outs := (.pair (.int .i64) .bool), rs := [.dat (.int .i64), .dat .bool], nout := 2, F := fun x => F_num_Sub x.1 x.2 }
def hint_F_num_Sub : Hint := H0
theorem run_F_num_Sub : runE ⟨tdGet tys, []⟩ con_F_num_Sub Try.f76 hint_F_num_Sub = con_F_num_Sub.F := by
  funext x
  kernel_rfl
theorem ok_F_num_Sub : ConOK Try.prog con_F_num_Sub :=
  con_of_run (Γ := ⟨tdGet tys, []⟩) ⟨fun T d h => tysB_ok tys tys_ok T d h, by simp []⟩ (by kernel_rfl) Try.func76 rfl (by kernel_rfl) run_F_num_Sub
/-- (odograph/span.Span).Sub -/
noncomputable def F_span_Span_Sub (s_1 : (Int × Int)) (t_2 : (Int × Int)) : Option ((Int × Int) × Bool) :=
  (F_span_Span_Right s_1).bind fun t11_3 =>
  (bif !(!t11_3) then F_span_Span_Right t_2 else some false).bind fun t15_4 =>
  let t17_5 : Bool := (bif (!t11_3) then true else (!t15_4))
  (bif t17_5 then
    let w_6 : (Int × Int) := ((0 : Int), (0 : Int))
    some (w_6, false)
  else
    (F_num_Sub s_1.1 t_2.2).bind fun t24_7 =>
    (F_num_Sub s_1.2 t_2.1).bind fun t32_8 =>
    (F_span_both t24_7.1 t24_7.2 t32_8.1 t32_8.2).bind fun t39_9 =>
    some (t39_9.1, t39_9.2))
noncomputable def con_F_span_Span_Sub : Con := { f := 62, ps := [.dat (.agg (.pair (.int .i64) (.int .i64))), .dat (.agg (.pair (.int .i64) (.int .i64)))], boxes := [], ins := (.pair (.agg (.pair (.int .i64) (.int .i64))) (.agg (.pair (.int .i64) (.int .i64)))), nin := 2, outs := (.pair (.agg (.pair (.int .i64) (.int .i64))) .bool), rs := [.dat (.agg (.pair (.int .i64) (.int .i64))), .dat .bool], nout := 2, F := fun x => F_span_Span_Sub x.1 x.2 }
def hint_F_span_Span_Sub : Hint := H0
theorem run_F_span_Span_Sub : runE ⟨tdGet tys, [con_F_span_Span_Right, con_F_num_Sub, con_F_span_both]⟩ con_F_span_Span_Sub Try.f62 hint_F_span_Span_Sub = con_F_span_Span_Sub.F := by
  funext x
  kernel_rfl
theorem ok_F_span_Span_Sub : ConOK Try.prog con_F_span_Span_Sub :=
  con_of_run (Γ := ⟨tdGet tys, [con_F_span_Span_Right, con_F_num_Sub, con_F_span_both]⟩) ⟨fun T d h => tysB_ok tys tys_ok T d h, by simp [ok_F_span_Span_Right, ok_F_num_Sub, ok_F_span_both]⟩ (by kernel_rfl) Try.func62 rfl (by kernel_rfl) run_F_span_Span_Sub
/-- (odograph/span.Span).Grow -/
noncomputable def F_span_Span_Grow (s_1 : (Int × Int)) (far_2 : Int) : Option ((Int × Int) × Bool) :=
  (F_span_Span_Right s_1).bind fun t11_3 =>
  (bif (!t11_3) then
    let w_4 : (Int × Int) := ((0 : Int), (0 : Int))
    some (w_4, false)
  else
    (F_num_Sub s_1.1 far_2).bind fun t18_5 =>
    (F_num_Add s_1.2 far_2).bind fun t25_6 =>
    (F_span_both t18_5.1 t18_5.2 t25_6.1 t25_6.2).bind fun t32_7 =>
    some (t32_7.1, t32_7.2))
noncomputable def con_F_span_Span_Grow : Con := { f := 63, ps := [.dat (.agg (.pair (.int .i64) (.int .i64))), .dat (.int .i64)], boxes := [], ins := (.pair (.agg (.pair (.int .i64) (.int .i64))) (.int .i64)), nin := 2, outs := (.pair (.agg (.pair (.int .i64) (.int .i64))) .bool), rs := [.dat (.agg (.pair (.int .i64) (.int .i64))), .dat .bool], nout := 2, F := fun x => F_span_Span_Grow x.1 x.2 }
def hint_F_span_Span_Grow : Hint := H0
theorem run_F_span_Span_Grow : runE ⟨tdGet tys, [con_F_span_Span_Right, con_F_num_Sub, con_F_num_Add, con_F_span_both]⟩ con_F_span_Span_Grow Try.f63 hint_F_span_Span_Grow = con_F_span_Span_Grow.F := by
  funext x
  kernel_rfl
theorem ok_F_span_Span_Grow : ConOK Try.prog con_F_span_Span_Grow :=
  con_of_run (Γ := ⟨tdGet tys, [con_F_span_Span_Right, con_F_num_Sub, con_F_num_Add, con_F_span_both]⟩) ⟨fun T d h => tysB_ok tys tys_ok T d h, by simp [ok_F_span_Span_Right, ok_F_num_Sub, ok_F_num_Add, ok_F_span_both]⟩ (by kernel_rfl) Try.func63 rfl (by kernel_rfl) run_F_span_Span_Grow
/-- odograph/span.Around -/
noncomputable def F_span_Around (x_1 : Int) (far_2 : Int) : Option ((Int × Int) × Bool) :=
  (F_span_At x_1).bind fun t8_3 =>
  (F_span_Span_Grow t8_3 far_2).bind fun t11_4 =>
  some (t11_4.1, t11_4.2)
noncomputable def con_F_span_Around : Con := { f := 64, ps := [.dat (.int .i64), .dat (.int .i64)], boxes := [], ins := (.pair (.int .i64) (.int .i64)), nin := 2, outs := (.pair (.agg (.pair (.int .i64) (.int .i64))) .bool), rs := [.dat (.agg (.pair (.int .i64) (.int .i64))), .dat .bool], nout := 2, F := fun x => F_span_Around x.1 x.2 }
def hint_F_span_Around : Hint := H0
theorem run_F_span_Around : runE ⟨tdGet tys, [con_F_span_At, con_F_span_Span_Grow]⟩ con_F_span_Around Try.f64 hint_F_span_Around = con_F_span_Around.F := by
  funext x
  kernel_rfl
theorem ok_F_span_Around : ConOK Try.prog con_F_span_Around :=
  con_of_run (Γ := ⟨tdGet tys, [con_F_span_At, con_F_span_Span_Grow]⟩) ⟨fun T d h => tysB_ok tys tys_ok T d h, by simp [ok_F_span_At, ok_F_span_Span_Grow]⟩ (by kernel_rfl) Try.func64 rfl (by kernel_rfl) run_F_span_Around
/-- odograph/odographref01.Back -/
noncomputable def F_ref01_Back (x_1 : (Int × (Int × (Int × (Int × Int))))) : Option (Int × Bool) :=
  let t5_2 : (Int × (Int × (Int × Int))) := ((0 : Int), ((2147483648 : Int), ((0 : Int), (0 : Int))))
  let t8_3 : Bool := (decide (x_1.1 < (0 : Int)))
  (bif t8_3 then
    (F_ref01_Less t5_2 x_1.2).bind fun t12_4 =>
    (bif t12_4 then
      some ((-9223372036854775808 : Int), false)
    else
      let t16_5 : Int := (IntKind.wrap .u64 (x_1.2.2.1 * (4294967296 : Int)))
      let t20_6 : Int := (IntKind.wrap .u64 (t16_5 + x_1.2.1))
      let t21_7 : Int := (IntKind.wrap .u64 (0 - t20_6))
      let t22_8 : Int := (IntKind.wrap .i64 t21_7)
      some (t22_8, true))
  else
    (F_ref01_Less x_1.2 t5_2).bind fun t26_9 =>
    (bif (!t26_9) then
      some ((9223372036854775807 : Int), false)
    else
      let t31_10 : Int := (IntKind.wrap .u64 (x_1.2.2.1 * (4294967296 : Int)))
      let t35_11 : Int := (IntKind.wrap .u64 (t31_10 + x_1.2.1))
      let t36_12 : Int := (IntKind.wrap .i64 t35_11)
      some (t36_12, true)))
noncomputable def con_F_ref01_Back : Con := { f := 80, ps := [.dat (.agg (.pair (.int .i64) (.agg (.pair (.int .u64) (.pair (.int .u64) (.pair (.int .u64) (.int .u64)))))))], boxes := [], ins := (.agg (.pair (.int .i64) (.agg (.pair (.int .u64) (.pair (.int .u64) (.pair (.int .u64) (.int .u64))))))), nin := 1, outs := (.pair (.int .i64) .bool), rs := [.dat (.int .i64), .dat .bool], nout := 2, F := fun x => F_ref01_Back x }
def hint_F_ref01_Back : Hint := H0
theorem run_F_ref01_Back : runE ⟨tdGet tys, [con_F_ref01_Less]⟩ con_F_ref01_Back Try.f80 hint_F_ref01_Back = con_F_ref01_Back.F := by
  funext x
  kernel_rfl
theorem ok_F_ref01_Back : ConOK Try.prog con_F_ref01_Back :=
  con_of_run (Γ := ⟨tdGet tys, [con_F_ref01_Less]⟩) ⟨fun T d h => tysB_ok tys tys_ok T d h, by simp [ok_F_ref01_Less]⟩ (by kernel_rfl) Try.func80 rfl (by kernel_rfl) run_F_ref01_Back
/-- odograph/odographref04.Ends -/
noncomputable def F_ref04_Ends (lo_1 : (Int × (Int × (Int × (Int × Int))))) (hi_2 : (Int × (Int × (Int × (Int × Int))))) : Option (Int × (Int × Bool)) :=
  (F_ref01_Back lo_1).bind fun t13_3 =>
  (F_ref01_Back hi_2).bind fun t18_4 =>
  let t26_5 : Bool := (bif (!t13_3.2) then true else (!t18_4.2))
  let t30_6 : Bool := (decide (t18_4.1 < t13_3.1))
  let t31_7 : Bool := (bif t26_5 then true else t30_6)
  (bif t31_7 then
    some ((0 : Int), (0 : Int), false)
  else
    some (t13_3.1, t18_4.1, true))
noncomputable def con_F_ref04_Ends : Con := { f := 77, ps := [.dat (.agg (.pair (.int .i64) (.agg (.pair (.int .u64) (.pair (.int .u64) (.pair (.int .u64) (.int .u64))))))), .dat (.agg (.pair (.int .i64) (.agg (.pair (.int .u64) (.pair (.int .u64) (.pair (.int .u64) (.int .u64)))))))], boxes := [], ins := (.pair (.agg (.pair (.int .i64) (.agg (.pair (.int .u64) (.pair (.int .u64) (.pair (.int .u64) (.int .u64))))))) (.agg (.pair (.int .i64) (.agg (.pair (.int .u64) (.pair (.int .u64) (.pair (.int .u64) (.int .u64)))))))), nin := 2, outs := (.pair (.int .i64) (.pair (.int .i64) .bool)), rs := [.dat (.int .i64), .dat (.int .i64), .dat .bool], nout := 3, F := fun x => F_ref04_Ends x.1 x.2 }
def hint_F_ref04_Ends : Hint := H0
theorem run_F_ref04_Ends : runE ⟨tdGet tys, [con_F_ref01_Back]⟩ con_F_ref04_Ends Try.f77 hint_F_ref04_Ends = con_F_ref04_Ends.F := by
  funext x
  kernel_rfl
theorem ok_F_ref04_Ends : ConOK Try.prog con_F_ref04_Ends :=
  con_of_run (Γ := ⟨tdGet tys, [con_F_ref01_Back]⟩) ⟨fun T d h => tysB_ok tys tys_ok T d h, by simp [ok_F_ref01_Back]⟩ (by kernel_rfl) Try.func77 rfl (by kernel_rfl) run_F_ref04_Ends
/-- odograph/odographlaw04.is -/
noncomputable def F_law04_is (s_1 : (Int × Int)) (ok_2 : Bool) (right_3 : Bool) (lo_4 : (Int × (Int × (Int × (Int × Int))))) (hi_5 : (Int × (Int × (Int × (Int × Int))))) : Option Bool :=
  (F_ref04_Ends lo_4 hi_5).bind fun t17_6 =>
  let t26_7 : Bool := (bif (!right_3) then true else (!t17_6.2.2))
  (bif t26_7 then
    let t32_8 : Bool := (eqT (.agg (.pair (.int .i64) (.int .i64))) s_1 ((0 : Int), (0 : Int)))
    let t33_9 : Bool := (bif (!ok_2) then t32_8 else false)
    some t33_9
  else
    let t40_10 : Bool := (bif ok_2 then (s_1.1 == t17_6.1) else false)
    let t46_11 : Bool := (bif t40_10 then (s_1.2 == t17_6.2.1) else false)
    some t46_11)
noncomputable def con_F_law04_is : Con := { f := 65, ps := [.dat (.agg (.pair (.int .i64) (.int .i64))), .dat .bool, .dat .bool, .dat (.agg (.pair (.int .i64) (.agg (.pair (.int .u64) (.pair (.int .u64) (.pair (.int .u64) (.int .u64))))))), .dat (.agg (.pair (.int .i64) (.agg (.pair (.int .u64) (.pair (.int .u64) (.pair (.int .u64) (.int .u64)))))))], boxes := [], ins := (.pair (.agg (.pair (.int .i64) (.int .i64))) (.pair .bool (.pair .bool (.pair (.agg (.pair (.int .i64) (.agg (.pair (.int .u64) (.pair (.int .u64) (.pair (.int .u64) (.int .u64))))))) (.agg (.pair (.int .i64) (.agg (.pair (.int .u64) (.pair (.int .u64) (.pair (.int .u64) (.int .u64))))))))))), nin := 5, outs := .bool, rs := [.dat .bool], nout := 1, F := fun x => F_law04_is x.1 x.2.1 x.2.2.1 x.2.2.2.1 x.2.2.2.2 }
def hint_F_law04_is : Hint := H0
theorem run_F_law04_is : runE ⟨tdGet tys, [con_F_ref04_Ends]⟩ con_F_law04_is Try.f65 hint_F_law04_is = con_F_law04_is.F := by
  funext x
  kernel_rfl
theorem ok_F_law04_is : ConOK Try.prog con_F_law04_is :=
  con_of_run (Γ := ⟨tdGet tys, [con_F_ref04_Ends]⟩) ⟨fun T d h => tysB_ok tys tys_ok T d h, by simp [ok_F_ref04_Ends]⟩ (by kernel_rfl) Try.func65 rfl (by kernel_rfl) run_F_law04_is
/-- odograph/odographlaw04.SpanSums -/
noncomputable def F_law04_SpanSums (s_1 : (Int × Int)) (t_2 : (Int × Int)) (far_3 : Int) : Option Bool :=
  (F_law04_anchor ()).bind fun t21_4 =>
  (bif (!t21_4) then
    some false
  else
    (F_ref01_Of s_1.1).bind fun t25_5 =>
    (F_ref01_Of s_1.2).bind fun t28_6 =>
    (F_ref01_Of t_2.1).bind fun t31_7 =>
    (F_ref01_Of t_2.2).bind fun t34_8 =>
    (F_ref01_Of far_3).bind fun t36_9 =>
    (F_span_Span_Add s_1 t_2).bind fun t40_10 =>
    (F_span_Span_Sub s_1 t_2).bind fun t46_11 =>
    (F_span_Span_Grow s_1 far_3).bind fun t52_12 =>
    (F_span_Around s_1.1 far_3).bind fun t59_13 =>
    let t73_14 : Bool := (bif (decide (s_1.1 ≤ s_1.2)) then (decide (t_2.1 ≤ t_2.2)) else false)
    (F_ref01_Sum t25_5 t31_7).bind fun t79_15 =>
    (F_ref01_Sum t28_6 t34_8).bind fun t82_16 =>
    (F_law04_is t40_10.1 t40_10.2 t73_14 t79_15 t82_16).bind fun t83_17 =>
    (bif t83_17 then F_ref01_Minor t34_8 else some ((0 : Int), ((0 : Int), ((0 : Int), ((0 : Int), (0 : Int)))))).bind fun t90_18 =>
    (bif t83_17 then F_ref01_Sum t25_5 t90_18 else some ((0 : Int), ((0 : Int), ((0 : Int), ((0 : Int), (0 : Int)))))).bind fun t91_19 =>
    (bif t83_17 then F_ref01_Minor t31_7 else some ((0 : Int), ((0 : Int), ((0 : Int), ((0 : Int), (0 : Int)))))).bind fun t94_20 =>
    (bif t83_17 then F_ref01_Sum t28_6 t94_20 else some ((0 : Int), ((0 : Int), ((0 : Int), ((0 : Int), (0 : Int)))))).bind fun t95_21 =>
    (bif t83_17 then F_law04_is t46_11.1 t46_11.2 t73_14 t91_19 t95_21 else some false).bind fun t96_22 =>
    let t97_23 : Bool := (bif t83_17 then t96_22 else false)
    (bif t97_23 then F_ref01_Minor t36_9 else some ((0 : Int), ((0 : Int), ((0 : Int), ((0 : Int), (0 : Int)))))).bind fun t108_24 =>
    (bif t97_23 then F_ref01_Sum t25_5 t108_24 else some ((0 : Int), ((0 : Int), ((0 : Int), ((0 : Int), (0 : Int)))))).bind fun t109_25 =>
    (bif t97_23 then F_ref01_Sum t28_6 t36_9 else some ((0 : Int), ((0 : Int), ((0 : Int), ((0 : Int), (0 : Int)))))).bind fun t112_26 =>
    (bif t97_23 then F_law04_is t52_12.1 t52_12.2 (decide (s_1.1 ≤ s_1.2)) t109_25 t112_26 else some false).bind fun t113_27 =>
    let t114_28 : Bool := (bif t97_23 then t113_27 else false)
    (bif t114_28 then F_ref01_Minor t36_9 else some ((0 : Int), ((0 : Int), ((0 : Int), ((0 : Int), (0 : Int)))))).bind fun t120_29 =>
    (bif t114_28 then F_ref01_Sum t25_5 t120_29 else some ((0 : Int), ((0 : Int), ((0 : Int), ((0 : Int), (0 : Int)))))).bind fun t121_30 =>
    (bif t114_28 then F_ref01_Sum t25_5 t36_9 else some ((0 : Int), ((0 : Int), ((0 : Int), ((0 : Int), (0 : Int)))))).bind fun t124_31 =>
    (bif t114_28 then F_law04_is t59_13.1 t59_13.2 true t121_30 t124_31 else some false).bind fun t125_32 =>
    let t126_33 : Bool := (bif t114_28 then t125_32 else false)
    some t126_33)
noncomputable def con_F_law04_SpanSums : Con := { f := 18, ps := [.dat (.agg (.pair (.int .i64) (.int .i64))), .dat (.agg (.pair (.int .i64) (.int .i64))), .dat (.int .i64)], boxes := [], ins := (.pair (.agg (.pair (.int .i64) (.int .i64))) (.pair (.agg (.pair (.int .i64) (.int .i64))) (.int .i64))), nin := 3, outs := .bool, rs := [.dat .bool], nout := 1, F := fun x => F_law04_SpanSums x.1 x.2.1 x.2.2 }
def hint_F_law04_SpanSums : Hint := H0
theorem run_F_law04_SpanSums : runE ⟨tdGet tys, [con_F_law04_anchor, con_F_ref01_Of, con_F_span_Span_Add, con_F_span_Span_Sub, con_F_span_Span_Grow, con_F_span_Around, con_F_ref01_Sum, con_F_law04_is, con_F_ref01_Minor]⟩ con_F_law04_SpanSums Try.f18 hint_F_law04_SpanSums = con_F_law04_SpanSums.F := by
  funext x
  kernel_rfl
theorem ok_F_law04_SpanSums : ConOK Try.prog con_F_law04_SpanSums :=
  con_of_run (Γ := ⟨tdGet tys, [con_F_law04_anchor, con_F_ref01_Of, con_F_span_Span_Add, con_F_span_Span_Sub, con_F_span_Span_Grow, con_F_span_Around, con_F_ref01_Sum, con_F_law04_is, con_F_ref01_Minor]⟩) ⟨fun T d h => tysB_ok tys tys_ok T d h, by simp [ok_F_law04_anchor, ok_F_ref01_Of, ok_F_span_Span_Add, ok_F_span_Span_Sub, ok_F_span_Span_Grow, ok_F_span_Around, ok_F_ref01_Sum, ok_F_law04_is, ok_F_ref01_Minor]⟩ (by kernel_rfl) Try.func18 rfl (by kernel_rfl) run_F_law04_SpanSums
end Go.Proofs.Ytbpadfmdjgjjlaa
