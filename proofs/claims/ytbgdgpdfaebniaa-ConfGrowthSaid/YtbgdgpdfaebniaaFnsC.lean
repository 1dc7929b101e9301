/- The functional reading of the code (printed). -/
import Derived.Test.YtbgdgpdfaebniaaTysC
set_option linter.unusedSimpArgs false
set_option linter.unusedVariables false
namespace Go.Proofs.Ytbgdgpdfaebniaa
open Go
/-- (odograph/span.Span).Right -/
noncomputable def F_span_Span_Right (s_1 : (Int × Int)) : Option Bool :=
  some (decide (s_1.1 ≤ s_1.2))
noncomputable def con_F_span_Span_Right : Con := { f := 80, ps := [.dat (.agg (.pair (.int .i64) (.int .i64)))], boxes := [], ins := (.agg (.pair (.int .i64) (.int .i64))), nin := 1, outs := .bool, rs := [.dat .bool], nout := 1, F := fun x => F_span_Span_Right x }
def hint_F_span_Span_Right : Hint := H0
theorem run_F_span_Span_Right : runE ⟨tdGet tys, [], []⟩ con_F_span_Span_Right Try.f80 hint_F_span_Span_Right = con_F_span_Span_Right.F := by
  funext x
  kernel_rfl
theorem ok_F_span_Span_Right : ConOK Try.prog con_F_span_Span_Right :=
  con_of_run (Γ := ⟨tdGet tys, [], []⟩) ⟨fun T d h => tysB_ok tys tys_ok T d h, by simp [], by simp []⟩ (by kernel_rfl) Try.func80 rfl (by kernel_rfl) run_F_span_Span_Right
/-- odograph/num.Sub -/
noncomputable def F_num_Sub (a_1 : Int) (b_2 : Int) : Option (Int × Bool) :=
  let t9_3 : Int := (IntKind.wrap .i64 (a_1 - b_2))
  let t11_4 : Bool := (decide ((0 : Int) ≤ a_1))
  let t13_5 : Bool := (decide ((0 : Int) ≤ b_2))
  let t17_6 : Bool := (decide ((0 : Int) ≤ t9_3))
  let t19_7 : Bool := (decide ((0 : Int) ≤ a_1))
  let t21_8 : Bool := (bif (!(t11_4 == t13_5)) then (!(t17_6 == t19_7)) else false)
  (bif t21_8 then
    some ((0 : Int), false)
  else
    some (t9_3, true))
noncomputable def con_F_num_Sub : Con := { f := 81, ps := [.dat (.int .i64), .dat (.int .i64)], boxes := [], ins := (.pair (.int .i64) (.int .i64)), nin := 2, outs := (.pair (.int .i64) .bool), rs := [.dat (.int .i64), .dat .bool], nout := 2, F := fun x => F_num_Sub x.1 x.2 }
def hint_F_num_Sub : Hint := H0
theorem run_F_num_Sub : runE ⟨tdGet tys, [], []⟩ con_F_num_Sub Try.f81 hint_F_num_Sub = con_F_num_Sub.F := by
  funext x
  kernel_rfl
theorem ok_F_num_Sub : ConOK Try.prog con_F_num_Sub :=
  con_of_run (Γ := ⟨tdGet tys, [], []⟩) ⟨fun T d h => tysB_ok tys tys_ok T d h, by simp [], by simp []⟩ (by kernel_rfl) Try.func81 rfl (by kernel_rfl) run_F_num_Sub
/-- odograph/span.both -/
noncomputable def F_span_both (lo_1 : Int) (a_2 : Bool) (hi_3 : Int) (b_4 : Bool) : Option ((Int × Int) × Bool) :=
  let t15_5 : Bool := (bif (!a_2) then true else (!b_4))
  let t20_6 : Bool := (bif t15_5 then true else (decide (hi_3 < lo_1)))
  (bif t20_6 then
    let w_7 : (Int × Int) := ((0 : Int), (0 : Int))
    some (w_7, false)
  else
    let w_8 : (Int × Int) := (lo_1, hi_3)
    some (w_8, true))
noncomputable def con_F_span_both : Con := { f := 82, ps := [.dat (.int .i64), .dat .bool, .dat (.int .i64), .dat .bool], boxes := [], ins := (.pair (.int .i64) (.pair .bool (.pair (.int .i64) .bool))), nin := 4, outs := (.pair (.agg (.pair (.int .i64) (.int .i64))) .bool), rs := [.dat (.agg (.pair (.int .i64) (.int .i64))), .dat .bool], nout := 2, F := fun x => F_span_both x.1 x.2.1 x.2.2.1 x.2.2.2 }
def hint_F_span_both : Hint := H0
theorem run_F_span_both : runE ⟨tdGet tys, [], []⟩ con_F_span_both Try.f82 hint_F_span_both = con_F_span_both.F := by
  funext x
  kernel_rfl
theorem ok_F_span_both : ConOK Try.prog con_F_span_both :=
  con_of_run (Γ := ⟨tdGet tys, [], []⟩) ⟨fun T d h => tysB_ok tys tys_ok T d h, by simp [], by simp []⟩ (by kernel_rfl) Try.func82 rfl (by kernel_rfl) run_F_span_both
/-- (odograph/span.Span).Sub -/
noncomputable def F_span_Span_Sub (s_1 : (Int × Int)) (t_2 : (Int × Int)) : Option ((Int × Int) × Bool) :=
  (F_span_Span_Right s_1).bind fun t11_3 =>
  (bif !(!t11_3) then F_span_Span_Right t_2 else some false).bind fun t15_4 =>
  let t17_5 : Bool := (bif (!t11_3) then true else (!t15_4))
  (bif t17_5 then
    let w_6 : (Int × Int) := ((0 : Int), (0 : Int))
    some (w_6, false)
  else
    (F_num_Sub s_1.1 t_2.2).bind fun t24_7 =>
    (F_num_Sub s_1.2 t_2.1).bind fun t32_8 =>
    (F_span_both t24_7.1 t24_7.2 t32_8.1 t32_8.2).bind fun t39_9 =>
    some (t39_9.1, t39_9.2))
noncomputable def con_F_span_Span_Sub : Con := { f := 55, ps := [.dat (.agg (.pair (.int .i64) (.int .i64))), .dat (.agg (.pair (.int .i64) (.int .i64)))], boxes := [], ins := (.pair (.agg (.pair (.int .i64) (.int .i64))) (.agg (.pair (.int .i64) (.int .i64)))), nin := 2, outs := (.pair (.agg (.pair (.int .i64) (.int .i64))) .bool), rs := [.dat (.agg (.pair (.int .i64) (.int .i64))), .dat .bool], nout := 2, F := fun x => F_span_Span_Sub x.1 x.2 }
def hint_F_span_Span_Sub : Hint := H0
theorem run_F_span_Span_Sub : runE ⟨tdGet tys, [con_F_span_Span_Right, con_F_num_Sub, con_F_span_both], []⟩ con_F_span_Span_Sub Try.f55 hint_F_span_Span_Sub = con_F_span_Span_Sub.F := by
  funext x
  kernel_rfl
theorem ok_F_span_Span_Sub : ConOK Try.prog con_F_span_Span_Sub :=
  con_of_run (Γ := ⟨tdGet tys, [con_F_span_Span_Right, con_F_num_Sub, con_F_span_both], []⟩) ⟨fun T d h => tysB_ok tys tys_ok T d h, by simp [ok_F_span_Span_Right, ok_F_num_Sub, ok_F_span_both], by simp []⟩ (by kernel_rfl) Try.func55 rfl (by kernel_rfl) run_F_span_Span_Sub
/-- odograph/num.Size -/
noncomputable def F_num_Size (a_1 : Int) : Option Int :=
  let t4_2 : Bool := (decide (a_1 < (0 : Int)))
  (bif t4_2 then
    let t7_3 : Int := (IntKind.wrap .u64 (0 - (IntKind.wrap .u64 a_1)))
    some t7_3
  else
    some (IntKind.wrap .u64 a_1))
noncomputable def con_F_num_Size : Con := { f := 88, ps := [.dat (.int .i64)], boxes := [], ins := (.int .i64), nin := 1, outs := (.int .u64), rs := [.dat (.int .u64)], nout := 1, F := fun x => F_num_Size x }
def hint_F_num_Size : Hint := H0
theorem run_F_num_Size : runE ⟨tdGet tys, [], []⟩ con_F_num_Size Try.f88 hint_F_num_Size = con_F_num_Size.F := by
  funext x
  kernel_rfl
theorem ok_F_num_Size : ConOK Try.prog con_F_num_Size :=
  con_of_run (Γ := ⟨tdGet tys, [], []⟩) ⟨fun T d h => tysB_ok tys tys_ok T d h, by simp [], by simp []⟩ (by kernel_rfl) Try.func88 rfl (by kernel_rfl) run_F_num_Size
/-- odograph/wide.Mul -/
noncomputable def F_wide_Mul (a_1 : Int) (b_2 : Int) : Option (Int × Int) :=
  let t15_3 : Int := (bits .u64 .and a_1 (4294967295 : Int))
  let t19_4 : Int := (bits .u64 .and b_2 (4294967295 : Int))
  let t22_5 : Int := (IntKind.wrap .u64 (t15_3 * t19_4))
  let t25_6 : Int := (IntKind.wrap .u64 ((a_1.fdiv (2 ^ 32)) * t19_4))
  let t28_7 : Int := (IntKind.wrap .u64 (t25_6 + (t22_5.fdiv (2 ^ 32))))
  let t31_8 : Int := (IntKind.wrap .u64 (t15_3 * (b_2.fdiv (2 ^ 32))))
  let t33_9 : Int := (bits .u64 .and t28_7 (4294967295 : Int))
  let t34_10 : Int := (IntKind.wrap .u64 (t31_8 + t33_9))
  let t37_11 : Int := (IntKind.wrap .u64 ((a_1.fdiv (2 ^ 32)) * (b_2.fdiv (2 ^ 32))))
  let t40_12 : Int := (IntKind.wrap .u64 (t37_11 + (t28_7.fdiv (2 ^ 32))))
  let t43_13 : Int := (IntKind.wrap .u64 (t40_12 + (t34_10.fdiv (2 ^ 32))))
  let t45_14 : Int := (IntKind.wrap .u64 (t34_10 * 2 ^ 32))
  let t47_15 : Int := (bits .u64 .and t22_5 (4294967295 : Int))
  let t48_16 : Int := (bits .u64 .or t45_14 t47_15)
  let w_17 : (Int × Int) := (t43_13, t48_16)
  some w_17
noncomputable def con_F_wide_Mul : Con := { f := 87, ps := [.dat (.int .u64), .dat (.int .u64)], boxes := [], ins := (.pair (.int .u64) (.int .u64)), nin := 2, outs := (.agg (.pair (.int .u64) (.int .u64))), rs := [.dat (.agg (.pair (.int .u64) (.int .u64)))], nout := 1, F := fun x => F_wide_Mul x.1 x.2 }
def hint_F_wide_Mul : Hint := H0
theorem run_F_wide_Mul : runE ⟨tdGet tys, [], []⟩ con_F_wide_Mul Try.f87 hint_F_wide_Mul = con_F_wide_Mul.F := by
  funext x
  kernel_rfl
theorem ok_F_wide_Mul : ConOK Try.prog con_F_wide_Mul :=
  con_of_run (Γ := ⟨tdGet tys, [], []⟩) ⟨fun T d h => tysB_ok tys tys_ok T d h, by simp [], by simp []⟩ (by kernel_rfl) Try.func87 rfl (by kernel_rfl) run_F_wide_Mul
/-- (odograph/wide.U).Shl -/
noncomputable def F_wide_U_Shl (x_1 : (Int × Int)) (n_2 : Int) : Option (Int × Int) :=
  let t7_3 : Bool := (decide (n_2 ≤ (0 : Int)))
  (bif t7_3 then
    some x_1
  else
    let t11_4 : Bool := (decide ((64 : Int) ≤ n_2))
    (bif t11_4 then
      let t15_5 : Int := (IntKind.wrap .i64 (n_2 - (64 : Int)))
      let t16_6 : Int := (IntKind.wrap .u64 t15_5)
      chk none (decide ((0 : Int) ≤ t16_6)) <|
      let t17_7 : Int := (IntKind.wrap .u64 (x_1.2 * 2 ^ (min t16_6.toNat 64)))
      let w_8 : (Int × Int) := (t17_7, (0 : Int))
      some w_8
    else
      chk none (decide ((0 : Int) ≤ (IntKind.wrap .u64 n_2))) <|
      let t23_9 : Int := (IntKind.wrap .u64 (x_1.1 * 2 ^ (min (IntKind.wrap .u64 n_2).toNat 64)))
      let t27_10 : Int := (IntKind.wrap .i64 ((64 : Int) - n_2))
      let t28_11 : Int := (IntKind.wrap .u64 t27_10)
      chk none (decide ((0 : Int) ≤ t28_11)) <|
      let t29_12 : Int := (x_1.2.fdiv (2 ^ (min t28_11.toNat 64)))
      let t30_13 : Int := (bits .u64 .or t23_9 t29_12)
      chk none (decide ((0 : Int) ≤ (IntKind.wrap .u64 n_2))) <|
      let t35_14 : Int := (IntKind.wrap .u64 (x_1.2 * 2 ^ (min (IntKind.wrap .u64 n_2).toNat 64)))
      let w_15 : (Int × Int) := (t30_13, t35_14)
      some w_15))
noncomputable def con_F_wide_U_Shl : Con := { f := 94, ps := [.dat (.agg (.pair (.int .u64) (.int .u64))), .dat (.int .i64)], boxes := [], ins := (.pair (.agg (.pair (.int .u64) (.int .u64))) (.int .i64)), nin := 2, outs := (.agg (.pair (.int .u64) (.int .u64))), rs := [.dat (.agg (.pair (.int .u64) (.int .u64)))], nout := 1, F := fun x => F_wide_U_Shl x.1 x.2 }
def hint_F_wide_U_Shl : Hint := H0
theorem run_F_wide_U_Shl : runE ⟨tdGet tys, [], []⟩ con_F_wide_U_Shl Try.f94 hint_F_wide_U_Shl = con_F_wide_U_Shl.F := by
  funext x
  kernel_rfl
theorem ok_F_wide_U_Shl : ConOK Try.prog con_F_wide_U_Shl :=
  con_of_run (Γ := ⟨tdGet tys, [], []⟩) ⟨fun T d h => tysB_ok tys tys_ok T d h, by simp [], by simp []⟩ (by kernel_rfl) Try.func94 rfl (by kernel_rfl) run_F_wide_U_Shl
/-- (odograph/wide.U).Shr -/
noncomputable def F_wide_U_Shr (x_1 : (Int × Int)) (n_2 : Int) : Option (Int × Int) :=
  let t7_3 : Bool := (decide (n_2 ≤ (0 : Int)))
  (bif t7_3 then
    some x_1
  else
    let t11_4 : Bool := (decide ((64 : Int) ≤ n_2))
    (bif t11_4 then
      let t15_5 : Int := (IntKind.wrap .i64 (n_2 - (64 : Int)))
      let t16_6 : Int := (IntKind.wrap .u64 t15_5)
      chk none (decide ((0 : Int) ≤ t16_6)) <|
      let t17_7 : Int := (x_1.1.fdiv (2 ^ (min t16_6.toNat 64)))
      let w_8 : (Int × Int) := ((0 : Int), t17_7)
      some w_8
    else
      chk none (decide ((0 : Int) ≤ (IntKind.wrap .u64 n_2))) <|
      let t23_9 : Int := (x_1.1.fdiv (2 ^ (min (IntKind.wrap .u64 n_2).toNat 64)))
      chk none (decide ((0 : Int) ≤ (IntKind.wrap .u64 n_2))) <|
      let t28_10 : Int := (x_1.2.fdiv (2 ^ (min (IntKind.wrap .u64 n_2).toNat 64)))
      let t32_11 : Int := (IntKind.wrap .i64 ((64 : Int) - n_2))
      let t33_12 : Int := (IntKind.wrap .u64 t32_11)
      chk none (decide ((0 : Int) ≤ t33_12)) <|
      let t34_13 : Int := (IntKind.wrap .u64 (x_1.1 * 2 ^ (min t33_12.toNat 64)))
      let t35_14 : Int := (bits .u64 .or t28_10 t34_13)
      let w_15 : (Int × Int) := (t23_9, t35_14)
      some w_15))
noncomputable def con_F_wide_U_Shr : Con := { f := 95, ps := [.dat (.agg (.pair (.int .u64) (.int .u64))), .dat (.int .i64)], boxes := [], ins := (.pair (.agg (.pair (.int .u64) (.int .u64))) (.int .i64)), nin := 2, outs := (.agg (.pair (.int .u64) (.int .u64))), rs := [.dat (.agg (.pair (.int .u64) (.int .u64)))], nout := 1, F := fun x => F_wide_U_Shr x.1 x.2 }
def hint_F_wide_U_Shr : Hint := H0
theorem run_F_wide_U_Shr : runE ⟨tdGet tys, [], []⟩ con_F_wide_U_Shr Try.f95 hint_F_wide_U_Shr = con_F_wide_U_Shr.F := by
  funext x
  kernel_rfl
theorem ok_F_wide_U_Shr : ConOK Try.prog con_F_wide_U_Shr :=
  con_of_run (Γ := ⟨tdGet tys, [], []⟩) ⟨fun T d h => tysB_ok tys tys_ok T d h, by simp [], by simp []⟩ (by kernel_rfl) Try.func95 rfl (by kernel_rfl) run_F_wide_U_Shr
/-- (odograph/wide.U).Cmp -/
noncomputable def F_wide_U_Cmp (x_1 : (Int × Int)) (y_2 : (Int × Int)) : Option Int :=
  let t8_3 : Bool := (eqT (.agg (.pair (.int .u64) (.int .u64))) x_1 y_2)
  (bif t8_3 then
    some (0 : Int)
  else
    let t27_4 : Bool := (bif (x_1.1 == y_2.1) then (decide (x_1.2 < y_2.2)) else false)
    let t28_5 : Bool := (bif (decide (x_1.1 < y_2.1)) then true else t27_4)
    (bif t28_5 then
      some (-1 : Int)
    else
      some (1 : Int)))
noncomputable def con_F_wide_U_Cmp : Con := { f := 96, ps := [.dat (.agg (.pair (.int .u64) (.int .u64))), .dat (.agg (.pair (.int .u64) (.int .u64)))], boxes := [], ins := (.pair (.agg (.pair (.int .u64) (.int .u64))) (.agg (.pair (.int .u64) (.int .u64)))), nin := 2, outs := (.int .i64), rs := [.dat (.int .i64)], nout := 1, F := fun x => F_wide_U_Cmp x.1 x.2 }
def hint_F_wide_U_Cmp : Hint := H0
theorem run_F_wide_U_Cmp : runE ⟨tdGet tys, [], []⟩ con_F_wide_U_Cmp Try.f96 hint_F_wide_U_Cmp = con_F_wide_U_Cmp.F := by
  funext x
  kernel_rfl
theorem ok_F_wide_U_Cmp : ConOK Try.prog con_F_wide_U_Cmp :=
  con_of_run (Γ := ⟨tdGet tys, [], []⟩) ⟨fun T d h => tysB_ok tys tys_ok T d h, by simp [], by simp []⟩ (by kernel_rfl) Try.func96 rfl (by kernel_rfl) run_F_wide_U_Cmp
/-- (odograph/wide.U).Sub -/
noncomputable def F_wide_U_Sub (x_1 : (Int × Int)) (y_2 : (Int × Int)) : Option ((Int × Int) × Bool) :=
  let t11_3 : Int := (IntKind.wrap .u64 (x_1.1 - y_2.1))
  let t16_4 : Int := (IntKind.wrap .u64 (x_1.2 - y_2.2))
  let w_5 : (Int × Int) := (t11_3, t16_4)
  Option.bind (
    (bif (decide (x_1.2 < y_2.2)) then
      let t25_6 : Int := (IntKind.wrap .u64 (w_5.1 - (1 : Int)))
      some t25_6
    else
      some w_5.1)) fun r_7 =>
  (F_wide_U_Cmp x_1 y_2).bind fun t30_8 =>
  let t31_9 : Bool := (decide (t30_8 < (0 : Int)))
  let w_10 : (Int × Int) := (r_7, w_5.2)
  some (w_10, t31_9)
noncomputable def con_F_wide_U_Sub : Con := { f := 97, ps := [.dat (.agg (.pair (.int .u64) (.int .u64))), .dat (.agg (.pair (.int .u64) (.int .u64)))], boxes := [], ins := (.pair (.agg (.pair (.int .u64) (.int .u64))) (.agg (.pair (.int .u64) (.int .u64)))), nin := 2, outs := (.pair (.agg (.pair (.int .u64) (.int .u64))) .bool), rs := [.dat (.agg (.pair (.int .u64) (.int .u64))), .dat .bool], nout := 2, F := fun x => F_wide_U_Sub x.1 x.2 }
def hint_F_wide_U_Sub : Hint := (.mk .plain [H0, (.mk .plain [H0, (.mk .plain [(.mk .plain [H0, (.mk (.join [(0, 23), (0, 25), (0, 26), (0, 24)] [(.normal, [⟨.cell 3 0, (.int .u64), none⟩])]) [])])])])])
theorem run_F_wide_U_Sub : runE ⟨tdGet tys, [con_F_wide_U_Cmp], []⟩ con_F_wide_U_Sub Try.f97 hint_F_wide_U_Sub = con_F_wide_U_Sub.F := by
  funext x
  kernel_rfl
theorem ok_F_wide_U_Sub : ConOK Try.prog con_F_wide_U_Sub :=
  con_of_run (Γ := ⟨tdGet tys, [con_F_wide_U_Cmp], []⟩) ⟨fun T d h => tysB_ok tys tys_ok T d h, by simp [ok_F_wide_U_Cmp], by simp []⟩ (by kernel_rfl) Try.func97 rfl (by kernel_rfl) run_F_wide_U_Sub
/-- (odograph/wide.U).Div -/
noncomputable def F_wide_U_Div (x_1 : (Int × Int)) (d_2 : Int) : Option ((Int × Int) × (Int × Int)) :=
  (bif (d_2 == (0 : Int)) then
    let w_3 : (Int × Int) := ((0 : Int), (0 : Int))
    some (w_3, (0 : Int), (21 : Int))
  else
    let w_4 : (Int × Int) := ((0 : Int), (0 : Int))
    Option.bind (
      loopO (X := (Int × (Int × (Int × Int)))) (fun (s_5 : (Int × (Int × (Int × (Int × Int))))) =>
        let b3_6 : Int := s_5.1
        let b2_7 : Int := s_5.2.1
        let b2_8 : Int := s_5.2.2.1
        let b3_9 : Int := s_5.2.2.2.1
        let i_10 : Int := s_5.2.2.2.2
        let t15_11 : Bool := (decide ((0 : Int) ≤ i_10))
        (bif t15_11 then
          (F_wide_U_Shl (b3_6, b3_9) (1 : Int)).bind fun t19_12 =>
          (F_wide_U_Shr x_1 i_10).bind fun t24_13 =>
          let t26_14 : Int := (bits .u64 .and t24_13.2 (1 : Int))
          let t27_15 : Int := (bits .u64 .or t19_12.2 t26_14)
          (F_wide_U_Shl (b2_8, b2_7) (1 : Int)).bind fun t30_16 =>
          (F_wide_U_Cmp (t19_12.1, t27_15) ((0 : Int), d_2)).bind fun t34_17 =>
          let t35_18 : Bool := (decide ((0 : Int) ≤ t34_17))
          Option.bind (
            (bif t35_18 then
              (F_wide_U_Sub (t19_12.1, t27_15) ((0 : Int), d_2)).bind fun t40_19 =>
              let t45_20 : Int := (bits .u64 .or t30_16.2 (1 : Int))
              some (t40_19.1.1, t45_20, t40_19.1.2)
            else
              some (t19_12.1, t30_16.2, t27_15))) fun r_21 =>
          let b3_22 : Int := r_21.1
          let b2_23 : Int := r_21.2.1
          let b3_24 : Int := r_21.2.2
          let t17_25 : Int := (IntKind.wrap .i64 (i_10 - (1 : Int)))
          some (.inl (b3_22, b2_23, t30_16.1, b3_24, t17_25))
        else
          some (.inr (b3_6, b2_7, b2_8, b3_9)))) (w_4.1, (0 : Int), (0 : Int), w_4.2, (127 : Int))) fun r_26 =>
    let b3_27 : Int := r_26.1
    let b2_28 : Int := r_26.2.1
    let b2_29 : Int := r_26.2.2.1
    let b3_30 : Int := r_26.2.2.2
    let w_31 : (Int × Int) := (b2_29, b2_28)
    some (w_31, b3_30, (0 : Int)))
noncomputable def con_F_wide_U_Div : Con := { f := 89, ps := [.dat (.agg (.pair (.int .u64) (.int .u64))), .dat (.int .u64)], boxes := [], ins := (.pair (.agg (.pair (.int .u64) (.int .u64))) (.int .u64)), nin := 2, outs := (.pair (.agg (.pair (.int .u64) (.int .u64))) (.pair (.int .u64) (.int .i64))), rs := [.dat (.agg (.pair (.int .u64) (.int .u64))), .dat (.int .u64), .dat (.int .i64)], nout := 3, F := fun x => F_wide_U_Div x.1 x.2 }
def hint_F_wide_U_Div : Hint := (.mk .plain [H0, (.mk .plain [H0, (.mk .plain [H0, (.mk .plain [H0, (.mk .plain [(.mk .plain [H0, (.mk .plain [(.mk (.loop [⟨.cell 3 0, (.int .u64), none⟩, ⟨.cell 2 1, (.int .u64), none⟩, ⟨.cell 2 0, (.int .u64), none⟩, ⟨.cell 3 1, (.int .u64), none⟩, ⟨.slot 9, (.int .i64), none⟩] [(0, 30), (0, 36), (0, 42), (0, 39), (0, 45), (0, 14), (0, 17), (0, 23), (0, 20), (0, 26), (0, 29), (0, 35), (0, 32), (0, 38), (0, 41), (0, 44), (0, 16), (0, 19), (0, 22), (0, 28), (0, 25), (0, 31), (0, 34), (0, 40), (0, 37), (0, 43), (0, 46), (0, 15), (0, 21), (0, 18), (0, 24), (0, 27), (0, 33)] [(.exit 0, [⟨.cell 3 0, (.int .u64), none⟩, ⟨.cell 2 1, (.int .u64), none⟩, ⟨.cell 2 0, (.int .u64), none⟩, ⟨.cell 3 1, (.int .u64), none⟩])]) [(.mk .plain [H0, (.mk .plain [(.mk .plain [(.mk .plain [H0, (.mk .plain [H0, (.mk .plain [H0, (.mk .plain [H0, (.mk (.join [(0, 46), (0, 36), (0, 42), (0, 43), (0, 39), (0, 45), (0, 38), (0, 41), (0, 44), (0, 40), (0, 37)] [(.normal, [⟨.cell 3 0, (.int .u64), none⟩, ⟨.cell 2 1, (.int .u64), none⟩, ⟨.cell 3 1, (.int .u64), none⟩])]) [])])])])])])])])])])])])])])])])
theorem run_F_wide_U_Div : runE ⟨tdGet tys, [con_F_wide_U_Shl, con_F_wide_U_Shr, con_F_wide_U_Cmp, con_F_wide_U_Sub], []⟩ con_F_wide_U_Div Try.f89 hint_F_wide_U_Div = con_F_wide_U_Div.F := by
  funext x
  kernel_rfl
theorem ok_F_wide_U_Div : ConOK Try.prog con_F_wide_U_Div :=
  con_of_run (Γ := ⟨tdGet tys, [con_F_wide_U_Shl, con_F_wide_U_Shr, con_F_wide_U_Cmp, con_F_wide_U_Sub], []⟩) ⟨fun T d h => tysB_ok tys tys_ok T d h, by simp [ok_F_wide_U_Shl, ok_F_wide_U_Shr, ok_F_wide_U_Cmp, ok_F_wide_U_Sub], by simp []⟩ (by kernel_rfl) Try.func89 rfl (by kernel_rfl) run_F_wide_U_Div
/-- (odograph/wide.U).Add -/
noncomputable def F_wide_U_Add (x_1 : (Int × Int)) (y_2 : (Int × Int)) : Option ((Int × Int) × Bool) :=
  let t12_3 : Int := (IntKind.wrap .u64 (x_1.2 + y_2.2))
  let w_4 : (Int × Int) := ((0 : Int), t12_3)
  let t18_5 : Int := (IntKind.wrap .u64 (x_1.1 + y_2.1))
  Option.bind (
    (bif (decide (w_4.2 < x_1.2)) then
      let t32_6 : Int := (IntKind.wrap .u64 (t18_5 + (1 : Int)))
      let t39_7 : Bool := (bif (decide (t18_5 < x_1.1)) then true else (t32_6 == (0 : Int)))
      some (t32_6, t39_7)
    else
      some (t18_5, (decide (t18_5 < x_1.1))))) fun r_8 =>
  let b3_9 : Int := r_8.1
  let over_10 : Bool := r_8.2
  let w_11 : (Int × Int) := (b3_9, w_4.2)
  some (w_11, over_10)
noncomputable def con_F_wide_U_Add : Con := { f := 90, ps := [.dat (.agg (.pair (.int .u64) (.int .u64))), .dat (.agg (.pair (.int .u64) (.int .u64)))], boxes := [], ins := (.pair (.agg (.pair (.int .u64) (.int .u64))) (.agg (.pair (.int .u64) (.int .u64)))), nin := 2, outs := (.pair (.agg (.pair (.int .u64) (.int .u64))) .bool), rs := [.dat (.agg (.pair (.int .u64) (.int .u64))), .dat .bool], nout := 2, F := fun x => F_wide_U_Add x.1 x.2 }
def hint_F_wide_U_Add : Hint := (.mk .plain [H0, (.mk .plain [H0, (.mk .plain [H0, (.mk .plain [H0, (.mk .plain [(.mk .plain [H0, (.mk (.join [(0, 30), (0, 36), (0, 39), (0, 35), (0, 32), (0, 38), (0, 31), (0, 34), (0, 37), (0, 33)] [(.normal, [⟨.cell 3 0, (.int .u64), none⟩, ⟨.slot 7, .bool, none⟩])]) [])])])])])])])
theorem run_F_wide_U_Add : runE ⟨tdGet tys, [], []⟩ con_F_wide_U_Add Try.f90 hint_F_wide_U_Add = con_F_wide_U_Add.F := by
  funext x
  kernel_rfl
theorem ok_F_wide_U_Add : ConOK Try.prog con_F_wide_U_Add :=
  con_of_run (Γ := ⟨tdGet tys, [], []⟩) ⟨fun T d h => tysB_ok tys tys_ok T d h, by simp [], by simp []⟩ (by kernel_rfl) Try.func90 rfl (by kernel_rfl) run_F_wide_U_Add
/-- odograph/ratio.signed -/
noncomputable def F_ratio_signed (x_1 : (Int × Int)) (below_2 : Bool) : Option (Int × Int) :=
  let t7_3 : (Int × Int) := ((0 : Int), (9223372036854775807 : Int))
  Option.bind (
    (bif below_2 then
      let t11_4 : Int := (IntKind.wrap .u64 (t7_3.2 + (1 : Int)))
      some t11_4
    else
      some t7_3.2)) fun r_5 =>
  (F_wide_U_Cmp x_1 (t7_3.1, r_5)).bind fun t15_6 =>
  let t16_7 : Bool := (decide ((0 : Int) < t15_6))
  (bif t16_7 then
    some ((0 : Int), (20 : Int))
  else
    (bif below_2 then
      let t20_8 : Int := (IntKind.wrap .u64 (0 - x_1.2))
      let t21_9 : Int := (IntKind.wrap .i64 t20_8)
      some (t21_9, (0 : Int))
    else
      let t24_10 : Int := (IntKind.wrap .i64 x_1.2)
      some (t24_10, (0 : Int))))
noncomputable def con_F_ratio_signed : Con := { f := 91, ps := [.dat (.agg (.pair (.int .u64) (.int .u64))), .dat .bool], boxes := [], ins := (.pair (.agg (.pair (.int .u64) (.int .u64))) .bool), nin := 2, outs := (.pair (.int .i64) (.int .i64)), rs := [.dat (.int .i64), .dat (.int .i64)], nout := 2, F := fun x => F_ratio_signed x.1 x.2 }
def hint_F_ratio_signed : Hint := (.mk .plain [H0, (.mk .plain [H0, (.mk .plain [(.mk .plain [H0, (.mk (.join [(0, 12), (0, 10), (0, 9), (0, 11)] [(.normal, [⟨.cell 1 1, (.int .u64), none⟩])]) [])])])])])
theorem run_F_ratio_signed : runE ⟨tdGet tys, [con_F_wide_U_Cmp], []⟩ con_F_ratio_signed Try.f91 hint_F_ratio_signed = con_F_ratio_signed.F := by
  funext x
  kernel_rfl
theorem ok_F_ratio_signed : ConOK Try.prog con_F_ratio_signed :=
  con_of_run (Γ := ⟨tdGet tys, [con_F_wide_U_Cmp], []⟩) ⟨fun T d h => tysB_ok tys tys_ok T d h, by simp [ok_F_wide_U_Cmp], by simp []⟩ (by kernel_rfl) Try.func91 rfl (by kernel_rfl) run_F_ratio_signed
/-- odograph/ratio.divide -/
noncomputable def F_ratio_divide (a_1 : Int) (b_2 : Int) (c_3 : Int) (up_4 : Bool) : Option (Int × Int) :=
  (bif (c_3 == (0 : Int)) then
    some ((0 : Int), (21 : Int))
  else
    let t17_5 : Bool := (decide (a_1 < (0 : Int)))
    let t19_6 : Bool := (decide (b_2 < (0 : Int)))
    let t22_7 : Bool := (decide (c_3 < (0 : Int)))
    let t23_8 : Bool := (!((!(t17_5 == t19_6)) == t22_7))
    (F_num_Size a_1).bind fun t26_9 =>
    (F_num_Size b_2).bind fun t28_10 =>
    (F_wide_Mul t26_9 t28_10).bind fun t29_11 =>
    (F_num_Size c_3).bind fun t31_12 =>
    (F_wide_U_Div t29_11 t31_12).bind fun t32_13 =>
    let t37_14 : Bool := (decide ((0 : Int) < t32_13.2.1))
    let t42_15 : Bool := (bif t37_14 then (!(up_4 == t23_8)) else false)
    Option.bind (
      (bif t42_15 then
        (F_wide_U_Add t32_13.1 ((0 : Int), (1 : Int))).bind fun t46_16 =>
        some (t46_16.1.2, t46_16.1.1)
      else
        some (t32_13.1.2, t32_13.1.1))) fun r_17 =>
    let b0_18 : Int := r_17.1
    let b0_19 : Int := r_17.2
    (F_ratio_signed (b0_19, b0_18) t23_8).bind fun t51_20 =>
    some (t51_20.1, t51_20.2))
noncomputable def con_F_ratio_divide : Con := { f := 79, ps := [.dat (.int .i64), .dat (.int .i64), .dat (.int .i64), .dat .bool], boxes := [], ins := (.pair (.int .i64) (.pair (.int .i64) (.pair (.int .i64) .bool))), nin := 4, outs := (.pair (.int .i64) (.int .i64)), rs := [.dat (.int .i64), .dat (.int .i64)], nout := 2, F := fun x => F_ratio_divide x.1 x.2.1 x.2.2.1 x.2.2.2 }
def hint_F_ratio_divide : Hint := (.mk .plain [H0, (.mk .plain [H0, (.mk .plain [H0, (.mk .plain [H0, (.mk .plain [(.mk .plain [H0, (.mk (.join [(0, 46), (0, 45), (0, 48), (0, 47), (0, 44), (0, 43)] [(.normal, [⟨.cell 0 1, (.int .u64), none⟩, ⟨.cell 0 0, (.int .u64), none⟩])]) [])])])])])])])
theorem run_F_ratio_divide : runE ⟨tdGet tys, [con_F_num_Size, con_F_wide_Mul, con_F_wide_U_Div, con_F_wide_U_Add, con_F_ratio_signed], []⟩ con_F_ratio_divide Try.f79 hint_F_ratio_divide = con_F_ratio_divide.F := by
  funext x
  kernel_rfl
theorem ok_F_ratio_divide : ConOK Try.prog con_F_ratio_divide :=
  con_of_run (Γ := ⟨tdGet tys, [con_F_num_Size, con_F_wide_Mul, con_F_wide_U_Div, con_F_wide_U_Add, con_F_ratio_signed], []⟩) ⟨fun T d h => tysB_ok tys tys_ok T d h, by simp [ok_F_num_Size, ok_F_wide_Mul, ok_F_wide_U_Div, ok_F_wide_U_Add, ok_F_ratio_signed], by simp []⟩ (by kernel_rfl) Try.func79 rfl (by kernel_rfl) run_F_ratio_divide
/-- odograph/ratio.Floor -/
noncomputable def F_ratio_Floor (a_1 : Int) (b_2 : Int) (c_3 : Int) : Option (Int × Int) :=
  (F_ratio_divide a_1 b_2 c_3 false).bind fun t11_4 =>
  some (t11_4.1, t11_4.2)
noncomputable def con_F_ratio_Floor : Con := { f := 50, ps := [.dat (.int .i64), .dat (.int .i64), .dat (.int .i64)], boxes := [], ins := (.pair (.int .i64) (.pair (.int .i64) (.int .i64))), nin := 3, outs := (.pair (.int .i64) (.int .i64)), rs := [.dat (.int .i64), .dat (.int .i64)], nout := 2, F := fun x => F_ratio_Floor x.1 x.2.1 x.2.2 }
def hint_F_ratio_Floor : Hint := H0
theorem run_F_ratio_Floor : runE ⟨tdGet tys, [con_F_ratio_divide], []⟩ con_F_ratio_Floor Try.f50 hint_F_ratio_Floor = con_F_ratio_Floor.F := by
  funext x
  kernel_rfl
theorem ok_F_ratio_Floor : ConOK Try.prog con_F_ratio_Floor :=
  con_of_run (Γ := ⟨tdGet tys, [con_F_ratio_divide], []⟩) ⟨fun T d h => tysB_ok tys tys_ok T d h, by simp [ok_F_ratio_divide], by simp []⟩ (by kernel_rfl) Try.func50 rfl (by kernel_rfl) run_F_ratio_Floor
/-- odograph/ratio.Ceil -/
noncomputable def F_ratio_Ceil (a_1 : Int) (b_2 : Int) (c_3 : Int) : Option (Int × Int) :=
  (F_ratio_divide a_1 b_2 c_3 true).bind fun t11_4 =>
  some (t11_4.1, t11_4.2)
noncomputable def con_F_ratio_Ceil : Con := { f := 48, ps := [.dat (.int .i64), .dat (.int .i64), .dat (.int .i64)], boxes := [], ins := (.pair (.int .i64) (.pair (.int .i64) (.int .i64))), nin := 3, outs := (.pair (.int .i64) (.int .i64)), rs := [.dat (.int .i64), .dat (.int .i64)], nout := 2, F := fun x => F_ratio_Ceil x.1 x.2.1 x.2.2 }
def hint_F_ratio_Ceil : Hint := H0
theorem run_F_ratio_Ceil : runE ⟨tdGet tys, [con_F_ratio_divide], []⟩ con_F_ratio_Ceil Try.f48 hint_F_ratio_Ceil = con_F_ratio_Ceil.F := by
  funext x
  kernel_rfl
theorem ok_F_ratio_Ceil : ConOK Try.prog con_F_ratio_Ceil :=
  con_of_run (Γ := ⟨tdGet tys, [con_F_ratio_divide], []⟩) ⟨fun T d h => tysB_ok tys tys_ok T d h, by simp [ok_F_ratio_divide], by simp []⟩ (by kernel_rfl) Try.func48 rfl (by kernel_rfl) run_F_ratio_Ceil
/-- odograph/wheel.reckoned -/
noncomputable def F_wheel_reckoned (way_1 : (Int × Int)) (pulses_2 : Int) (n_3 : Int) : Option ((Int × Int) × Bool) :=
  let t14_4 : Bool := (decide (way_1.1 ≤ (0 : Int)))
  (bif !t14_4 then F_span_Span_Right way_1 else some false).bind fun t17_5 =>
  let t19_6 : Bool := (bif t14_4 then true else (!t17_5))
  let t22_7 : Bool := (decide (n_3 < (2 : Int)))
  let t23_8 : Bool := (bif t19_6 then true else t22_7)
  (bif t23_8 then
    let w_9 : (Int × Int) := ((0 : Int), (0 : Int))
    some (w_9, false)
  else
    let t30_10 : Int := (IntKind.wrap .i64 (n_3 + (1 : Int)))
    (F_ratio_Floor way_1.1 pulses_2 t30_10).bind fun t31_11 =>
    let t39_12 : Int := (IntKind.wrap .i64 (n_3 - (1 : Int)))
    (F_ratio_Ceil way_1.2 pulses_2 t39_12).bind fun t40_13 =>
    let t51_14 : Bool := (bif (t31_11.2 == (0 : Int)) then (t40_13.2 == (0 : Int)) else false)
    let w_15 : (Int × Int) := (t31_11.1, t40_13.1)
    some (w_15, t51_14))
noncomputable def con_F_wheel_reckoned : Con := { f := 56, ps := [.dat (.agg (.pair (.int .i64) (.int .i64))), .dat (.int .i64), .dat (.int .i64)], boxes := [], ins := (.pair (.agg (.pair (.int .i64) (.int .i64))) (.pair (.int .i64) (.int .i64))), nin := 3, outs := (.pair (.agg (.pair (.int .i64) (.int .i64))) .bool), rs := [.dat (.agg (.pair (.int .i64) (.int .i64))), .dat .bool], nout := 2, F := fun x => F_wheel_reckoned x.1 x.2.1 x.2.2 }
def hint_F_wheel_reckoned : Hint := H0
theorem run_F_wheel_reckoned : runE ⟨tdGet tys, [con_F_span_Span_Right, con_F_ratio_Floor, con_F_ratio_Ceil], []⟩ con_F_wheel_reckoned Try.f56 hint_F_wheel_reckoned = con_F_wheel_reckoned.F := by
  funext x
  kernel_rfl
theorem ok_F_wheel_reckoned : ConOK Try.prog con_F_wheel_reckoned :=
  con_of_run (Γ := ⟨tdGet tys, [con_F_span_Span_Right, con_F_ratio_Floor, con_F_ratio_Ceil], []⟩) ⟨fun T d h => tysB_ok tys tys_ok T d h, by simp [ok_F_span_Span_Right, ok_F_ratio_Floor, ok_F_ratio_Ceil], by simp []⟩ (by kernel_rfl) Try.func56 rfl (by kernel_rfl) run_F_wheel_reckoned
/-- (odograph/span.Span).Meet -/
noncomputable def F_span_Span_Meet (s_1 : (Int × Int)) (t_2 : (Int × Int)) : Option ((Int × Int) × Bool) :=
  let t10_3 : Int := (if t_2.1 > s_1.1 then t_2.1 else s_1.1)
  let t15_4 : Int := (if t_2.2 < s_1.2 then t_2.2 else s_1.2)
  (F_span_both t10_3 true t15_4 true).bind fun t16_5 =>
  some (t16_5.1, t16_5.2)
noncomputable def con_F_span_Span_Meet : Con := { f := 57, ps := [.dat (.agg (.pair (.int .i64) (.int .i64))), .dat (.agg (.pair (.int .i64) (.int .i64)))], boxes := [], ins := (.pair (.agg (.pair (.int .i64) (.int .i64))) (.agg (.pair (.int .i64) (.int .i64)))), nin := 2, outs := (.pair (.agg (.pair (.int .i64) (.int .i64))) .bool), rs := [.dat (.agg (.pair (.int .i64) (.int .i64))), .dat .bool], nout := 2, F := fun x => F_span_Span_Meet x.1 x.2 }
def hint_F_span_Span_Meet : Hint := H0
theorem run_F_span_Span_Meet : runE ⟨tdGet tys, [con_F_span_both], []⟩ con_F_span_Span_Meet Try.f57 hint_F_span_Span_Meet = con_F_span_Span_Meet.F := by
  funext x
  kernel_rfl
theorem ok_F_span_Span_Meet : ConOK Try.prog con_F_span_Span_Meet :=
  con_of_run (Γ := ⟨tdGet tys, [con_F_span_both], []⟩) ⟨fun T d h => tysB_ok tys tys_ok T d h, by simp [ok_F_span_both], by simp []⟩ (by kernel_rfl) Try.func57 rfl (by kernel_rfl) run_F_span_Span_Meet
/-- odograph/wheel.Learn -/
noncomputable def F_wheel_Learn (circ_1 : (Int × Int)) (way_2 : (Int × Int)) (pulses_3 : Int) (n_4 : Int) : Option ((Int × Int) × Bool) :=
  let t16_5 : Bool := (decide (n_4 < (0 : Int)))
  let t19_6 : Bool := (decide ((-4611686018427387904 : Int) < n_4))
  let t20_7 : Bool := (bif t16_5 then t19_6 else false)
  Option.bind (α := (Int × (Bool × Int)) ⊕ (Int × (Int × (Int × (Int × Int))))) (
    (bif t20_7 then
      (F_span_Span_Sub ((0 : Int), (0 : Int)) way_2).bind fun t24_8 =>
      (bif (!t24_8.2) then
        some (.inl (circ_1.2, false, circ_1.1))
      else
        let t32_9 : Int := (IntKind.wrap .i64 (0 - n_4))
        some (.inr ((0 : Int), (0 : Int), t24_8.1.2, t32_9, t24_8.1.1)))
    else
      some (.inr ((0 : Int), (0 : Int), way_2.2, n_4, way_2.1)))) fun z => match z with
  | .inl r_10 =>
    let b2_11 : Int := r_10.1
    let t9_12 : Bool := r_10.2.1
    let b2_13 : Int := r_10.2.2
    some ((b2_13, b2_11), t9_12)
  | .inr r_14 =>
    let b2_15 : Int := r_14.1
    let b2_16 : Int := r_14.2.1
    let b1_17 : Int := r_14.2.2.1
    let n_18 : Int := r_14.2.2.2.1
    let b1_19 : Int := r_14.2.2.2.2
    (F_wheel_reckoned (b1_19, b1_17) pulses_3 n_18).bind fun t37_20 =>
    (bif (!t37_20.2) then
      some (circ_1, false)
    else
      (F_span_Span_Meet circ_1 t37_20.1).bind fun t46_21 =>
      (bif (!t46_21.2) then
        some (circ_1, false)
      else
        some (t46_21.1, true)))
noncomputable def con_F_wheel_Learn : Con := { f := 30, ps := [.dat (.agg (.pair (.int .i64) (.int .i64))), .dat (.agg (.pair (.int .i64) (.int .i64))), .dat (.int .i64), .dat (.int .i64)], boxes := [], ins := (.pair (.agg (.pair (.int .i64) (.int .i64))) (.pair (.agg (.pair (.int .i64) (.int .i64))) (.pair (.int .i64) (.int .i64)))), nin := 4, outs := (.pair (.agg (.pair (.int .i64) (.int .i64))) .bool), rs := [.dat (.agg (.pair (.int .i64) (.int .i64))), .dat .bool], nout := 2, F := fun x => F_wheel_Learn x.1 x.2.1 x.2.2.1 x.2.2.2 }
def hint_F_wheel_Learn : Hint := (.mk .plain [H0, (.mk .plain [(.mk .plain [H0, (.mk (.join [(0, 10), (0, 22), (0, 28), (0, 25), (0, 11), (0, 23), (0, 26), (0, 29), (0, 9), (0, 21), (0, 24), (0, 27), (0, 30), (2, 1), (0, 31), (0, 3), (2, 0), (0, 32)] [(.ret, [⟨.cell 2 1, (.int .i64), none⟩, ⟨.slot 9, .bool, none⟩, ⟨.cell 2 0, (.int .i64), none⟩]), (.normal, [⟨.cell 2 1, (.int .i64), none⟩, ⟨.cell 2 0, (.int .i64), none⟩, ⟨.cell 1 1, (.int .i64), none⟩, ⟨.slot 3, (.int .i64), none⟩, ⟨.cell 1 0, (.int .i64), none⟩])]) [])])])])
theorem run_F_wheel_Learn : runE ⟨tdGet tys, [con_F_span_Span_Sub, con_F_wheel_reckoned, con_F_span_Span_Meet], []⟩ con_F_wheel_Learn Try.f30 hint_F_wheel_Learn = con_F_wheel_Learn.F := by
  funext x
  kernel_rfl
theorem ok_F_wheel_Learn : ConOK Try.prog con_F_wheel_Learn :=
  con_of_run (Γ := ⟨tdGet tys, [con_F_span_Span_Sub, con_F_wheel_reckoned, con_F_span_Span_Meet], []⟩) ⟨fun T d h => tysB_ok tys tys_ok T d h, by simp [ok_F_span_Span_Sub, ok_F_wheel_reckoned, ok_F_span_Span_Meet], by simp []⟩ (by kernel_rfl) Try.func30 rfl (by kernel_rfl) run_F_wheel_Learn
/-- odograph/odographlaw16.anchor -/
noncomputable def F_law16_anchor (_ : Unit) : Option Bool :=
  let t4_1 : (Int × Int) := ((900 : Int), (1100 : Int))
  let t5_2 : (Int × Int) := ((10000 : Int), (10010 : Int))
  (F_wheel_Learn t4_1 t5_2 (10 : Int) (100 : Int)).bind fun t6_3 =>
  let t12_4 : (Int × Int) := ((990 : Int), (1012 : Int))
  let t13_5 : Bool := (eqT (.agg (.pair (.int .i64) (.int .i64))) t6_3.1 t12_4)
  let t14_6 : Bool := (bif t6_3.2 then t13_5 else false)
  some t14_6
noncomputable def con_F_law16_anchor : Con := { f := 28, ps := [], boxes := [], ins := .unit, nin := 0, outs := .bool, rs := [.dat .bool], nout := 1, F := fun x => F_law16_anchor () }
def hint_F_law16_anchor : Hint := H0
theorem run_F_law16_anchor : runE ⟨tdGet tys, [con_F_wheel_Learn], []⟩ con_F_law16_anchor Try.f28 hint_F_law16_anchor = con_F_law16_anchor.F := by
  funext x
  kernel_rfl
theorem ok_F_law16_anchor : ConOK Try.prog con_F_law16_anchor :=
  con_of_run (Γ := ⟨tdGet tys, [con_F_wheel_Learn], []⟩) ⟨fun T d h => tysB_ok tys tys_ok T d h, by simp [ok_F_wheel_Learn], by simp []⟩ (by kernel_rfl) Try.func28 rfl (by kernel_rfl) run_F_law16_anchor
/-- odograph/odographlaw16.may -/
noncomputable def F_law16_may (circ_1 : (Int × Int)) (way_2 : (Int × Int)) (pulses_3 : Int) (n_4 : Int) : Option Bool :=
  let t11_5 : Bool := (decide ((1 : Int) ≤ circ_1.1))
  let t17_6 : Bool := (decide (circ_1.1 ≤ circ_1.2))
  let t18_7 : Bool := (bif t11_5 then t17_6 else false)
  let t22_8 : Bool := (decide (circ_1.2 ≤ (8388608 : Int)))
  let t23_9 : Bool := (bif t18_7 then t22_8 else false)
  let t27_10 : Bool := (decide ((-17592186044416 : Int) ≤ way_2.1))
  let t28_11 : Bool := (bif t23_9 then t27_10 else false)
  let t34_12 : Bool := (decide (way_2.1 ≤ way_2.2))
  let t35_13 : Bool := (bif t28_11 then t34_12 else false)
  let t39_14 : Bool := (decide (way_2.2 ≤ (17592186044416 : Int)))
  let t40_15 : Bool := (bif t35_13 then t39_14 else false)
  let t43_16 : Bool := (decide ((1 : Int) ≤ pulses_3))
  let t44_17 : Bool := (bif t40_15 then t43_16 else false)
  let t47_18 : Bool := (decide (pulses_3 ≤ (1024 : Int)))
  let t48_19 : Bool := (bif t44_17 then t47_18 else false)
  let t51_20 : Bool := (decide ((-1099511627776 : Int) ≤ n_4))
  let t52_21 : Bool := (bif t48_19 then t51_20 else false)
  let t55_22 : Bool := (decide (n_4 ≤ (1099511627776 : Int)))
  let t56_23 : Bool := (bif t52_21 then t55_22 else false)
  some t56_23
noncomputable def con_F_law16_may : Con := { f := 29, ps := [.dat (.agg (.pair (.int .i64) (.int .i64))), .dat (.agg (.pair (.int .i64) (.int .i64))), .dat (.int .i64), .dat (.int .i64)], boxes := [], ins := (.pair (.agg (.pair (.int .i64) (.int .i64))) (.pair (.agg (.pair (.int .i64) (.int .i64))) (.pair (.int .i64) (.int .i64)))), nin := 4, outs := .bool, rs := [.dat .bool], nout := 1, F := fun x => F_law16_may x.1 x.2.1 x.2.2.1 x.2.2.2 }
def hint_F_law16_may : Hint := H0
theorem run_F_law16_may : runE ⟨tdGet tys, [], []⟩ con_F_law16_may Try.f29 hint_F_law16_may = con_F_law16_may.F := by
  funext x
  kernel_rfl
theorem ok_F_law16_may : ConOK Try.prog con_F_law16_may :=
  con_of_run (Γ := ⟨tdGet tys, [], []⟩) ⟨fun T d h => tysB_ok tys tys_ok T d h, by simp [], by simp []⟩ (by kernel_rfl) Try.func29 rfl (by kernel_rfl) run_F_law16_may
/-- odograph/odographref15.Down -/
noncomputable def F_ref15_Down (a_1 : Int) (b_2 : Int) : Option Int :=
  chk none (!(b_2 == (0 : Int))) <|
  let t8_3 : Int := (IntKind.wrap .i64 (a_1.tdiv b_2))
  chk none (!(b_2 == (0 : Int))) <|
  let t12_4 : Bool := (decide ((a_1.tmod b_2) < (0 : Int)))
  Option.bind (
    (bif t12_4 then
      let t14_5 : Int := (IntKind.wrap .i64 (t8_3 - (1 : Int)))
      some t14_5
    else
      some t8_3)) fun r_6 =>
  some r_6
noncomputable def con_F_ref15_Down : Con := { f := 53, ps := [.dat (.int .i64), .dat (.int .i64)], boxes := [], ins := (.pair (.int .i64) (.int .i64)), nin := 2, outs := (.int .i64), rs := [.dat (.int .i64)], nout := 1, F := fun x => F_ref15_Down x.1 x.2 }
def hint_F_ref15_Down : Hint := (.mk .plain [H0, (.mk .plain [H0, (.mk .plain [(.mk .plain [H0, (.mk (.join [(0, 13), (0, 14)] [(.normal, [⟨.slot 5, (.int .i64), none⟩])]) [])])])])])
theorem run_F_ref15_Down : runE ⟨tdGet tys, [], []⟩ con_F_ref15_Down Try.f53 hint_F_ref15_Down = con_F_ref15_Down.F := by
  funext x
  kernel_rfl
theorem ok_F_ref15_Down : ConOK Try.prog con_F_ref15_Down :=
  con_of_run (Γ := ⟨tdGet tys, [], []⟩) ⟨fun T d h => tysB_ok tys tys_ok T d h, by simp [], by simp []⟩ (by kernel_rfl) Try.func53 rfl (by kernel_rfl) run_F_ref15_Down
/-- odograph/odographref15.Up -/
noncomputable def F_ref15_Up (a_1 : Int) (b_2 : Int) : Option Int :=
  let t6_3 : Int := (IntKind.wrap .i64 (0 - a_1))
  (F_ref15_Down t6_3 b_2).bind fun t8_4 =>
  let t9_5 : Int := (IntKind.wrap .i64 (0 - t8_4))
  some t9_5
noncomputable def con_F_ref15_Up : Con := { f := 54, ps := [.dat (.int .i64), .dat (.int .i64)], boxes := [], ins := (.pair (.int .i64) (.int .i64)), nin := 2, outs := (.int .i64), rs := [.dat (.int .i64)], nout := 1, F := fun x => F_ref15_Up x.1 x.2 }
def hint_F_ref15_Up : Hint := H0
theorem run_F_ref15_Up : runE ⟨tdGet tys, [con_F_ref15_Down], []⟩ con_F_ref15_Up Try.f54 hint_F_ref15_Up = con_F_ref15_Up.F := by
  funext x
  kernel_rfl
theorem ok_F_ref15_Up : ConOK Try.prog con_F_ref15_Up :=
  con_of_run (Γ := ⟨tdGet tys, [con_F_ref15_Down], []⟩) ⟨fun T d h => tysB_ok tys tys_ok T d h, by simp [ok_F_ref15_Down], by simp []⟩ (by kernel_rfl) Try.func54 rfl (by kernel_rfl) run_F_ref15_Up
/-- odograph/odographref16.Learn -/
noncomputable def F_ref16_Learn (lo_1 : Int) (hi_2 : Int) (from_3 : Int) (to_4 : Int) (pulses_5 : Int) (n_6 : Int) : Option (Int × (Int × Bool)) :=
  let t19_7 : Bool := (decide (n_6 < (0 : Int)))
  Option.bind (
    (bif t19_7 then
      let t21_8 : Int := (IntKind.wrap .i64 (0 - n_6))
      let t23_9 : Int := (IntKind.wrap .i64 (0 - from_3))
      let t25_10 : Int := (IntKind.wrap .i64 (0 - to_4))
      some (t23_9, t25_10, t21_8)
    else
      some (to_4, from_3, n_6))) fun r_11 =>
  let t3_12 : Int := r_11.1
  let t2_13 : Int := r_11.2.1
  let n_14 : Int := r_11.2.2
  let t28_15 : Bool := (decide (n_14 < (2 : Int)))
  let t31_16 : Bool := (decide (t2_13 ≤ (0 : Int)))
  let t32_17 : Bool := (bif t28_15 then true else t31_16)
  (bif t32_17 then
    some (lo_1, hi_2, false)
  else
    let t37_18 : Int := (IntKind.wrap .i64 (t2_13 * pulses_5))
    let t39_19 : Int := (IntKind.wrap .i64 (n_14 + (1 : Int)))
    (F_ref15_Down t37_18 t39_19).bind fun t40_20 =>
    let t43_21 : Int := (IntKind.wrap .i64 (t3_12 * pulses_5))
    let t45_22 : Int := (IntKind.wrap .i64 (n_14 - (1 : Int)))
    (F_ref15_Up t43_21 t45_22).bind fun t46_23 =>
    Option.bind (
      (bif (decide (t40_20 < lo_1)) then
        some lo_1
      else
        some t40_20)) fun r_24 =>
    Option.bind (
      (bif (decide (hi_2 < t46_23)) then
        some hi_2
      else
        some t46_23)) fun r_25 =>
    (bif (decide (r_25 < r_24)) then
      some (lo_1, hi_2, false)
    else
      some (r_24, r_25, true)))
noncomputable def con_F_ref16_Learn : Con := { f := 31, ps := [.dat (.int .i64), .dat (.int .i64), .dat (.int .i64), .dat (.int .i64), .dat (.int .i64), .dat (.int .i64)], boxes := [], ins := (.pair (.int .i64) (.pair (.int .i64) (.pair (.int .i64) (.pair (.int .i64) (.pair (.int .i64) (.int .i64)))))), nin := 6, outs := (.pair (.int .i64) (.pair (.int .i64) .bool)), rs := [.dat (.int .i64), .dat (.int .i64), .dat .bool], nout := 3, F := fun x => F_ref16_Learn x.1 x.2.1 x.2.2.1 x.2.2.2.1 x.2.2.2.2.1 x.2.2.2.2.2 }
def hint_F_ref16_Learn : Hint := (.mk .plain [H0, (.mk .plain [(.mk .plain [H0, (.mk (.join [(0, 23), (0, 20), (0, 26), (0, 22), (0, 25), (0, 15), (0, 21), (0, 24)] [(.normal, [⟨.slot 3, (.int .i64), none⟩, ⟨.slot 2, (.int .i64), none⟩, ⟨.slot 5, (.int .i64), none⟩])]) [])]), (.mk .plain [H0, (.mk .plain [H0, (.mk .plain [H0, (.mk .plain [(.mk .plain [H0, (.mk (.join [(0, 50)] [(.normal, [⟨.slot 16, (.int .i64), none⟩])]) [])]), (.mk .plain [(.mk .plain [H0, (.mk (.join [(0, 54)] [(.normal, [⟨.slot 17, (.int .i64), none⟩])]) [])])])])])])])])])
theorem run_F_ref16_Learn : runE ⟨tdGet tys, [con_F_ref15_Down, con_F_ref15_Up], []⟩ con_F_ref16_Learn Try.f31 hint_F_ref16_Learn = con_F_ref16_Learn.F := by
  funext x
  kernel_rfl
theorem ok_F_ref16_Learn : ConOK Try.prog con_F_ref16_Learn :=
  con_of_run (Γ := ⟨tdGet tys, [con_F_ref15_Down, con_F_ref15_Up], []⟩) ⟨fun T d h => tysB_ok tys tys_ok T d h, by simp [ok_F_ref15_Down, ok_F_ref15_Up], by simp []⟩ (by kernel_rfl) Try.func31 rfl (by kernel_rfl) run_F_ref16_Learn
/-- odograph/odographlaw16.WheelLearns -/
noncomputable def F_law16_WheelLearns (circ_1 : (Int × Int)) (way_2 : (Int × Int)) (pulses_3 : Int) (n_4 : Int) : Option Bool :=
  (F_law16_anchor ()).bind fun t14_5 =>
  (bif (!t14_5) then
    some false
  else
    (F_law16_may circ_1 way_2 pulses_3 n_4).bind fun t20_6 =>
    (bif (!t20_6) then
      some true
    else
      (F_wheel_Learn circ_1 way_2 pulses_3 n_4).bind fun t27_7 =>
      (F_ref16_Learn circ_1.1 circ_1.2 way_2.1 way_2.2 pulses_3 n_4).bind fun t41_8 =>
      let t53_9 : Bool := (bif (t27_7.2 == t41_8.2.2) then (t27_7.1.1 == t41_8.1) else false)
      let t59_10 : Bool := (bif t53_9 then (t27_7.1.2 == t41_8.2.1) else false)
      let t65_11 : Bool := (decide (circ_1.1 ≤ t27_7.1.1))
      let t66_12 : Bool := (bif t59_10 then t65_11 else false)
      let t72_13 : Bool := (decide (t27_7.1.2 ≤ circ_1.2))
      let t73_14 : Bool := (bif t66_12 then t72_13 else false)
      let t79_15 : Bool := (decide (t27_7.1.1 ≤ t27_7.1.2))
      let t80_16 : Bool := (bif t73_14 then t79_15 else false)
      some t80_16))
noncomputable def con_F_law16_WheelLearns : Con := { f := 9, ps := [.dat (.agg (.pair (.int .i64) (.int .i64))), .dat (.agg (.pair (.int .i64) (.int .i64))), .dat (.int .i64), .dat (.int .i64)], boxes := [], ins := (.pair (.agg (.pair (.int .i64) (.int .i64))) (.pair (.agg (.pair (.int .i64) (.int .i64))) (.pair (.int .i64) (.int .i64)))), nin := 4, outs := .bool, rs := [.dat .bool], nout := 1, F := fun x => F_law16_WheelLearns x.1 x.2.1 x.2.2.1 x.2.2.2 }
def hint_F_law16_WheelLearns : Hint := H0
theorem run_F_law16_WheelLearns : runE ⟨tdGet tys, [con_F_law16_anchor, con_F_law16_may, con_F_wheel_Learn, con_F_ref16_Learn], []⟩ con_F_law16_WheelLearns Try.f9 hint_F_law16_WheelLearns = con_F_law16_WheelLearns.F := by
  funext x
  kernel_rfl
theorem ok_F_law16_WheelLearns : ConOK Try.prog con_F_law16_WheelLearns :=
  con_of_run (Γ := ⟨tdGet tys, [con_F_law16_anchor, con_F_law16_may, con_F_wheel_Learn, con_F_ref16_Learn], []⟩) ⟨fun T d h => tysB_ok tys tys_ok T d h, by simp [ok_F_law16_anchor, ok_F_law16_may, ok_F_wheel_Learn, ok_F_ref16_Learn], by simp []⟩ (by kernel_rfl) Try.func9 rfl (by kernel_rfl) run_F_law16_WheelLearns
/-- odograph/odographlaw16.WheelBack -/
noncomputable def F_law16_WheelBack (circ_1 : (Int × Int)) (way_2 : (Int × Int)) (pulses_3 : Int) (n_4 : Int) : Option Bool :=
  (F_law16_anchor ()).bind fun t13_5 =>
  (bif (!t13_5) then
    some false
  else
    (F_law16_may circ_1 way_2 pulses_3 n_4).bind fun t19_6 =>
    (bif (!t19_6) then
      some true
    else
      (F_wheel_Learn circ_1 way_2 pulses_3 n_4).bind fun t26_7 =>
      let t33_8 : Int := (IntKind.wrap .i64 (0 - way_2.2))
      let t36_9 : Int := (IntKind.wrap .i64 (0 - way_2.1))
      let t40_10 : Int := (IntKind.wrap .i64 (0 - n_4))
      (F_wheel_Learn circ_1 (t33_8, t36_9) pulses_3 t40_10).bind fun t41_11 =>
      let t50_12 : Bool := (eqT (.agg (.pair (.int .i64) (.int .i64))) t26_7.1 t41_11.1)
      let t51_13 : Bool := (bif (t26_7.2 == t41_11.2) then t50_12 else false)
      some t51_13))
noncomputable def con_F_law16_WheelBack : Con := { f := 10, ps := [.dat (.agg (.pair (.int .i64) (.int .i64))), .dat (.agg (.pair (.int .i64) (.int .i64))), .dat (.int .i64), .dat (.int .i64)], boxes := [], ins := (.pair (.agg (.pair (.int .i64) (.int .i64))) (.pair (.agg (.pair (.int .i64) (.int .i64))) (.pair (.int .i64) (.int .i64)))), nin := 4, outs := .bool, rs := [.dat .bool], nout := 1, F := fun x => F_law16_WheelBack x.1 x.2.1 x.2.2.1 x.2.2.2 }
def hint_F_law16_WheelBack : Hint := H0
theorem run_F_law16_WheelBack : runE ⟨tdGet tys, [con_F_law16_anchor, con_F_law16_may, con_F_wheel_Learn], []⟩ con_F_law16_WheelBack Try.f10 hint_F_law16_WheelBack = con_F_law16_WheelBack.F := by
  funext x
  kernel_rfl
theorem ok_F_law16_WheelBack : ConOK Try.prog con_F_law16_WheelBack :=
  con_of_run (Γ := ⟨tdGet tys, [con_F_law16_anchor, con_F_law16_may, con_F_wheel_Learn], []⟩) ⟨fun T d h => tysB_ok tys tys_ok T d h, by simp [ok_F_law16_anchor, ok_F_law16_may, ok_F_wheel_Learn], by simp []⟩ (by kernel_rfl) Try.func10 rfl (by kernel_rfl) run_F_law16_WheelBack
/-- odograph/odographlaw16.WheelMore -/
noncomputable def F_law16_WheelMore (circ_1 : (Int × Int)) (way_2 : (Int × Int)) (better_3 : (Int × Int)) (pulses_4 : Int) (n_5 : Int) : Option Bool :=
  (F_law16_anchor ()).bind fun t15_6 =>
  (bif (!t15_6) then
    some false
  else
    (F_law16_may circ_1 way_2 pulses_4 n_5).bind fun t21_7 =>
    (bif !(!t21_7) then F_law16_may circ_1 better_3 pulses_4 n_5 else some false).bind fun t28_8 =>
    let t30_9 : Bool := (bif (!t21_7) then true else (!t28_8))
    let t36_10 : Bool := (decide (better_3.1 < way_2.1))
    let t37_11 : Bool := (bif t30_9 then true else t36_10)
    let t43_12 : Bool := (decide (way_2.2 < better_3.2))
    let t44_13 : Bool := (bif t37_11 then true else t43_12)
    (bif t44_13 then
      some true
    else
      (F_wheel_Learn circ_1 way_2 pulses_4 n_5).bind fun t50_14 =>
      (F_wheel_Learn circ_1 better_3 pulses_4 n_5).bind fun t58_15 =>
      let t66_16 : Bool := (bif (!t50_14.2) then true else (!t58_15.2))
      let t72_17 : Bool := (decide (t50_14.1.1 ≤ t58_15.1.1))
      let t78_18 : Bool := (decide (t58_15.1.2 ≤ t50_14.1.2))
      let t79_19 : Bool := (bif t72_17 then t78_18 else false)
      let t80_20 : Bool := (bif t66_16 then true else t79_19)
      some t80_20))
noncomputable def con_F_law16_WheelMore : Con := { f := 11, ps := [.dat (.agg (.pair (.int .i64) (.int .i64))), .dat (.agg (.pair (.int .i64) (.int .i64))), .dat (.agg (.pair (.int .i64) (.int .i64))), .dat (.int .i64), .dat (.int .i64)], boxes := [], ins := (.pair (.agg (.pair (.int .i64) (.int .i64))) (.pair (.agg (.pair (.int .i64) (.int .i64))) (.pair (.agg (.pair (.int .i64) (.int .i64))) (.pair (.int .i64) (.int .i64))))), nin := 5, outs := .bool, rs := [.dat .bool], nout := 1, F := fun x => F_law16_WheelMore x.1 x.2.1 x.2.2.1 x.2.2.2.1 x.2.2.2.2 }
def hint_F_law16_WheelMore : Hint := H0
theorem run_F_law16_WheelMore : runE ⟨tdGet tys, [con_F_law16_anchor, con_F_law16_may, con_F_wheel_Learn], []⟩ con_F_law16_WheelMore Try.f11 hint_F_law16_WheelMore = con_F_law16_WheelMore.F := by
  funext x
  kernel_rfl
theorem ok_F_law16_WheelMore : ConOK Try.prog con_F_law16_WheelMore :=
  con_of_run (Γ := ⟨tdGet tys, [con_F_law16_anchor, con_F_law16_may, con_F_wheel_Learn], []⟩) ⟨fun T d h => tysB_ok tys tys_ok T d h, by simp [ok_F_law16_anchor, ok_F_law16_may, ok_F_wheel_Learn], by simp []⟩ (by kernel_rfl) Try.func11 rfl (by kernel_rfl) run_F_law16_WheelMore
/-- (odograph/span.Span).Has -/
noncomputable def F_span_Span_Has (s_1 : (Int × Int)) (x_2 : Int) : Option Bool :=
  let t14_3 : Bool := (bif (decide (s_1.1 ≤ x_2)) then (decide (x_2 ≤ s_1.2)) else false)
  some t14_3
noncomputable def con_F_span_Span_Has : Con := { f := 27, ps := [.dat (.agg (.pair (.int .i64) (.int .i64))), .dat (.int .i64)], boxes := [], ins := (.pair (.agg (.pair (.int .i64) (.int .i64))) (.int .i64)), nin := 2, outs := .bool, rs := [.dat .bool], nout := 1, F := fun x => F_span_Span_Has x.1 x.2 }
def hint_F_span_Span_Has : Hint := H0
theorem run_F_span_Span_Has : runE ⟨tdGet tys, [], []⟩ con_F_span_Span_Has Try.f27 hint_F_span_Span_Has = con_F_span_Span_Has.F := by
  funext x
  kernel_rfl
theorem ok_F_span_Span_Has : ConOK Try.prog con_F_span_Span_Has :=
  con_of_run (Γ := ⟨tdGet tys, [], []⟩) ⟨fun T d h => tysB_ok tys tys_ok T d h, by simp [], by simp []⟩ (by kernel_rfl) Try.func27 rfl (by kernel_rfl) run_F_span_Span_Has
/-- odograph/odographlaw16.WheelTrue -/
noncomputable def F_law16_WheelTrue (circ_1 : (Int × Int)) (way_2 : (Int × Int)) (pulses_3 : Int) (n_4 : Int) (own_5 : Int) (went_6 : Int) : Option Bool :=
  (F_law16_anchor ()).bind fun t16_7 =>
  (bif (!t16_7) then
    some false
  else
    (F_law16_may circ_1 way_2 pulses_3 n_4).bind fun t22_8 =>
    let t28_9 : Bool := (decide (own_5 < circ_1.1))
    let t29_10 : Bool := (bif (!t22_8) then true else t28_9)
    let t34_11 : Bool := (decide (circ_1.2 < own_5))
    let t35_12 : Bool := (bif t29_10 then true else t34_11)
    let t40_13 : Bool := (decide (went_6 < way_2.1))
    let t41_14 : Bool := (bif t35_12 then true else t40_13)
    let t46_15 : Bool := (decide (way_2.2 < went_6))
    let t47_16 : Bool := (bif t41_14 then true else t46_15)
    (bif t47_16 then
      some true
    else
      let t49_17 : Bool := (decide (n_4 < (-274877906944 : Int)))
      let t52_18 : Bool := (decide ((274877906944 : Int) < n_4))
      let t53_19 : Bool := (bif t49_17 then true else t52_18)
      (bif t53_19 then
        some true
      else
        let t56_20 : Int := (IntKind.wrap .i64 (n_4 * own_5))
        let t59_21 : Int := (IntKind.wrap .i64 (went_6 * pulses_3))
        let t60_22 : Int := (IntKind.wrap .i64 (t56_20 - t59_21))
        let t63_23 : Int := (IntKind.wrap .i64 (0 - own_5))
        let t64_24 : Bool := (decide (t60_22 ≤ t63_23))
        let t68_25 : Bool := (decide (own_5 ≤ t60_22))
        let t69_26 : Bool := (bif t64_24 then true else t68_25)
        (bif t69_26 then
          some true
        else
          (F_wheel_Learn circ_1 way_2 pulses_3 n_4).bind fun t75_27 =>
          (F_span_Span_Has t75_27.1 own_5).bind fun t80_28 =>
          some t80_28))))
noncomputable def con_F_law16_WheelTrue : Con := { f := 12, ps := [.dat (.agg (.pair (.int .i64) (.int .i64))), .dat (.agg (.pair (.int .i64) (.int .i64))), .dat (.int .i64), .dat (.int .i64), .dat (.int .i64), .dat (.int .i64)], boxes := [], ins := (.pair (.agg (.pair (.int .i64) (.int .i64))) (.pair (.agg (.pair (.int .i64) (.int .i64))) (.pair (.int .i64) (.pair (.int .i64) (.pair (.int .i64) (.int .i64)))))), nin := 6, outs := .bool, rs := [.dat .bool], nout := 1, F := fun x => F_law16_WheelTrue x.1 x.2.1 x.2.2.1 x.2.2.2.1 x.2.2.2.2.1 x.2.2.2.2.2 }
def hint_F_law16_WheelTrue : Hint := H0
theorem run_F_law16_WheelTrue : runE ⟨tdGet tys, [con_F_law16_anchor, con_F_law16_may, con_F_wheel_Learn, con_F_span_Span_Has], []⟩ con_F_law16_WheelTrue Try.f12 hint_F_law16_WheelTrue = con_F_law16_WheelTrue.F := by
  funext x
  kernel_rfl
theorem ok_F_law16_WheelTrue : ConOK Try.prog con_F_law16_WheelTrue :=
  con_of_run (Γ := ⟨tdGet tys, [con_F_law16_anchor, con_F_law16_may, con_F_wheel_Learn, con_F_span_Span_Has], []⟩) ⟨fun T d h => tysB_ok tys tys_ok T d h, by simp [ok_F_law16_anchor, ok_F_law16_may, ok_F_wheel_Learn, ok_F_span_Span_Has], by simp []⟩ (by kernel_rfl) Try.func12 rfl (by kernel_rfl) run_F_law16_WheelTrue
/-- (odograph/span.Span).Times -/
noncomputable def F_span_Span_Times (s_1 : (Int × Int)) (k_2 : Int) (by_3 : Int) : Option ((Int × Int) × Int) :=
  (F_span_Span_Right s_1).bind fun t14_4 =>
  let t18_5 : Bool := (decide (by_3 < (1 : Int)))
  let t19_6 : Bool := (bif (!t14_4) then true else t18_5)
  (bif t19_6 then
    let w_7 : (Int × Int) := ((0 : Int), (0 : Int))
    some (w_7, (10 : Int))
  else
    let t26_8 : Bool := (decide (k_2 < (0 : Int)))
    Option.bind (
      (bif t26_8 then
        some (s_1.2, s_1.1)
      else
        some (s_1.1, s_1.2))) fun r_9 =>
    let lo_10 : Int := r_9.1
    let hi_11 : Int := r_9.2
    (F_ratio_Floor k_2 lo_10 by_3).bind fun t33_12 =>
    (bif (t33_12.2 != (0 : Int)) then
      let w_13 : (Int × Int) := ((0 : Int), (0 : Int))
      some (w_13, t33_12.2)
    else
      (F_ratio_Ceil k_2 hi_11 by_3).bind fun t44_14 =>
      (bif (t44_14.2 != (0 : Int)) then
        let w_15 : (Int × Int) := ((0 : Int), (0 : Int))
        some (w_15, t44_14.2)
      else
        let w_16 : (Int × Int) := (t33_12.1, t44_14.1)
        some (w_16, (0 : Int)))))
noncomputable def con_F_span_Span_Times : Con := { f := 51, ps := [.dat (.agg (.pair (.int .i64) (.int .i64))), .dat (.int .i64), .dat (.int .i64)], boxes := [], ins := (.pair (.agg (.pair (.int .i64) (.int .i64))) (.pair (.int .i64) (.int .i64))), nin := 3, outs := (.pair (.agg (.pair (.int .i64) (.int .i64))) (.int .i64)), rs := [.dat (.agg (.pair (.int .i64) (.int .i64))), .dat (.int .i64)], nout := 2, F := fun x => F_span_Span_Times x.1 x.2.1 x.2.2 }
def hint_F_span_Span_Times : Hint := (.mk .plain [H0, (.mk .plain [H0, (.mk .plain [H0, (.mk .plain [(.mk .plain [H0, (.mk (.join [(0, 27), (0, 28)] [(.normal, [⟨.slot 8, (.int .i64), none⟩, ⟨.slot 9, (.int .i64), none⟩])]) [])])])])])])
theorem run_F_span_Span_Times : runE ⟨tdGet tys, [con_F_span_Span_Right, con_F_ratio_Floor, con_F_ratio_Ceil], []⟩ con_F_span_Span_Times Try.f51 hint_F_span_Span_Times = con_F_span_Span_Times.F := by
  funext x
  kernel_rfl
theorem ok_F_span_Span_Times : ConOK Try.prog con_F_span_Span_Times :=
  con_of_run (Γ := ⟨tdGet tys, [con_F_span_Span_Right, con_F_ratio_Floor, con_F_ratio_Ceil], []⟩) ⟨fun T d h => tysB_ok tys tys_ok T d h, by simp [ok_F_span_Span_Right, ok_F_ratio_Floor, ok_F_ratio_Ceil], by simp []⟩ (by kernel_rfl) Try.func51 rfl (by kernel_rfl) run_F_span_Span_Times
/-- (odograph/span.Span).Hull -/
noncomputable def F_span_Span_Hull (s_1 : (Int × Int)) (t_2 : (Int × Int)) : Option (Int × Int) :=
  (F_span_Span_Right s_1).bind fun t7_3 =>
  (bif (!t7_3) then
    some t_2
  else
    (F_span_Span_Right t_2).bind fun t12_4 =>
    (bif (!t12_4) then
      some s_1
    else
      let t19_5 : Int := (if t_2.1 < s_1.1 then t_2.1 else s_1.1)
      let t24_6 : Int := (if t_2.2 > s_1.2 then t_2.2 else s_1.2)
      let w_7 : (Int × Int) := (t19_5, t24_6)
      some w_7))
noncomputable def con_F_span_Span_Hull : Con := { f := 52, ps := [.dat (.agg (.pair (.int .i64) (.int .i64))), .dat (.agg (.pair (.int .i64) (.int .i64)))], boxes := [], ins := (.pair (.agg (.pair (.int .i64) (.int .i64))) (.agg (.pair (.int .i64) (.int .i64)))), nin := 2, outs := (.agg (.pair (.int .i64) (.int .i64))), rs := [.dat (.agg (.pair (.int .i64) (.int .i64)))], nout := 1, F := fun x => F_span_Span_Hull x.1 x.2 }
def hint_F_span_Span_Hull : Hint := H0
theorem run_F_span_Span_Hull : runE ⟨tdGet tys, [con_F_span_Span_Right], []⟩ con_F_span_Span_Hull Try.f52 hint_F_span_Span_Hull = con_F_span_Span_Hull.F := by
  funext x
  kernel_rfl
theorem ok_F_span_Span_Hull : ConOK Try.prog con_F_span_Span_Hull :=
  con_of_run (Γ := ⟨tdGet tys, [con_F_span_Span_Right], []⟩) ⟨fun T d h => tysB_ok tys tys_ok T d h, by simp [ok_F_span_Span_Right], by simp []⟩ (by kernel_rfl) Try.func52 rfl (by kernel_rfl) run_F_span_Span_Hull
/-- odograph/sense.Tacho -/
noncomputable def F_sense_Tacho (d_1 : Int) (circ_2 : (Int × Int)) (pulses_3 : Int) : Option ((Int × Int) × Int) :=
  let t12_4 : Bool := (decide (d_1 < (-32768 : Int)))
  let t15_5 : Bool := (decide ((32767 : Int) < d_1))
  let t16_6 : Bool := (bif t12_4 then true else t15_5)
  (bif t16_6 then
    let w_7 : (Int × Int) := ((0 : Int), (0 : Int))
    some (w_7, (10 : Int))
  else
    let t21_8 : Int := (IntKind.wrap .i64 (d_1 - (1 : Int)))
    (F_span_Span_Times circ_2 t21_8 pulses_3).bind fun t23_9 =>
    (bif (t23_9.2 != (0 : Int)) then
      let w_10 : (Int × Int) := ((0 : Int), (0 : Int))
      some (w_10, t23_9.2)
    else
      let t33_11 : Int := (IntKind.wrap .i64 (d_1 + (1 : Int)))
      (F_span_Span_Times circ_2 t33_11 pulses_3).bind fun t35_12 =>
      (bif (t35_12.2 != (0 : Int)) then
        let w_13 : (Int × Int) := ((0 : Int), (0 : Int))
        some (w_13, t35_12.2)
      else
        (F_span_Span_Hull t23_9.1 t35_12.1).bind fun t44_14 =>
        some (t44_14, (0 : Int)))))
noncomputable def con_F_sense_Tacho : Con := { f := 24, ps := [.dat (.int .i64), .dat (.agg (.pair (.int .i64) (.int .i64))), .dat (.int .i64)], boxes := [], ins := (.pair (.int .i64) (.pair (.agg (.pair (.int .i64) (.int .i64))) (.int .i64))), nin := 3, outs := (.pair (.agg (.pair (.int .i64) (.int .i64))) (.int .i64)), rs := [.dat (.agg (.pair (.int .i64) (.int .i64))), .dat (.int .i64)], nout := 2, F := fun x => F_sense_Tacho x.1 x.2.1 x.2.2 }
def hint_F_sense_Tacho : Hint := H0
theorem run_F_sense_Tacho : runE ⟨tdGet tys, [con_F_span_Span_Times, con_F_span_Span_Hull], []⟩ con_F_sense_Tacho Try.f24 hint_F_sense_Tacho = con_F_sense_Tacho.F := by
  funext x
  kernel_rfl
theorem ok_F_sense_Tacho : ConOK Try.prog con_F_sense_Tacho :=
  con_of_run (Γ := ⟨tdGet tys, [con_F_span_Span_Times, con_F_span_Span_Hull], []⟩) ⟨fun T d h => tysB_ok tys tys_ok T d h, by simp [ok_F_span_Span_Times, ok_F_span_Span_Hull], by simp []⟩ (by kernel_rfl) Try.func24 rfl (by kernel_rfl) run_F_sense_Tacho
/-- odograph/odographlaw15.anchor -/
noncomputable def F_law15_anchor (_ : Unit) : Option Bool :=
  let t4_1 : (Int × Int) := ((1000 : Int), (1010 : Int))
  (F_sense_Tacho (5 : Int) t4_1 (10 : Int)).bind fun t5_2 =>
  let t12_3 : (Int × Int) := ((400 : Int), (606 : Int))
  let t13_4 : Bool := (eqT (.agg (.pair (.int .i64) (.int .i64))) t5_2.1 t12_3)
  let t14_5 : Bool := (bif (t5_2.2 == (0 : Int)) then t13_4 else false)
  some t14_5
noncomputable def con_F_law15_anchor : Con := { f := 23, ps := [], boxes := [], ins := .unit, nin := 0, outs := .bool, rs := [.dat .bool], nout := 1, F := fun x => F_law15_anchor () }
def hint_F_law15_anchor : Hint := H0
theorem run_F_law15_anchor : runE ⟨tdGet tys, [con_F_sense_Tacho], []⟩ con_F_law15_anchor Try.f23 hint_F_law15_anchor = con_F_law15_anchor.F := by
  funext x
  kernel_rfl
theorem ok_F_law15_anchor : ConOK Try.prog con_F_law15_anchor :=
  con_of_run (Γ := ⟨tdGet tys, [con_F_sense_Tacho], []⟩) ⟨fun T d h => tysB_ok tys tys_ok T d h, by simp [ok_F_sense_Tacho], by simp []⟩ (by kernel_rfl) Try.func23 rfl (by kernel_rfl) run_F_law15_anchor
/-- odograph/odographlaw15.wheel -/
noncomputable def F_law15_wheel (circ_1 : (Int × Int)) (pulses_2 : Int) : Option Bool :=
  let t7_3 : Bool := (decide ((1 : Int) ≤ circ_1.1))
  let t13_4 : Bool := (decide (circ_1.1 ≤ circ_1.2))
  let t14_5 : Bool := (bif t7_3 then t13_4 else false)
  let t18_6 : Bool := (decide (circ_1.2 ≤ (8388608 : Int)))
  let t19_7 : Bool := (bif t14_5 then t18_6 else false)
  let t22_8 : Bool := (decide ((1 : Int) ≤ pulses_2))
  let t23_9 : Bool := (bif t19_7 then t22_8 else false)
  let t26_10 : Bool := (decide (pulses_2 ≤ (1024 : Int)))
  let t27_11 : Bool := (bif t23_9 then t26_10 else false)
  some t27_11
noncomputable def con_F_law15_wheel : Con := { f := 25, ps := [.dat (.agg (.pair (.int .i64) (.int .i64))), .dat (.int .i64)], boxes := [], ins := (.pair (.agg (.pair (.int .i64) (.int .i64))) (.int .i64)), nin := 2, outs := .bool, rs := [.dat .bool], nout := 1, F := fun x => F_law15_wheel x.1 x.2 }
def hint_F_law15_wheel : Hint := H0
theorem run_F_law15_wheel : runE ⟨tdGet tys, [], []⟩ con_F_law15_wheel Try.f25 hint_F_law15_wheel = con_F_law15_wheel.F := by
  funext x
  kernel_rfl
theorem ok_F_law15_wheel : ConOK Try.prog con_F_law15_wheel :=
  con_of_run (Γ := ⟨tdGet tys, [], []⟩) ⟨fun T d h => tysB_ok tys tys_ok T d h, by simp [], by simp []⟩ (by kernel_rfl) Try.func25 rfl (by kernel_rfl) run_F_law15_wheel
/-- odograph/odographref15.Tacho -/
noncomputable def F_ref15_Tacho (d_1 : Int) (lo_2 : Int) (hi_3 : Int) (pulses_4 : Int) : Option (Int × Int) :=
  let t13_5 : Int := (IntKind.wrap .i64 (d_1 - (1 : Int)))
  let t15_6 : Int := (IntKind.wrap .i64 (t13_5 * lo_2))
  (F_ref15_Down t15_6 pulses_4).bind fun t17_7 =>
  let t19_8 : Bool := (decide (d_1 < (1 : Int)))
  Option.bind (
    (bif t19_8 then
      let t21_9 : Int := (IntKind.wrap .i64 (d_1 - (1 : Int)))
      let t23_10 : Int := (IntKind.wrap .i64 (t21_9 * hi_3))
      (F_ref15_Down t23_10 pulses_4).bind fun t25_11 =>
      some t25_11
    else
      some t17_7)) fun r_12 =>
  let t27_13 : Int := (IntKind.wrap .i64 (d_1 + (1 : Int)))
  let t29_14 : Int := (IntKind.wrap .i64 (t27_13 * hi_3))
  (F_ref15_Up t29_14 pulses_4).bind fun t31_15 =>
  let t33_16 : Bool := (decide (d_1 < (-1 : Int)))
  Option.bind (
    (bif t33_16 then
      let t35_17 : Int := (IntKind.wrap .i64 (d_1 + (1 : Int)))
      let t37_18 : Int := (IntKind.wrap .i64 (t35_17 * lo_2))
      (F_ref15_Up t37_18 pulses_4).bind fun t39_19 =>
      some t39_19
    else
      some t31_15)) fun r_20 =>
  some (r_12, r_20)
noncomputable def con_F_ref15_Tacho : Con := { f := 26, ps := [.dat (.int .i64), .dat (.int .i64), .dat (.int .i64), .dat (.int .i64)], boxes := [], ins := (.pair (.int .i64) (.pair (.int .i64) (.pair (.int .i64) (.int .i64)))), nin := 4, outs := (.pair (.int .i64) (.int .i64)), rs := [.dat (.int .i64), .dat (.int .i64)], nout := 2, F := fun x => F_ref15_Tacho x.1 x.2.1 x.2.2.1 x.2.2.2 }
def hint_F_ref15_Tacho : Hint := (.mk .plain [H0, (.mk .plain [H0, (.mk .plain [(.mk .plain [H0, (.mk (.join [(0, 23), (0, 25), (0, 20), (0, 21), (0, 24), (0, 22)] [(.normal, [⟨.slot 10, (.int .i64), none⟩])]) [])]), (.mk .plain [H0, (.mk .plain [(.mk .plain [H0, (.mk (.join [(0, 36), (0, 39), (0, 34), (0, 35), (0, 37), (0, 38)] [(.normal, [⟨.slot 11, (.int .i64), none⟩])]) [])])])])])])])
theorem run_F_ref15_Tacho : runE ⟨tdGet tys, [con_F_ref15_Down, con_F_ref15_Up], []⟩ con_F_ref15_Tacho Try.f26 hint_F_ref15_Tacho = con_F_ref15_Tacho.F := by
  funext x
  kernel_rfl
theorem ok_F_ref15_Tacho : ConOK Try.prog con_F_ref15_Tacho :=
  con_of_run (Γ := ⟨tdGet tys, [con_F_ref15_Down, con_F_ref15_Up], []⟩) ⟨fun T d h => tysB_ok tys tys_ok T d h, by simp [ok_F_ref15_Down, ok_F_ref15_Up], by simp []⟩ (by kernel_rfl) Try.func26 rfl (by kernel_rfl) run_F_ref15_Tacho
/-- odograph/odographlaw15.SenseTachos -/
noncomputable def F_law15_SenseTachos (d_1 : Int) (circ_2 : (Int × Int)) (pulses_3 : Int) : Option Bool :=
  (F_law15_anchor ()).bind fun t11_4 =>
  (bif (!t11_4) then
    some false
  else
    (F_sense_Tacho d_1 circ_2 pulses_3).bind fun t17_5 =>
    let t21_6 : Bool := (decide (d_1 < (-32768 : Int)))
    let t24_7 : Bool := (decide ((32767 : Int) < d_1))
    let t25_8 : Bool := (bif t21_6 then true else t24_7)
    (bif t25_8 then
      let t31_9 : Bool := (eqT (.agg (.pair (.int .i64) (.int .i64))) t17_5.1 ((0 : Int), (0 : Int)))
      let t32_10 : Bool := (bif (t17_5.2 == (10 : Int)) then t31_9 else false)
      some t32_10
    else
      let t37_11 : Bool := (decide (circ_2.2 < circ_2.1))
      let t40_12 : Bool := (decide (pulses_3 < (1 : Int)))
      let t41_13 : Bool := (bif t37_11 then true else t40_12)
      (bif t41_13 then
        let t47_14 : Bool := (eqT (.agg (.pair (.int .i64) (.int .i64))) t17_5.1 ((0 : Int), (0 : Int)))
        let t48_15 : Bool := (bif (t17_5.2 == (10 : Int)) then t47_14 else false)
        some t48_15
      else
        (F_law15_wheel circ_2 pulses_3).bind fun t51_16 =>
        (bif (!t51_16) then
          some true
        else
          (F_ref15_Tacho d_1 circ_2.1 circ_2.2 pulses_3).bind fun t60_17 =>
          let t70_18 : Bool := (bif (t17_5.2 == (0 : Int)) then (t17_5.1.1 == t60_17.1) else false)
          let t76_19 : Bool := (bif t70_18 then (t17_5.1.2 == t60_17.2) else false)
          some t76_19))))
noncomputable def con_F_law15_SenseTachos : Con := { f := 6, ps := [.dat (.int .i64), .dat (.agg (.pair (.int .i64) (.int .i64))), .dat (.int .i64)], boxes := [], ins := (.pair (.int .i64) (.pair (.agg (.pair (.int .i64) (.int .i64))) (.int .i64))), nin := 3, outs := .bool, rs := [.dat .bool], nout := 1, F := fun x => F_law15_SenseTachos x.1 x.2.1 x.2.2 }
def hint_F_law15_SenseTachos : Hint := H0
theorem run_F_law15_SenseTachos : runE ⟨tdGet tys, [con_F_law15_anchor, con_F_sense_Tacho, con_F_law15_wheel, con_F_ref15_Tacho], []⟩ con_F_law15_SenseTachos Try.f6 hint_F_law15_SenseTachos = con_F_law15_SenseTachos.F := by
  funext x
  kernel_rfl
theorem ok_F_law15_SenseTachos : ConOK Try.prog con_F_law15_SenseTachos :=
  con_of_run (Γ := ⟨tdGet tys, [con_F_law15_anchor, con_F_sense_Tacho, con_F_law15_wheel, con_F_ref15_Tacho], []⟩) ⟨fun T d h => tysB_ok tys tys_ok T d h, by simp [ok_F_law15_anchor, ok_F_sense_Tacho, ok_F_law15_wheel, ok_F_ref15_Tacho], by simp []⟩ (by kernel_rfl) Try.func6 rfl (by kernel_rfl) run_F_law15_SenseTachos
/-- odograph/odographlaw15.SenseNarrow -/
noncomputable def F_law15_SenseNarrow (d_1 : Int) (circ_2 : (Int × Int)) (known_3 : (Int × Int)) (pulses_4 : Int) : Option Bool :=
  (F_law15_anchor ()).bind fun t15_5 =>
  (bif (!t15_5) then
    some false
  else
    (F_law15_wheel circ_2 pulses_4).bind fun t19_6 =>
    (bif !(!t19_6) then F_law15_wheel known_3 pulses_4 else some false).bind fun t24_7 =>
    let t26_8 : Bool := (bif (!t19_6) then true else (!t24_7))
    let t32_9 : Bool := (decide (known_3.1 < circ_2.1))
    let t33_10 : Bool := (bif t26_8 then true else t32_9)
    let t39_11 : Bool := (decide (circ_2.2 < known_3.2))
    let t40_12 : Bool := (bif t33_10 then true else t39_11)
    (bif t40_12 then
      some true
    else
      (F_sense_Tacho (IntKind.wrap .i64 d_1) circ_2 pulses_4).bind fun t46_13 =>
      (F_sense_Tacho (IntKind.wrap .i64 d_1) known_3 pulses_4).bind fun t54_14 =>
      let t62_15 : Bool := (bif (t46_13.2 != (0 : Int)) then true else (t54_14.2 != (0 : Int)))
      let t68_16 : Bool := (decide (t54_14.1.1 < t46_13.1.1))
      let t69_17 : Bool := (bif t62_15 then true else t68_16)
      let t75_18 : Bool := (decide (t46_13.1.2 < t54_14.1.2))
      let t76_19 : Bool := (bif t69_17 then true else t75_18)
      (bif t76_19 then
        some false
      else
        (bif (d_1 == (32767 : Int)) then
          some true
        else
          let t82_20 : Int := (IntKind.wrap .i64 ((IntKind.wrap .i64 d_1) + (1 : Int)))
          (F_sense_Tacho t82_20 circ_2 pulses_4).bind fun t85_21 =>
          let t95_22 : Bool := (decide (t46_13.1.1 ≤ t85_21.1.1))
          let t96_23 : Bool := (bif (t85_21.2 == (0 : Int)) then t95_22 else false)
          let t102_24 : Bool := (decide (t46_13.1.2 ≤ t85_21.1.2))
          let t103_25 : Bool := (bif t96_23 then t102_24 else false)
          some t103_25))))
noncomputable def con_F_law15_SenseNarrow : Con := { f := 7, ps := [.dat (.int .i16), .dat (.agg (.pair (.int .i64) (.int .i64))), .dat (.agg (.pair (.int .i64) (.int .i64))), .dat (.int .i64)], boxes := [], ins := (.pair (.int .i16) (.pair (.agg (.pair (.int .i64) (.int .i64))) (.pair (.agg (.pair (.int .i64) (.int .i64))) (.int .i64)))), nin := 4, outs := .bool, rs := [.dat .bool], nout := 1, F := fun x => F_law15_SenseNarrow x.1 x.2.1 x.2.2.1 x.2.2.2 }
def hint_F_law15_SenseNarrow : Hint := H0
theorem run_F_law15_SenseNarrow : runE ⟨tdGet tys, [con_F_law15_anchor, con_F_law15_wheel, con_F_sense_Tacho], []⟩ con_F_law15_SenseNarrow Try.f7 hint_F_law15_SenseNarrow = con_F_law15_SenseNarrow.F := by
  funext x
  kernel_rfl
theorem ok_F_law15_SenseNarrow : ConOK Try.prog con_F_law15_SenseNarrow :=
  con_of_run (Γ := ⟨tdGet tys, [con_F_law15_anchor, con_F_law15_wheel, con_F_sense_Tacho], []⟩) ⟨fun T d h => tysB_ok tys tys_ok T d h, by simp [ok_F_law15_anchor, ok_F_law15_wheel, ok_F_sense_Tacho], by simp []⟩ (by kernel_rfl) Try.func7 rfl (by kernel_rfl) run_F_law15_SenseNarrow
/-- odograph/odographlaw15.SenseTrue -/
noncomputable def F_law15_SenseTrue (d_1 : Int) (circ_2 : (Int × Int)) (pulses_3 : Int) (own_4 : Int) (v_5 : Int) : Option Bool :=
  (F_law15_anchor ()).bind fun t14_6 =>
  (bif (!t14_6) then
    some false
  else
    (F_law15_wheel circ_2 pulses_3).bind fun t18_7 =>
    let t24_8 : Bool := (decide (own_4 < circ_2.1))
    let t25_9 : Bool := (bif (!t18_7) then true else t24_8)
    let t30_10 : Bool := (decide (circ_2.2 < own_4))
    let t31_11 : Bool := (bif t25_9 then true else t30_10)
    let t34_12 : Bool := (decide (v_5 < (-1099511627776 : Int)))
    let t35_13 : Bool := (bif t31_11 then true else t34_12)
    let t38_14 : Bool := (decide ((1099511627776 : Int) < v_5))
    let t39_15 : Bool := (bif t35_13 then true else t38_14)
    (bif t39_15 then
      some true
    else
      let t43_16 : Int := (IntKind.wrap .i64 ((IntKind.wrap .i64 d_1) * own_4))
      let t46_17 : Int := (IntKind.wrap .i64 (v_5 * pulses_3))
      let t47_18 : Int := (IntKind.wrap .i64 (t43_16 - t46_17))
      let t50_19 : Int := (IntKind.wrap .i64 (0 - own_4))
      let t51_20 : Bool := (decide (t47_18 ≤ t50_19))
      let t55_21 : Bool := (decide (own_4 ≤ t47_18))
      let t56_22 : Bool := (bif t51_20 then true else t55_21)
      (bif t56_22 then
        some true
      else
        (F_sense_Tacho (IntKind.wrap .i64 d_1) circ_2 pulses_3).bind fun t62_23 =>
        (bif (t62_23.2 == (0 : Int)) then F_span_Span_Has t62_23.1 v_5 else some false).bind fun t70_24 =>
        let t71_25 : Bool := (bif (t62_23.2 == (0 : Int)) then t70_24 else false)
        some t71_25)))
noncomputable def con_F_law15_SenseTrue : Con := { f := 8, ps := [.dat (.int .i16), .dat (.agg (.pair (.int .i64) (.int .i64))), .dat (.int .i64), .dat (.int .i64), .dat (.int .i64)], boxes := [], ins := (.pair (.int .i16) (.pair (.agg (.pair (.int .i64) (.int .i64))) (.pair (.int .i64) (.pair (.int .i64) (.int .i64))))), nin := 5, outs := .bool, rs := [.dat .bool], nout := 1, F := fun x => F_law15_SenseTrue x.1 x.2.1 x.2.2.1 x.2.2.2.1 x.2.2.2.2 }
def hint_F_law15_SenseTrue : Hint := H0
theorem run_F_law15_SenseTrue : runE ⟨tdGet tys, [con_F_law15_anchor, con_F_law15_wheel, con_F_sense_Tacho, con_F_span_Span_Has], []⟩ con_F_law15_SenseTrue Try.f8 hint_F_law15_SenseTrue = con_F_law15_SenseTrue.F := by
  funext x
  kernel_rfl
theorem ok_F_law15_SenseTrue : ConOK Try.prog con_F_law15_SenseTrue :=
  con_of_run (Γ := ⟨tdGet tys, [con_F_law15_anchor, con_F_law15_wheel, con_F_sense_Tacho, con_F_span_Span_Has], []⟩) ⟨fun T d h => tysB_ok tys tys_ok T d h, by simp [ok_F_law15_anchor, ok_F_law15_wheel, ok_F_sense_Tacho, ok_F_span_Span_Has], by simp []⟩ (by kernel_rfl) Try.func8 rfl (by kernel_rfl) run_F_law15_SenseTrue
/-- odograph/odographref13.Up -/
noncomputable def F_ref13_Up (a_1 : Int) (b_2 : Int) : Option Int :=
  let t7_3 : Int := (IntKind.wrap .i64 (a_1 + b_2))
  let t8_4 : Int := (IntKind.wrap .i64 (t7_3 - (1 : Int)))
  chk none (!(b_2 == (0 : Int))) <|
  let t10_5 : Int := (IntKind.wrap .i64 (t8_4.tdiv b_2))
  some t10_5
noncomputable def con_F_ref13_Up : Con := { f := 47, ps := [.dat (.int .i64), .dat (.int .i64)], boxes := [], ins := (.pair (.int .i64) (.int .i64)), nin := 2, outs := (.int .i64), rs := [.dat (.int .i64)], nout := 1, F := fun x => F_ref13_Up x.1 x.2 }
def hint_F_ref13_Up : Hint := H0
theorem run_F_ref13_Up : runE ⟨tdGet tys, [], []⟩ con_F_ref13_Up Try.f47 hint_F_ref13_Up = con_F_ref13_Up.F := by
  funext x
  kernel_rfl
theorem ok_F_ref13_Up : ConOK Try.prog con_F_ref13_Up :=
  con_of_run (Γ := ⟨tdGet tys, [], []⟩) ⟨fun T d h => tysB_ok tys tys_ok T d h, by simp [], by simp []⟩ (by kernel_rfl) Try.func47 rfl (by kernel_rfl) run_F_ref13_Up
/-- odograph/odographref13.Wrong -/
noncomputable def F_ref13_Wrong (c_1 : (Int × (Int × (Int × (Int × (Int × (Int × (Int × (Int × (Int × (Int × (Int × (Int × (Int × Int)))))))))))))) : Option Int :=
  let t5_2 : Bool := (decide (c_1.1 < (1 : Int)))
  let t9_3 : Bool := (decide ((1024 : Int) < c_1.1))
  let t10_4 : Bool := (bif t5_2 then true else t9_3)
  (bif t10_4 then
    some (1 : Int)
  else
    let t13_5 : Bool := (decide (c_1.2.1 < (131072 : Int)))
    let t17_6 : Bool := (decide ((8388608 : Int) < c_1.2.1))
    let t18_7 : Bool := (bif t13_5 then true else t17_6)
    let t24_8 : Bool := (decide (c_1.2.2.1 < c_1.2.1))
    let t25_9 : Bool := (bif t18_7 then true else t24_8)
    let t29_10 : Bool := (decide ((8388608 : Int) < c_1.2.2.1))
    let t30_11 : Bool := (bif t25_9 then true else t29_10)
    (bif t30_11 then
      some (2 : Int)
    else
      let t35_12 : Int := (IntKind.wrap .i64 (c_1.2.2.1 - c_1.2.1))
      let t36_13 : Int := (IntKind.wrap .i64 (t35_12 * (16 : Int)))
      let t39_14 : Bool := (decide (c_1.2.1 < t36_13))
      (bif t39_14 then
        some (3 : Int)
      else
        let t42_15 : Bool := (decide (c_1.2.2.2.1 < (0 : Int)))
        let t46_16 : Bool := (decide ((1048576 : Int) < c_1.2.2.2.1))
        let t47_17 : Bool := (bif t42_15 then true else t46_16)
        let t51_18 : Bool := (decide (c_1.2.2.2.2.1 < (0 : Int)))
        let t52_19 : Bool := (bif t47_17 then true else t51_18)
        let t56_20 : Bool := (decide ((65536 : Int) < c_1.2.2.2.2.1))
        let t57_21 : Bool := (bif t52_19 then true else t56_20)
        (bif t57_21 then
          some (4 : Int)
        else
          let t60_22 : Bool := (decide (c_1.2.2.2.2.2.1 < (0 : Int)))
          let t64_23 : Bool := (decide ((1048576 : Int) < c_1.2.2.2.2.2.1))
          let t65_24 : Bool := (bif t60_22 then true else t64_23)
          (bif t65_24 then
            some (5 : Int)
          else
            let t68_25 : Bool := (decide (c_1.2.2.2.2.2.2.1 < (1 : Int)))
            let t72_26 : Bool := (decide ((16777216 : Int) < c_1.2.2.2.2.2.2.1))
            let t73_27 : Bool := (bif t68_25 then true else t72_26)
            let t77_28 : Bool := (decide (c_1.2.2.2.2.2.2.2.1 < (1 : Int)))
            let t78_29 : Bool := (bif t73_27 then true else t77_28)
            let t82_30 : Bool := (decide ((1048576 : Int) < c_1.2.2.2.2.2.2.2.1))
            let t83_31 : Bool := (bif t78_29 then true else t82_30)
            (bif t83_31 then
              some (6 : Int)
            else
              let t88_32 : Int := (IntKind.wrap .i64 (c_1.2.2.2.2.2.2.1 * c_1.1))
              let t91_33 : Int := (IntKind.wrap .i64 ((32000 : Int) * c_1.2.1))
              let t92_34 : Bool := (decide (t91_33 < t88_32))
              (bif t92_34 then
                some (7 : Int)
              else
                let t95_35 : Bool := (decide (c_1.2.2.2.2.2.2.2.2.1 < (0 : Int)))
                let t99_36 : Bool := (decide ((1048576 : Int) < c_1.2.2.2.2.2.2.2.2.1))
                let t100_37 : Bool := (bif t95_35 then true else t99_36)
                (bif t100_37 then
                  some (8 : Int)
                else
                  let t103_38 : Bool := (decide (c_1.2.2.2.2.2.2.2.2.2.1 < (1 : Int)))
                  let t107_39 : Bool := (decide ((1000 : Int) < c_1.2.2.2.2.2.2.2.2.2.1))
                  let t108_40 : Bool := (bif t103_38 then true else t107_39)
                  let t111_41 : Int := c_1.2.2.2.2.2.2.2.2.2.2.2.2.1
                  let t112_42 : Bool := (decide (t111_41 < (1 : Int)))
                  let t113_43 : Bool := (bif t108_40 then true else t112_42)
                  let t116_44 : Int := c_1.2.2.2.2.2.2.2.2.2.2.2.2.1
                  let t117_45 : Bool := (decide ((1000 : Int) < t116_44))
                  let t118_46 : Bool := (bif t113_43 then true else t117_45)
                  (bif t118_46 then
                    some (9 : Int)
                  else
                    let t120_47 : Int := c_1.2.2.2.2.2.2.2.2.2.2.1
                    (F_ref13_Up c_1.2.2.1 c_1.1).bind fun t125_48 =>
                    let t126_49 : Bool := (decide (t120_47 < t125_48))
                    let t129_50 : Int := c_1.2.2.2.2.2.2.2.2.2.2.1
                    let t132_51 : Int := (IntKind.wrap .i64 ((3 : Int) * c_1.2.2.2.1))
                    let t133_52 : Bool := (decide (t129_50 < t132_51))
                    let t134_53 : Bool := (bif t126_49 then true else t133_52)
                    let t137_54 : Int := c_1.2.2.2.2.2.2.2.2.2.2.1
                    let t138_55 : Bool := (decide ((16777216 : Int) < t137_54))
                    let t139_56 : Bool := (bif t134_53 then true else t138_55)
                    (bif t139_56 then
                      some (10 : Int)
                    else
                      let t141_57 : Int := c_1.2.2.2.2.2.2.2.2.2.2.2.1
                      let t142_58 : Bool := (decide (t141_57 < (0 : Int)))
                      let t145_59 : Int := c_1.2.2.2.2.2.2.2.2.2.2.2.1
                      let t146_60 : Bool := (decide ((1073741824 : Int) < t145_59))
                      let t147_61 : Bool := (bif t142_58 then true else t146_60)
                      (bif t147_61 then
                        some (11 : Int)
                      else
                        let t149_62 : Int := c_1.2.2.2.2.2.2.2.2.2.2.2.2.2
                        let t150_63 : Bool := (decide (t149_62 < (1 : Int)))
                        let t153_64 : Int := c_1.2.2.2.2.2.2.2.2.2.2.2.2.2
                        let t154_65 : Bool := (decide ((1048576 : Int) < t153_64))
                        let t155_66 : Bool := (bif t150_63 then true else t154_65)
                        (bif t155_66 then
                          some (12 : Int)
                        else
                          some (0 : Int)))))))))))))
noncomputable def con_F_ref13_Wrong : Con := { f := 19, ps := [.dat (.agg (.pair (.int .i64) (.pair (.int .i64) (.pair (.int .i64) (.pair (.int .i64) (.pair (.int .i64) (.pair (.int .i64) (.pair (.int .i64) (.pair (.int .i64) (.pair (.int .i64) (.pair (.int .i64) (.pair (.int .i64) (.pair (.int .i64) (.pair (.int .i64) (.int .i64)))))))))))))))], boxes := [], ins := (.agg (.pair (.int .i64) (.pair (.int .i64) (.pair (.int .i64) (.pair (.int .i64) (.pair (.int .i64) (.pair (.int .i64) (.pair (.int .i64) (.pair (.int .i64) (.pair (.int .i64) (.pair (.int .i64) (.pair (.int .i64) (.pair (.int .i64) (.pair (.int .i64) (.int .i64))))))))))))))), nin := 1, outs := (.int .i64), rs := [.dat (.int .i64)], nout := 1, F := fun x => F_ref13_Wrong x }
def hint_F_ref13_Wrong : Hint := H0
theorem run_F_ref13_Wrong : runE ⟨tdGet tys, [con_F_ref13_Up], []⟩ con_F_ref13_Wrong Try.f19 hint_F_ref13_Wrong = con_F_ref13_Wrong.F := by
  funext x
  kernel_rfl
theorem ok_F_ref13_Wrong : ConOK Try.prog con_F_ref13_Wrong :=
  con_of_run (Γ := ⟨tdGet tys, [con_F_ref13_Up], []⟩) ⟨fun T d h => tysB_ok tys tys_ok T d h, by simp [ok_F_ref13_Up], by simp []⟩ (by kernel_rfl) Try.func19 rfl (by kernel_rfl) run_F_ref13_Wrong
/-- odograph/odographlaw15.right -/
noncomputable def F_law15_right (c_1 : (Int × (Int × (Int × (Int × (Int × (Int × (Int × (Int × (Int × (Int × (Int × (Int × (Int × Int)))))))))))))) : Option Bool :=
  (F_ref13_Wrong c_1).bind fun t4_2 =>
  some (t4_2 == (0 : Int))
noncomputable def con_F_law15_right : Con := { f := 32, ps := [.dat (.agg (.pair (.int .i64) (.pair (.int .i64) (.pair (.int .i64) (.pair (.int .i64) (.pair (.int .i64) (.pair (.int .i64) (.pair (.int .i64) (.pair (.int .i64) (.pair (.int .i64) (.pair (.int .i64) (.pair (.int .i64) (.pair (.int .i64) (.pair (.int .i64) (.int .i64)))))))))))))))], boxes := [], ins := (.agg (.pair (.int .i64) (.pair (.int .i64) (.pair (.int .i64) (.pair (.int .i64) (.pair (.int .i64) (.pair (.int .i64) (.pair (.int .i64) (.pair (.int .i64) (.pair (.int .i64) (.pair (.int .i64) (.pair (.int .i64) (.pair (.int .i64) (.pair (.int .i64) (.int .i64))))))))))))))), nin := 1, outs := .bool, rs := [.dat .bool], nout := 1, F := fun x => F_law15_right x }
def hint_F_law15_right : Hint := H0
theorem run_F_law15_right : runE ⟨tdGet tys, [con_F_ref13_Wrong], []⟩ con_F_law15_right Try.f32 hint_F_law15_right = con_F_law15_right.F := by
  funext x
  kernel_rfl
theorem ok_F_law15_right : ConOK Try.prog con_F_law15_right :=
  con_of_run (Γ := ⟨tdGet tys, [con_F_ref13_Wrong], []⟩) ⟨fun T d h => tysB_ok tys tys_ok T d h, by simp [ok_F_ref13_Wrong], by simp []⟩ (by kernel_rfl) Try.func32 rfl (by kernel_rfl) run_F_law15_right
/-- odograph/num.Add -/
noncomputable def F_num_Add (a_1 : Int) (b_2 : Int) : Option (Int × Bool) :=
  let t9_3 : Int := (IntKind.wrap .i64 (a_1 + b_2))
  let t11_4 : Bool := (decide ((0 : Int) ≤ a_1))
  let t13_5 : Bool := (decide ((0 : Int) ≤ b_2))
  let t17_6 : Bool := (decide ((0 : Int) ≤ t9_3))
  let t19_7 : Bool := (decide ((0 : Int) ≤ a_1))
  let t21_8 : Bool := (bif (t11_4 == t13_5) then (!(t17_6 == t19_7)) else false)
  (bif t21_8 then
    some ((0 : Int), false)
  else
    some (t9_3, true))
noncomputable def con_F_num_Add : Con := { f := 83, ps := [.dat (.int .i64), .dat (.int .i64)], boxes := [], ins := (.pair (.int .i64) (.int .i64)), nin := 2, outs := (.pair (.int .i64) .bool), rs := [.dat (.int .i64), .dat .bool], nout := 2, F := fun x => F_num_Add x.1 x.2 }
def hint_F_num_Add : Hint := H0
theorem run_F_num_Add : runE ⟨tdGet tys, [], []⟩ con_F_num_Add Try.f83 hint_F_num_Add = con_F_num_Add.F := by
  funext x
  kernel_rfl
theorem ok_F_num_Add : ConOK Try.prog con_F_num_Add :=
  con_of_run (Γ := ⟨tdGet tys, [], []⟩) ⟨fun T d h => tysB_ok tys tys_ok T d h, by simp [], by simp []⟩ (by kernel_rfl) Try.func83 rfl (by kernel_rfl) run_F_num_Add
/-- (odograph/span.Span).Grow -/
noncomputable def F_span_Span_Grow (s_1 : (Int × Int)) (far_2 : Int) : Option ((Int × Int) × Bool) :=
  (F_span_Span_Right s_1).bind fun t11_3 =>
  (bif (!t11_3) then
    let w_4 : (Int × Int) := ((0 : Int), (0 : Int))
    some (w_4, false)
  else
    (F_num_Sub s_1.1 far_2).bind fun t18_5 =>
    (F_num_Add s_1.2 far_2).bind fun t25_6 =>
    (F_span_both t18_5.1 t18_5.2 t25_6.1 t25_6.2).bind fun t32_7 =>
    some (t32_7.1, t32_7.2))
noncomputable def con_F_span_Span_Grow : Con := { f := 58, ps := [.dat (.agg (.pair (.int .i64) (.int .i64))), .dat (.int .i64)], boxes := [], ins := (.pair (.agg (.pair (.int .i64) (.int .i64))) (.int .i64)), nin := 2, outs := (.pair (.agg (.pair (.int .i64) (.int .i64))) .bool), rs := [.dat (.agg (.pair (.int .i64) (.int .i64))), .dat .bool], nout := 2, F := fun x => F_span_Span_Grow x.1 x.2 }
def hint_F_span_Span_Grow : Hint := H0
theorem run_F_span_Span_Grow : runE ⟨tdGet tys, [con_F_span_Span_Right, con_F_num_Sub, con_F_num_Add, con_F_span_both], []⟩ con_F_span_Span_Grow Try.f58 hint_F_span_Span_Grow = con_F_span_Span_Grow.F := by
  funext x
  kernel_rfl
theorem ok_F_span_Span_Grow : ConOK Try.prog con_F_span_Span_Grow :=
  con_of_run (Γ := ⟨tdGet tys, [con_F_span_Span_Right, con_F_num_Sub, con_F_num_Add, con_F_span_both], []⟩) ⟨fun T d h => tysB_ok tys tys_ok T d h, by simp [ok_F_span_Span_Right, ok_F_num_Sub, ok_F_num_Add, ok_F_span_both], by simp []⟩ (by kernel_rfl) Try.func58 rfl (by kernel_rfl) run_F_span_Span_Grow
/-- (odograph/conf.Config).Speeds -/
noncomputable def F_conf_Config_Speeds (c_1 : (Int × (Int × (Int × (Int × (Int × (Int × (Int × (Int × (Int × (Int × (Int × (Int × (Int × Int)))))))))))))) : Option (Int × Int) :=
  let t5_2 : Int := (IntKind.wrap .i64 (0 - c_1.2.2.2.2.2.2.1))
  let t8_3 : (Int × Int) := (t5_2, c_1.2.2.2.2.2.2.1)
  some t8_3
noncomputable def con_F_conf_Config_Speeds : Con := { f := 59, ps := [.dat (.agg (.pair (.int .i64) (.pair (.int .i64) (.pair (.int .i64) (.pair (.int .i64) (.pair (.int .i64) (.pair (.int .i64) (.pair (.int .i64) (.pair (.int .i64) (.pair (.int .i64) (.pair (.int .i64) (.pair (.int .i64) (.pair (.int .i64) (.pair (.int .i64) (.int .i64)))))))))))))))], boxes := [], ins := (.agg (.pair (.int .i64) (.pair (.int .i64) (.pair (.int .i64) (.pair (.int .i64) (.pair (.int .i64) (.pair (.int .i64) (.pair (.int .i64) (.pair (.int .i64) (.pair (.int .i64) (.pair (.int .i64) (.pair (.int .i64) (.pair (.int .i64) (.pair (.int .i64) (.int .i64))))))))))))))), nin := 1, outs := (.agg (.pair (.int .i64) (.int .i64))), rs := [.dat (.agg (.pair (.int .i64) (.int .i64)))], nout := 1, F := fun x => F_conf_Config_Speeds x }
def hint_F_conf_Config_Speeds : Hint := H0
theorem run_F_conf_Config_Speeds : runE ⟨tdGet tys, [], []⟩ con_F_conf_Config_Speeds Try.f59 hint_F_conf_Config_Speeds = con_F_conf_Config_Speeds.F := by
  funext x
  kernel_rfl
theorem ok_F_conf_Config_Speeds : ConOK Try.prog con_F_conf_Config_Speeds :=
  con_of_run (Γ := ⟨tdGet tys, [], []⟩) ⟨fun T d h => tysB_ok tys tys_ok T d h, by simp [], by simp []⟩ (by kernel_rfl) Try.func59 rfl (by kernel_rfl) run_F_conf_Config_Speeds
/-- odograph/sense.Prior -/
noncomputable def F_sense_Prior (c_1 : (Int × (Int × (Int × (Int × (Int × (Int × (Int × (Int × (Int × (Int × (Int × (Int × (Int × Int)))))))))))))) (speed_2 : (Int × Int)) : Option (Int × Int) :=
  (F_span_Span_Grow speed_2 c_1.2.2.2.2.2.2.2.1).bind fun t11_3 =>
  (F_conf_Config_Speeds c_1).bind fun t17_4 =>
  (F_span_Span_Meet t11_3.1 t17_4).bind fun t18_5 =>
  some t18_5.1
noncomputable def con_F_sense_Prior : Con := { f := 33, ps := [.dat (.agg (.pair (.int .i64) (.pair (.int .i64) (.pair (.int .i64) (.pair (.int .i64) (.pair (.int .i64) (.pair (.int .i64) (.pair (.int .i64) (.pair (.int .i64) (.pair (.int .i64) (.pair (.int .i64) (.pair (.int .i64) (.pair (.int .i64) (.pair (.int .i64) (.int .i64))))))))))))))), .dat (.agg (.pair (.int .i64) (.int .i64)))], boxes := [], ins := (.pair (.agg (.pair (.int .i64) (.pair (.int .i64) (.pair (.int .i64) (.pair (.int .i64) (.pair (.int .i64) (.pair (.int .i64) (.pair (.int .i64) (.pair (.int .i64) (.pair (.int .i64) (.pair (.int .i64) (.pair (.int .i64) (.pair (.int .i64) (.pair (.int .i64) (.int .i64))))))))))))))) (.agg (.pair (.int .i64) (.int .i64)))), nin := 2, outs := (.agg (.pair (.int .i64) (.int .i64))), rs := [.dat (.agg (.pair (.int .i64) (.int .i64)))], nout := 1, F := fun x => F_sense_Prior x.1 x.2 }
def hint_F_sense_Prior : Hint := H0
theorem run_F_sense_Prior : runE ⟨tdGet tys, [con_F_span_Span_Grow, con_F_conf_Config_Speeds, con_F_span_Span_Meet], []⟩ con_F_sense_Prior Try.f33 hint_F_sense_Prior = con_F_sense_Prior.F := by
  funext x
  kernel_rfl
theorem ok_F_sense_Prior : ConOK Try.prog con_F_sense_Prior :=
  con_of_run (Γ := ⟨tdGet tys, [con_F_span_Span_Grow, con_F_conf_Config_Speeds, con_F_span_Span_Meet], []⟩) ⟨fun T d h => tysB_ok tys tys_ok T d h, by simp [ok_F_span_Span_Grow, ok_F_conf_Config_Speeds, ok_F_span_Span_Meet], by simp []⟩ (by kernel_rfl) Try.func33 rfl (by kernel_rfl) run_F_sense_Prior
/-- odograph/odographref15.Prior -/
noncomputable def F_ref15_Prior (c_1 : (Int × (Int × (Int × (Int × (Int × (Int × (Int × (Int × (Int × (Int × (Int × (Int × (Int × Int)))))))))))))) (lo_2 : Int) (hi_3 : Int) : Option (Int × Int) :=
  let t13_4 : Int := (IntKind.wrap .i64 (lo_2 - c_1.2.2.2.2.2.2.2.1))
  let t17_5 : Int := (IntKind.wrap .i64 (0 - c_1.2.2.2.2.2.2.1))
  Option.bind (
    (bif (decide (t13_4 < t17_5)) then
      let t21_6 : Int := (IntKind.wrap .i64 (0 - c_1.2.2.2.2.2.2.1))
      some t21_6
    else
      some t13_4)) fun r_7 =>
  let t25_8 : Int := (IntKind.wrap .i64 (hi_3 + c_1.2.2.2.2.2.2.2.1))
  let t29_9 : Bool := (decide (c_1.2.2.2.2.2.2.1 < t25_8))
  Option.bind (
    (bif t29_9 then
      some c_1.2.2.2.2.2.2.1
    else
      some t25_8)) fun r_10 =>
  some (r_7, r_10)
noncomputable def con_F_ref15_Prior : Con := { f := 34, ps := [.dat (.agg (.pair (.int .i64) (.pair (.int .i64) (.pair (.int .i64) (.pair (.int .i64) (.pair (.int .i64) (.pair (.int .i64) (.pair (.int .i64) (.pair (.int .i64) (.pair (.int .i64) (.pair (.int .i64) (.pair (.int .i64) (.pair (.int .i64) (.pair (.int .i64) (.int .i64))))))))))))))), .dat (.int .i64), .dat (.int .i64)], boxes := [], ins := (.pair (.agg (.pair (.int .i64) (.pair (.int .i64) (.pair (.int .i64) (.pair (.int .i64) (.pair (.int .i64) (.pair (.int .i64) (.pair (.int .i64) (.pair (.int .i64) (.pair (.int .i64) (.pair (.int .i64) (.pair (.int .i64) (.pair (.int .i64) (.pair (.int .i64) (.int .i64))))))))))))))) (.pair (.int .i64) (.int .i64))), nin := 3, outs := (.pair (.int .i64) (.int .i64)), rs := [.dat (.int .i64), .dat (.int .i64)], nout := 2, F := fun x => F_ref15_Prior x.1 x.2.1 x.2.2 }
def hint_F_ref15_Prior : Hint := (.mk .plain [H0, (.mk .plain [H0, (.mk .plain [(.mk .plain [H0, (.mk (.join [(0, 19), (0, 20), (0, 21)] [(.normal, [⟨.slot 8, (.int .i64), none⟩])]) [])]), (.mk .plain [H0, (.mk .plain [(.mk .plain [H0, (.mk (.join [(0, 30), (0, 31)] [(.normal, [⟨.slot 9, (.int .i64), none⟩])]) [])])])])])])])
theorem run_F_ref15_Prior : runE ⟨tdGet tys, [], []⟩ con_F_ref15_Prior Try.f34 hint_F_ref15_Prior = con_F_ref15_Prior.F := by
  funext x
  kernel_rfl
theorem ok_F_ref15_Prior : ConOK Try.prog con_F_ref15_Prior :=
  con_of_run (Γ := ⟨tdGet tys, [], []⟩) ⟨fun T d h => tysB_ok tys tys_ok T d h, by simp [], by simp []⟩ (by kernel_rfl) Try.func34 rfl (by kernel_rfl) run_F_ref15_Prior
/-- odograph/odographlaw15.SensePrior -/
noncomputable def F_law15_SensePrior (c_1 : (Int × (Int × (Int × (Int × (Int × (Int × (Int × (Int × (Int × (Int × (Int × (Int × (Int × Int)))))))))))))) (speed_2 : (Int × Int)) (v_3 : Int) : Option Bool :=
  (F_law15_anchor ()).bind fun t11_4 =>
  (bif (!t11_4) then
    some false
  else
    (F_law15_right c_1).bind fun t14_5 =>
    let t21_6 : Bool := (decide (speed_2.2 < speed_2.1))
    let t22_7 : Bool := (bif (!t14_5) then true else t21_6)
    let t28_8 : Int := (IntKind.wrap .i64 (0 - c_1.2.2.2.2.2.2.1))
    let t29_9 : Bool := (decide (speed_2.1 < t28_8))
    let t30_10 : Bool := (bif t22_7 then true else t29_9)
    let t36_11 : Bool := (decide (c_1.2.2.2.2.2.2.1 < speed_2.2))
    let t37_12 : Bool := (bif t30_10 then true else t36_11)
    (bif t37_12 then
      some true
    else
      (F_sense_Prior c_1 speed_2).bind fun t40_13 =>
      (F_ref15_Prior c_1 speed_2.1 speed_2.2).bind fun t47_14 =>
      let t53_15 : Int := (IntKind.wrap .i64 (0 - c_1.2.2.2.2.2.2.1))
      let t59_16 : Bool := (decide (v_3 ≤ c_1.2.2.2.2.2.2.1))
      let t60_17 : Bool := (bif (decide (t53_15 ≤ v_3)) then t59_16 else false)
      let t67_18 : Int := (IntKind.wrap .i64 (speed_2.1 - c_1.2.2.2.2.2.2.2.1))
      let t69_19 : Bool := (bif t60_17 then (decide (t67_18 ≤ v_3)) else false)
      let t76_20 : Int := (IntKind.wrap .i64 (speed_2.2 + c_1.2.2.2.2.2.2.2.1))
      let t78_21 : Bool := (bif t69_19 then (decide (v_3 ≤ t76_20)) else false)
      let t88_22 : Bool := (bif (t40_13.1 == t47_14.1) then (t40_13.2 == t47_14.2) else false)
      (bif t88_22 then F_span_Span_Has t40_13 v_3 else some false).bind fun t92_23 =>
      let t95_24 : Bool := (bif t88_22 then (t92_23 == t78_21) else false)
      some t95_24))
noncomputable def con_F_law15_SensePrior : Con := { f := 13, ps := [.dat (.agg (.pair (.int .i64) (.pair (.int .i64) (.pair (.int .i64) (.pair (.int .i64) (.pair (.int .i64) (.pair (.int .i64) (.pair (.int .i64) (.pair (.int .i64) (.pair (.int .i64) (.pair (.int .i64) (.pair (.int .i64) (.pair (.int .i64) (.pair (.int .i64) (.int .i64))))))))))))))), .dat (.agg (.pair (.int .i64) (.int .i64))), .dat (.int .i64)], boxes := [], ins := (.pair (.agg (.pair (.int .i64) (.pair (.int .i64) (.pair (.int .i64) (.pair (.int .i64) (.pair (.int .i64) (.pair (.int .i64) (.pair (.int .i64) (.pair (.int .i64) (.pair (.int .i64) (.pair (.int .i64) (.pair (.int .i64) (.pair (.int .i64) (.pair (.int .i64) (.int .i64))))))))))))))) (.pair (.agg (.pair (.int .i64) (.int .i64))) (.int .i64))), nin := 3, outs := .bool, rs := [.dat .bool], nout := 1, F := fun x => F_law15_SensePrior x.1 x.2.1 x.2.2 }
def hint_F_law15_SensePrior : Hint := H0
theorem run_F_law15_SensePrior : runE ⟨tdGet tys, [con_F_law15_anchor, con_F_law15_right, con_F_sense_Prior, con_F_ref15_Prior, con_F_span_Span_Has], []⟩ con_F_law15_SensePrior Try.f13 hint_F_law15_SensePrior = con_F_law15_SensePrior.F := by
  funext x
  kernel_rfl
theorem ok_F_law15_SensePrior : ConOK Try.prog con_F_law15_SensePrior :=
  con_of_run (Γ := ⟨tdGet tys, [con_F_law15_anchor, con_F_law15_right, con_F_sense_Prior, con_F_ref15_Prior, con_F_span_Span_Has], []⟩) ⟨fun T d h => tysB_ok tys tys_ok T d h, by simp [ok_F_law15_anchor, ok_F_law15_right, ok_F_sense_Prior, ok_F_ref15_Prior, ok_F_span_Span_Has], by simp []⟩ (by kernel_rfl) Try.func13 rfl (by kernel_rfl) run_F_law15_SensePrior
/-- (odograph/conf.Config).Error -/
noncomputable def F_conf_Config_Error (c_1 : (Int × (Int × (Int × (Int × (Int × (Int × (Int × (Int × (Int × (Int × (Int × (Int × (Int × Int)))))))))))))) (r_2 : Int) : Option Int :=
  let t10_3 : Int := (IntKind.wrap .i64 (0 - r_2))
  let t11_4 : Int := (if t10_3 > r_2 then t10_3 else r_2)
  (F_ratio_Floor t11_4 c_1.2.2.2.2.1 (1048576 : Int)).bind fun t14_5 =>
  let t20_6 : Int := (IntKind.wrap .i64 (c_1.2.2.2.1 + t14_5.1))
  some t20_6
noncomputable def con_F_conf_Config_Error : Con := { f := 22, ps := [.dat (.agg (.pair (.int .i64) (.pair (.int .i64) (.pair (.int .i64) (.pair (.int .i64) (.pair (.int .i64) (.pair (.int .i64) (.pair (.int .i64) (.pair (.int .i64) (.pair (.int .i64) (.pair (.int .i64) (.pair (.int .i64) (.pair (.int .i64) (.pair (.int .i64) (.int .i64))))))))))))))), .dat (.int .i64)], boxes := [], ins := (.pair (.agg (.pair (.int .i64) (.pair (.int .i64) (.pair (.int .i64) (.pair (.int .i64) (.pair (.int .i64) (.pair (.int .i64) (.pair (.int .i64) (.pair (.int .i64) (.pair (.int .i64) (.pair (.int .i64) (.pair (.int .i64) (.pair (.int .i64) (.pair (.int .i64) (.int .i64))))))))))))))) (.int .i64)), nin := 2, outs := (.int .i64), rs := [.dat (.int .i64)], nout := 1, F := fun x => F_conf_Config_Error x.1 x.2 }
def hint_F_conf_Config_Error : Hint := H0
theorem run_F_conf_Config_Error : runE ⟨tdGet tys, [con_F_ratio_Floor], []⟩ con_F_conf_Config_Error Try.f22 hint_F_conf_Config_Error = con_F_conf_Config_Error.F := by
  funext x
  kernel_rfl
theorem ok_F_conf_Config_Error : ConOK Try.prog con_F_conf_Config_Error :=
  con_of_run (Γ := ⟨tdGet tys, [con_F_ratio_Floor], []⟩) ⟨fun T d h => tysB_ok tys tys_ok T d h, by simp [ok_F_ratio_Floor], by simp []⟩ (by kernel_rfl) Try.func22 rfl (by kernel_rfl) run_F_conf_Config_Error
/-- odograph/span.At -/
noncomputable def F_span_At (x_1 : Int) : Option (Int × Int) :=
  let w_2 : (Int × Int) := (x_1, x_1)
  some w_2
noncomputable def con_F_span_At : Con := { f := 64, ps := [.dat (.int .i64)], boxes := [], ins := (.int .i64), nin := 1, outs := (.agg (.pair (.int .i64) (.int .i64))), rs := [.dat (.agg (.pair (.int .i64) (.int .i64)))], nout := 1, F := fun x => F_span_At x }
def hint_F_span_At : Hint := H0
theorem run_F_span_At : runE ⟨tdGet tys, [], []⟩ con_F_span_At Try.f64 hint_F_span_At = con_F_span_At.F := by
  funext x
  kernel_rfl
theorem ok_F_span_At : ConOK Try.prog con_F_span_At :=
  con_of_run (Γ := ⟨tdGet tys, [], []⟩) ⟨fun T d h => tysB_ok tys tys_ok T d h, by simp [], by simp []⟩ (by kernel_rfl) Try.func64 rfl (by kernel_rfl) run_F_span_At
/-- odograph/span.Around -/
noncomputable def F_span_Around (x_1 : Int) (far_2 : Int) : Option ((Int × Int) × Bool) :=
  (F_span_At x_1).bind fun t8_3 =>
  (F_span_Span_Grow t8_3 far_2).bind fun t11_4 =>
  some (t11_4.1, t11_4.2)
noncomputable def con_F_span_Around : Con := { f := 60, ps := [.dat (.int .i64), .dat (.int .i64)], boxes := [], ins := (.pair (.int .i64) (.int .i64)), nin := 2, outs := (.pair (.agg (.pair (.int .i64) (.int .i64))) .bool), rs := [.dat (.agg (.pair (.int .i64) (.int .i64))), .dat .bool], nout := 2, F := fun x => F_span_Around x.1 x.2 }
def hint_F_span_Around : Hint := H0
theorem run_F_span_Around : runE ⟨tdGet tys, [con_F_span_At, con_F_span_Span_Grow], []⟩ con_F_span_Around Try.f60 hint_F_span_Around = con_F_span_Around.F := by
  funext x
  kernel_rfl
theorem ok_F_span_Around : ConOK Try.prog con_F_span_Around :=
  con_of_run (Γ := ⟨tdGet tys, [con_F_span_At, con_F_span_Span_Grow], []⟩) ⟨fun T d h => tysB_ok tys tys_ok T d h, by simp [ok_F_span_At, ok_F_span_Span_Grow], by simp []⟩ (by kernel_rfl) Try.func60 rfl (by kernel_rfl) run_F_span_Around
/-- odograph/sense.Radar -/
noncomputable def F_sense_Radar (c_1 : (Int × (Int × (Int × (Int × (Int × (Int × (Int × (Int × (Int × (Int × (Int × (Int × (Int × Int)))))))))))))) (r_2 : Int) : Option (Int × Int) :=
  (F_conf_Config_Error c_1 r_2).bind fun t11_3 =>
  (F_span_Around r_2 t11_3).bind fun t12_4 =>
  some t12_4.1
noncomputable def con_F_sense_Radar : Con := { f := 35, ps := [.dat (.agg (.pair (.int .i64) (.pair (.int .i64) (.pair (.int .i64) (.pair (.int .i64) (.pair (.int .i64) (.pair (.int .i64) (.pair (.int .i64) (.pair (.int .i64) (.pair (.int .i64) (.pair (.int .i64) (.pair (.int .i64) (.pair (.int .i64) (.pair (.int .i64) (.int .i64))))))))))))))), .dat (.int .i64)], boxes := [], ins := (.pair (.agg (.pair (.int .i64) (.pair (.int .i64) (.pair (.int .i64) (.pair (.int .i64) (.pair (.int .i64) (.pair (.int .i64) (.pair (.int .i64) (.pair (.int .i64) (.pair (.int .i64) (.pair (.int .i64) (.pair (.int .i64) (.pair (.int .i64) (.pair (.int .i64) (.int .i64))))))))))))))) (.int .i64)), nin := 2, outs := (.agg (.pair (.int .i64) (.int .i64))), rs := [.dat (.agg (.pair (.int .i64) (.int .i64)))], nout := 1, F := fun x => F_sense_Radar x.1 x.2 }
def hint_F_sense_Radar : Hint := H0
theorem run_F_sense_Radar : runE ⟨tdGet tys, [con_F_conf_Config_Error, con_F_span_Around], []⟩ con_F_sense_Radar Try.f35 hint_F_sense_Radar = con_F_sense_Radar.F := by
  funext x
  kernel_rfl
theorem ok_F_sense_Radar : ConOK Try.prog con_F_sense_Radar :=
  con_of_run (Γ := ⟨tdGet tys, [con_F_conf_Config_Error, con_F_span_Around], []⟩) ⟨fun T d h => tysB_ok tys tys_ok T d h, by simp [ok_F_conf_Config_Error, ok_F_span_Around], by simp []⟩ (by kernel_rfl) Try.func35 rfl (by kernel_rfl) run_F_sense_Radar
/-- odograph/odographref13.Error -/
noncomputable def F_ref13_Error (c_1 : (Int × (Int × (Int × (Int × (Int × (Int × (Int × (Int × (Int × (Int × (Int × (Int × (Int × Int)))))))))))))) (r_2 : Int) : Option Int :=
  let t6_3 : Bool := (decide (r_2 < (0 : Int)))
  Option.bind (
    (bif t6_3 then
      let t8_4 : Int := (IntKind.wrap .i64 (0 - r_2))
      some t8_4
    else
      some r_2)) fun r_5 =>
  let t14_6 : Int := (IntKind.wrap .i64 (r_5 * c_1.2.2.2.2.1))
  let t15_7 : Int := (IntKind.wrap .i64 (t14_6.tdiv (1048576 : Int)))
  let t16_8 : Int := (IntKind.wrap .i64 (c_1.2.2.2.1 + t15_7))
  some t16_8
noncomputable def con_F_ref13_Error : Con := { f := 37, ps := [.dat (.agg (.pair (.int .i64) (.pair (.int .i64) (.pair (.int .i64) (.pair (.int .i64) (.pair (.int .i64) (.pair (.int .i64) (.pair (.int .i64) (.pair (.int .i64) (.pair (.int .i64) (.pair (.int .i64) (.pair (.int .i64) (.pair (.int .i64) (.pair (.int .i64) (.int .i64))))))))))))))), .dat (.int .i64)], boxes := [], ins := (.pair (.agg (.pair (.int .i64) (.pair (.int .i64) (.pair (.int .i64) (.pair (.int .i64) (.pair (.int .i64) (.pair (.int .i64) (.pair (.int .i64) (.pair (.int .i64) (.pair (.int .i64) (.pair (.int .i64) (.pair (.int .i64) (.pair (.int .i64) (.pair (.int .i64) (.int .i64))))))))))))))) (.int .i64)), nin := 2, outs := (.int .i64), rs := [.dat (.int .i64)], nout := 1, F := fun x => F_ref13_Error x.1 x.2 }
def hint_F_ref13_Error : Hint := (.mk .plain [H0, (.mk .plain [(.mk .plain [H0, (.mk (.join [(0, 7), (0, 8)] [(.normal, [⟨.slot 1, (.int .i64), none⟩])]) [])])])])
theorem run_F_ref13_Error : runE ⟨tdGet tys, [], []⟩ con_F_ref13_Error Try.f37 hint_F_ref13_Error = con_F_ref13_Error.F := by
  funext x
  kernel_rfl
theorem ok_F_ref13_Error : ConOK Try.prog con_F_ref13_Error :=
  con_of_run (Γ := ⟨tdGet tys, [], []⟩) ⟨fun T d h => tysB_ok tys tys_ok T d h, by simp [], by simp []⟩ (by kernel_rfl) Try.func37 rfl (by kernel_rfl) run_F_ref13_Error
/-- odograph/odographref15.Radar -/
noncomputable def F_ref15_Radar (c_1 : (Int × (Int × (Int × (Int × (Int × (Int × (Int × (Int × (Int × (Int × (Int × (Int × (Int × Int)))))))))))))) (r_2 : Int) : Option (Int × Int) :=
  (F_ref13_Error c_1 r_2).bind fun t9_3 =>
  let t12_4 : Int := (IntKind.wrap .i64 (r_2 - t9_3))
  let t15_5 : Int := (IntKind.wrap .i64 (r_2 + t9_3))
  some (t12_4, t15_5)
noncomputable def con_F_ref15_Radar : Con := { f := 36, ps := [.dat (.agg (.pair (.int .i64) (.pair (.int .i64) (.pair (.int .i64) (.pair (.int .i64) (.pair (.int .i64) (.pair (.int .i64) (.pair (.int .i64) (.pair (.int .i64) (.pair (.int .i64) (.pair (.int .i64) (.pair (.int .i64) (.pair (.int .i64) (.pair (.int .i64) (.int .i64))))))))))))))), .dat (.int .i64)], boxes := [], ins := (.pair (.agg (.pair (.int .i64) (.pair (.int .i64) (.pair (.int .i64) (.pair (.int .i64) (.pair (.int .i64) (.pair (.int .i64) (.pair (.int .i64) (.pair (.int .i64) (.pair (.int .i64) (.pair (.int .i64) (.pair (.int .i64) (.pair (.int .i64) (.pair (.int .i64) (.int .i64))))))))))))))) (.int .i64)), nin := 2, outs := (.pair (.int .i64) (.int .i64)), rs := [.dat (.int .i64), .dat (.int .i64)], nout := 2, F := fun x => F_ref15_Radar x.1 x.2 }
def hint_F_ref15_Radar : Hint := H0
theorem run_F_ref15_Radar : runE ⟨tdGet tys, [con_F_ref13_Error], []⟩ con_F_ref15_Radar Try.f36 hint_F_ref15_Radar = con_F_ref15_Radar.F := by
  funext x
  kernel_rfl
theorem ok_F_ref15_Radar : ConOK Try.prog con_F_ref15_Radar :=
  con_of_run (Γ := ⟨tdGet tys, [con_F_ref13_Error], []⟩) ⟨fun T d h => tysB_ok tys tys_ok T d h, by simp [ok_F_ref13_Error], by simp []⟩ (by kernel_rfl) Try.func36 rfl (by kernel_rfl) run_F_ref15_Radar
/-- odograph/odographlaw15.SenseRadar -/
noncomputable def F_law15_SenseRadar (c_1 : (Int × (Int × (Int × (Int × (Int × (Int × (Int × (Int × (Int × (Int × (Int × (Int × (Int × Int)))))))))))))) (r_2 : Int) (v_3 : Int) : Option Bool :=
  (F_law15_anchor ()).bind fun t12_4 =>
  (bif (!t12_4) then
    some false
  else
    (F_law15_right c_1).bind fun t15_5 =>
    (bif (!t15_5) then
      some true
    else
      (F_sense_Radar c_1 (IntKind.wrap .i64 r_2)).bind fun t20_6 =>
      (F_ref15_Radar c_1 (IntKind.wrap .i64 r_2)).bind fun t25_7 =>
      let t29_8 : Bool := (decide (v_3 < (-1099511627776 : Int)))
      let t32_9 : Bool := (decide ((1099511627776 : Int) < v_3))
      let t33_10 : Bool := (bif t29_8 then true else t32_9)
      (bif t33_10 then
        let t43_11 : Bool := (bif (t20_6.1 == t25_7.1) then (t20_6.2 == t25_7.2) else false)
        some t43_11
      else
        let t47_12 : Int := (IntKind.wrap .i64 (v_3 - (IntKind.wrap .i64 r_2)))
        let t50_13 : Int := (IntKind.wrap .i64 (0 - t47_12))
        let t51_14 : Int := (if t50_13 > t47_12 then t50_13 else t47_12)
        (F_ref13_Error c_1 (IntKind.wrap .i64 r_2)).bind fun t55_15 =>
        let t56_16 : Bool := (decide (t55_15 < t51_14))
        let t66_17 : Bool := (bif (t20_6.1 == t25_7.1) then (t20_6.2 == t25_7.2) else false)
        (bif t66_17 then F_span_Span_Has t20_6 v_3 else some false).bind fun t70_18 =>
        let t74_19 : Bool := (bif t66_17 then (t70_18 == (!t56_16)) else false)
        some t74_19)))
noncomputable def con_F_law15_SenseRadar : Con := { f := 14, ps := [.dat (.agg (.pair (.int .i64) (.pair (.int .i64) (.pair (.int .i64) (.pair (.int .i64) (.pair (.int .i64) (.pair (.int .i64) (.pair (.int .i64) (.pair (.int .i64) (.pair (.int .i64) (.pair (.int .i64) (.pair (.int .i64) (.pair (.int .i64) (.pair (.int .i64) (.int .i64))))))))))))))), .dat (.int .i32), .dat (.int .i64)], boxes := [], ins := (.pair (.agg (.pair (.int .i64) (.pair (.int .i64) (.pair (.int .i64) (.pair (.int .i64) (.pair (.int .i64) (.pair (.int .i64) (.pair (.int .i64) (.pair (.int .i64) (.pair (.int .i64) (.pair (.int .i64) (.pair (.int .i64) (.pair (.int .i64) (.pair (.int .i64) (.int .i64))))))))))))))) (.pair (.int .i32) (.int .i64))), nin := 3, outs := .bool, rs := [.dat .bool], nout := 1, F := fun x => F_law15_SenseRadar x.1 x.2.1 x.2.2 }
def hint_F_law15_SenseRadar : Hint := H0
theorem run_F_law15_SenseRadar : runE ⟨tdGet tys, [con_F_law15_anchor, con_F_law15_right, con_F_sense_Radar, con_F_ref15_Radar, con_F_ref13_Error, con_F_span_Span_Has], []⟩ con_F_law15_SenseRadar Try.f14 hint_F_law15_SenseRadar = con_F_law15_SenseRadar.F := by
  funext x
  kernel_rfl
theorem ok_F_law15_SenseRadar : ConOK Try.prog con_F_law15_SenseRadar :=
  con_of_run (Γ := ⟨tdGet tys, [con_F_law15_anchor, con_F_law15_right, con_F_sense_Radar, con_F_ref15_Radar, con_F_ref13_Error, con_F_span_Span_Has], []⟩) ⟨fun T d h => tysB_ok tys tys_ok T d h, by simp [ok_F_law15_anchor, ok_F_law15_right, ok_F_sense_Radar, ok_F_ref15_Radar, ok_F_ref13_Error, ok_F_span_Span_Has], by simp []⟩ (by kernel_rfl) Try.func14 rfl (by kernel_rfl) run_F_law15_SenseRadar
/-- odograph/sense.Accel -/
noncomputable def F_sense_Accel (c_1 : (Int × (Int × (Int × (Int × (Int × (Int × (Int × (Int × (Int × (Int × (Int × (Int × (Int × Int)))))))))))))) (m_2 : Int) (grades_3 : (Int × Int)) : Option (Int × Int) :=
  (F_span_At m_2).bind fun t11_4 =>
  (F_span_Span_Sub t11_4 grades_3).bind fun t13_5 =>
  (F_span_Span_Grow t13_5.1 c_1.2.2.2.2.2.1).bind fun t20_6 =>
  some t20_6.1
noncomputable def con_F_sense_Accel : Con := { f := 42, ps := [.dat (.agg (.pair (.int .i64) (.pair (.int .i64) (.pair (.int .i64) (.pair (.int .i64) (.pair (.int .i64) (.pair (.int .i64) (.pair (.int .i64) (.pair (.int .i64) (.pair (.int .i64) (.pair (.int .i64) (.pair (.int .i64) (.pair (.int .i64) (.pair (.int .i64) (.int .i64))))))))))))))), .dat (.int .i64), .dat (.agg (.pair (.int .i64) (.int .i64)))], boxes := [], ins := (.pair (.agg (.pair (.int .i64) (.pair (.int .i64) (.pair (.int .i64) (.pair (.int .i64) (.pair (.int .i64) (.pair (.int .i64) (.pair (.int .i64) (.pair (.int .i64) (.pair (.int .i64) (.pair (.int .i64) (.pair (.int .i64) (.pair (.int .i64) (.pair (.int .i64) (.int .i64))))))))))))))) (.pair (.int .i64) (.agg (.pair (.int .i64) (.int .i64))))), nin := 3, outs := (.agg (.pair (.int .i64) (.int .i64))), rs := [.dat (.agg (.pair (.int .i64) (.int .i64)))], nout := 1, F := fun x => F_sense_Accel x.1 x.2.1 x.2.2 }
def hint_F_sense_Accel : Hint := H0
theorem run_F_sense_Accel : runE ⟨tdGet tys, [con_F_span_At, con_F_span_Span_Sub, con_F_span_Span_Grow], []⟩ con_F_sense_Accel Try.f42 hint_F_sense_Accel = con_F_sense_Accel.F := by
  funext x
  kernel_rfl
theorem ok_F_sense_Accel : ConOK Try.prog con_F_sense_Accel :=
  con_of_run (Γ := ⟨tdGet tys, [con_F_span_At, con_F_span_Span_Sub, con_F_span_Span_Grow], []⟩) ⟨fun T d h => tysB_ok tys tys_ok T d h, by simp [ok_F_span_At, ok_F_span_Span_Sub, ok_F_span_Span_Grow], by simp []⟩ (by kernel_rfl) Try.func42 rfl (by kernel_rfl) run_F_sense_Accel
/-- odograph/odographref15.Accel -/
noncomputable def F_ref15_Accel (c_1 : (Int × (Int × (Int × (Int × (Int × (Int × (Int × (Int × (Int × (Int × (Int × (Int × (Int × Int)))))))))))))) (m_2 : Int) (least_3 : Int) (most_4 : Int) : Option (Int × Int) :=
  let t12_5 : Int := (IntKind.wrap .i64 (m_2 - most_4))
  let t15_6 : Int := (IntKind.wrap .i64 (t12_5 - c_1.2.2.2.2.2.1))
  let t18_7 : Int := (IntKind.wrap .i64 (m_2 - least_3))
  let t21_8 : Int := (IntKind.wrap .i64 (t18_7 + c_1.2.2.2.2.2.1))
  some (t15_6, t21_8)
noncomputable def con_F_ref15_Accel : Con := { f := 43, ps := [.dat (.agg (.pair (.int .i64) (.pair (.int .i64) (.pair (.int .i64) (.pair (.int .i64) (.pair (.int .i64) (.pair (.int .i64) (.pair (.int .i64) (.pair (.int .i64) (.pair (.int .i64) (.pair (.int .i64) (.pair (.int .i64) (.pair (.int .i64) (.pair (.int .i64) (.int .i64))))))))))))))), .dat (.int .i64), .dat (.int .i64), .dat (.int .i64)], boxes := [], ins := (.pair (.agg (.pair (.int .i64) (.pair (.int .i64) (.pair (.int .i64) (.pair (.int .i64) (.pair (.int .i64) (.pair (.int .i64) (.pair (.int .i64) (.pair (.int .i64) (.pair (.int .i64) (.pair (.int .i64) (.pair (.int .i64) (.pair (.int .i64) (.pair (.int .i64) (.int .i64))))))))))))))) (.pair (.int .i64) (.pair (.int .i64) (.int .i64)))), nin := 4, outs := (.pair (.int .i64) (.int .i64)), rs := [.dat (.int .i64), .dat (.int .i64)], nout := 2, F := fun x => F_ref15_Accel x.1 x.2.1 x.2.2.1 x.2.2.2 }
def hint_F_ref15_Accel : Hint := H0
theorem run_F_ref15_Accel : runE ⟨tdGet tys, [], []⟩ con_F_ref15_Accel Try.f43 hint_F_ref15_Accel = con_F_ref15_Accel.F := by
  funext x
  kernel_rfl
theorem ok_F_ref15_Accel : ConOK Try.prog con_F_ref15_Accel :=
  con_of_run (Γ := ⟨tdGet tys, [], []⟩) ⟨fun T d h => tysB_ok tys tys_ok T d h, by simp [], by simp []⟩ (by kernel_rfl) Try.func43 rfl (by kernel_rfl) run_F_ref15_Accel
/-- (odograph/span.Span).Add -/
noncomputable def F_span_Span_Add (s_1 : (Int × Int)) (t_2 : (Int × Int)) : Option ((Int × Int) × Bool) :=
  (F_span_Span_Right s_1).bind fun t11_3 =>
  (bif !(!t11_3) then F_span_Span_Right t_2 else some false).bind fun t15_4 =>
  let t17_5 : Bool := (bif (!t11_3) then true else (!t15_4))
  (bif t17_5 then
    let w_6 : (Int × Int) := ((0 : Int), (0 : Int))
    some (w_6, false)
  else
    (F_num_Add s_1.1 t_2.1).bind fun t24_7 =>
    (F_num_Add s_1.2 t_2.2).bind fun t32_8 =>
    (F_span_both t24_7.1 t24_7.2 t32_8.1 t32_8.2).bind fun t39_9 =>
    some (t39_9.1, t39_9.2))
noncomputable def con_F_span_Span_Add : Con := { f := 65, ps := [.dat (.agg (.pair (.int .i64) (.int .i64))), .dat (.agg (.pair (.int .i64) (.int .i64)))], boxes := [], ins := (.pair (.agg (.pair (.int .i64) (.int .i64))) (.agg (.pair (.int .i64) (.int .i64)))), nin := 2, outs := (.pair (.agg (.pair (.int .i64) (.int .i64))) .bool), rs := [.dat (.agg (.pair (.int .i64) (.int .i64))), .dat .bool], nout := 2, F := fun x => F_span_Span_Add x.1 x.2 }
def hint_F_span_Span_Add : Hint := H0
theorem run_F_span_Span_Add : runE ⟨tdGet tys, [con_F_span_Span_Right, con_F_num_Add, con_F_span_both], []⟩ con_F_span_Span_Add Try.f65 hint_F_span_Span_Add = con_F_span_Span_Add.F := by
  funext x
  kernel_rfl
theorem ok_F_span_Span_Add : ConOK Try.prog con_F_span_Span_Add :=
  con_of_run (Γ := ⟨tdGet tys, [con_F_span_Span_Right, con_F_num_Add, con_F_span_both], []⟩) ⟨fun T d h => tysB_ok tys tys_ok T d h, by simp [ok_F_span_Span_Right, ok_F_num_Add, ok_F_span_both], by simp []⟩ (by kernel_rfl) Try.func65 rfl (by kernel_rfl) run_F_span_Span_Add
/-- odograph/sense.From -/
noncomputable def F_sense_From (speed_1 : (Int × Int)) (accel_2 : (Int × Int)) : Option (Int × Int) :=
  (F_span_Span_Add speed_1 accel_2).bind fun t10_3 =>
  some t10_3.1
noncomputable def con_F_sense_From : Con := { f := 44, ps := [.dat (.agg (.pair (.int .i64) (.int .i64))), .dat (.agg (.pair (.int .i64) (.int .i64)))], boxes := [], ins := (.pair (.agg (.pair (.int .i64) (.int .i64))) (.agg (.pair (.int .i64) (.int .i64)))), nin := 2, outs := (.agg (.pair (.int .i64) (.int .i64))), rs := [.dat (.agg (.pair (.int .i64) (.int .i64)))], nout := 1, F := fun x => F_sense_From x.1 x.2 }
def hint_F_sense_From : Hint := H0
theorem run_F_sense_From : runE ⟨tdGet tys, [con_F_span_Span_Add], []⟩ con_F_sense_From Try.f44 hint_F_sense_From = con_F_sense_From.F := by
  funext x
  kernel_rfl
theorem ok_F_sense_From : ConOK Try.prog con_F_sense_From :=
  con_of_run (Γ := ⟨tdGet tys, [con_F_span_Span_Add], []⟩) ⟨fun T d h => tysB_ok tys tys_ok T d h, by simp [ok_F_span_Span_Add], by simp []⟩ (by kernel_rfl) Try.func44 rfl (by kernel_rfl) run_F_sense_From
/-- odograph/odographlaw15.SenseAccel -/
noncomputable def F_law15_SenseAccel (c_1 : (Int × (Int × (Int × (Int × (Int × (Int × (Int × (Int × (Int × (Int × (Int × (Int × (Int × Int)))))))))))))) (m_2 : Int) (grades_3 : (Int × Int)) (speed_4 : (Int × Int)) (v_5 : Int) (grade_6 : Int) (wrong_7 : Int) : Option Bool :=
  (F_law15_anchor ()).bind fun t19_8 =>
  (bif (!t19_8) then
    some false
  else
    (F_law15_right c_1).bind fun t22_9 =>
    let t29_10 : Bool := (decide (grades_3.2 < grades_3.1))
    let t30_11 : Bool := (bif (!t22_9) then true else t29_10)
    let t34_12 : Bool := (decide (grades_3.1 < (-1048576 : Int)))
    let t35_13 : Bool := (bif t30_11 then true else t34_12)
    let t39_14 : Bool := (decide ((1048576 : Int) < grades_3.2))
    let t40_15 : Bool := (bif t35_13 then true else t39_14)
    let t46_16 : Bool := (decide (speed_4.2 < speed_4.1))
    let t47_17 : Bool := (bif t40_15 then true else t46_16)
    let t51_18 : Bool := (decide (speed_4.1 < (-1099511627776 : Int)))
    let t52_19 : Bool := (bif t47_17 then true else t51_18)
    let t56_20 : Bool := (decide ((1099511627776 : Int) < speed_4.2))
    let t57_21 : Bool := (bif t52_19 then true else t56_20)
    (bif t57_21 then
      some true
    else
      (F_sense_Accel c_1 (IntKind.wrap .i64 m_2) grades_3).bind fun t62_22 =>
      (F_ref15_Accel c_1 (IntKind.wrap .i64 m_2) grades_3.1 grades_3.2).bind fun t71_23 =>
      (F_sense_From speed_4 t62_22).bind fun t76_24 =>
      let t86_25 : Bool := (bif (t62_22.1 != t71_23.1) then true else (t62_22.2 != t71_23.2))
      let t93_26 : Int := (IntKind.wrap .i64 (speed_4.1 + t71_23.1))
      let t95_27 : Bool := (bif t86_25 then true else (t76_24.1 != t93_26))
      let t102_28 : Int := (IntKind.wrap .i64 (speed_4.2 + t71_23.2))
      let t104_29 : Bool := (bif t95_27 then true else (t76_24.2 != t102_28))
      (bif t104_29 then
        some false
      else
        let t108_30 : Bool := (decide (grade_6 < grades_3.1))
        let t113_31 : Bool := (decide (grades_3.2 < grade_6))
        let t114_32 : Bool := (bif t108_30 then true else t113_31)
        let t119_33 : Int := (IntKind.wrap .i64 (0 - c_1.2.2.2.2.2.1))
        let t120_34 : Bool := (decide (wrong_7 < t119_33))
        let t121_35 : Bool := (bif t114_32 then true else t120_34)
        let t126_36 : Bool := (decide (c_1.2.2.2.2.2.1 < wrong_7))
        let t127_37 : Bool := (bif t121_35 then true else t126_36)
        let t132_38 : Bool := (decide (v_5 < speed_4.1))
        let t133_39 : Bool := (bif t127_37 then true else t132_38)
        let t138_40 : Bool := (decide (speed_4.2 < v_5))
        let t139_41 : Bool := (bif t133_39 then true else t138_40)
        (bif t139_41 then
          some true
        else
          let t145_42 : Int := (IntKind.wrap .i64 ((IntKind.wrap .i64 m_2) - grade_6))
          let t147_43 : Int := (IntKind.wrap .i64 (t145_42 - wrong_7))
          let t148_44 : Int := (IntKind.wrap .i64 (v_5 + t147_43))
          (F_span_Span_Has t76_24 t148_44).bind fun t149_45 =>
          some t149_45))))
noncomputable def con_F_law15_SenseAccel : Con := { f := 16, ps := [.dat (.agg (.pair (.int .i64) (.pair (.int .i64) (.pair (.int .i64) (.pair (.int .i64) (.pair (.int .i64) (.pair (.int .i64) (.pair (.int .i64) (.pair (.int .i64) (.pair (.int .i64) (.pair (.int .i64) (.pair (.int .i64) (.pair (.int .i64) (.pair (.int .i64) (.int .i64))))))))))))))), .dat (.int .i32), .dat (.agg (.pair (.int .i64) (.int .i64))), .dat (.agg (.pair (.int .i64) (.int .i64))), .dat (.int .i64), .dat (.int .i64), .dat (.int .i64)], boxes := [], ins := (.pair (.agg (.pair (.int .i64) (.pair (.int .i64) (.pair (.int .i64) (.pair (.int .i64) (.pair (.int .i64) (.pair (.int .i64) (.pair (.int .i64) (.pair (.int .i64) (.pair (.int .i64) (.pair (.int .i64) (.pair (.int .i64) (.pair (.int .i64) (.pair (.int .i64) (.int .i64))))))))))))))) (.pair (.int .i32) (.pair (.agg (.pair (.int .i64) (.int .i64))) (.pair (.agg (.pair (.int .i64) (.int .i64))) (.pair (.int .i64) (.pair (.int .i64) (.int .i64))))))), nin := 7, outs := .bool, rs := [.dat .bool], nout := 1, F := fun x => F_law15_SenseAccel x.1 x.2.1 x.2.2.1 x.2.2.2.1 x.2.2.2.2.1 x.2.2.2.2.2.1 x.2.2.2.2.2.2 }
def hint_F_law15_SenseAccel : Hint := H0
theorem run_F_law15_SenseAccel : runE ⟨tdGet tys, [con_F_law15_anchor, con_F_law15_right, con_F_sense_Accel, con_F_ref15_Accel, con_F_sense_From, con_F_span_Span_Has], []⟩ con_F_law15_SenseAccel Try.f16 hint_F_law15_SenseAccel = con_F_law15_SenseAccel.F := by
  funext x
  kernel_rfl
theorem ok_F_law15_SenseAccel : ConOK Try.prog con_F_law15_SenseAccel :=
  con_of_run (Γ := ⟨tdGet tys, [con_F_law15_anchor, con_F_law15_right, con_F_sense_Accel, con_F_ref15_Accel, con_F_sense_From, con_F_span_Span_Has], []⟩) ⟨fun T d h => tysB_ok tys tys_ok T d h, by simp [ok_F_law15_anchor, ok_F_law15_right, ok_F_sense_Accel, ok_F_ref15_Accel, ok_F_sense_From, ok_F_span_Span_Has], by simp []⟩ (by kernel_rfl) Try.func16 rfl (by kernel_rfl) run_F_law15_SenseAccel
end Go.Proofs.Ytbgdgpdfaebniaa
