/- The functional reading of the code (printed). -/
import Derived.Test.YtgogjcbfnnhaoaaGreatTysZ
set_option linter.unusedSimpArgs false
set_option linter.unusedVariables false
namespace Go.Proofs.YtgogjcbfnnhaoaaGreat
open Go
/-- odograph/odographlaw28.usual -/
noncomputable def F_law28_usual (_ : Unit) : Option Yd433 :=
  let t1_1 : Yd433 := ((1024 : Int), ((131072 : Int), ((131072 : Int), ((0 : Int), ((0 : Int), ((0 : Int), ((1000 : Int), ((100 : Int), ((0 : Int), ((1 : Int), ((128 : Int), ((0 : Int), ((5 : Int), (2 : Int))))))))))))))
  some t1_1
noncomputable def con_F_law28_usual : Con := { f := 33, ps := [], boxes := [], ins := .unit, nin := 0, outs := (.agg Yt433), rs := [.dat (.agg Yt433)], nout := 1, F := fun x => F_law28_usual () }
def hint_F_law28_usual : Hint := H0
theorem run_F_law28_usual : runE ⟨tdGet tys, [], []⟩ con_F_law28_usual Tryz.f33 hint_F_law28_usual = con_F_law28_usual.F := by
  funext x
  kernel_rfl
theorem ok_F_law28_usual : ConOK Tryz.prog con_F_law28_usual :=
  con_of_run (Γ := ⟨tdGet tys, [], []⟩) ⟨fun T d h => tysB_ok tys tys_ok T d h, by simp [], by simp []⟩ (by kernel_rfl) Tryz.func33 rfl (by kernel_rfl) run_F_law28_usual
/-- (odograph/conf.Config).rules -/
noncomputable def F_conf_Config_rules (c_1 : Yd433) : Option Yd433 :=
  some (c_1.1, c_1.2.1, c_1.2.2.1, c_1.2.2.2.1, c_1.2.2.2.2.1, c_1.2.2.2.2.2.1, c_1.2.2.2.2.2.2.1, c_1.2.2.2.2.2.2.2.1, c_1.2.2.2.2.2.2.2.2.1, c_1.2.2.2.2.2.2.2.2.2.1, c_1.2.2.2.2.2.2.2.2.2.2.1, c_1.2.2.2.2.2.2.2.2.2.2.2.1, c_1.2.2.2.2.2.2.2.2.2.2.2.2.1, c_1.2.2.2.2.2.2.2.2.2.2.2.2.2)
noncomputable def con_F_conf_Config_rules : NCon := { f := 75, ps := [.dat (.agg Yt433)], ins := (.agg Yt433), nin := 1, outs := Yt433, rs := [.sl [.clo 98 [] [.ref 0 0], .clo 100 [] [.ref 0 0], .clo 101 [] [.ref 0 0], .clo 102 [] [.ref 0 0], .clo 103 [] [.ref 0 0], .clo 104 [] [.ref 0 0], .clo 105 [] [.ref 0 0], .clo 106 [] [.ref 0 0], .clo 107 [] [.ref 0 0], .clo 108 [] [.ref 0 0], .clo 110 [] [.ref 0 0], .clo 111 [] [.ref 0 0]]], new := [.dat (.int .i64), .dat (.int .i64), .dat (.int .i64), .dat (.int .i64), .dat (.int .i64), .dat (.int .i64), .dat (.int .i64), .dat (.int .i64), .dat (.int .i64), .dat (.int .i64), .dat (.int .i64), .dat (.int .i64), .dat (.int .i64), .dat (.int .i64)], nout := 14, F := fun x => F_conf_Config_rules x }
def hint_F_conf_Config_rules : Hint := H0
theorem run_F_conf_Config_rules : runN ⟨tdGet tys, [], []⟩ con_F_conf_Config_rules Tryz.f75 hint_F_conf_Config_rules = con_F_conf_Config_rules.F := by
  funext x
  kernel_rfl
theorem ok_F_conf_Config_rules : NOK Tryz.prog con_F_conf_Config_rules :=
  ncon_of_run (Γ := ⟨tdGet tys, [], []⟩) ⟨fun T d h => tysB_ok tys tys_ok T d h, by simp [], by simp []⟩ (by kernel_rfl) Tryz.func75 rfl (by kernel_rfl) run_F_conf_Config_rules
/-- odograph/conf.within -/
noncomputable def F_conf_within (x_1 : Int) (lo_2 : Int) (hi_3 : Int) : Option Bool :=
  let t14_4 : Bool := (bif (decide (lo_2 ≤ x_1)) then (decide (x_1 ≤ hi_3)) else false)
  some t14_4
noncomputable def con_F_conf_within : Con := { f := 99, ps := [.dat (.int .i64), .dat (.int .i64), .dat (.int .i64)], boxes := [], ins := (.pair (.int .i64) (.pair (.int .i64) (.int .i64))), nin := 3, outs := .bool, rs := [.dat .bool], nout := 1, F := fun x => F_conf_within x.1 x.2.1 x.2.2 }
def hint_F_conf_within : Hint := H0
theorem run_F_conf_within : runE ⟨tdGet tys, [], []⟩ con_F_conf_within Tryz.f99 hint_F_conf_within = con_F_conf_within.F := by
  funext x
  kernel_rfl
theorem ok_F_conf_within : ConOK Tryz.prog con_F_conf_within :=
  con_of_run (Γ := ⟨tdGet tys, [], []⟩) ⟨fun T d h => tysB_ok tys tys_ok T d h, by simp [], by simp []⟩ (by kernel_rfl) Tryz.func99 rfl (by kernel_rfl) run_F_conf_within
/-- (odograph/conf.Config).rules$1 -/
noncomputable def F_conf_Config_rules_1 (x_1 : Int) (x_2 : Int) (x_3 : Int) (x_4 : Int) (x_5 : Int) (x_6 : Int) (x_7 : Int) (x_8 : Int) (x_9 : Int) (x_10 : Int) (x_11 : Int) (x_12 : Int) (x_13 : Int) (x_14 : Int) : Option Yd434 :=
  (F_conf_within x_1 (1 : Int) (1024 : Int)).bind fun t4_15 =>
  some (t4_15, x_1, x_2, x_3, x_4, x_5, x_6, x_7, x_8, x_9, x_10, x_11, x_12, x_13, x_14)
noncomputable def con_F_conf_Config_rules_1 : Con := { f := 98, ps := [.ref 0 0], boxes := [[.dat (.int .i64), .dat (.int .i64), .dat (.int .i64), .dat (.int .i64), .dat (.int .i64), .dat (.int .i64), .dat (.int .i64), .dat (.int .i64), .dat (.int .i64), .dat (.int .i64), .dat (.int .i64), .dat (.int .i64), .dat (.int .i64), .dat (.int .i64)]], ins := Yt433, nin := 14, outs := Yt434, rs := [.dat .bool], nout := 15, F := fun x => F_conf_Config_rules_1 x.1 x.2.1 x.2.2.1 x.2.2.2.1 x.2.2.2.2.1 x.2.2.2.2.2.1 x.2.2.2.2.2.2.1 x.2.2.2.2.2.2.2.1 x.2.2.2.2.2.2.2.2.1 x.2.2.2.2.2.2.2.2.2.1 x.2.2.2.2.2.2.2.2.2.2.1 x.2.2.2.2.2.2.2.2.2.2.2.1 x.2.2.2.2.2.2.2.2.2.2.2.2.1 x.2.2.2.2.2.2.2.2.2.2.2.2.2 }
def hint_F_conf_Config_rules_1 : Hint := H0
theorem run_F_conf_Config_rules_1 : runE ⟨tdGet tys, [con_F_conf_within], []⟩ con_F_conf_Config_rules_1 Tryz.f98 hint_F_conf_Config_rules_1 = con_F_conf_Config_rules_1.F := by
  funext x
  kernel_rfl
theorem ok_F_conf_Config_rules_1 : ConOK Tryz.prog con_F_conf_Config_rules_1 :=
  con_of_run (Γ := ⟨tdGet tys, [con_F_conf_within], []⟩) ⟨fun T d h => tysB_ok tys tys_ok T d h, by simp [ok_F_conf_within], by simp []⟩ (by kernel_rfl) Tryz.func98 rfl (by kernel_rfl) run_F_conf_Config_rules_1
/-- (odograph/conf.Config).rules$2 -/
noncomputable def F_conf_Config_rules_2 (x_1 : Int) (x_2 : Int) (x_3 : Int) (x_4 : Int) (x_5 : Int) (x_6 : Int) (x_7 : Int) (x_8 : Int) (x_9 : Int) (x_10 : Int) (x_11 : Int) (x_12 : Int) (x_13 : Int) (x_14 : Int) : Option Yd434 :=
  (F_conf_within x_2 (131072 : Int) (8388608 : Int)).bind fun t4_15 =>
  (bif t4_15 then F_conf_within x_3 x_2 (8388608 : Int) else some false).bind fun t10_16 =>
  let t11_17 : Bool := (bif t4_15 then t10_16 else false)
  some (t11_17, x_1, x_2, x_3, x_4, x_5, x_6, x_7, x_8, x_9, x_10, x_11, x_12, x_13, x_14)
noncomputable def con_F_conf_Config_rules_2 : Con := { f := 100, ps := [.ref 0 0], boxes := [[.dat (.int .i64), .dat (.int .i64), .dat (.int .i64), .dat (.int .i64), .dat (.int .i64), .dat (.int .i64), .dat (.int .i64), .dat (.int .i64), .dat (.int .i64), .dat (.int .i64), .dat (.int .i64), .dat (.int .i64), .dat (.int .i64), .dat (.int .i64)]], ins := Yt433, nin := 14, outs := Yt434, rs := [.dat .bool], nout := 15, F := fun x => F_conf_Config_rules_2 x.1 x.2.1 x.2.2.1 x.2.2.2.1 x.2.2.2.2.1 x.2.2.2.2.2.1 x.2.2.2.2.2.2.1 x.2.2.2.2.2.2.2.1 x.2.2.2.2.2.2.2.2.1 x.2.2.2.2.2.2.2.2.2.1 x.2.2.2.2.2.2.2.2.2.2.1 x.2.2.2.2.2.2.2.2.2.2.2.1 x.2.2.2.2.2.2.2.2.2.2.2.2.1 x.2.2.2.2.2.2.2.2.2.2.2.2.2 }
def hint_F_conf_Config_rules_2 : Hint := H0
theorem run_F_conf_Config_rules_2 : runE ⟨tdGet tys, [con_F_conf_within], []⟩ con_F_conf_Config_rules_2 Tryz.f100 hint_F_conf_Config_rules_2 = con_F_conf_Config_rules_2.F := by
  funext x
  kernel_rfl
theorem ok_F_conf_Config_rules_2 : ConOK Tryz.prog con_F_conf_Config_rules_2 :=
  con_of_run (Γ := ⟨tdGet tys, [con_F_conf_within], []⟩) ⟨fun T d h => tysB_ok tys tys_ok T d h, by simp [ok_F_conf_within], by simp []⟩ (by kernel_rfl) Tryz.func100 rfl (by kernel_rfl) run_F_conf_Config_rules_2
/-- (odograph/conf.Config).rules$3 -/
noncomputable def F_conf_Config_rules_3 (x_1 : Int) (x_2 : Int) (x_3 : Int) (x_4 : Int) (x_5 : Int) (x_6 : Int) (x_7 : Int) (x_8 : Int) (x_9 : Int) (x_10 : Int) (x_11 : Int) (x_12 : Int) (x_13 : Int) (x_14 : Int) : Option Yd434 :=
  let t6_15 : Int := (IntKind.wrap .i64 (x_3 - x_2))
  let t7_16 : Int := (IntKind.wrap .i64 ((16 : Int) * t6_15))
  some ((decide (t7_16 ≤ x_2)), x_1, x_2, x_3, x_4, x_5, x_6, x_7, x_8, x_9, x_10, x_11, x_12, x_13, x_14)
noncomputable def con_F_conf_Config_rules_3 : Con := { f := 101, ps := [.ref 0 0], boxes := [[.dat (.int .i64), .dat (.int .i64), .dat (.int .i64), .dat (.int .i64), .dat (.int .i64), .dat (.int .i64), .dat (.int .i64), .dat (.int .i64), .dat (.int .i64), .dat (.int .i64), .dat (.int .i64), .dat (.int .i64), .dat (.int .i64), .dat (.int .i64)]], ins := Yt433, nin := 14, outs := Yt434, rs := [.dat .bool], nout := 15, F := fun x => F_conf_Config_rules_3 x.1 x.2.1 x.2.2.1 x.2.2.2.1 x.2.2.2.2.1 x.2.2.2.2.2.1 x.2.2.2.2.2.2.1 x.2.2.2.2.2.2.2.1 x.2.2.2.2.2.2.2.2.1 x.2.2.2.2.2.2.2.2.2.1 x.2.2.2.2.2.2.2.2.2.2.1 x.2.2.2.2.2.2.2.2.2.2.2.1 x.2.2.2.2.2.2.2.2.2.2.2.2.1 x.2.2.2.2.2.2.2.2.2.2.2.2.2 }
def hint_F_conf_Config_rules_3 : Hint := H0
theorem run_F_conf_Config_rules_3 : runE ⟨tdGet tys, [], []⟩ con_F_conf_Config_rules_3 Tryz.f101 hint_F_conf_Config_rules_3 = con_F_conf_Config_rules_3.F := by
  funext x
  kernel_rfl
theorem ok_F_conf_Config_rules_3 : ConOK Tryz.prog con_F_conf_Config_rules_3 :=
  con_of_run (Γ := ⟨tdGet tys, [], []⟩) ⟨fun T d h => tysB_ok tys tys_ok T d h, by simp [], by simp []⟩ (by kernel_rfl) Tryz.func101 rfl (by kernel_rfl) run_F_conf_Config_rules_3
/-- (odograph/conf.Config).rules$4 -/
noncomputable def F_conf_Config_rules_4 (x_1 : Int) (x_2 : Int) (x_3 : Int) (x_4 : Int) (x_5 : Int) (x_6 : Int) (x_7 : Int) (x_8 : Int) (x_9 : Int) (x_10 : Int) (x_11 : Int) (x_12 : Int) (x_13 : Int) (x_14 : Int) : Option Yd434 :=
  (F_conf_within x_4 (0 : Int) (1048576 : Int)).bind fun t4_15 =>
  (bif t4_15 then F_conf_within x_5 (0 : Int) (65536 : Int) else some false).bind fun t8_16 =>
  let t9_17 : Bool := (bif t4_15 then t8_16 else false)
  some (t9_17, x_1, x_2, x_3, x_4, x_5, x_6, x_7, x_8, x_9, x_10, x_11, x_12, x_13, x_14)
noncomputable def con_F_conf_Config_rules_4 : Con := { f := 102, ps := [.ref 0 0], boxes := [[.dat (.int .i64), .dat (.int .i64), .dat (.int .i64), .dat (.int .i64), .dat (.int .i64), .dat (.int .i64), .dat (.int .i64), .dat (.int .i64), .dat (.int .i64), .dat (.int .i64), .dat (.int .i64), .dat (.int .i64), .dat (.int .i64), .dat (.int .i64)]], ins := Yt433, nin := 14, outs := Yt434, rs := [.dat .bool], nout := 15, F := fun x => F_conf_Config_rules_4 x.1 x.2.1 x.2.2.1 x.2.2.2.1 x.2.2.2.2.1 x.2.2.2.2.2.1 x.2.2.2.2.2.2.1 x.2.2.2.2.2.2.2.1 x.2.2.2.2.2.2.2.2.1 x.2.2.2.2.2.2.2.2.2.1 x.2.2.2.2.2.2.2.2.2.2.1 x.2.2.2.2.2.2.2.2.2.2.2.1 x.2.2.2.2.2.2.2.2.2.2.2.2.1 x.2.2.2.2.2.2.2.2.2.2.2.2.2 }
def hint_F_conf_Config_rules_4 : Hint := H0
theorem run_F_conf_Config_rules_4 : runE ⟨tdGet tys, [con_F_conf_within], []⟩ con_F_conf_Config_rules_4 Tryz.f102 hint_F_conf_Config_rules_4 = con_F_conf_Config_rules_4.F := by
  funext x
  kernel_rfl
theorem ok_F_conf_Config_rules_4 : ConOK Tryz.prog con_F_conf_Config_rules_4 :=
  con_of_run (Γ := ⟨tdGet tys, [con_F_conf_within], []⟩) ⟨fun T d h => tysB_ok tys tys_ok T d h, by simp [ok_F_conf_within], by simp []⟩ (by kernel_rfl) Tryz.func102 rfl (by kernel_rfl) run_F_conf_Config_rules_4
/-- (odograph/conf.Config).rules$5 -/
noncomputable def F_conf_Config_rules_5 (x_1 : Int) (x_2 : Int) (x_3 : Int) (x_4 : Int) (x_5 : Int) (x_6 : Int) (x_7 : Int) (x_8 : Int) (x_9 : Int) (x_10 : Int) (x_11 : Int) (x_12 : Int) (x_13 : Int) (x_14 : Int) : Option Yd434 :=
  (F_conf_within x_6 (0 : Int) (1048576 : Int)).bind fun t4_15 =>
  some (t4_15, x_1, x_2, x_3, x_4, x_5, x_6, x_7, x_8, x_9, x_10, x_11, x_12, x_13, x_14)
noncomputable def con_F_conf_Config_rules_5 : Con := { f := 103, ps := [.ref 0 0], boxes := [[.dat (.int .i64), .dat (.int .i64), .dat (.int .i64), .dat (.int .i64), .dat (.int .i64), .dat (.int .i64), .dat (.int .i64), .dat (.int .i64), .dat (.int .i64), .dat (.int .i64), .dat (.int .i64), .dat (.int .i64), .dat (.int .i64), .dat (.int .i64)]], ins := Yt433, nin := 14, outs := Yt434, rs := [.dat .bool], nout := 15, F := fun x => F_conf_Config_rules_5 x.1 x.2.1 x.2.2.1 x.2.2.2.1 x.2.2.2.2.1 x.2.2.2.2.2.1 x.2.2.2.2.2.2.1 x.2.2.2.2.2.2.2.1 x.2.2.2.2.2.2.2.2.1 x.2.2.2.2.2.2.2.2.2.1 x.2.2.2.2.2.2.2.2.2.2.1 x.2.2.2.2.2.2.2.2.2.2.2.1 x.2.2.2.2.2.2.2.2.2.2.2.2.1 x.2.2.2.2.2.2.2.2.2.2.2.2.2 }
def hint_F_conf_Config_rules_5 : Hint := H0
theorem run_F_conf_Config_rules_5 : runE ⟨tdGet tys, [con_F_conf_within], []⟩ con_F_conf_Config_rules_5 Tryz.f103 hint_F_conf_Config_rules_5 = con_F_conf_Config_rules_5.F := by
  funext x
  kernel_rfl
theorem ok_F_conf_Config_rules_5 : ConOK Tryz.prog con_F_conf_Config_rules_5 :=
  con_of_run (Γ := ⟨tdGet tys, [con_F_conf_within], []⟩) ⟨fun T d h => tysB_ok tys tys_ok T d h, by simp [ok_F_conf_within], by simp []⟩ (by kernel_rfl) Tryz.func103 rfl (by kernel_rfl) run_F_conf_Config_rules_5
/-- (odograph/conf.Config).rules$6 -/
noncomputable def F_conf_Config_rules_6 (x_1 : Int) (x_2 : Int) (x_3 : Int) (x_4 : Int) (x_5 : Int) (x_6 : Int) (x_7 : Int) (x_8 : Int) (x_9 : Int) (x_10 : Int) (x_11 : Int) (x_12 : Int) (x_13 : Int) (x_14 : Int) : Option Yd434 :=
  (F_conf_within x_7 (1 : Int) (16777216 : Int)).bind fun t4_15 =>
  (bif t4_15 then F_conf_within x_8 (1 : Int) (1048576 : Int) else some false).bind fun t8_16 =>
  let t9_17 : Bool := (bif t4_15 then t8_16 else false)
  some (t9_17, x_1, x_2, x_3, x_4, x_5, x_6, x_7, x_8, x_9, x_10, x_11, x_12, x_13, x_14)
noncomputable def con_F_conf_Config_rules_6 : Con := { f := 104, ps := [.ref 0 0], boxes := [[.dat (.int .i64), .dat (.int .i64), .dat (.int .i64), .dat (.int .i64), .dat (.int .i64), .dat (.int .i64), .dat (.int .i64), .dat (.int .i64), .dat (.int .i64), .dat (.int .i64), .dat (.int .i64), .dat (.int .i64), .dat (.int .i64), .dat (.int .i64)]], ins := Yt433, nin := 14, outs := Yt434, rs := [.dat .bool], nout := 15, F := fun x => F_conf_Config_rules_6 x.1 x.2.1 x.2.2.1 x.2.2.2.1 x.2.2.2.2.1 x.2.2.2.2.2.1 x.2.2.2.2.2.2.1 x.2.2.2.2.2.2.2.1 x.2.2.2.2.2.2.2.2.1 x.2.2.2.2.2.2.2.2.2.1 x.2.2.2.2.2.2.2.2.2.2.1 x.2.2.2.2.2.2.2.2.2.2.2.1 x.2.2.2.2.2.2.2.2.2.2.2.2.1 x.2.2.2.2.2.2.2.2.2.2.2.2.2 }
def hint_F_conf_Config_rules_6 : Hint := H0
theorem run_F_conf_Config_rules_6 : runE ⟨tdGet tys, [con_F_conf_within], []⟩ con_F_conf_Config_rules_6 Tryz.f104 hint_F_conf_Config_rules_6 = con_F_conf_Config_rules_6.F := by
  funext x
  kernel_rfl
theorem ok_F_conf_Config_rules_6 : ConOK Tryz.prog con_F_conf_Config_rules_6 :=
  con_of_run (Γ := ⟨tdGet tys, [con_F_conf_within], []⟩) ⟨fun T d h => tysB_ok tys tys_ok T d h, by simp [ok_F_conf_within], by simp []⟩ (by kernel_rfl) Tryz.func104 rfl (by kernel_rfl) run_F_conf_Config_rules_6
/-- (odograph/conf.Config).rules$7 -/
noncomputable def F_conf_Config_rules_7 (x_1 : Int) (x_2 : Int) (x_3 : Int) (x_4 : Int) (x_5 : Int) (x_6 : Int) (x_7 : Int) (x_8 : Int) (x_9 : Int) (x_10 : Int) (x_11 : Int) (x_12 : Int) (x_13 : Int) (x_14 : Int) : Option Yd434 :=
  let t6_15 : Int := (IntKind.wrap .i64 (x_7 * x_1))
  let t9_16 : Int := (IntKind.wrap .i64 ((32000 : Int) * x_2))
  some ((decide (t6_15 ≤ t9_16)), x_1, x_2, x_3, x_4, x_5, x_6, x_7, x_8, x_9, x_10, x_11, x_12, x_13, x_14)
noncomputable def con_F_conf_Config_rules_7 : Con := { f := 105, ps := [.ref 0 0], boxes := [[.dat (.int .i64), .dat (.int .i64), .dat (.int .i64), .dat (.int .i64), .dat (.int .i64), .dat (.int .i64), .dat (.int .i64), .dat (.int .i64), .dat (.int .i64), .dat (.int .i64), .dat (.int .i64), .dat (.int .i64), .dat (.int .i64), .dat (.int .i64)]], ins := Yt433, nin := 14, outs := Yt434, rs := [.dat .bool], nout := 15, F := fun x => F_conf_Config_rules_7 x.1 x.2.1 x.2.2.1 x.2.2.2.1 x.2.2.2.2.1 x.2.2.2.2.2.1 x.2.2.2.2.2.2.1 x.2.2.2.2.2.2.2.1 x.2.2.2.2.2.2.2.2.1 x.2.2.2.2.2.2.2.2.2.1 x.2.2.2.2.2.2.2.2.2.2.1 x.2.2.2.2.2.2.2.2.2.2.2.1 x.2.2.2.2.2.2.2.2.2.2.2.2.1 x.2.2.2.2.2.2.2.2.2.2.2.2.2 }
def hint_F_conf_Config_rules_7 : Hint := H0
theorem run_F_conf_Config_rules_7 : runE ⟨tdGet tys, [], []⟩ con_F_conf_Config_rules_7 Tryz.f105 hint_F_conf_Config_rules_7 = con_F_conf_Config_rules_7.F := by
  funext x
  kernel_rfl
theorem ok_F_conf_Config_rules_7 : ConOK Tryz.prog con_F_conf_Config_rules_7 :=
  con_of_run (Γ := ⟨tdGet tys, [], []⟩) ⟨fun T d h => tysB_ok tys tys_ok T d h, by simp [], by simp []⟩ (by kernel_rfl) Tryz.func105 rfl (by kernel_rfl) run_F_conf_Config_rules_7
/-- (odograph/conf.Config).rules$8 -/
noncomputable def F_conf_Config_rules_8 (x_1 : Int) (x_2 : Int) (x_3 : Int) (x_4 : Int) (x_5 : Int) (x_6 : Int) (x_7 : Int) (x_8 : Int) (x_9 : Int) (x_10 : Int) (x_11 : Int) (x_12 : Int) (x_13 : Int) (x_14 : Int) : Option Yd434 :=
  (F_conf_within x_9 (0 : Int) (1048576 : Int)).bind fun t4_15 =>
  some (t4_15, x_1, x_2, x_3, x_4, x_5, x_6, x_7, x_8, x_9, x_10, x_11, x_12, x_13, x_14)
noncomputable def con_F_conf_Config_rules_8 : Con := { f := 106, ps := [.ref 0 0], boxes := [[.dat (.int .i64), .dat (.int .i64), .dat (.int .i64), .dat (.int .i64), .dat (.int .i64), .dat (.int .i64), .dat (.int .i64), .dat (.int .i64), .dat (.int .i64), .dat (.int .i64), .dat (.int .i64), .dat (.int .i64), .dat (.int .i64), .dat (.int .i64)]], ins := Yt433, nin := 14, outs := Yt434, rs := [.dat .bool], nout := 15, F := fun x => F_conf_Config_rules_8 x.1 x.2.1 x.2.2.1 x.2.2.2.1 x.2.2.2.2.1 x.2.2.2.2.2.1 x.2.2.2.2.2.2.1 x.2.2.2.2.2.2.2.1 x.2.2.2.2.2.2.2.2.1 x.2.2.2.2.2.2.2.2.2.1 x.2.2.2.2.2.2.2.2.2.2.1 x.2.2.2.2.2.2.2.2.2.2.2.1 x.2.2.2.2.2.2.2.2.2.2.2.2.1 x.2.2.2.2.2.2.2.2.2.2.2.2.2 }
def hint_F_conf_Config_rules_8 : Hint := H0
theorem run_F_conf_Config_rules_8 : runE ⟨tdGet tys, [con_F_conf_within], []⟩ con_F_conf_Config_rules_8 Tryz.f106 hint_F_conf_Config_rules_8 = con_F_conf_Config_rules_8.F := by
  funext x
  kernel_rfl
theorem ok_F_conf_Config_rules_8 : ConOK Tryz.prog con_F_conf_Config_rules_8 :=
  con_of_run (Γ := ⟨tdGet tys, [con_F_conf_within], []⟩) ⟨fun T d h => tysB_ok tys tys_ok T d h, by simp [ok_F_conf_within], by simp []⟩ (by kernel_rfl) Tryz.func106 rfl (by kernel_rfl) run_F_conf_Config_rules_8
/-- (odograph/conf.Config).rules$9 -/
noncomputable def F_conf_Config_rules_9 (x_1 : Int) (x_2 : Int) (x_3 : Int) (x_4 : Int) (x_5 : Int) (x_6 : Int) (x_7 : Int) (x_8 : Int) (x_9 : Int) (x_10 : Int) (x_11 : Int) (x_12 : Int) (x_13 : Int) (x_14 : Int) : Option Yd434 :=
  (F_conf_within x_10 (1 : Int) (1000 : Int)).bind fun t4_15 =>
  (bif t4_15 then F_conf_within x_13 (1 : Int) (1000 : Int) else some false).bind fun t8_16 =>
  let t9_17 : Bool := (bif t4_15 then t8_16 else false)
  some (t9_17, x_1, x_2, x_3, x_4, x_5, x_6, x_7, x_8, x_9, x_10, x_11, x_12, x_13, x_14)
noncomputable def con_F_conf_Config_rules_9 : Con := { f := 107, ps := [.ref 0 0], boxes := [[.dat (.int .i64), .dat (.int .i64), .dat (.int .i64), .dat (.int .i64), .dat (.int .i64), .dat (.int .i64), .dat (.int .i64), .dat (.int .i64), .dat (.int .i64), .dat (.int .i64), .dat (.int .i64), .dat (.int .i64), .dat (.int .i64), .dat (.int .i64)]], ins := Yt433, nin := 14, outs := Yt434, rs := [.dat .bool], nout := 15, F := fun x => F_conf_Config_rules_9 x.1 x.2.1 x.2.2.1 x.2.2.2.1 x.2.2.2.2.1 x.2.2.2.2.2.1 x.2.2.2.2.2.2.1 x.2.2.2.2.2.2.2.1 x.2.2.2.2.2.2.2.2.1 x.2.2.2.2.2.2.2.2.2.1 x.2.2.2.2.2.2.2.2.2.2.1 x.2.2.2.2.2.2.2.2.2.2.2.1 x.2.2.2.2.2.2.2.2.2.2.2.2.1 x.2.2.2.2.2.2.2.2.2.2.2.2.2 }
def hint_F_conf_Config_rules_9 : Hint := H0
theorem run_F_conf_Config_rules_9 : runE ⟨tdGet tys, [con_F_conf_within], []⟩ con_F_conf_Config_rules_9 Tryz.f107 hint_F_conf_Config_rules_9 = con_F_conf_Config_rules_9.F := by
  funext x
  kernel_rfl
theorem ok_F_conf_Config_rules_9 : ConOK Tryz.prog con_F_conf_Config_rules_9 :=
  con_of_run (Γ := ⟨tdGet tys, [con_F_conf_within], []⟩) ⟨fun T d h => tysB_ok tys tys_ok T d h, by simp [ok_F_conf_within], by simp []⟩ (by kernel_rfl) Tryz.func107 rfl (by kernel_rfl) run_F_conf_Config_rules_9
/-- odograph/num.Size -/
noncomputable def F_num_Size (a_1 : Int) : Option Int :=
  let t4_2 : Bool := (decide (a_1 < (0 : Int)))
  (bif t4_2 then
    let t7_3 : Int := (IntKind.wrap .u64 (0 - (IntKind.wrap .u64 a_1)))
    some t7_3
  else
    some (IntKind.wrap .u64 a_1))
noncomputable def con_F_num_Size : Con := { f := 118, ps := [.dat (.int .i64)], boxes := [], ins := (.int .i64), nin := 1, outs := (.int .u64), rs := [.dat (.int .u64)], nout := 1, F := fun x => F_num_Size x }
def hint_F_num_Size : Hint := H0
theorem run_F_num_Size : runE ⟨tdGet tys, [], []⟩ con_F_num_Size Tryz.f118 hint_F_num_Size = con_F_num_Size.F := by
  funext x
  kernel_rfl
theorem ok_F_num_Size : ConOK Tryz.prog con_F_num_Size :=
  con_of_run (Γ := ⟨tdGet tys, [], []⟩) ⟨fun T d h => tysB_ok tys tys_ok T d h, by simp [], by simp []⟩ (by kernel_rfl) Tryz.func118 rfl (by kernel_rfl) run_F_num_Size
/-- odograph/wide.Mul -/
noncomputable def F_wide_Mul (a_1 : Int) (b_2 : Int) : Option (Int × Int) :=
  let t15_3 : Int := (bits .u64 .and a_1 (4294967295 : Int))
  let t19_4 : Int := (bits .u64 .and b_2 (4294967295 : Int))
  let t22_5 : Int := (IntKind.wrap .u64 (t15_3 * t19_4))
  let t25_6 : Int := (IntKind.wrap .u64 ((a_1.fdiv (2 ^ 32)) * t19_4))
  let t28_7 : Int := (IntKind.wrap .u64 (t25_6 + (t22_5.fdiv (2 ^ 32))))
  let t31_8 : Int := (IntKind.wrap .u64 (t15_3 * (b_2.fdiv (2 ^ 32))))
  let t33_9 : Int := (bits .u64 .and t28_7 (4294967295 : Int))
  let t34_10 : Int := (IntKind.wrap .u64 (t31_8 + t33_9))
  let t37_11 : Int := (IntKind.wrap .u64 ((a_1.fdiv (2 ^ 32)) * (b_2.fdiv (2 ^ 32))))
  let t40_12 : Int := (IntKind.wrap .u64 (t37_11 + (t28_7.fdiv (2 ^ 32))))
  let t43_13 : Int := (IntKind.wrap .u64 (t40_12 + (t34_10.fdiv (2 ^ 32))))
  let t45_14 : Int := (IntKind.wrap .u64 (t34_10 * 2 ^ 32))
  let t47_15 : Int := (bits .u64 .and t22_5 (4294967295 : Int))
  let t48_16 : Int := (bits .u64 .or t45_14 t47_15)
  let w_17 : (Int × Int) := (t43_13, t48_16)
  some w_17
noncomputable def con_F_wide_Mul : Con := { f := 117, ps := [.dat (.int .u64), .dat (.int .u64)], boxes := [], ins := (.pair (.int .u64) (.int .u64)), nin := 2, outs := (.agg (.pair (.int .u64) (.int .u64))), rs := [.dat (.agg (.pair (.int .u64) (.int .u64)))], nout := 1, F := fun x => F_wide_Mul x.1 x.2 }
def hint_F_wide_Mul : Hint := H0
theorem run_F_wide_Mul : runE ⟨tdGet tys, [], []⟩ con_F_wide_Mul Tryz.f117 hint_F_wide_Mul = con_F_wide_Mul.F := by
  funext x
  kernel_rfl
theorem ok_F_wide_Mul : ConOK Tryz.prog con_F_wide_Mul :=
  con_of_run (Γ := ⟨tdGet tys, [], []⟩) ⟨fun T d h => tysB_ok tys tys_ok T d h, by simp [], by simp []⟩ (by kernel_rfl) Tryz.func117 rfl (by kernel_rfl) run_F_wide_Mul
/-- (odograph/wide.U).Shl -/
noncomputable def F_wide_U_Shl (x_1 : (Int × Int)) (n_2 : Int) : Option (Int × Int) :=
  let t7_3 : Bool := (decide (n_2 ≤ (0 : Int)))
  (bif t7_3 then
    some x_1
  else
    let t11_4 : Bool := (decide ((64 : Int) ≤ n_2))
    (bif t11_4 then
      let t15_5 : Int := (IntKind.wrap .i64 (n_2 - (64 : Int)))
      let t16_6 : Int := (IntKind.wrap .u64 t15_5)
      chk none (decide ((0 : Int) ≤ t16_6)) <|
      let t17_7 : Int := (IntKind.wrap .u64 (x_1.2 * 2 ^ (min t16_6.toNat 64)))
      let w_8 : (Int × Int) := (t17_7, (0 : Int))
      some w_8
    else
      chk none (decide ((0 : Int) ≤ (IntKind.wrap .u64 n_2))) <|
      let t23_9 : Int := (IntKind.wrap .u64 (x_1.1 * 2 ^ (min (IntKind.wrap .u64 n_2).toNat 64)))
      let t27_10 : Int := (IntKind.wrap .i64 ((64 : Int) - n_2))
      let t28_11 : Int := (IntKind.wrap .u64 t27_10)
      chk none (decide ((0 : Int) ≤ t28_11)) <|
      let t29_12 : Int := (x_1.2.fdiv (2 ^ (min t28_11.toNat 64)))
      let t30_13 : Int := (bits .u64 .or t23_9 t29_12)
      chk none (decide ((0 : Int) ≤ (IntKind.wrap .u64 n_2))) <|
      let t35_14 : Int := (IntKind.wrap .u64 (x_1.2 * 2 ^ (min (IntKind.wrap .u64 n_2).toNat 64)))
      let w_15 : (Int × Int) := (t30_13, t35_14)
      some w_15))
noncomputable def con_F_wide_U_Shl : Con := { f := 133, ps := [.dat (.agg (.pair (.int .u64) (.int .u64))), .dat (.int .i64)], boxes := [], ins := (.pair (.agg (.pair (.int .u64) (.int .u64))) (.int .i64)), nin := 2, outs := (.agg (.pair (.int .u64) (.int .u64))), rs := [.dat (.agg (.pair (.int .u64) (.int .u64)))], nout := 1, F := fun x => F_wide_U_Shl x.1 x.2 }
def hint_F_wide_U_Shl : Hint := H0
theorem run_F_wide_U_Shl : runE ⟨tdGet tys, [], []⟩ con_F_wide_U_Shl Tryz.f133 hint_F_wide_U_Shl = con_F_wide_U_Shl.F := by
  funext x
  kernel_rfl
theorem ok_F_wide_U_Shl : ConOK Tryz.prog con_F_wide_U_Shl :=
  con_of_run (Γ := ⟨tdGet tys, [], []⟩) ⟨fun T d h => tysB_ok tys tys_ok T d h, by simp [], by simp []⟩ (by kernel_rfl) Tryz.func133 rfl (by kernel_rfl) run_F_wide_U_Shl
/-- (odograph/wide.U).Shr -/
noncomputable def F_wide_U_Shr (x_1 : (Int × Int)) (n_2 : Int) : Option (Int × Int) :=
  let t7_3 : Bool := (decide (n_2 ≤ (0 : Int)))
  (bif t7_3 then
    some x_1
  else
    let t11_4 : Bool := (decide ((64 : Int) ≤ n_2))
    (bif t11_4 then
      let t15_5 : Int := (IntKind.wrap .i64 (n_2 - (64 : Int)))
      let t16_6 : Int := (IntKind.wrap .u64 t15_5)
      chk none (decide ((0 : Int) ≤ t16_6)) <|
      let t17_7 : Int := (x_1.1.fdiv (2 ^ (min t16_6.toNat 64)))
      let w_8 : (Int × Int) := ((0 : Int), t17_7)
      some w_8
    else
      chk none (decide ((0 : Int) ≤ (IntKind.wrap .u64 n_2))) <|
      let t23_9 : Int := (x_1.1.fdiv (2 ^ (min (IntKind.wrap .u64 n_2).toNat 64)))
      chk none (decide ((0 : Int) ≤ (IntKind.wrap .u64 n_2))) <|
      let t28_10 : Int := (x_1.2.fdiv (2 ^ (min (IntKind.wrap .u64 n_2).toNat 64)))
      let t32_11 : Int := (IntKind.wrap .i64 ((64 : Int) - n_2))
      let t33_12 : Int := (IntKind.wrap .u64 t32_11)
      chk none (decide ((0 : Int) ≤ t33_12)) <|
      let t34_13 : Int := (IntKind.wrap .u64 (x_1.1 * 2 ^ (min t33_12.toNat 64)))
      let t35_14 : Int := (bits .u64 .or t28_10 t34_13)
      let w_15 : (Int × Int) := (t23_9, t35_14)
      some w_15))
noncomputable def con_F_wide_U_Shr : Con := { f := 134, ps := [.dat (.agg (.pair (.int .u64) (.int .u64))), .dat (.int .i64)], boxes := [], ins := (.pair (.agg (.pair (.int .u64) (.int .u64))) (.int .i64)), nin := 2, outs := (.agg (.pair (.int .u64) (.int .u64))), rs := [.dat (.agg (.pair (.int .u64) (.int .u64)))], nout := 1, F := fun x => F_wide_U_Shr x.1 x.2 }
def hint_F_wide_U_Shr : Hint := H0
theorem run_F_wide_U_Shr : runE ⟨tdGet tys, [], []⟩ con_F_wide_U_Shr Tryz.f134 hint_F_wide_U_Shr = con_F_wide_U_Shr.F := by
  funext x
  kernel_rfl
theorem ok_F_wide_U_Shr : ConOK Tryz.prog con_F_wide_U_Shr :=
  con_of_run (Γ := ⟨tdGet tys, [], []⟩) ⟨fun T d h => tysB_ok tys tys_ok T d h, by simp [], by simp []⟩ (by kernel_rfl) Tryz.func134 rfl (by kernel_rfl) run_F_wide_U_Shr
/-- (odograph/wide.U).Cmp -/
noncomputable def F_wide_U_Cmp (x_1 : (Int × Int)) (y_2 : (Int × Int)) : Option Int :=
  let t8_3 : Bool := (eqT (.agg (.pair (.int .u64) (.int .u64))) x_1 y_2)
  (bif t8_3 then
    some (0 : Int)
  else
    let t27_4 : Bool := (bif (x_1.1 == y_2.1) then (decide (x_1.2 < y_2.2)) else false)
    let t28_5 : Bool := (bif (decide (x_1.1 < y_2.1)) then true else t27_4)
    (bif t28_5 then
      some (-1 : Int)
    else
      some (1 : Int)))
noncomputable def con_F_wide_U_Cmp : Con := { f := 135, ps := [.dat (.agg (.pair (.int .u64) (.int .u64))), .dat (.agg (.pair (.int .u64) (.int .u64)))], boxes := [], ins := Yt435, nin := 2, outs := (.int .i64), rs := [.dat (.int .i64)], nout := 1, F := fun x => F_wide_U_Cmp x.1 x.2 }
def hint_F_wide_U_Cmp : Hint := H0
theorem run_F_wide_U_Cmp : runE ⟨tdGet tys, [], []⟩ con_F_wide_U_Cmp Tryz.f135 hint_F_wide_U_Cmp = con_F_wide_U_Cmp.F := by
  funext x
  kernel_rfl
theorem ok_F_wide_U_Cmp : ConOK Tryz.prog con_F_wide_U_Cmp :=
  con_of_run (Γ := ⟨tdGet tys, [], []⟩) ⟨fun T d h => tysB_ok tys tys_ok T d h, by simp [], by simp []⟩ (by kernel_rfl) Tryz.func135 rfl (by kernel_rfl) run_F_wide_U_Cmp
/-- (odograph/wide.U).Sub -/
noncomputable def F_wide_U_Sub (x_1 : (Int × Int)) (y_2 : (Int × Int)) : Option ((Int × Int) × Bool) :=
  let t11_3 : Int := (IntKind.wrap .u64 (x_1.1 - y_2.1))
  let t16_4 : Int := (IntKind.wrap .u64 (x_1.2 - y_2.2))
  let w_5 : (Int × Int) := (t11_3, t16_4)
  Option.bind (
    (bif (decide (x_1.2 < y_2.2)) then
      let t25_6 : Int := (IntKind.wrap .u64 (w_5.1 - (1 : Int)))
      some t25_6
    else
      some w_5.1)) fun r_7 =>
  (F_wide_U_Cmp x_1 y_2).bind fun t30_8 =>
  let t31_9 : Bool := (decide (t30_8 < (0 : Int)))
  let w_10 : (Int × Int) := (r_7, w_5.2)
  some (w_10, t31_9)
noncomputable def con_F_wide_U_Sub : Con := { f := 136, ps := [.dat (.agg (.pair (.int .u64) (.int .u64))), .dat (.agg (.pair (.int .u64) (.int .u64)))], boxes := [], ins := Yt435, nin := 2, outs := (.pair (.agg (.pair (.int .u64) (.int .u64))) .bool), rs := [.dat (.agg (.pair (.int .u64) (.int .u64))), .dat .bool], nout := 2, F := fun x => F_wide_U_Sub x.1 x.2 }
def hint_F_wide_U_Sub : Hint := (.mk .plain [H0, (.mk .plain [H0, (.mk .plain [(.mk .plain [H0, (.mk (.join [(0, 23), (0, 25), (0, 26), (0, 24)] [(.normal, [⟨.cell 3 0, (.int .u64), none⟩])]) [])])])])])
theorem run_F_wide_U_Sub : runE ⟨tdGet tys, [con_F_wide_U_Cmp], []⟩ con_F_wide_U_Sub Tryz.f136 hint_F_wide_U_Sub = con_F_wide_U_Sub.F := by
  funext x
  kernel_rfl
theorem ok_F_wide_U_Sub : ConOK Tryz.prog con_F_wide_U_Sub :=
  con_of_run (Γ := ⟨tdGet tys, [con_F_wide_U_Cmp], []⟩) ⟨fun T d h => tysB_ok tys tys_ok T d h, by simp [ok_F_wide_U_Cmp], by simp []⟩ (by kernel_rfl) Tryz.func136 rfl (by kernel_rfl) run_F_wide_U_Sub
/-- (odograph/wide.U).Div -/
noncomputable def F_wide_U_Div (x_1 : (Int × Int)) (d_2 : Int) : Option Yd436 :=
  (bif (d_2 == (0 : Int)) then
    let w_3 : (Int × Int) := ((0 : Int), (0 : Int))
    some (w_3, (0 : Int), (21 : Int))
  else
    let w_4 : (Int × Int) := ((0 : Int), (0 : Int))
    Option.bind (
      loopO (X := Yd2) (fun (s_5 : Yd438) =>
        let b3_6 : Int := s_5.1
        let b2_7 : Int := s_5.2.1
        let b2_8 : Int := s_5.2.2.1
        let b3_9 : Int := s_5.2.2.2.1
        let i_10 : Int := s_5.2.2.2.2
        let t15_11 : Bool := (decide ((0 : Int) ≤ i_10))
        (bif t15_11 then
          (F_wide_U_Shl (b3_6, b3_9) (1 : Int)).bind fun t19_12 =>
          (F_wide_U_Shr x_1 i_10).bind fun t24_13 =>
          let t26_14 : Int := (bits .u64 .and t24_13.2 (1 : Int))
          let t27_15 : Int := (bits .u64 .or t19_12.2 t26_14)
          (F_wide_U_Shl (b2_8, b2_7) (1 : Int)).bind fun t30_16 =>
          (F_wide_U_Cmp (t19_12.1, t27_15) ((0 : Int), d_2)).bind fun t34_17 =>
          let t35_18 : Bool := (decide ((0 : Int) ≤ t34_17))
          Option.bind (
            (bif t35_18 then
              (F_wide_U_Sub (t19_12.1, t27_15) ((0 : Int), d_2)).bind fun t40_19 =>
              let t45_20 : Int := (bits .u64 .or t30_16.2 (1 : Int))
              some (t40_19.1.1, t45_20, t40_19.1.2)
            else
              some (t19_12.1, t30_16.2, t27_15))) fun r_21 =>
          let b3_22 : Int := r_21.1
          let b2_23 : Int := r_21.2.1
          let b3_24 : Int := r_21.2.2
          let t17_25 : Int := (IntKind.wrap .i64 (i_10 - (1 : Int)))
          some (.inl (b3_22, b2_23, t30_16.1, b3_24, t17_25))
        else
          some (.inr (b3_6, b2_7, b2_8, b3_9)))) (w_4.1, (0 : Int), (0 : Int), w_4.2, (127 : Int))) fun r_26 =>
    let b3_27 : Int := r_26.1
    let b2_28 : Int := r_26.2.1
    let b2_29 : Int := r_26.2.2.1
    let b3_30 : Int := r_26.2.2.2
    let w_31 : (Int × Int) := (b2_29, b2_28)
    some (w_31, b3_30, (0 : Int)))
noncomputable def con_F_wide_U_Div : Con := { f := 119, ps := [.dat (.agg (.pair (.int .u64) (.int .u64))), .dat (.int .u64)], boxes := [], ins := (.pair (.agg (.pair (.int .u64) (.int .u64))) (.int .u64)), nin := 2, outs := Yt436, rs := [.dat (.agg (.pair (.int .u64) (.int .u64))), .dat (.int .u64), .dat (.int .i64)], nout := 3, F := fun x => F_wide_U_Div x.1 x.2 }
def hint_F_wide_U_Div : Hint := (.mk .plain [H0, (.mk .plain [H0, (.mk .plain [H0, (.mk .plain [H0, (.mk .plain [(.mk .plain [H0, (.mk .plain [(.mk (.loop [⟨.cell 3 0, (.int .u64), none⟩, ⟨.cell 2 1, (.int .u64), none⟩, ⟨.cell 2 0, (.int .u64), none⟩, ⟨.cell 3 1, (.int .u64), none⟩, ⟨.slot 9, (.int .i64), none⟩] [(0, 30), (0, 36), (0, 42), (0, 39), (0, 45), (0, 14), (0, 17), (0, 23), (0, 20), (0, 26), (0, 29), (0, 35), (0, 32), (0, 38), (0, 41), (0, 44), (0, 16), (0, 19), (0, 22), (0, 28), (0, 25), (0, 31), (0, 34), (0, 40), (0, 37), (0, 43), (0, 46), (0, 15), (0, 21), (0, 18), (0, 24), (0, 27), (0, 33)] [(.exit 0, [⟨.cell 3 0, (.int .u64), none⟩, ⟨.cell 2 1, (.int .u64), none⟩, ⟨.cell 2 0, (.int .u64), none⟩, ⟨.cell 3 1, (.int .u64), none⟩])]) [(.mk .plain [H0, (.mk .plain [(.mk .plain [(.mk .plain [H0, (.mk .plain [H0, (.mk .plain [H0, (.mk .plain [H0, (.mk (.join [(0, 46), (0, 36), (0, 42), (0, 43), (0, 39), (0, 45), (0, 38), (0, 41), (0, 44), (0, 40), (0, 37)] [(.normal, [⟨.cell 3 0, (.int .u64), none⟩, ⟨.cell 2 1, (.int .u64), none⟩, ⟨.cell 3 1, (.int .u64), none⟩])]) [])])])])])])])])])])])])])])])])
theorem run_F_wide_U_Div : runE ⟨tdGet tys, [con_F_wide_U_Shl, con_F_wide_U_Shr, con_F_wide_U_Cmp, con_F_wide_U_Sub], []⟩ con_F_wide_U_Div Tryz.f119 hint_F_wide_U_Div = con_F_wide_U_Div.F := by
  funext x
  kernel_rfl
theorem ok_F_wide_U_Div : ConOK Tryz.prog con_F_wide_U_Div :=
  con_of_run (Γ := ⟨tdGet tys, [con_F_wide_U_Shl, con_F_wide_U_Shr, con_F_wide_U_Cmp, con_F_wide_U_Sub], []⟩) ⟨fun T d h => tysB_ok tys tys_ok T d h, by simp [ok_F_wide_U_Shl, ok_F_wide_U_Shr, ok_F_wide_U_Cmp, ok_F_wide_U_Sub], by simp []⟩ (by kernel_rfl) Tryz.func119 rfl (by kernel_rfl) run_F_wide_U_Div
/-- (odograph/wide.U).Add -/
noncomputable def F_wide_U_Add (x_1 : (Int × Int)) (y_2 : (Int × Int)) : Option ((Int × Int) × Bool) :=
  let t12_3 : Int := (IntKind.wrap .u64 (x_1.2 + y_2.2))
  let w_4 : (Int × Int) := ((0 : Int), t12_3)
  let t18_5 : Int := (IntKind.wrap .u64 (x_1.1 + y_2.1))
  Option.bind (
    (bif (decide (w_4.2 < x_1.2)) then
      let t32_6 : Int := (IntKind.wrap .u64 (t18_5 + (1 : Int)))
      let t39_7 : Bool := (bif (decide (t18_5 < x_1.1)) then true else (t32_6 == (0 : Int)))
      some (t32_6, t39_7)
    else
      some (t18_5, (decide (t18_5 < x_1.1))))) fun r_8 =>
  let b3_9 : Int := r_8.1
  let over_10 : Bool := r_8.2
  let w_11 : (Int × Int) := (b3_9, w_4.2)
  some (w_11, over_10)
noncomputable def con_F_wide_U_Add : Con := { f := 120, ps := [.dat (.agg (.pair (.int .u64) (.int .u64))), .dat (.agg (.pair (.int .u64) (.int .u64)))], boxes := [], ins := Yt435, nin := 2, outs := (.pair (.agg (.pair (.int .u64) (.int .u64))) .bool), rs := [.dat (.agg (.pair (.int .u64) (.int .u64))), .dat .bool], nout := 2, F := fun x => F_wide_U_Add x.1 x.2 }
def hint_F_wide_U_Add : Hint := (.mk .plain [H0, (.mk .plain [H0, (.mk .plain [H0, (.mk .plain [H0, (.mk .plain [(.mk .plain [H0, (.mk (.join [(0, 30), (0, 36), (0, 39), (0, 35), (0, 32), (0, 38), (0, 31), (0, 34), (0, 37), (0, 33)] [(.normal, [⟨.cell 3 0, (.int .u64), none⟩, ⟨.slot 7, .bool, none⟩])]) [])])])])])])])
theorem run_F_wide_U_Add : runE ⟨tdGet tys, [], []⟩ con_F_wide_U_Add Tryz.f120 hint_F_wide_U_Add = con_F_wide_U_Add.F := by
  funext x
  kernel_rfl
theorem ok_F_wide_U_Add : ConOK Tryz.prog con_F_wide_U_Add :=
  con_of_run (Γ := ⟨tdGet tys, [], []⟩) ⟨fun T d h => tysB_ok tys tys_ok T d h, by simp [], by simp []⟩ (by kernel_rfl) Tryz.func120 rfl (by kernel_rfl) run_F_wide_U_Add
/-- odograph/ratio.signed -/
noncomputable def F_ratio_signed (x_1 : (Int × Int)) (below_2 : Bool) : Option (Int × Int) :=
  let t7_3 : (Int × Int) := ((0 : Int), (9223372036854775807 : Int))
  Option.bind (
    (bif below_2 then
      let t11_4 : Int := (IntKind.wrap .u64 (t7_3.2 + (1 : Int)))
      some t11_4
    else
      some t7_3.2)) fun r_5 =>
  (F_wide_U_Cmp x_1 (t7_3.1, r_5)).bind fun t15_6 =>
  let t16_7 : Bool := (decide ((0 : Int) < t15_6))
  (bif t16_7 then
    some ((0 : Int), (20 : Int))
  else
    (bif below_2 then
      let t20_8 : Int := (IntKind.wrap .u64 (0 - x_1.2))
      let t21_9 : Int := (IntKind.wrap .i64 t20_8)
      some (t21_9, (0 : Int))
    else
      let t24_10 : Int := (IntKind.wrap .i64 x_1.2)
      some (t24_10, (0 : Int))))
noncomputable def con_F_ratio_signed : Con := { f := 121, ps := [.dat (.agg (.pair (.int .u64) (.int .u64))), .dat .bool], boxes := [], ins := (.pair (.agg (.pair (.int .u64) (.int .u64))) .bool), nin := 2, outs := (.pair (.int .i64) (.int .i64)), rs := [.dat (.int .i64), .dat (.int .i64)], nout := 2, F := fun x => F_ratio_signed x.1 x.2 }
def hint_F_ratio_signed : Hint := (.mk .plain [H0, (.mk .plain [H0, (.mk .plain [(.mk .plain [H0, (.mk (.join [(0, 12), (0, 10), (0, 9), (0, 11)] [(.normal, [⟨.cell 1 1, (.int .u64), none⟩])]) [])])])])])
theorem run_F_ratio_signed : runE ⟨tdGet tys, [con_F_wide_U_Cmp], []⟩ con_F_ratio_signed Tryz.f121 hint_F_ratio_signed = con_F_ratio_signed.F := by
  funext x
  kernel_rfl
theorem ok_F_ratio_signed : ConOK Tryz.prog con_F_ratio_signed :=
  con_of_run (Γ := ⟨tdGet tys, [con_F_wide_U_Cmp], []⟩) ⟨fun T d h => tysB_ok tys tys_ok T d h, by simp [ok_F_wide_U_Cmp], by simp []⟩ (by kernel_rfl) Tryz.func121 rfl (by kernel_rfl) run_F_ratio_signed
/-- odograph/ratio.divide -/
noncomputable def F_ratio_divide (a_1 : Int) (b_2 : Int) (c_3 : Int) (up_4 : Bool) : Option (Int × Int) :=
  (bif (c_3 == (0 : Int)) then
    some ((0 : Int), (21 : Int))
  else
    let t17_5 : Bool := (decide (a_1 < (0 : Int)))
    let t19_6 : Bool := (decide (b_2 < (0 : Int)))
    let t22_7 : Bool := (decide (c_3 < (0 : Int)))
    let t23_8 : Bool := (!((!(t17_5 == t19_6)) == t22_7))
    (F_num_Size a_1).bind fun t26_9 =>
    (F_num_Size b_2).bind fun t28_10 =>
    (F_wide_Mul t26_9 t28_10).bind fun t29_11 =>
    (F_num_Size c_3).bind fun t31_12 =>
    (F_wide_U_Div t29_11 t31_12).bind fun t32_13 =>
    let t37_14 : Bool := (decide ((0 : Int) < t32_13.2.1))
    let t42_15 : Bool := (bif t37_14 then (!(up_4 == t23_8)) else false)
    Option.bind (
      (bif t42_15 then
        (F_wide_U_Add t32_13.1 ((0 : Int), (1 : Int))).bind fun t46_16 =>
        some (t46_16.1.2, t46_16.1.1)
      else
        some (t32_13.1.2, t32_13.1.1))) fun r_17 =>
    let b0_18 : Int := r_17.1
    let b0_19 : Int := r_17.2
    (F_ratio_signed (b0_19, b0_18) t23_8).bind fun t51_20 =>
    some (t51_20.1, t51_20.2))
noncomputable def con_F_ratio_divide : Con := { f := 88, ps := [.dat (.int .i64), .dat (.int .i64), .dat (.int .i64), .dat .bool], boxes := [], ins := Yt439, nin := 4, outs := (.pair (.int .i64) (.int .i64)), rs := [.dat (.int .i64), .dat (.int .i64)], nout := 2, F := fun x => F_ratio_divide x.1 x.2.1 x.2.2.1 x.2.2.2 }
def hint_F_ratio_divide : Hint := (.mk .plain [H0, (.mk .plain [H0, (.mk .plain [H0, (.mk .plain [H0, (.mk .plain [(.mk .plain [H0, (.mk (.join [(0, 46), (0, 45), (0, 48), (0, 47), (0, 44), (0, 43)] [(.normal, [⟨.cell 0 1, (.int .u64), none⟩, ⟨.cell 0 0, (.int .u64), none⟩])]) [])])])])])])])
theorem run_F_ratio_divide : runE ⟨tdGet tys, [con_F_num_Size, con_F_wide_Mul, con_F_wide_U_Div, con_F_wide_U_Add, con_F_ratio_signed], []⟩ con_F_ratio_divide Tryz.f88 hint_F_ratio_divide = con_F_ratio_divide.F := by
  funext x
  kernel_rfl
theorem ok_F_ratio_divide : ConOK Tryz.prog con_F_ratio_divide :=
  con_of_run (Γ := ⟨tdGet tys, [con_F_num_Size, con_F_wide_Mul, con_F_wide_U_Div, con_F_wide_U_Add, con_F_ratio_signed], []⟩) ⟨fun T d h => tysB_ok tys tys_ok T d h, by simp [ok_F_num_Size, ok_F_wide_Mul, ok_F_wide_U_Div, ok_F_wide_U_Add, ok_F_ratio_signed], by simp []⟩ (by kernel_rfl) Tryz.func88 rfl (by kernel_rfl) run_F_ratio_divide
/-- odograph/ratio.Ceil -/
noncomputable def F_ratio_Ceil (a_1 : Int) (b_2 : Int) (c_3 : Int) : Option (Int × Int) :=
  (F_ratio_divide a_1 b_2 c_3 true).bind fun t11_4 =>
  some (t11_4.1, t11_4.2)
noncomputable def con_F_ratio_Ceil : Con := { f := 130, ps := [.dat (.int .i64), .dat (.int .i64), .dat (.int .i64)], boxes := [], ins := (.pair (.int .i64) (.pair (.int .i64) (.int .i64))), nin := 3, outs := (.pair (.int .i64) (.int .i64)), rs := [.dat (.int .i64), .dat (.int .i64)], nout := 2, F := fun x => F_ratio_Ceil x.1 x.2.1 x.2.2 }
def hint_F_ratio_Ceil : Hint := H0
theorem run_F_ratio_Ceil : runE ⟨tdGet tys, [con_F_ratio_divide], []⟩ con_F_ratio_Ceil Tryz.f130 hint_F_ratio_Ceil = con_F_ratio_Ceil.F := by
  funext x
  kernel_rfl
theorem ok_F_ratio_Ceil : ConOK Tryz.prog con_F_ratio_Ceil :=
  con_of_run (Γ := ⟨tdGet tys, [con_F_ratio_divide], []⟩) ⟨fun T d h => tysB_ok tys tys_ok T d h, by simp [ok_F_ratio_divide], by simp []⟩ (by kernel_rfl) Tryz.func130 rfl (by kernel_rfl) run_F_ratio_Ceil
/-- (odograph/conf.Config).pulse -/
noncomputable def F_conf_Config_pulse (c_1 : Yd433) : Option Int :=
  (F_ratio_Ceil c_1.2.2.1 (1 : Int) c_1.1).bind fun t10_2 =>
  some t10_2.1
noncomputable def con_F_conf_Config_pulse : Con := { f := 109, ps := [.dat (.agg Yt433)], boxes := [], ins := (.agg Yt433), nin := 1, outs := (.int .i64), rs := [.dat (.int .i64)], nout := 1, F := fun x => F_conf_Config_pulse x }
def hint_F_conf_Config_pulse : Hint := H0
theorem run_F_conf_Config_pulse : runE ⟨tdGet tys, [con_F_ratio_Ceil], []⟩ con_F_conf_Config_pulse Tryz.f109 hint_F_conf_Config_pulse = con_F_conf_Config_pulse.F := by
  funext x
  kernel_rfl
theorem ok_F_conf_Config_pulse : ConOK Tryz.prog con_F_conf_Config_pulse :=
  con_of_run (Γ := ⟨tdGet tys, [con_F_ratio_Ceil], []⟩) ⟨fun T d h => tysB_ok tys tys_ok T d h, by simp [ok_F_ratio_Ceil], by simp []⟩ (by kernel_rfl) Tryz.func109 rfl (by kernel_rfl) run_F_conf_Config_pulse
/-- (odograph/conf.Config).rules$10 -/
noncomputable def F_conf_Config_rules_10 (x_1 : Int) (x_2 : Int) (x_3 : Int) (x_4 : Int) (x_5 : Int) (x_6 : Int) (x_7 : Int) (x_8 : Int) (x_9 : Int) (x_10 : Int) (x_11 : Int) (x_12 : Int) (x_13 : Int) (x_14 : Int) : Option Yd434 :=
  let t4_15 : Yd433 := (x_1, (x_2, (x_3, (x_4, (x_5, (x_6, (x_7, (x_8, (x_9, (x_10, (x_11, (x_12, (x_13, x_14)))))))))))))
  (F_conf_Config_pulse t4_15).bind fun t5_16 =>
  let t8_17 : Int := (IntKind.wrap .i64 ((3 : Int) * x_4))
  let t9_18 : Int := (if t8_17 > t5_16 then t8_17 else t5_16)
  (F_conf_within x_11 t9_18 (16777216 : Int)).bind fun t10_19 =>
  some (t10_19, x_1, x_2, x_3, x_4, x_5, x_6, x_7, x_8, x_9, x_10, x_11, x_12, x_13, x_14)
noncomputable def con_F_conf_Config_rules_10 : Con := { f := 108, ps := [.ref 0 0], boxes := [[.dat (.int .i64), .dat (.int .i64), .dat (.int .i64), .dat (.int .i64), .dat (.int .i64), .dat (.int .i64), .dat (.int .i64), .dat (.int .i64), .dat (.int .i64), .dat (.int .i64), .dat (.int .i64), .dat (.int .i64), .dat (.int .i64), .dat (.int .i64)]], ins := Yt433, nin := 14, outs := Yt434, rs := [.dat .bool], nout := 15, F := fun x => F_conf_Config_rules_10 x.1 x.2.1 x.2.2.1 x.2.2.2.1 x.2.2.2.2.1 x.2.2.2.2.2.1 x.2.2.2.2.2.2.1 x.2.2.2.2.2.2.2.1 x.2.2.2.2.2.2.2.2.1 x.2.2.2.2.2.2.2.2.2.1 x.2.2.2.2.2.2.2.2.2.2.1 x.2.2.2.2.2.2.2.2.2.2.2.1 x.2.2.2.2.2.2.2.2.2.2.2.2.1 x.2.2.2.2.2.2.2.2.2.2.2.2.2 }
def hint_F_conf_Config_rules_10 : Hint := H0
theorem run_F_conf_Config_rules_10 : runE ⟨tdGet tys, [con_F_conf_Config_pulse, con_F_conf_within], []⟩ con_F_conf_Config_rules_10 Tryz.f108 hint_F_conf_Config_rules_10 = con_F_conf_Config_rules_10.F := by
  funext x
  kernel_rfl
theorem ok_F_conf_Config_rules_10 : ConOK Tryz.prog con_F_conf_Config_rules_10 :=
  con_of_run (Γ := ⟨tdGet tys, [con_F_conf_Config_pulse, con_F_conf_within], []⟩) ⟨fun T d h => tysB_ok tys tys_ok T d h, by simp [ok_F_conf_Config_pulse, ok_F_conf_within], by simp []⟩ (by kernel_rfl) Tryz.func108 rfl (by kernel_rfl) run_F_conf_Config_rules_10
/-- (odograph/conf.Config).rules$11 -/
noncomputable def F_conf_Config_rules_11 (x_1 : Int) (x_2 : Int) (x_3 : Int) (x_4 : Int) (x_5 : Int) (x_6 : Int) (x_7 : Int) (x_8 : Int) (x_9 : Int) (x_10 : Int) (x_11 : Int) (x_12 : Int) (x_13 : Int) (x_14 : Int) : Option Yd434 :=
  (F_conf_within x_12 (0 : Int) (1073741824 : Int)).bind fun t4_15 =>
  some (t4_15, x_1, x_2, x_3, x_4, x_5, x_6, x_7, x_8, x_9, x_10, x_11, x_12, x_13, x_14)
noncomputable def con_F_conf_Config_rules_11 : Con := { f := 110, ps := [.ref 0 0], boxes := [[.dat (.int .i64), .dat (.int .i64), .dat (.int .i64), .dat (.int .i64), .dat (.int .i64), .dat (.int .i64), .dat (.int .i64), .dat (.int .i64), .dat (.int .i64), .dat (.int .i64), .dat (.int .i64), .dat (.int .i64), .dat (.int .i64), .dat (.int .i64)]], ins := Yt433, nin := 14, outs := Yt434, rs := [.dat .bool], nout := 15, F := fun x => F_conf_Config_rules_11 x.1 x.2.1 x.2.2.1 x.2.2.2.1 x.2.2.2.2.1 x.2.2.2.2.2.1 x.2.2.2.2.2.2.1 x.2.2.2.2.2.2.2.1 x.2.2.2.2.2.2.2.2.1 x.2.2.2.2.2.2.2.2.2.1 x.2.2.2.2.2.2.2.2.2.2.1 x.2.2.2.2.2.2.2.2.2.2.2.1 x.2.2.2.2.2.2.2.2.2.2.2.2.1 x.2.2.2.2.2.2.2.2.2.2.2.2.2 }
def hint_F_conf_Config_rules_11 : Hint := H0
theorem run_F_conf_Config_rules_11 : runE ⟨tdGet tys, [con_F_conf_within], []⟩ con_F_conf_Config_rules_11 Tryz.f110 hint_F_conf_Config_rules_11 = con_F_conf_Config_rules_11.F := by
  funext x
  kernel_rfl
theorem ok_F_conf_Config_rules_11 : ConOK Tryz.prog con_F_conf_Config_rules_11 :=
  con_of_run (Γ := ⟨tdGet tys, [con_F_conf_within], []⟩) ⟨fun T d h => tysB_ok tys tys_ok T d h, by simp [ok_F_conf_within], by simp []⟩ (by kernel_rfl) Tryz.func110 rfl (by kernel_rfl) run_F_conf_Config_rules_11
/-- (odograph/conf.Config).rules$12 -/
noncomputable def F_conf_Config_rules_12 (x_1 : Int) (x_2 : Int) (x_3 : Int) (x_4 : Int) (x_5 : Int) (x_6 : Int) (x_7 : Int) (x_8 : Int) (x_9 : Int) (x_10 : Int) (x_11 : Int) (x_12 : Int) (x_13 : Int) (x_14 : Int) : Option Yd434 :=
  (F_conf_within x_14 (1 : Int) (1048576 : Int)).bind fun t4_15 =>
  some (t4_15, x_1, x_2, x_3, x_4, x_5, x_6, x_7, x_8, x_9, x_10, x_11, x_12, x_13, x_14)
noncomputable def con_F_conf_Config_rules_12 : Con := { f := 111, ps := [.ref 0 0], boxes := [[.dat (.int .i64), .dat (.int .i64), .dat (.int .i64), .dat (.int .i64), .dat (.int .i64), .dat (.int .i64), .dat (.int .i64), .dat (.int .i64), .dat (.int .i64), .dat (.int .i64), .dat (.int .i64), .dat (.int .i64), .dat (.int .i64), .dat (.int .i64)]], ins := Yt433, nin := 14, outs := Yt434, rs := [.dat .bool], nout := 15, F := fun x => F_conf_Config_rules_12 x.1 x.2.1 x.2.2.1 x.2.2.2.1 x.2.2.2.2.1 x.2.2.2.2.2.1 x.2.2.2.2.2.2.1 x.2.2.2.2.2.2.2.1 x.2.2.2.2.2.2.2.2.1 x.2.2.2.2.2.2.2.2.2.1 x.2.2.2.2.2.2.2.2.2.2.1 x.2.2.2.2.2.2.2.2.2.2.2.1 x.2.2.2.2.2.2.2.2.2.2.2.2.1 x.2.2.2.2.2.2.2.2.2.2.2.2.2 }
def hint_F_conf_Config_rules_12 : Hint := H0
theorem run_F_conf_Config_rules_12 : runE ⟨tdGet tys, [con_F_conf_within], []⟩ con_F_conf_Config_rules_12 Tryz.f111 hint_F_conf_Config_rules_12 = con_F_conf_Config_rules_12.F := by
  funext x
  kernel_rfl
theorem ok_F_conf_Config_rules_12 : ConOK Tryz.prog con_F_conf_Config_rules_12 :=
  con_of_run (Γ := ⟨tdGet tys, [con_F_conf_within], []⟩) ⟨fun T d h => tysB_ok tys tys_ok T d h, by simp [ok_F_conf_within], by simp []⟩ (by kernel_rfl) Tryz.func111 rfl (by kernel_rfl) run_F_conf_Config_rules_12
/-- (odograph/conf.Config).Check -/
noncomputable def F_conf_Config_Check (c_1 : Yd433) : Option (Int × Int) :=
  (F_conf_Config_rules c_1).bind fun t7_2 =>
  (F_conf_Config_rules_1 t7_2.1 t7_2.2.1 t7_2.2.2.1 t7_2.2.2.2.1 t7_2.2.2.2.2.1 t7_2.2.2.2.2.2.1 t7_2.2.2.2.2.2.2.1 t7_2.2.2.2.2.2.2.2.1 t7_2.2.2.2.2.2.2.2.2.1 t7_2.2.2.2.2.2.2.2.2.2.1 t7_2.2.2.2.2.2.2.2.2.2.2.1 t7_2.2.2.2.2.2.2.2.2.2.2.2.1 t7_2.2.2.2.2.2.2.2.2.2.2.2.2.1 t7_2.2.2.2.2.2.2.2.2.2.2.2.2.2).bind fun t15_3 =>
  (bif (!t15_3.1) then
    some ((50 : Int), (1 : Int))
  else
    (F_conf_Config_rules_2 t15_3.2.1 t15_3.2.2.1 t15_3.2.2.2.1 t15_3.2.2.2.2.1 t15_3.2.2.2.2.2.1 t15_3.2.2.2.2.2.2.1 t15_3.2.2.2.2.2.2.2.1 t15_3.2.2.2.2.2.2.2.2.1 t15_3.2.2.2.2.2.2.2.2.2.1 t15_3.2.2.2.2.2.2.2.2.2.2.1 t15_3.2.2.2.2.2.2.2.2.2.2.2.1 t15_3.2.2.2.2.2.2.2.2.2.2.2.2.1 t15_3.2.2.2.2.2.2.2.2.2.2.2.2.2.1 t15_3.2.2.2.2.2.2.2.2.2.2.2.2.2.2).bind fun t15_4 =>
    (bif (!t15_4.1) then
      some ((50 : Int), (2 : Int))
    else
      (F_conf_Config_rules_3 t15_4.2.1 t15_4.2.2.1 t15_4.2.2.2.1 t15_4.2.2.2.2.1 t15_4.2.2.2.2.2.1 t15_4.2.2.2.2.2.2.1 t15_4.2.2.2.2.2.2.2.1 t15_4.2.2.2.2.2.2.2.2.1 t15_4.2.2.2.2.2.2.2.2.2.1 t15_4.2.2.2.2.2.2.2.2.2.2.1 t15_4.2.2.2.2.2.2.2.2.2.2.2.1 t15_4.2.2.2.2.2.2.2.2.2.2.2.2.1 t15_4.2.2.2.2.2.2.2.2.2.2.2.2.2.1 t15_4.2.2.2.2.2.2.2.2.2.2.2.2.2.2).bind fun t15_5 =>
      (bif (!t15_5.1) then
        some ((50 : Int), (3 : Int))
      else
        (F_conf_Config_rules_4 t15_5.2.1 t15_5.2.2.1 t15_5.2.2.2.1 t15_5.2.2.2.2.1 t15_5.2.2.2.2.2.1 t15_5.2.2.2.2.2.2.1 t15_5.2.2.2.2.2.2.2.1 t15_5.2.2.2.2.2.2.2.2.1 t15_5.2.2.2.2.2.2.2.2.2.1 t15_5.2.2.2.2.2.2.2.2.2.2.1 t15_5.2.2.2.2.2.2.2.2.2.2.2.1 t15_5.2.2.2.2.2.2.2.2.2.2.2.2.1 t15_5.2.2.2.2.2.2.2.2.2.2.2.2.2.1 t15_5.2.2.2.2.2.2.2.2.2.2.2.2.2.2).bind fun t15_6 =>
        (bif (!t15_6.1) then
          some ((50 : Int), (4 : Int))
        else
          (F_conf_Config_rules_5 t15_6.2.1 t15_6.2.2.1 t15_6.2.2.2.1 t15_6.2.2.2.2.1 t15_6.2.2.2.2.2.1 t15_6.2.2.2.2.2.2.1 t15_6.2.2.2.2.2.2.2.1 t15_6.2.2.2.2.2.2.2.2.1 t15_6.2.2.2.2.2.2.2.2.2.1 t15_6.2.2.2.2.2.2.2.2.2.2.1 t15_6.2.2.2.2.2.2.2.2.2.2.2.1 t15_6.2.2.2.2.2.2.2.2.2.2.2.2.1 t15_6.2.2.2.2.2.2.2.2.2.2.2.2.2.1 t15_6.2.2.2.2.2.2.2.2.2.2.2.2.2.2).bind fun t15_7 =>
          (bif (!t15_7.1) then
            some ((50 : Int), (5 : Int))
          else
            (F_conf_Config_rules_6 t15_7.2.1 t15_7.2.2.1 t15_7.2.2.2.1 t15_7.2.2.2.2.1 t15_7.2.2.2.2.2.1 t15_7.2.2.2.2.2.2.1 t15_7.2.2.2.2.2.2.2.1 t15_7.2.2.2.2.2.2.2.2.1 t15_7.2.2.2.2.2.2.2.2.2.1 t15_7.2.2.2.2.2.2.2.2.2.2.1 t15_7.2.2.2.2.2.2.2.2.2.2.2.1 t15_7.2.2.2.2.2.2.2.2.2.2.2.2.1 t15_7.2.2.2.2.2.2.2.2.2.2.2.2.2.1 t15_7.2.2.2.2.2.2.2.2.2.2.2.2.2.2).bind fun t15_8 =>
            (bif (!t15_8.1) then
              some ((50 : Int), (6 : Int))
            else
              (F_conf_Config_rules_7 t15_8.2.1 t15_8.2.2.1 t15_8.2.2.2.1 t15_8.2.2.2.2.1 t15_8.2.2.2.2.2.1 t15_8.2.2.2.2.2.2.1 t15_8.2.2.2.2.2.2.2.1 t15_8.2.2.2.2.2.2.2.2.1 t15_8.2.2.2.2.2.2.2.2.2.1 t15_8.2.2.2.2.2.2.2.2.2.2.1 t15_8.2.2.2.2.2.2.2.2.2.2.2.1 t15_8.2.2.2.2.2.2.2.2.2.2.2.2.1 t15_8.2.2.2.2.2.2.2.2.2.2.2.2.2.1 t15_8.2.2.2.2.2.2.2.2.2.2.2.2.2.2).bind fun t15_9 =>
              (bif (!t15_9.1) then
                some ((50 : Int), (7 : Int))
              else
                (F_conf_Config_rules_8 t15_9.2.1 t15_9.2.2.1 t15_9.2.2.2.1 t15_9.2.2.2.2.1 t15_9.2.2.2.2.2.1 t15_9.2.2.2.2.2.2.1 t15_9.2.2.2.2.2.2.2.1 t15_9.2.2.2.2.2.2.2.2.1 t15_9.2.2.2.2.2.2.2.2.2.1 t15_9.2.2.2.2.2.2.2.2.2.2.1 t15_9.2.2.2.2.2.2.2.2.2.2.2.1 t15_9.2.2.2.2.2.2.2.2.2.2.2.2.1 t15_9.2.2.2.2.2.2.2.2.2.2.2.2.2.1 t15_9.2.2.2.2.2.2.2.2.2.2.2.2.2.2).bind fun t15_10 =>
                (bif (!t15_10.1) then
                  some ((50 : Int), (8 : Int))
                else
                  (F_conf_Config_rules_9 t15_10.2.1 t15_10.2.2.1 t15_10.2.2.2.1 t15_10.2.2.2.2.1 t15_10.2.2.2.2.2.1 t15_10.2.2.2.2.2.2.1 t15_10.2.2.2.2.2.2.2.1 t15_10.2.2.2.2.2.2.2.2.1 t15_10.2.2.2.2.2.2.2.2.2.1 t15_10.2.2.2.2.2.2.2.2.2.2.1 t15_10.2.2.2.2.2.2.2.2.2.2.2.1 t15_10.2.2.2.2.2.2.2.2.2.2.2.2.1 t15_10.2.2.2.2.2.2.2.2.2.2.2.2.2.1 t15_10.2.2.2.2.2.2.2.2.2.2.2.2.2.2).bind fun t15_11 =>
                  (bif (!t15_11.1) then
                    some ((50 : Int), (9 : Int))
                  else
                    (F_conf_Config_rules_10 t15_11.2.1 t15_11.2.2.1 t15_11.2.2.2.1 t15_11.2.2.2.2.1 t15_11.2.2.2.2.2.1 t15_11.2.2.2.2.2.2.1 t15_11.2.2.2.2.2.2.2.1 t15_11.2.2.2.2.2.2.2.2.1 t15_11.2.2.2.2.2.2.2.2.2.1 t15_11.2.2.2.2.2.2.2.2.2.2.1 t15_11.2.2.2.2.2.2.2.2.2.2.2.1 t15_11.2.2.2.2.2.2.2.2.2.2.2.2.1 t15_11.2.2.2.2.2.2.2.2.2.2.2.2.2.1 t15_11.2.2.2.2.2.2.2.2.2.2.2.2.2.2).bind fun t15_12 =>
                    (bif (!t15_12.1) then
                      some ((50 : Int), (10 : Int))
                    else
                      (F_conf_Config_rules_11 t15_12.2.1 t15_12.2.2.1 t15_12.2.2.2.1 t15_12.2.2.2.2.1 t15_12.2.2.2.2.2.1 t15_12.2.2.2.2.2.2.1 t15_12.2.2.2.2.2.2.2.1 t15_12.2.2.2.2.2.2.2.2.1 t15_12.2.2.2.2.2.2.2.2.2.1 t15_12.2.2.2.2.2.2.2.2.2.2.1 t15_12.2.2.2.2.2.2.2.2.2.2.2.1 t15_12.2.2.2.2.2.2.2.2.2.2.2.2.1 t15_12.2.2.2.2.2.2.2.2.2.2.2.2.2.1 t15_12.2.2.2.2.2.2.2.2.2.2.2.2.2.2).bind fun t15_13 =>
                      (bif (!t15_13.1) then
                        some ((50 : Int), (11 : Int))
                      else
                        (F_conf_Config_rules_12 t15_13.2.1 t15_13.2.2.1 t15_13.2.2.2.1 t15_13.2.2.2.2.1 t15_13.2.2.2.2.2.1 t15_13.2.2.2.2.2.2.1 t15_13.2.2.2.2.2.2.2.1 t15_13.2.2.2.2.2.2.2.2.1 t15_13.2.2.2.2.2.2.2.2.2.1 t15_13.2.2.2.2.2.2.2.2.2.2.1 t15_13.2.2.2.2.2.2.2.2.2.2.2.1 t15_13.2.2.2.2.2.2.2.2.2.2.2.2.1 t15_13.2.2.2.2.2.2.2.2.2.2.2.2.2.1 t15_13.2.2.2.2.2.2.2.2.2.2.2.2.2.2).bind fun t15_14 =>
                        (bif (!t15_14.1) then
                          some ((50 : Int), (12 : Int))
                        else
                          some ((0 : Int), (0 : Int))))))))))))))
noncomputable def con_F_conf_Config_Check : Con := { f := 50, ps := [.dat (.agg Yt433)], boxes := [], ins := (.agg Yt433), nin := 1, outs := (.pair (.int .i64) (.int .i64)), rs := [.dat (.int .i64), .dat (.int .i64)], nout := 2, F := fun x => F_conf_Config_Check x }
def hint_F_conf_Config_Check : Hint := (.mk .plain [H0, (.mk .plain [(.mk .plain [H0, (.mk .plain [(.mk (.unroll 13) [])])])])])
theorem run_F_conf_Config_Check : runE ⟨tdGet tys, [con_F_conf_Config_rules_1, con_F_conf_Config_rules_2, con_F_conf_Config_rules_3, con_F_conf_Config_rules_4, con_F_conf_Config_rules_5, con_F_conf_Config_rules_6, con_F_conf_Config_rules_7, con_F_conf_Config_rules_8, con_F_conf_Config_rules_9, con_F_conf_Config_rules_10, con_F_conf_Config_rules_11, con_F_conf_Config_rules_12], [con_F_conf_Config_rules]⟩ con_F_conf_Config_Check Tryz.f50 hint_F_conf_Config_Check = con_F_conf_Config_Check.F := by
  funext x
  kernel_rfl
theorem ok_F_conf_Config_Check : ConOK Tryz.prog con_F_conf_Config_Check :=
  con_of_run (Γ := ⟨tdGet tys, [con_F_conf_Config_rules_1, con_F_conf_Config_rules_2, con_F_conf_Config_rules_3, con_F_conf_Config_rules_4, con_F_conf_Config_rules_5, con_F_conf_Config_rules_6, con_F_conf_Config_rules_7, con_F_conf_Config_rules_8, con_F_conf_Config_rules_9, con_F_conf_Config_rules_10, con_F_conf_Config_rules_11, con_F_conf_Config_rules_12], [con_F_conf_Config_rules]⟩) ⟨fun T d h => tysB_ok tys tys_ok T d h, by simp [ok_F_conf_Config_rules_1, ok_F_conf_Config_rules_2, ok_F_conf_Config_rules_3, ok_F_conf_Config_rules_4, ok_F_conf_Config_rules_5, ok_F_conf_Config_rules_6, ok_F_conf_Config_rules_7, ok_F_conf_Config_rules_8, ok_F_conf_Config_rules_9, ok_F_conf_Config_rules_10, ok_F_conf_Config_rules_11, ok_F_conf_Config_rules_12], by simp [ok_F_conf_Config_rules]⟩ (by kernel_rfl) Tryz.func50 rfl (by kernel_rfl) run_F_conf_Config_Check
/-- odograph/grade.Check -/
noncomputable def F_grade_Check (l_1 : (List (Int × Int))) (length_2 : Int) : Option Int :=
  let t9_3 : Bool := ((l_1.length : Int) == (0 : Int))
  let t13_4 : Bool := (decide ((64 : Int) < (l_1.length : Int)))
  let t14_5 : Bool := (bif t9_3 then true else t13_4)
  chk none ((true && (decide ((0 : Int) < (l_1.length : Int)))) || !(!t14_5)) <|
  let e_6 : (Int × Int) := (l_1.getD (0 : Int).toNat ((0 : Int), (0 : Int)))
  let t21_7 : Bool := (bif t14_5 then true else (e_6.1 != (0 : Int)))
  (bif t21_7 then
    some (11 : Int)
  else
    Option.bind (α := Int ⊕ Unit) (
      loopO (X := Int ⊕ Unit) (fun (s_8 : Int) =>
        let t25_9 : Bool := (decide (s_8 < (l_1.length : Int)))
        (bif t25_9 then
          chk none ((decide ((0 : Int) ≤ s_8)) && (decide (s_8 < (l_1.length : Int)))) <|
          let t28_10 : (Int × Int) := (l_1.getD s_8.toNat ((0 : Int), (0 : Int)))
          let t31_11 : Bool := (decide (t28_10.2 < (-1048576 : Int)))
          let t35_12 : Bool := (decide ((1048576 : Int) < t28_10.2))
          let t36_13 : Bool := (bif t31_11 then true else t35_12)
          let t41_14 : Bool := (decide (length_2 ≤ t28_10.1))
          let t42_15 : Bool := (bif t36_13 then true else t41_14)
          let t45_16 : Bool := (decide ((0 : Int) < s_8))
          let t51_17 : Int := (IntKind.wrap .i64 (s_8 - (1 : Int)))
          chk none (((decide ((0 : Int) ≤ t51_17)) && (decide (t51_17 < (l_1.length : Int)))) || !(t45_16 && !t42_15)) <|
          let e_18 : (Int × Int) := (l_1.getD t51_17.toNat ((0 : Int), (0 : Int)))
          let t55_19 : Bool := (decide (t28_10.1 ≤ e_18.1))
          let t56_20 : Bool := (bif t45_16 then t55_19 else false)
          let t57_21 : Bool := (bif t42_15 then true else t56_20)
          (bif t57_21 then
            some (.inr (.inl (11 : Int)))
          else
            let t58_22 : Int := (IntKind.wrap .i64 (s_8 + (1 : Int)))
            some (.inl t58_22))
        else
          some (.inr (.inr ())))) (0 : Int)) fun z => match z with
    | .inl r_23 =>
      some r_23
    | .inr _ =>
      some (0 : Int))
noncomputable def con_F_grade_Check : Con := { f := 112, ps := [.dat (.slice (.agg (.pair (.int .i64) (.int .i64)))), .dat (.int .i64)], boxes := [], ins := (.pair (.slice (.agg (.pair (.int .i64) (.int .i64)))) (.int .i64)), nin := 2, outs := (.int .i64), rs := [.dat (.int .i64)], nout := 1, F := fun x => F_grade_Check x.1 x.2 }
def hint_F_grade_Check : Hint := (.mk .plain [H0, (.mk .plain [H0, (.mk .plain [(.mk .plain [H0, (.mk .plain [(.mk (.loop [⟨.slot 24, (.int .i64), none⟩] [(0, 30), (0, 36), (0, 42), (0, 39), (0, 45), (0, 48), (0, 54), (0, 51), (0, 57), (0, 5), (0, 26), (0, 29), (0, 35), (0, 32), (0, 38), (0, 41), (0, 47), (0, 44), (0, 50), (0, 53), (0, 56), (0, 4), (0, 28), (0, 25), (0, 31), (0, 34), (0, 40), (0, 37), (0, 43), (0, 46), (0, 52), (0, 49), (0, 55), (0, 6), (0, 27), (0, 33), (0, 58)] [(.ret, [⟨.slot 4, (.int .i64), none⟩]), (.exit 0, [])]) [])])])])])])
theorem run_F_grade_Check : runE ⟨tdGet tys, [], []⟩ con_F_grade_Check Tryz.f112 hint_F_grade_Check = con_F_grade_Check.F := by
  funext x
  kernel_rfl
theorem ok_F_grade_Check : ConOK Tryz.prog con_F_grade_Check :=
  con_of_run (Γ := ⟨tdGet tys, [], []⟩) ⟨fun T d h => tysB_ok tys tys_ok T d h, by simp [], by simp []⟩ (by kernel_rfl) Tryz.func112 rfl (by kernel_rfl) run_F_grade_Check
/-- (odograph/track.Track).segment -/
noncomputable def F_track_Track_segment (t_1 : Yd440) (s_2 : Yd1) : Option Bool :=
  let t9_3 : Bool := (decide (s_2.1 < (1 : Int)))
  let t13_4 : Bool := (decide ((1099511627776 : Int) < s_2.1))
  let t14_5 : Bool := (bif t9_3 then true else t13_4)
  (bif !t14_5 then F_grade_Check s_2.2.1 s_2.1 else some (0 : Int)).bind fun t20_6 =>
  let t22_7 : Bool := (bif t14_5 then true else (t20_6 != (0 : Int)))
  let t27_8 : Bool := (decide ((2 : Int) < (s_2.2.2.length : Int)))
  let t28_9 : Bool := (bif t22_7 then true else t27_8)
  (bif t28_9 then
    some false
  else
    Option.bind (α := Bool ⊕ Unit) (
      loopO (X := Bool ⊕ Unit) (fun (s_10 : Int) =>
        let t33_11 : Bool := (decide (s_10 < (s_2.2.2.length : Int)))
        (bif t33_11 then
          chk none ((decide ((0 : Int) ≤ s_10)) && (decide (s_10 < (s_2.2.2.length : Int)))) <|
          let t36_12 : Int := (s_2.2.2.getD s_10.toNat (0 : Int))
          let t38_13 : Bool := (decide (t36_12 < (0 : Int)))
          let t44_14 : Bool := (decide ((t_1.1.length : Int) ≤ t36_12))
          let t45_15 : Bool := (bif t38_13 then true else t44_14)
          let t48_16 : Bool := (decide ((0 : Int) < s_10))
          let t54_17 : Int := (IntKind.wrap .i64 (s_10 - (1 : Int)))
          chk none (((decide ((0 : Int) ≤ t54_17)) && (decide (t54_17 < (s_2.2.2.length : Int)))) || !(t48_16 && !t45_15)) <|
          let t56_18 : Int := (s_2.2.2.getD t54_17.toNat (0 : Int))
          let t57_19 : Bool := (decide (t36_12 ≤ t56_18))
          let t58_20 : Bool := (bif t48_16 then t57_19 else false)
          let t59_21 : Bool := (bif t45_15 then true else t58_20)
          (bif t59_21 then
            some (.inr (.inl false))
          else
            let t60_22 : Int := (IntKind.wrap .i64 (s_10 + (1 : Int)))
            some (.inl t60_22))
        else
          some (.inr (.inr ())))) (0 : Int)) fun z => match z with
    | .inl r_23 =>
      some r_23
    | .inr _ =>
      some true)
noncomputable def con_F_track_Track_segment : Con := { f := 76, ps := [.dat (.agg Yt440), .dat (.agg Yt1)], boxes := [], ins := Yt441, nin := 2, outs := .bool, rs := [.dat .bool], nout := 1, F := fun x => F_track_Track_segment x.1 x.2 }
def hint_F_track_Track_segment : Hint := (.mk .plain [H0, (.mk .plain [H0, (.mk .plain [(.mk .plain [H0, (.mk .plain [(.mk (.loop [⟨.slot 32, (.int .i64), none⟩] [(0, 36), (0, 42), (0, 4), (0, 39), (0, 45), (0, 48), (0, 54), (0, 51), (0, 57), (0, 5), (0, 34), (0, 40), (0, 37), (0, 43), (0, 46), (0, 52), (0, 49), (0, 55), (0, 35), (0, 58), (0, 38), (0, 6), (0, 41), (0, 47), (0, 33), (0, 44), (0, 50), (0, 53), (0, 59), (0, 56), (0, 60)] [(.ret, [⟨.slot 4, .bool, none⟩]), (.exit 0, [])]) [])])])])])])
theorem run_F_track_Track_segment : runE ⟨tdGet tys, [con_F_grade_Check], []⟩ con_F_track_Track_segment Tryz.f76 hint_F_track_Track_segment = con_F_track_Track_segment.F := by
  funext x
  kernel_rfl
theorem ok_F_track_Track_segment : ConOK Tryz.prog con_F_track_Track_segment :=
  con_of_run (Γ := ⟨tdGet tys, [con_F_grade_Check], []⟩) ⟨fun T d h => tysB_ok tys tys_ok T d h, by simp [ok_F_grade_Check], by simp []⟩ (by kernel_rfl) Tryz.func76 rfl (by kernel_rfl) run_F_track_Track_segment
/-- (odograph/track.Track).group -/
noncomputable def F_track_Track_group (t_1 : Yd440) (i_2 : Int) (g_3 : Yd4) : Option Bool :=
  let t10_4 : Bool := (decide (g_3.1 < (1 : Int)))
  let t14_5 : Bool := (decide ((65535 : Int) < g_3.1))
  let t15_6 : Bool := (bif t10_4 then true else t14_5)
  let t18_7 : Bool := (decide ((0 : Int) < i_2))
  let t25_8 : Int := (IntKind.wrap .i64 (i_2 - (1 : Int)))
  chk none (((decide ((0 : Int) ≤ t25_8)) && (decide (t25_8 < (t_1.2.length : Int)))) || !(t18_7 && !t15_6)) <|
  let e_9 : Yd4 := (t_1.2.getD t25_8.toNat ((0 : Int), ((0 : Int), ((0 : Int), ((0 : Int), (0 : Int))))))
  let t30_10 : Bool := (bif t18_7 then (decide (g_3.1 ≤ e_9.1)) else false)
  let t31_11 : Bool := (bif t15_6 then true else t30_10)
  let t35_12 : Bool := (decide (g_3.2.1 < (0 : Int)))
  let t36_13 : Bool := (bif t31_11 then true else t35_12)
  let t43_14 : Bool := (decide ((t_1.1.length : Int) ≤ g_3.2.1))
  let t44_15 : Bool := (bif t36_13 then true else t43_14)
  (bif t44_15 then
    some false
  else
    let t47_16 : Bool := (decide ((0 : Int) ≤ g_3.2.2.1))
    chk none (((decide ((0 : Int) ≤ g_3.2.1)) && (decide (g_3.2.1 < (t_1.1.length : Int)))) || !t47_16) <|
    let e_17 : Yd1 := (t_1.1.getD g_3.2.1.toNat ((0 : Int), ([], [])))
    let t58_18 : Bool := (decide (g_3.2.2.1 ≤ e_17.1))
    let t59_19 : Bool := (bif t47_16 then t58_18 else false)
    let t64_20 : Bool := (decide ((0 : Int) ≤ g_3.2.2.2.1))
    let t65_21 : Bool := (bif t59_19 then t64_20 else false)
    let t69_22 : Bool := (decide (g_3.2.2.2.1 ≤ (1048576 : Int)))
    let t70_23 : Bool := (bif t65_21 then t69_22 else false)
    let t74_24 : Bool := (decide ((0 : Int) ≤ g_3.2.2.2.2))
    let t75_25 : Bool := (bif t70_23 then t74_24 else false)
    let t79_26 : Bool := (decide (g_3.2.2.2.2 ≤ (16777216 : Int)))
    let t80_27 : Bool := (bif t75_25 then t79_26 else false)
    some t80_27)
noncomputable def con_F_track_Track_group : Con := { f := 77, ps := [.dat (.agg Yt440), .dat (.int .i64), .dat (.agg Yt4)], boxes := [], ins := Yt443, nin := 3, outs := .bool, rs := [.dat .bool], nout := 1, F := fun x => F_track_Track_group x.1 x.2.1 x.2.2 }
def hint_F_track_Track_group : Hint := H0
theorem run_F_track_Track_group : runE ⟨tdGet tys, [], []⟩ con_F_track_Track_group Tryz.f77 hint_F_track_Track_group = con_F_track_Track_group.F := by
  funext x
  kernel_rfl
theorem ok_F_track_Track_group : ConOK Tryz.prog con_F_track_Track_group :=
  con_of_run (Γ := ⟨tdGet tys, [], []⟩) ⟨fun T d h => tysB_ok tys tys_ok T d h, by simp [], by simp []⟩ (by kernel_rfl) Tryz.func77 rfl (by kernel_rfl) run_F_track_Track_group
/-- (odograph/track.Track).Check -/
noncomputable def F_track_Track_Check (t_1 : Yd440) : Option (Int × Int) :=
  let t11_2 : Bool := ((t_1.1.length : Int) == (0 : Int))
  let t16_3 : Bool := (decide ((200 : Int) < (t_1.1.length : Int)))
  let t17_4 : Bool := (bif t11_2 then true else t16_3)
  let t22_5 : Bool := (decide ((400 : Int) < (t_1.2.length : Int)))
  let t23_6 : Bool := (bif t17_4 then true else t22_5)
  (bif t23_6 then
    some ((13 : Int), (0 : Int))
  else
    Option.bind (α := (Int × Int) ⊕ Unit) (
      loopO (X := (Int × Int) ⊕ Unit) (fun (s_7 : Int) =>
        let t28_8 : Bool := (decide (s_7 < (t_1.1.length : Int)))
        (bif t28_8 then
          chk none ((decide ((0 : Int) ≤ s_7)) && (decide (s_7 < (t_1.1.length : Int)))) <|
          let t31_9 : Yd1 := (t_1.1.getD s_7.toNat ((0 : Int), ([], [])))
          (F_track_Track_segment t_1 t31_9).bind fun t34_10 =>
          (bif (!t34_10) then
            some (.inr (.inl (s_7, (11 : Int))))
          else
            let t37_11 : Int := (IntKind.wrap .i64 (s_7 + (1 : Int)))
            some (.inl t37_11))
        else
          some (.inr (.inr ())))) (0 : Int)) fun z => match z with
    | .inl r_12 =>
      let t3_13 : Int := r_12.1
      let t2_14 : Int := r_12.2
      some (t2_14, t3_13)
    | .inr _ =>
      Option.bind (α := (Int × Int) ⊕ Unit) (
        loopO (X := (Int × Int) ⊕ Unit) (fun (s_15 : Int) =>
          let t42_16 : Bool := (decide (s_15 < (t_1.2.length : Int)))
          (bif t42_16 then
            chk none ((decide ((0 : Int) ≤ s_15)) && (decide (s_15 < (t_1.2.length : Int)))) <|
            let t45_17 : Yd4 := (t_1.2.getD s_15.toNat ((0 : Int), ((0 : Int), ((0 : Int), ((0 : Int), (0 : Int))))))
            (F_track_Track_group t_1 s_15 t45_17).bind fun t49_18 =>
            (bif (!t49_18) then
              some (.inr (.inl ((16 : Int), s_15)))
            else
              let t52_19 : Int := (IntKind.wrap .i64 (s_15 + (1 : Int)))
              some (.inl t52_19))
          else
            some (.inr (.inr ())))) (0 : Int)) fun z => match z with
      | .inl r_20 =>
        let t2_21 : Int := r_20.1
        let t3_22 : Int := r_20.2
        some (t2_21, t3_22)
      | .inr _ =>
        some ((0 : Int), (0 : Int)))
noncomputable def con_F_track_Track_Check : Con := { f := 51, ps := [.dat (.agg Yt440)], boxes := [], ins := (.agg Yt440), nin := 1, outs := (.pair (.int .i64) (.int .i64)), rs := [.dat (.int .i64), .dat (.int .i64)], nout := 2, F := fun x => F_track_Track_Check x }
def hint_F_track_Track_Check : Hint := (.mk .plain [H0, (.mk .plain [H0, (.mk .plain [(.mk .plain [H0, (.mk .plain [(.mk (.loop [⟨.slot 27, (.int .i64), none⟩] [(0, 30), (0, 36), (0, 4), (0, 29), (0, 35), (0, 3), (0, 32), (0, 28), (0, 2), (0, 31), (0, 5), (0, 34), (0, 33), (0, 37)] [(.ret, [⟨.slot 3, (.int .i64), none⟩, ⟨.slot 2, (.int .i64), none⟩]), (.exit 0, [])]) [])])]), (.mk .plain [(.mk .plain [H0, (.mk .plain [(.mk (.loop [⟨.slot 41, (.int .i64), none⟩] [(0, 7), (0, 42), (0, 45), (0, 48), (0, 51), (0, 2), (0, 43), (0, 46), (0, 49), (0, 3), (0, 6), (0, 47), (0, 44), (0, 50), (0, 52)] [(.ret, [⟨.slot 2, (.int .i64), none⟩, ⟨.slot 3, (.int .i64), none⟩]), (.exit 2, [])]) [])])])])])])])
theorem run_F_track_Track_Check : runE ⟨tdGet tys, [con_F_track_Track_segment, con_F_track_Track_group], []⟩ con_F_track_Track_Check Tryz.f51 hint_F_track_Track_Check = con_F_track_Track_Check.F := by
  funext x
  kernel_rfl
theorem ok_F_track_Track_Check : ConOK Tryz.prog con_F_track_Track_Check :=
  con_of_run (Γ := ⟨tdGet tys, [con_F_track_Track_segment, con_F_track_Track_group], []⟩) ⟨fun T d h => tysB_ok tys tys_ok T d h, by simp [ok_F_track_Track_segment, ok_F_track_Track_group], by simp []⟩ (by kernel_rfl) Tryz.func51 rfl (by kernel_rfl) run_F_track_Track_Check
/-- (odograph/conf.Config).Reach -/
noncomputable def F_conf_Config_Reach (c_1 : Yd433) (g_2 : Yd4) : Option Int :=
  let t9_3 : Int := (IntKind.wrap .i64 (g_2.2.2.2.1 + c_1.2.2.2.2.2.2.2.2.1))
  let t12_4 : Int := (IntKind.wrap .i64 (t9_3 + c_1.2.2.2.2.2.2.1))
  some t12_4
noncomputable def con_F_conf_Config_Reach : Con := { f := 52, ps := [.dat (.agg Yt433), .dat (.agg Yt4)], boxes := [], ins := Yt444, nin := 2, outs := (.int .i64), rs := [.dat (.int .i64)], nout := 1, F := fun x => F_conf_Config_Reach x.1 x.2 }
def hint_F_conf_Config_Reach : Hint := H0
theorem run_F_conf_Config_Reach : runE ⟨tdGet tys, [], []⟩ con_F_conf_Config_Reach Tryz.f52 hint_F_conf_Config_Reach = con_F_conf_Config_Reach.F := by
  funext x
  kernel_rfl
theorem ok_F_conf_Config_Reach : ConOK Tryz.prog con_F_conf_Config_Reach :=
  con_of_run (Γ := ⟨tdGet tys, [], []⟩) ⟨fun T d h => tysB_ok tys tys_ok T d h, by simp [], by simp []⟩ (by kernel_rfl) Tryz.func52 rfl (by kernel_rfl) run_F_conf_Config_Reach
/-- (odograph/conf.Config).Fits -/
noncomputable def F_conf_Config_Fits (c_1 : Yd433) (t_2 : Yd440) : Option (Int × Int) :=
  (F_conf_Config_Check c_1).bind fun t16_3 =>
  (bif (t16_3.1 != (0 : Int)) then
    some (t16_3.1, (0 : Int))
  else
    (F_track_Track_Check t_2).bind fun t24_4 =>
    (bif (t24_4.1 != (0 : Int)) then
      some ((51 : Int), (0 : Int))
    else
      Option.bind (α := (Int × Int) ⊕ Unit) (
        loopO (X := (Int × Int) ⊕ Unit) (fun (s_5 : Int) =>
          let t33_6 : Bool := (decide (s_5 < (t_2.2.length : Int)))
          (bif t33_6 then
            chk none ((decide ((0 : Int) ≤ s_5)) && (decide (s_5 < (t_2.2.length : Int)))) <|
            let t36_7 : Yd4 := (t_2.2.getD s_5.toNat ((0 : Int), ((0 : Int), ((0 : Int), ((0 : Int), (0 : Int))))))
            chk none ((decide ((0 : Int) ≤ t36_7.2.1)) && (decide (t36_7.2.1 < (t_2.1.length : Int)))) <|
            let e_8 : Yd1 := (t_2.1.getD t36_7.2.1.toNat ((0 : Int), ([], [])))
            let t46_9 : Int := (IntKind.wrap .i64 (e_8.1 - t36_7.2.2.1))
            (F_conf_Config_Reach c_1 t36_7).bind fun t49_10 =>
            let t53_11 : Bool := (decide (t36_7.2.2.1 < t49_10))
            let t57_12 : Bool := (decide (t46_9 < t49_10))
            let t58_13 : Bool := (bif t53_11 then true else t57_12)
            (bif t58_13 then
              some (.inr (.inl (s_5, (11 : Int))))
            else
              let t60_14 : Int := (IntKind.wrap .i64 (s_5 + (1 : Int)))
              some (.inl t60_14))
          else
            some (.inr (.inr ())))) (0 : Int)) fun z => match z with
      | .inl r_15 =>
        let t5_16 : Int := r_15.1
        let t4_17 : Int := r_15.2
        some (t4_17, t5_16)
      | .inr _ =>
        some ((0 : Int), (0 : Int))))
noncomputable def con_F_conf_Config_Fits : Con := { f := 20, ps := [.dat (.agg Yt433), .dat (.agg Yt440)], boxes := [], ins := Yt445, nin := 2, outs := (.pair (.int .i64) (.int .i64)), rs := [.dat (.int .i64), .dat (.int .i64)], nout := 2, F := fun x => F_conf_Config_Fits x.1 x.2 }
def hint_F_conf_Config_Fits : Hint := (.mk .plain [H0, (.mk .plain [H0, (.mk .plain [H0, (.mk .plain [(.mk .plain [H0, (.mk .plain [(.mk (.loop [⟨.slot 32, (.int .i64), none⟩] [(0, 36), (0, 42), (0, 39), (0, 45), (0, 48), (0, 54), (0, 51), (0, 57), (0, 5), (0, 11), (0, 35), (0, 38), (0, 41), (0, 47), (0, 44), (0, 50), (0, 53), (0, 59), (0, 56), (0, 4), (0, 10), (0, 13), (0, 34), (0, 40), (0, 37), (0, 43), (0, 46), (0, 52), (0, 49), (0, 55), (0, 58), (0, 12), (0, 33), (0, 60)] [(.ret, [⟨.slot 5, (.int .i64), none⟩, ⟨.slot 4, (.int .i64), none⟩]), (.exit 0, [])]) [])])])])])])])
theorem run_F_conf_Config_Fits : runE ⟨tdGet tys, [con_F_conf_Config_Check, con_F_track_Track_Check, con_F_conf_Config_Reach], []⟩ con_F_conf_Config_Fits Tryz.f20 hint_F_conf_Config_Fits = con_F_conf_Config_Fits.F := by
  funext x
  kernel_rfl
theorem ok_F_conf_Config_Fits : ConOK Tryz.prog con_F_conf_Config_Fits :=
  con_of_run (Γ := ⟨tdGet tys, [con_F_conf_Config_Check, con_F_track_Track_Check, con_F_conf_Config_Reach], []⟩) ⟨fun T d h => tysB_ok tys tys_ok T d h, by simp [ok_F_conf_Config_Check, ok_F_track_Track_Check, ok_F_conf_Config_Reach], by simp []⟩ (by kernel_rfl) Tryz.func20 rfl (by kernel_rfl) run_F_conf_Config_Fits
/-- slices.Index[[]int,int] -/
noncomputable def F_slices_Index_int_int (s_1 : (List Int)) (v_2 : Int) : Option Int :=
  Option.bind (α := Int ⊕ Unit) (
    loopO (X := Int ⊕ Unit) (fun (s_3 : Int) =>
      let t9_4 : Bool := (decide (s_3 < (s_1.length : Int)))
      (bif t9_4 then
        chk none ((decide ((0 : Int) ≤ s_3)) && (decide (s_3 < (s_1.length : Int)))) <|
        let t15_5 : Int := (s_1.getD s_3.toNat (0 : Int))
        (bif (v_2 == t15_5) then
          some (.inr (.inl s_3))
        else
          let t18_6 : Int := (IntKind.wrap .i64 (s_3 + (1 : Int)))
          some (.inl t18_6))
      else
        some (.inr (.inr ())))) (0 : Int)) fun z => match z with
  | .inl r_7 =>
    some r_7
  | .inr _ =>
    some (-1 : Int)
noncomputable def con_F_slices_Index_int_int : Con := { f := 116, ps := [.dat (.slice (.int .i64)), .dat (.int .i64)], boxes := [], ins := (.pair (.slice (.int .i64)) (.int .i64)), nin := 2, outs := (.int .i64), rs := [.dat (.int .i64)], nout := 1, F := fun x => F_slices_Index_int_int x.1 x.2 }
def hint_F_slices_Index_int_int : Hint := (.mk .plain [H0, (.mk .plain [(.mk .plain [H0, (.mk .plain [(.mk (.loop [⟨.slot 8, (.int .i64), none⟩] [(0, 4), (0, 10), (0, 16), (0, 13), (0, 9), (0, 12), (0, 15), (0, 5), (0, 14), (0, 11), (0, 17), (0, 18)] [(.ret, [⟨.slot 4, (.int .i64), none⟩]), (.exit 0, [])]) [])])])])])
theorem run_F_slices_Index_int_int : runE ⟨tdGet tys, [], []⟩ con_F_slices_Index_int_int Tryz.f116 hint_F_slices_Index_int_int = con_F_slices_Index_int_int.F := by
  funext x
  kernel_rfl
theorem ok_F_slices_Index_int_int : ConOK Tryz.prog con_F_slices_Index_int_int :=
  con_of_run (Γ := ⟨tdGet tys, [], []⟩) ⟨fun T d h => tysB_ok tys tys_ok T d h, by simp [], by simp []⟩ (by kernel_rfl) Tryz.func116 rfl (by kernel_rfl) run_F_slices_Index_int_int
/-- slices.Contains[[]int,int] -/
noncomputable def F_slices_Contains_int_int (s_1 : (List Int)) (v_2 : Int) : Option Bool :=
  (F_slices_Index_int_int s_1 v_2).bind fun t7_3 =>
  let t8_4 : Bool := (decide ((0 : Int) ≤ t7_3))
  some t8_4
noncomputable def con_F_slices_Contains_int_int : Con := { f := 87, ps := [.dat (.slice (.int .i64)), .dat (.int .i64)], boxes := [], ins := (.pair (.slice (.int .i64)) (.int .i64)), nin := 2, outs := .bool, rs := [.dat .bool], nout := 1, F := fun x => F_slices_Contains_int_int x.1 x.2 }
def hint_F_slices_Contains_int_int : Hint := H0
theorem run_F_slices_Contains_int_int : runE ⟨tdGet tys, [con_F_slices_Index_int_int], []⟩ con_F_slices_Contains_int_int Tryz.f87 hint_F_slices_Contains_int_int = con_F_slices_Contains_int_int.F := by
  funext x
  kernel_rfl
theorem ok_F_slices_Contains_int_int : ConOK Tryz.prog con_F_slices_Contains_int_int :=
  con_of_run (Γ := ⟨tdGet tys, [con_F_slices_Index_int_int], []⟩) ⟨fun T d h => tysB_ok tys tys_ok T d h, by simp [ok_F_slices_Index_int_int], by simp []⟩ (by kernel_rfl) Tryz.func87 rfl (by kernel_rfl) run_F_slices_Contains_int_int
/-- (odograph/track.Track).Follows -/
noncomputable def F_track_Track_Follows (t_1 : Yd440) (a_2 : Int) (b_3 : Int) : Option Bool :=
  let t8_4 : Bool := (decide ((0 : Int) ≤ a_2))
  let t14_5 : Bool := (decide (a_2 < (t_1.1.length : Int)))
  let t15_6 : Bool := (bif t8_4 then t14_5 else false)
  chk none (((decide ((0 : Int) ≤ a_2)) && (decide (a_2 < (t_1.1.length : Int)))) || !t15_6) <|
  let e_7 : Yd1 := (t_1.1.getD a_2.toNat ((0 : Int), ([], [])))
  (bif t15_6 then F_slices_Contains_int_int e_7.2.2 b_3 else some false).bind fun t24_8 =>
  let t25_9 : Bool := (bif t15_6 then t24_8 else false)
  some t25_9
noncomputable def con_F_track_Track_Follows : Con := { f := 65, ps := [.dat (.agg Yt440), .dat (.int .i64), .dat (.int .i64)], boxes := [], ins := Yt446, nin := 3, outs := .bool, rs := [.dat .bool], nout := 1, F := fun x => F_track_Track_Follows x.1 x.2.1 x.2.2 }
def hint_F_track_Track_Follows : Hint := H0
theorem run_F_track_Track_Follows : runE ⟨tdGet tys, [con_F_slices_Contains_int_int], []⟩ con_F_track_Track_Follows Tryz.f65 hint_F_track_Track_Follows = con_F_track_Track_Follows.F := by
  funext x
  kernel_rfl
theorem ok_F_track_Track_Follows : ConOK Tryz.prog con_F_track_Track_Follows :=
  con_of_run (Γ := ⟨tdGet tys, [con_F_slices_Contains_int_int], []⟩) ⟨fun T d h => tysB_ok tys tys_ok T d h, by simp [ok_F_slices_Contains_int_int], by simp []⟩ (by kernel_rfl) Tryz.func65 rfl (by kernel_rfl) run_F_track_Track_Follows
/-- (*odograph/admit.judge).route -/
noncomputable def F_admit_judge_route (x_1 : Int) (x_2 : Int) (x_3 : Int) (x_4 : Int) (x_5 : Int) (x_6 : Int) (x_7 : Int) (x_8 : Int) (x_9 : Int) (x_10 : Int) (x_11 : Int) (x_12 : Int) (x_13 : Int) (x_14 : Int) (x_15 : (List Yd1)) (x_16 : (List Yd4)) (x_17 : (List Int)) (x_18 : Int) (x_19 : Int) (x_20 : Int) (x_21 : Int) (x_22 : Int) (x_23 : Int) (x_24 : (List Yd10)) (x_25 : (List Yd3)) (x_26 : (List Int)) (x_27 : (List Int)) (x_28 : (List Int)) : Option Yd472 :=
  let t11_29 : Bool := ((x_17.length : Int) == (0 : Int))
  let t19_30 : Bool := (decide ((400 : Int) < (x_17.length : Int)))
  let t20_31 : Bool := (bif t11_29 then true else t19_30)
  (bif t20_31 then
    some (false, x_1, x_2, x_3, x_4, x_5, x_6, x_7, x_8, x_9, x_10, x_11, x_12, x_13, x_14, x_15, x_16, x_17, x_18, x_19, x_20, x_21, x_22, x_23, x_24, x_25, x_26, x_27, x_28)
  else
    Option.bind (α := Bool ⊕ Unit) (
      loopO (X := Bool ⊕ Unit) (fun (s_32 : Int) =>
        let t28_33 : Bool := (decide (s_32 < (x_17.length : Int)))
        (bif t28_33 then
          chk none ((decide ((0 : Int) ≤ s_32)) && (decide (s_32 < (x_17.length : Int)))) <|
          let t31_34 : Int := (x_17.getD s_32.toNat (0 : Int))
          let t33_35 : Bool := (decide (t31_34 < (0 : Int)))
          let t42_36 : Bool := (decide ((x_15.length : Int) ≤ t31_34))
          let t43_37 : Bool := (bif t33_35 then true else t42_36)
          let t46_38 : Bool := (decide ((0 : Int) < s_32))
          let t58_39 : Int := (IntKind.wrap .i64 (s_32 - (1 : Int)))
          chk none (((decide ((0 : Int) ≤ t58_39)) && (decide (t58_39 < (x_17.length : Int)))) || !(t46_38 && !t43_37)) <|
          let t60_40 : Int := (x_17.getD t58_39.toNat (0 : Int))
          (bif (t46_38 && !t43_37) then F_track_Track_Follows (x_15, x_16) t60_40 t31_34 else some false).bind fun t62_41 =>
          let t64_42 : Bool := (bif t46_38 then (!t62_41) else false)
          let t65_43 : Bool := (bif t43_37 then true else t64_42)
          (bif t65_43 then
            some (.inr (.inl false))
          else
            let t66_44 : Int := (IntKind.wrap .i64 (s_32 + (1 : Int)))
            some (.inl t66_44))
        else
          some (.inr (.inr ())))) (0 : Int)) fun z => match z with
    | .inl r_45 =>
      some (r_45, x_1, x_2, x_3, x_4, x_5, x_6, x_7, x_8, x_9, x_10, x_11, x_12, x_13, x_14, x_15, x_16, x_17, x_18, x_19, x_20, x_21, x_22, x_23, x_24, x_25, x_26, x_27, x_28)
    | .inr _ =>
      some (true, x_1, x_2, x_3, x_4, x_5, x_6, x_7, x_8, x_9, x_10, x_11, x_12, x_13, x_14, x_15, x_16, x_17, x_18, x_19, x_20, x_21, x_22, x_23, x_24, x_25, x_26, x_27, x_28))
noncomputable def con_F_admit_judge_route : Con := { f := 34, ps := [.ref 0 0], boxes := [[.dat (.int .i64), .dat (.int .i64), .dat (.int .i64), .dat (.int .i64), .dat (.int .i64), .dat (.int .i64), .dat (.int .i64), .dat (.int .i64), .dat (.int .i64), .dat (.int .i64), .dat (.int .i64), .dat (.int .i64), .dat (.int .i64), .dat (.int .i64), .dat (.slice (.agg Yt1)), .dat (.slice (.agg Yt4)), .dat (.slice (.int .i64)), .dat (.int .i64), .dat (.int .i64), .dat (.int .i64), .dat (.int .i64), .dat (.int .i64), .dat (.int .i64), .dat (.slice (.agg Yt10)), .dat (.slice (.agg Yt3)), .dat (.slice (.int .i64)), .dat (.slice (.int .i64)), .dat (.slice (.int .i64))]], ins := Yt471, nin := 28, outs := Yt472, rs := [.dat .bool], nout := 29, F := fun x => F_admit_judge_route x.1 x.2.1 x.2.2.1 x.2.2.2.1 x.2.2.2.2.1 x.2.2.2.2.2.1 x.2.2.2.2.2.2.1 x.2.2.2.2.2.2.2.1 x.2.2.2.2.2.2.2.2.1 x.2.2.2.2.2.2.2.2.2.1 x.2.2.2.2.2.2.2.2.2.2.1 x.2.2.2.2.2.2.2.2.2.2.2.1 x.2.2.2.2.2.2.2.2.2.2.2.2.1 x.2.2.2.2.2.2.2.2.2.2.2.2.2.1 x.2.2.2.2.2.2.2.2.2.2.2.2.2.2.1 x.2.2.2.2.2.2.2.2.2.2.2.2.2.2.2.1 x.2.2.2.2.2.2.2.2.2.2.2.2.2.2.2.2.1 x.2.2.2.2.2.2.2.2.2.2.2.2.2.2.2.2.2.1 x.2.2.2.2.2.2.2.2.2.2.2.2.2.2.2.2.2.2.1 x.2.2.2.2.2.2.2.2.2.2.2.2.2.2.2.2.2.2.2.1 x.2.2.2.2.2.2.2.2.2.2.2.2.2.2.2.2.2.2.2.2.1 x.2.2.2.2.2.2.2.2.2.2.2.2.2.2.2.2.2.2.2.2.2.1 x.2.2.2.2.2.2.2.2.2.2.2.2.2.2.2.2.2.2.2.2.2.2.1 x.2.2.2.2.2.2.2.2.2.2.2.2.2.2.2.2.2.2.2.2.2.2.2.1 x.2.2.2.2.2.2.2.2.2.2.2.2.2.2.2.2.2.2.2.2.2.2.2.2.1 x.2.2.2.2.2.2.2.2.2.2.2.2.2.2.2.2.2.2.2.2.2.2.2.2.2.1 x.2.2.2.2.2.2.2.2.2.2.2.2.2.2.2.2.2.2.2.2.2.2.2.2.2.2.1 x.2.2.2.2.2.2.2.2.2.2.2.2.2.2.2.2.2.2.2.2.2.2.2.2.2.2.2 }
def hint_F_admit_judge_route : Hint := (.mk .plain [H0, (.mk .plain [H0, (.mk .plain [(.mk .plain [H0, (.mk .plain [(.mk (.loop [⟨.slot 27, (.int .i64), none⟩] [(0, 30), (0, 36), (0, 42), (0, 39), (0, 45), (0, 48), (0, 54), (0, 51), (0, 57), (0, 2), (0, 60), (0, 63), (0, 29), (0, 35), (0, 32), (0, 38), (0, 41), (0, 47), (0, 44), (0, 50), (0, 53), (0, 59), (0, 56), (0, 62), (0, 65), (0, 4), (0, 28), (0, 31), (0, 34), (0, 40), (0, 37), (0, 43), (0, 46), (0, 52), (0, 49), (0, 55), (0, 61), (0, 58), (0, 64), (0, 3), (0, 33), (0, 66)] [(.ret, [⟨.slot 2, .bool, none⟩]), (.exit 0, [])]) [])])])])])])
theorem run_F_admit_judge_route : runE ⟨tdGet tys, [con_F_track_Track_Follows], []⟩ con_F_admit_judge_route Tryz.f34 hint_F_admit_judge_route = con_F_admit_judge_route.F := by
  funext x
  kernel_rfl
theorem ok_F_admit_judge_route : ConOK Tryz.prog con_F_admit_judge_route :=
  con_of_run (Γ := ⟨tdGet tys, [con_F_track_Track_Follows], []⟩) ⟨fun T d h => tysB_ok tys tys_ok T d h, by simp [ok_F_track_Track_Follows], by simp []⟩ (by kernel_rfl) Tryz.func34 rfl (by kernel_rfl) run_F_admit_judge_route
/-- odograph/world.Start -/
noncomputable def F_world_Start (t_1 : Yd440) (route_2 : (List Int)) (index_3 : Int) : Option Int :=
  chk none (true && (decide ((0 : Int) ≤ index_3)) && (decide (index_3 ≤ (route_2.length : Int)))) <|
  let t12_4 : (List Int) := ((route_2.take index_3.toNat).drop (0 : Int).toNat)
  Option.bind (
    loopO (X := Int) (fun (s_5 : (Int × Int)) =>
      let t7_6 : Int := s_5.1
      let t14_7 : Int := s_5.2
      let t15_8 : Bool := (decide (t14_7 < (t12_4.length : Int)))
      (bif t15_8 then
        chk none ((decide ((0 : Int) ≤ t14_7)) && (decide (t14_7 < (t12_4.length : Int)))) <|
        let t17_9 : Int := (t12_4.getD t14_7.toNat (0 : Int))
        chk none ((decide ((0 : Int) ≤ t17_9)) && (decide (t17_9 < (t_1.1.length : Int)))) <|
        let e_10 : Yd1 := (t_1.1.getD t17_9.toNat ((0 : Int), ([], [])))
        let t25_11 : Int := (IntKind.wrap .i64 (t7_6 + e_10.1))
        let t26_12 : Int := (IntKind.wrap .i64 (t14_7 + (1 : Int)))
        some (.inl (t25_11, t26_12))
      else
        some (.inr t7_6))) ((0 : Int), (0 : Int))) fun r_13 =>
  some r_13
noncomputable def con_F_world_Start : Con := { f := 53, ps := [.dat (.agg Yt440), .dat (.slice (.int .i64)), .dat (.int .i64)], boxes := [], ins := Yt473, nin := 3, outs := (.int .i64), rs := [.dat (.int .i64)], nout := 1, F := fun x => F_world_Start x.1 x.2.1 x.2.2 }
def hint_F_world_Start : Hint := (.mk .plain [H0, (.mk .plain [H0, (.mk .plain [(.mk .plain [H0, (.mk .plain [(.mk (.loop [⟨.slot 7, (.int .i64), none⟩, ⟨.slot 14, (.int .i64), none⟩] [(0, 23), (0, 20), (0, 26), (0, 16), (0, 19), (0, 9), (0, 22), (0, 25), (0, 15), (0, 21), (0, 18), (0, 24), (0, 17)] [(.exit 0, [⟨.slot 7, (.int .i64), none⟩])]) [])])])])])])
theorem run_F_world_Start : runE ⟨tdGet tys, [], []⟩ con_F_world_Start Tryz.f53 hint_F_world_Start = con_F_world_Start.F := by
  funext x
  kernel_rfl
theorem ok_F_world_Start : ConOK Tryz.prog con_F_world_Start :=
  con_of_run (Γ := ⟨tdGet tys, [], []⟩) ⟨fun T d h => tysB_ok tys tys_ok T d h, by simp [], by simp []⟩ (by kernel_rfl) Tryz.func53 rfl (by kernel_rfl) run_F_world_Start
/-- odograph/admit.within -/
noncomputable def F_admit_within (x_1 : Int) (far_2 : Int) : Option Bool :=
  let t7_3 : Int := (IntKind.wrap .i64 (0 - far_2))
  let t13_4 : Bool := (bif (decide (t7_3 ≤ x_1)) then (decide (x_1 ≤ far_2)) else false)
  some t13_4
noncomputable def con_F_admit_within : Con := { f := 66, ps := [.dat (.int .i64), .dat (.int .i64)], boxes := [], ins := (.pair (.int .i64) (.int .i64)), nin := 2, outs := .bool, rs := [.dat .bool], nout := 1, F := fun x => F_admit_within x.1 x.2 }
def hint_F_admit_within : Hint := H0
theorem run_F_admit_within : runE ⟨tdGet tys, [], []⟩ con_F_admit_within Tryz.f66 hint_F_admit_within = con_F_admit_within.F := by
  funext x
  kernel_rfl
theorem ok_F_admit_within : ConOK Tryz.prog con_F_admit_within :=
  con_of_run (Γ := ⟨tdGet tys, [], []⟩) ⟨fun T d h => tysB_ok tys tys_ok T d h, by simp [], by simp []⟩ (by kernel_rfl) Tryz.func66 rfl (by kernel_rfl) run_F_admit_within
/-- (*odograph/admit.judge).on -/
noncomputable def F_admit_judge_on (x_1 : Int) (x_2 : Int) (x_3 : Int) (x_4 : Int) (x_5 : Int) (x_6 : Int) (x_7 : Int) (x_8 : Int) (x_9 : Int) (x_10 : Int) (x_11 : Int) (x_12 : Int) (x_13 : Int) (x_14 : Int) (x_15 : (List Yd1)) (x_16 : (List Yd4)) (x_17 : (List Int)) (x_18 : Int) (x_19 : Int) (x_20 : Int) (x_21 : Int) (x_22 : Int) (x_23 : Int) (x_24 : (List Yd10)) (x_25 : (List Yd3)) (x_26 : (List Int)) (x_27 : (List Int)) (x_28 : (List Int)) : Option Yd472 :=
  (F_world_Start (x_15, x_16) x_17 (x_17.length : Int)).bind fun t22_29 =>
  let t29_30 : Bool := (decide ((4096 : Int) < (x_24.length : Int)))
  let t36_31 : Bool := (decide (x_18 < (0 : Int)))
  let t37_32 : Bool := (bif t29_30 then true else t36_31)
  let t46_33 : Bool := (bif t37_32 then true else (decide (t22_29 < x_18)))
  (bif t46_33 then
    some (false, x_1, x_2, x_3, x_4, x_5, x_6, x_7, x_8, x_9, x_10, x_11, x_12, x_13, x_14, x_15, x_16, x_17, x_18, x_19, x_20, x_21, x_22, x_23, x_24, x_25, x_26, x_27, x_28)
  else
    Option.bind (α := Bool ⊕ Unit) (
      loopO (X := Bool ⊕ Unit) (fun (s_34 : (Int × Int)) =>
        let t4_35 : Int := s_34.1
        let t58_36 : Int := s_34.2
        let t59_37 : Bool := (decide (t58_36 < (x_24.length : Int)))
        (bif t59_37 then
          chk none ((decide ((0 : Int) ≤ t58_36)) && (decide (t58_36 < (x_24.length : Int)))) <|
          let t61_38 : Yd10 := (x_24.getD t58_36.toNat ((0 : Int), (((0 : Int), (0 : Int)), ((0 : Int), ((0 : Int), ((false, (false, (false, false))), ([], false)))))))
          (F_admit_within t61_38.1 t22_29).bind fun t65_39 =>
          (bif (!t65_39) then
            some (.inr (.inl false))
          else
            let t70_40 : Int := (IntKind.wrap .i64 (t4_35 + t61_38.1))
            let t72_41 : Bool := (decide (t70_40 < (0 : Int)))
            let t76_42 : Bool := (decide (t22_29 < t70_40))
            let t77_43 : Bool := (bif t72_41 then true else t76_42)
            (bif t77_43 then
              some (.inr (.inl false))
            else
              let t78_44 : Int := (IntKind.wrap .i64 (t58_36 + (1 : Int)))
              some (.inl (t70_40, t78_44))))
        else
          some (.inr (.inr ())))) (x_18, (0 : Int))) fun z => match z with
    | .inl r_45 =>
      some (r_45, x_1, x_2, x_3, x_4, x_5, x_6, x_7, x_8, x_9, x_10, x_11, x_12, x_13, x_14, x_15, x_16, x_17, x_18, x_19, x_20, x_21, x_22, x_23, x_24, x_25, x_26, x_27, x_28)
    | .inr _ =>
      some (true, x_1, x_2, x_3, x_4, x_5, x_6, x_7, x_8, x_9, x_10, x_11, x_12, x_13, x_14, x_15, x_16, x_17, x_18, x_19, x_20, x_21, x_22, x_23, x_24, x_25, x_26, x_27, x_28))
noncomputable def con_F_admit_judge_on : Con := { f := 35, ps := [.ref 0 0], boxes := [[.dat (.int .i64), .dat (.int .i64), .dat (.int .i64), .dat (.int .i64), .dat (.int .i64), .dat (.int .i64), .dat (.int .i64), .dat (.int .i64), .dat (.int .i64), .dat (.int .i64), .dat (.int .i64), .dat (.int .i64), .dat (.int .i64), .dat (.int .i64), .dat (.slice (.agg Yt1)), .dat (.slice (.agg Yt4)), .dat (.slice (.int .i64)), .dat (.int .i64), .dat (.int .i64), .dat (.int .i64), .dat (.int .i64), .dat (.int .i64), .dat (.int .i64), .dat (.slice (.agg Yt10)), .dat (.slice (.agg Yt3)), .dat (.slice (.int .i64)), .dat (.slice (.int .i64)), .dat (.slice (.int .i64))]], ins := Yt471, nin := 28, outs := Yt472, rs := [.dat .bool], nout := 29, F := fun x => F_admit_judge_on x.1 x.2.1 x.2.2.1 x.2.2.2.1 x.2.2.2.2.1 x.2.2.2.2.2.1 x.2.2.2.2.2.2.1 x.2.2.2.2.2.2.2.1 x.2.2.2.2.2.2.2.2.1 x.2.2.2.2.2.2.2.2.2.1 x.2.2.2.2.2.2.2.2.2.2.1 x.2.2.2.2.2.2.2.2.2.2.2.1 x.2.2.2.2.2.2.2.2.2.2.2.2.1 x.2.2.2.2.2.2.2.2.2.2.2.2.2.1 x.2.2.2.2.2.2.2.2.2.2.2.2.2.2.1 x.2.2.2.2.2.2.2.2.2.2.2.2.2.2.2.1 x.2.2.2.2.2.2.2.2.2.2.2.2.2.2.2.2.1 x.2.2.2.2.2.2.2.2.2.2.2.2.2.2.2.2.2.1 x.2.2.2.2.2.2.2.2.2.2.2.2.2.2.2.2.2.2.1 x.2.2.2.2.2.2.2.2.2.2.2.2.2.2.2.2.2.2.2.1 x.2.2.2.2.2.2.2.2.2.2.2.2.2.2.2.2.2.2.2.2.1 x.2.2.2.2.2.2.2.2.2.2.2.2.2.2.2.2.2.2.2.2.2.1 x.2.2.2.2.2.2.2.2.2.2.2.2.2.2.2.2.2.2.2.2.2.2.1 x.2.2.2.2.2.2.2.2.2.2.2.2.2.2.2.2.2.2.2.2.2.2.2.1 x.2.2.2.2.2.2.2.2.2.2.2.2.2.2.2.2.2.2.2.2.2.2.2.2.1 x.2.2.2.2.2.2.2.2.2.2.2.2.2.2.2.2.2.2.2.2.2.2.2.2.2.1 x.2.2.2.2.2.2.2.2.2.2.2.2.2.2.2.2.2.2.2.2.2.2.2.2.2.2.1 x.2.2.2.2.2.2.2.2.2.2.2.2.2.2.2.2.2.2.2.2.2.2.2.2.2.2.2 }
def hint_F_admit_judge_on : Hint := (.mk .plain [H0, (.mk .plain [H0, (.mk .plain [H0, (.mk .plain [H0, (.mk .plain [(.mk .plain [H0, (.mk .plain [(.mk (.loop [⟨.slot 4, (.int .i64), none⟩, ⟨.slot 58, (.int .i64), none⟩] [(0, 65), (0, 2), (0, 60), (0, 66), (0, 63), (0, 61), (0, 64), (0, 6), (0, 59), (0, 62), (0, 69), (0, 72), (0, 75), (0, 68), (0, 71), (0, 74), (0, 77), (0, 67), (0, 70), (0, 73), (0, 76), (0, 78)] [(.ret, [⟨.slot 2, .bool, none⟩]), (.exit 0, [])]) [])])])])])])])])
theorem run_F_admit_judge_on : runE ⟨tdGet tys, [con_F_world_Start, con_F_admit_within], []⟩ con_F_admit_judge_on Tryz.f35 hint_F_admit_judge_on = con_F_admit_judge_on.F := by
  funext x
  kernel_rfl
theorem ok_F_admit_judge_on : ConOK Tryz.prog con_F_admit_judge_on :=
  con_of_run (Γ := ⟨tdGet tys, [con_F_world_Start, con_F_admit_within], []⟩) ⟨fun T d h => tysB_ok tys tys_ok T d h, by simp [ok_F_world_Start, ok_F_admit_within], by simp []⟩ (by kernel_rfl) Tryz.func35 rfl (by kernel_rfl) run_F_admit_judge_on
/-- (*odograph/admit.judge).speeds -/
noncomputable def F_admit_judge_speeds (x_1 : Int) (x_2 : Int) (x_3 : Int) (x_4 : Int) (x_5 : Int) (x_6 : Int) (x_7 : Int) (x_8 : Int) (x_9 : Int) (x_10 : Int) (x_11 : Int) (x_12 : Int) (x_13 : Int) (x_14 : Int) (x_15 : (List Yd1)) (x_16 : (List Yd4)) (x_17 : (List Int)) (x_18 : Int) (x_19 : Int) (x_20 : Int) (x_21 : Int) (x_22 : Int) (x_23 : Int) (x_24 : (List Yd10)) (x_25 : (List Yd3)) (x_26 : (List Int)) (x_27 : (List Int)) (x_28 : (List Int)) : Option Yd472 :=
  (F_admit_within x_19 x_7).bind fun t17_29 =>
  (bif (!t17_29) then
    some (false, x_1, x_2, x_3, x_4, x_5, x_6, x_7, x_8, x_9, x_10, x_11, x_12, x_13, x_14, x_15, x_16, x_17, x_18, x_19, x_20, x_21, x_22, x_23, x_24, x_25, x_26, x_27, x_28)
  else
    Option.bind (α := Bool ⊕ Unit) (
      loopO (X := Bool ⊕ Unit) (fun (s_30 : (Int × Int)) =>
        let t25_31 : Int := s_30.1
        let v_32 : Int := s_30.2
        let t26_33 : Bool := (decide (t25_31 < (x_24.length : Int)))
        (bif t26_33 then
          chk none ((decide ((0 : Int) ≤ t25_31)) && (decide (t25_31 < (x_24.length : Int)))) <|
          let t28_34 : Yd10 := (x_24.getD t25_31.toNat ((0 : Int), (((0 : Int), (0 : Int)), ((0 : Int), ((0 : Int), ((false, (false, (false, false))), ([], false)))))))
          (F_admit_within t28_34.1 x_7).bind fun t36_35 =>
          let t42_36 : Int := (IntKind.wrap .i64 (t28_34.1 - v_32))
          (bif !(!t36_35) then F_admit_within t42_36 x_8 else some false).bind fun t48_37 =>
          let t50_38 : Bool := (bif (!t36_35) then true else (!t48_37))
          (bif t50_38 then
            some (.inr (.inl false))
          else
            let t53_39 : Int := (IntKind.wrap .i64 (t25_31 + (1 : Int)))
            some (.inl (t53_39, t28_34.1)))
        else
          some (.inr (.inr ())))) ((0 : Int), x_19)) fun z => match z with
    | .inl r_40 =>
      some (r_40, x_1, x_2, x_3, x_4, x_5, x_6, x_7, x_8, x_9, x_10, x_11, x_12, x_13, x_14, x_15, x_16, x_17, x_18, x_19, x_20, x_21, x_22, x_23, x_24, x_25, x_26, x_27, x_28)
    | .inr _ =>
      some (true, x_1, x_2, x_3, x_4, x_5, x_6, x_7, x_8, x_9, x_10, x_11, x_12, x_13, x_14, x_15, x_16, x_17, x_18, x_19, x_20, x_21, x_22, x_23, x_24, x_25, x_26, x_27, x_28))
noncomputable def con_F_admit_judge_speeds : Con := { f := 36, ps := [.ref 0 0], boxes := [[.dat (.int .i64), .dat (.int .i64), .dat (.int .i64), .dat (.int .i64), .dat (.int .i64), .dat (.int .i64), .dat (.int .i64), .dat (.int .i64), .dat (.int .i64), .dat (.int .i64), .dat (.int .i64), .dat (.int .i64), .dat (.int .i64), .dat (.int .i64), .dat (.slice (.agg Yt1)), .dat (.slice (.agg Yt4)), .dat (.slice (.int .i64)), .dat (.int .i64), .dat (.int .i64), .dat (.int .i64), .dat (.int .i64), .dat (.int .i64), .dat (.int .i64), .dat (.slice (.agg Yt10)), .dat (.slice (.agg Yt3)), .dat (.slice (.int .i64)), .dat (.slice (.int .i64)), .dat (.slice (.int .i64))]], ins := Yt471, nin := 28, outs := Yt472, rs := [.dat .bool], nout := 29, F := fun x => F_admit_judge_speeds x.1 x.2.1 x.2.2.1 x.2.2.2.1 x.2.2.2.2.1 x.2.2.2.2.2.1 x.2.2.2.2.2.2.1 x.2.2.2.2.2.2.2.1 x.2.2.2.2.2.2.2.2.1 x.2.2.2.2.2.2.2.2.2.1 x.2.2.2.2.2.2.2.2.2.2.1 x.2.2.2.2.2.2.2.2.2.2.2.1 x.2.2.2.2.2.2.2.2.2.2.2.2.1 x.2.2.2.2.2.2.2.2.2.2.2.2.2.1 x.2.2.2.2.2.2.2.2.2.2.2.2.2.2.1 x.2.2.2.2.2.2.2.2.2.2.2.2.2.2.2.1 x.2.2.2.2.2.2.2.2.2.2.2.2.2.2.2.2.1 x.2.2.2.2.2.2.2.2.2.2.2.2.2.2.2.2.2.1 x.2.2.2.2.2.2.2.2.2.2.2.2.2.2.2.2.2.2.1 x.2.2.2.2.2.2.2.2.2.2.2.2.2.2.2.2.2.2.2.1 x.2.2.2.2.2.2.2.2.2.2.2.2.2.2.2.2.2.2.2.2.1 x.2.2.2.2.2.2.2.2.2.2.2.2.2.2.2.2.2.2.2.2.2.1 x.2.2.2.2.2.2.2.2.2.2.2.2.2.2.2.2.2.2.2.2.2.2.1 x.2.2.2.2.2.2.2.2.2.2.2.2.2.2.2.2.2.2.2.2.2.2.2.1 x.2.2.2.2.2.2.2.2.2.2.2.2.2.2.2.2.2.2.2.2.2.2.2.2.1 x.2.2.2.2.2.2.2.2.2.2.2.2.2.2.2.2.2.2.2.2.2.2.2.2.2.1 x.2.2.2.2.2.2.2.2.2.2.2.2.2.2.2.2.2.2.2.2.2.2.2.2.2.2.1 x.2.2.2.2.2.2.2.2.2.2.2.2.2.2.2.2.2.2.2.2.2.2.2.2.2.2.2 }
def hint_F_admit_judge_speeds : Hint := (.mk .plain [H0, (.mk .plain [H0, (.mk .plain [H0, (.mk .plain [(.mk .plain [H0, (.mk .plain [(.mk (.loop [⟨.slot 25, (.int .i64), none⟩, ⟨.slot 3, (.int .i64), none⟩] [(0, 30), (0, 36), (0, 42), (0, 39), (0, 45), (0, 48), (0, 2), (0, 5), (0, 26), (0, 29), (0, 35), (0, 32), (0, 38), (0, 41), (0, 47), (0, 44), (0, 50), (0, 28), (0, 31), (0, 34), (0, 40), (0, 37), (0, 43), (0, 46), (0, 49), (0, 27), (0, 33), (0, 51), (0, 53), (0, 52)] [(.ret, [⟨.slot 2, .bool, none⟩]), (.exit 0, [])]) [])])])])])])])
theorem run_F_admit_judge_speeds : runE ⟨tdGet tys, [con_F_admit_within], []⟩ con_F_admit_judge_speeds Tryz.f36 hint_F_admit_judge_speeds = con_F_admit_judge_speeds.F := by
  funext x
  kernel_rfl
theorem ok_F_admit_judge_speeds : ConOK Tryz.prog con_F_admit_judge_speeds :=
  con_of_run (Γ := ⟨tdGet tys, [con_F_admit_within], []⟩) ⟨fun T d h => tysB_ok tys tys_ok T d h, by simp [ok_F_admit_within], by simp []⟩ (by kernel_rfl) Tryz.func36 rfl (by kernel_rfl) run_F_admit_judge_speeds
/-- (odograph/conf.Config).Circ -/
noncomputable def F_conf_Config_Circ (c_1 : Yd433) : Option (Int × Int) :=
  let w_2 : (Int × Int) := (c_1.2.1, c_1.2.2.1)
  some w_2
noncomputable def con_F_conf_Config_Circ : Con := { f := 67, ps := [.dat (.agg Yt433)], boxes := [], ins := (.agg Yt433), nin := 1, outs := (.agg (.pair (.int .i64) (.int .i64))), rs := [.dat (.agg (.pair (.int .i64) (.int .i64)))], nout := 1, F := fun x => F_conf_Config_Circ x }
def hint_F_conf_Config_Circ : Hint := H0
theorem run_F_conf_Config_Circ : runE ⟨tdGet tys, [], []⟩ con_F_conf_Config_Circ Tryz.f67 hint_F_conf_Config_Circ = con_F_conf_Config_Circ.F := by
  funext x
  kernel_rfl
theorem ok_F_conf_Config_Circ : ConOK Tryz.prog con_F_conf_Config_Circ :=
  con_of_run (Γ := ⟨tdGet tys, [], []⟩) ⟨fun T d h => tysB_ok tys tys_ok T d h, by simp [], by simp []⟩ (by kernel_rfl) Tryz.func67 rfl (by kernel_rfl) run_F_conf_Config_Circ
/-- (odograph/span.Span).Has -/
noncomputable def F_span_Span_Has (s_1 : (Int × Int)) (x_2 : Int) : Option Bool :=
  let t14_3 : Bool := (bif (decide (s_1.1 ≤ x_2)) then (decide (x_2 ≤ s_1.2)) else false)
  some t14_3
noncomputable def con_F_span_Span_Has : Con := { f := 68, ps := [.dat (.agg (.pair (.int .i64) (.int .i64))), .dat (.int .i64)], boxes := [], ins := (.pair (.agg (.pair (.int .i64) (.int .i64))) (.int .i64)), nin := 2, outs := .bool, rs := [.dat .bool], nout := 1, F := fun x => F_span_Span_Has x.1 x.2 }
def hint_F_span_Span_Has : Hint := H0
theorem run_F_span_Span_Has : runE ⟨tdGet tys, [], []⟩ con_F_span_Span_Has Tryz.f68 hint_F_span_Span_Has = con_F_span_Span_Has.F := by
  funext x
  kernel_rfl
theorem ok_F_span_Span_Has : ConOK Tryz.prog con_F_span_Span_Has :=
  con_of_run (Γ := ⟨tdGet tys, [], []⟩) ⟨fun T d h => tysB_ok tys tys_ok T d h, by simp [], by simp []⟩ (by kernel_rfl) Tryz.func68 rfl (by kernel_rfl) run_F_span_Span_Has
/-- (*odograph/admit.judge).wheels -/
noncomputable def F_admit_judge_wheels (x_1 : Int) (x_2 : Int) (x_3 : Int) (x_4 : Int) (x_5 : Int) (x_6 : Int) (x_7 : Int) (x_8 : Int) (x_9 : Int) (x_10 : Int) (x_11 : Int) (x_12 : Int) (x_13 : Int) (x_14 : Int) (x_15 : (List Yd1)) (x_16 : (List Yd4)) (x_17 : (List Int)) (x_18 : Int) (x_19 : Int) (x_20 : Int) (x_21 : Int) (x_22 : Int) (x_23 : Int) (x_24 : (List Yd10)) (x_25 : (List Yd3)) (x_26 : (List Int)) (x_27 : (List Int)) (x_28 : (List Int)) : Option Yd472 :=
  let l_29 : (Int × Int) := (x_20, x_21)
  let t17_30 : Yd433 := (x_1, (x_2, (x_3, (x_4, (x_5, (x_6, (x_7, (x_8, (x_9, (x_10, (x_11, (x_12, (x_13, x_14)))))))))))))
  (F_conf_Config_Circ t17_30).bind fun t18_31 =>
  (F_span_Span_Has t18_31 l_29.1).bind fun t20_32 =>
  let t30_33 : Bool := (decide (x_22 < (0 : Int)))
  let t31_34 : Bool := (bif (!t20_32) then true else t30_33)
  let t42_35 : Bool := (bif t31_34 then true else (decide (l_29.1 ≤ x_22)))
  (bif t42_35 then
    some (false, x_1, x_2, x_3, x_4, x_5, x_6, x_7, x_8, x_9, x_10, x_11, x_12, x_13, x_14, x_15, x_16, x_17, x_18, x_19, x_20, x_21, x_22, x_23, x_24, x_25, x_26, x_27, x_28)
  else
    let l_36 : (Int × Int) := (x_20, x_21)
    let t17_37 : Yd433 := (x_1, (x_2, (x_3, (x_4, (x_5, (x_6, (x_7, (x_8, (x_9, (x_10, (x_11, (x_12, (x_13, x_14)))))))))))))
    (F_conf_Config_Circ t17_37).bind fun t18_38 =>
    (F_span_Span_Has t18_38 l_36.2).bind fun t20_39 =>
    let t30_40 : Bool := (decide (x_23 < (0 : Int)))
    let t31_41 : Bool := (bif (!t20_39) then true else t30_40)
    let t42_42 : Bool := (bif t31_41 then true else (decide (l_36.2 ≤ x_23)))
    (bif t42_42 then
      some (false, x_1, x_2, x_3, x_4, x_5, x_6, x_7, x_8, x_9, x_10, x_11, x_12, x_13, x_14, x_15, x_16, x_17, x_18, x_19, x_20, x_21, x_22, x_23, x_24, x_25, x_26, x_27, x_28)
    else
      some (true, x_1, x_2, x_3, x_4, x_5, x_6, x_7, x_8, x_9, x_10, x_11, x_12, x_13, x_14, x_15, x_16, x_17, x_18, x_19, x_20, x_21, x_22, x_23, x_24, x_25, x_26, x_27, x_28)))
noncomputable def con_F_admit_judge_wheels : Con := { f := 37, ps := [.ref 0 0], boxes := [[.dat (.int .i64), .dat (.int .i64), .dat (.int .i64), .dat (.int .i64), .dat (.int .i64), .dat (.int .i64), .dat (.int .i64), .dat (.int .i64), .dat (.int .i64), .dat (.int .i64), .dat (.int .i64), .dat (.int .i64), .dat (.int .i64), .dat (.int .i64), .dat (.slice (.agg Yt1)), .dat (.slice (.agg Yt4)), .dat (.slice (.int .i64)), .dat (.int .i64), .dat (.int .i64), .dat (.int .i64), .dat (.int .i64), .dat (.int .i64), .dat (.int .i64), .dat (.slice (.agg Yt10)), .dat (.slice (.agg Yt3)), .dat (.slice (.int .i64)), .dat (.slice (.int .i64)), .dat (.slice (.int .i64))]], ins := Yt471, nin := 28, outs := Yt472, rs := [.dat .bool], nout := 29, F := fun x => F_admit_judge_wheels x.1 x.2.1 x.2.2.1 x.2.2.2.1 x.2.2.2.2.1 x.2.2.2.2.2.1 x.2.2.2.2.2.2.1 x.2.2.2.2.2.2.2.1 x.2.2.2.2.2.2.2.2.1 x.2.2.2.2.2.2.2.2.2.1 x.2.2.2.2.2.2.2.2.2.2.1 x.2.2.2.2.2.2.2.2.2.2.2.1 x.2.2.2.2.2.2.2.2.2.2.2.2.1 x.2.2.2.2.2.2.2.2.2.2.2.2.2.1 x.2.2.2.2.2.2.2.2.2.2.2.2.2.2.1 x.2.2.2.2.2.2.2.2.2.2.2.2.2.2.2.1 x.2.2.2.2.2.2.2.2.2.2.2.2.2.2.2.2.1 x.2.2.2.2.2.2.2.2.2.2.2.2.2.2.2.2.2.1 x.2.2.2.2.2.2.2.2.2.2.2.2.2.2.2.2.2.2.1 x.2.2.2.2.2.2.2.2.2.2.2.2.2.2.2.2.2.2.2.1 x.2.2.2.2.2.2.2.2.2.2.2.2.2.2.2.2.2.2.2.2.1 x.2.2.2.2.2.2.2.2.2.2.2.2.2.2.2.2.2.2.2.2.2.1 x.2.2.2.2.2.2.2.2.2.2.2.2.2.2.2.2.2.2.2.2.2.2.1 x.2.2.2.2.2.2.2.2.2.2.2.2.2.2.2.2.2.2.2.2.2.2.2.1 x.2.2.2.2.2.2.2.2.2.2.2.2.2.2.2.2.2.2.2.2.2.2.2.2.1 x.2.2.2.2.2.2.2.2.2.2.2.2.2.2.2.2.2.2.2.2.2.2.2.2.2.1 x.2.2.2.2.2.2.2.2.2.2.2.2.2.2.2.2.2.2.2.2.2.2.2.2.2.2.1 x.2.2.2.2.2.2.2.2.2.2.2.2.2.2.2.2.2.2.2.2.2.2.2.2.2.2.2 }
def hint_F_admit_judge_wheels : Hint := (.mk .plain [H0, (.mk .plain [(.mk .plain [H0, (.mk .plain [(.mk (.unroll 3) [])])])])])
theorem run_F_admit_judge_wheels : runE ⟨tdGet tys, [con_F_conf_Config_Circ, con_F_span_Span_Has], []⟩ con_F_admit_judge_wheels Tryz.f37 hint_F_admit_judge_wheels = con_F_admit_judge_wheels.F := by
  funext x
  kernel_rfl
theorem ok_F_admit_judge_wheels : ConOK Tryz.prog con_F_admit_judge_wheels :=
  con_of_run (Γ := ⟨tdGet tys, [con_F_conf_Config_Circ, con_F_span_Span_Has], []⟩) ⟨fun T d h => tysB_ok tys tys_ok T d h, by simp [ok_F_conf_Config_Circ, ok_F_span_Span_Has], by simp []⟩ (by kernel_rfl) Tryz.func37 rfl (by kernel_rfl) run_F_admit_judge_wheels
/-- (*odograph/admit.judge).numbers -/
noncomputable def F_admit_judge_numbers (x_1 : Int) (x_2 : Int) (x_3 : Int) (x_4 : Int) (x_5 : Int) (x_6 : Int) (x_7 : Int) (x_8 : Int) (x_9 : Int) (x_10 : Int) (x_11 : Int) (x_12 : Int) (x_13 : Int) (x_14 : Int) (x_15 : (List Yd1)) (x_16 : (List Yd4)) (x_17 : (List Int)) (x_18 : Int) (x_19 : Int) (x_20 : Int) (x_21 : Int) (x_22 : Int) (x_23 : Int) (x_24 : (List Yd10)) (x_25 : (List Yd3)) (x_26 : (List Int)) (x_27 : (List Int)) (x_28 : (List Int)) : Option Yd472 :=
  Option.bind (α := Bool ⊕ Unit) (
    loopO (X := Bool ⊕ Unit) (fun (s_29 : Int) =>
      let t12_30 : Bool := (decide (s_29 < (x_24.length : Int)))
      (bif t12_30 then
        chk none ((decide ((0 : Int) ≤ s_29)) && (decide (s_29 < (x_24.length : Int)))) <|
        let t14_31 : Yd10 := (x_24.getD s_29.toNat ((0 : Int), (((0 : Int), (0 : Int)), ((0 : Int), ((0 : Int), ((false, (false, (false, false))), ([], false)))))))
        (F_admit_within t14_31.2.1.1 (1099511627776 : Int)).bind fun t18_32 =>
        (bif !(!t18_32) then F_admit_within t14_31.2.1.2 (1099511627776 : Int) else some false).bind fun t24_33 =>
        let t26_34 : Bool := (bif (!t18_32) then true else (!t24_33))
        (bif !t26_34 then F_admit_within t14_31.2.2.1 (1073741824 : Int) else some false).bind fun t30_35 =>
        let t32_36 : Bool := (bif t26_34 then true else (!t30_35))
        (bif !t32_36 then F_admit_within t14_31.2.2.2.1 x_6 else some false).bind fun t41_37 =>
        let t43_38 : Bool := (bif t32_36 then true else (!t41_37))
        (bif t43_38 then
          some (.inr (.inl false))
        else
          let t44_39 : Int := (IntKind.wrap .i64 (s_29 + (1 : Int)))
          some (.inl t44_39))
      else
        some (.inr (.inr ())))) (0 : Int)) fun z => match z with
  | .inl r_40 =>
    some (r_40, x_1, x_2, x_3, x_4, x_5, x_6, x_7, x_8, x_9, x_10, x_11, x_12, x_13, x_14, x_15, x_16, x_17, x_18, x_19, x_20, x_21, x_22, x_23, x_24, x_25, x_26, x_27, x_28)
  | .inr _ =>
    some (true, x_1, x_2, x_3, x_4, x_5, x_6, x_7, x_8, x_9, x_10, x_11, x_12, x_13, x_14, x_15, x_16, x_17, x_18, x_19, x_20, x_21, x_22, x_23, x_24, x_25, x_26, x_27, x_28)
noncomputable def con_F_admit_judge_numbers : Con := { f := 38, ps := [.ref 0 0], boxes := [[.dat (.int .i64), .dat (.int .i64), .dat (.int .i64), .dat (.int .i64), .dat (.int .i64), .dat (.int .i64), .dat (.int .i64), .dat (.int .i64), .dat (.int .i64), .dat (.int .i64), .dat (.int .i64), .dat (.int .i64), .dat (.int .i64), .dat (.int .i64), .dat (.slice (.agg Yt1)), .dat (.slice (.agg Yt4)), .dat (.slice (.int .i64)), .dat (.int .i64), .dat (.int .i64), .dat (.int .i64), .dat (.int .i64), .dat (.int .i64), .dat (.int .i64), .dat (.slice (.agg Yt10)), .dat (.slice (.agg Yt3)), .dat (.slice (.int .i64)), .dat (.slice (.int .i64)), .dat (.slice (.int .i64))]], ins := Yt471, nin := 28, outs := Yt472, rs := [.dat .bool], nout := 29, F := fun x => F_admit_judge_numbers x.1 x.2.1 x.2.2.1 x.2.2.2.1 x.2.2.2.2.1 x.2.2.2.2.2.1 x.2.2.2.2.2.2.1 x.2.2.2.2.2.2.2.1 x.2.2.2.2.2.2.2.2.1 x.2.2.2.2.2.2.2.2.2.1 x.2.2.2.2.2.2.2.2.2.2.1 x.2.2.2.2.2.2.2.2.2.2.2.1 x.2.2.2.2.2.2.2.2.2.2.2.2.1 x.2.2.2.2.2.2.2.2.2.2.2.2.2.1 x.2.2.2.2.2.2.2.2.2.2.2.2.2.2.1 x.2.2.2.2.2.2.2.2.2.2.2.2.2.2.2.1 x.2.2.2.2.2.2.2.2.2.2.2.2.2.2.2.2.1 x.2.2.2.2.2.2.2.2.2.2.2.2.2.2.2.2.2.1 x.2.2.2.2.2.2.2.2.2.2.2.2.2.2.2.2.2.2.1 x.2.2.2.2.2.2.2.2.2.2.2.2.2.2.2.2.2.2.2.1 x.2.2.2.2.2.2.2.2.2.2.2.2.2.2.2.2.2.2.2.2.1 x.2.2.2.2.2.2.2.2.2.2.2.2.2.2.2.2.2.2.2.2.2.1 x.2.2.2.2.2.2.2.2.2.2.2.2.2.2.2.2.2.2.2.2.2.2.1 x.2.2.2.2.2.2.2.2.2.2.2.2.2.2.2.2.2.2.2.2.2.2.2.1 x.2.2.2.2.2.2.2.2.2.2.2.2.2.2.2.2.2.2.2.2.2.2.2.2.1 x.2.2.2.2.2.2.2.2.2.2.2.2.2.2.2.2.2.2.2.2.2.2.2.2.2.1 x.2.2.2.2.2.2.2.2.2.2.2.2.2.2.2.2.2.2.2.2.2.2.2.2.2.2.1 x.2.2.2.2.2.2.2.2.2.2.2.2.2.2.2.2.2.2.2.2.2.2.2.2.2.2.2 }
def hint_F_admit_judge_numbers : Hint := (.mk .plain [H0, (.mk .plain [(.mk .plain [H0, (.mk .plain [(.mk (.loop [⟨.slot 11, (.int .i64), none⟩] [(0, 30), (0, 36), (0, 42), (0, 39), (0, 2), (0, 14), (0, 17), (0, 23), (0, 20), (0, 26), (0, 29), (0, 35), (0, 32), (0, 38), (0, 41), (0, 4), (0, 16), (0, 13), (0, 19), (0, 22), (0, 28), (0, 25), (0, 31), (0, 34), (0, 40), (0, 37), (0, 43), (0, 12), (0, 15), (0, 21), (0, 18), (0, 24), (0, 27), (0, 33), (0, 44)] [(.ret, [⟨.slot 2, .bool, none⟩]), (.exit 0, [])]) [])])])])])
theorem run_F_admit_judge_numbers : runE ⟨tdGet tys, [con_F_admit_within], []⟩ con_F_admit_judge_numbers Tryz.f38 hint_F_admit_judge_numbers = con_F_admit_judge_numbers.F := by
  funext x
  kernel_rfl
theorem ok_F_admit_judge_numbers : ConOK Tryz.prog con_F_admit_judge_numbers :=
  con_of_run (Γ := ⟨tdGet tys, [con_F_admit_within], []⟩) ⟨fun T d h => tysB_ok tys tys_ok T d h, by simp [ok_F_admit_within], by simp []⟩ (by kernel_rfl) Tryz.func38 rfl (by kernel_rfl) run_F_admit_judge_numbers
/-- (odograph/world.Script).Places -/
noncomputable def F_world_Script_Places (s_1 : Yd479) : Option (List Int) :=
  let t11_2 : Int := (s_1.2.2.2.2.2.1.length : Int)
  Option.bind (
    loopO (X := (List Int)) (fun (s_3 : (Int × ((List Int) × Int))) =>
      let t4_4 : Int := s_3.1
      let out_5 : (List Int) := s_3.2.1
      let t12_6 : Int := s_3.2.2
      (bif (decide (t12_6 < t11_2)) then
        chk none ((decide ((0 : Int) ≤ t12_6)) && (decide (t12_6 < (s_1.2.2.2.2.2.1.length : Int)))) <|
        let t15_7 : Yd10 := (s_1.2.2.2.2.2.1.getD t12_6.toNat ((0 : Int), (((0 : Int), (0 : Int)), ((0 : Int), ((0 : Int), ((false, (false, (false, false))), ([], false)))))))
        let t19_8 : Int := (IntKind.wrap .i64 (t4_4 + t15_7.1))
        chk none (decide ((out_5.length + ([t19_8] : List Int).length) * 8 ≤ 140737488355328)) <|
        let t23_9 : (List Int) := (out_5 ++ ([t19_8] : List Int))
        let t24_10 : Int := (IntKind.wrap .i64 (t12_6 + (1 : Int)))
        some (.inl (t19_8, t23_9, t24_10))
      else
        some (.inr out_5))) (s_1.2.1, [], (0 : Int))) fun r_11 =>
  some r_11
noncomputable def con_F_world_Script_Places : Con := { f := 39, ps := [.dat (.agg Yt479)], boxes := [], ins := (.agg Yt479), nin := 1, outs := (.slice (.int .i64)), rs := [.dat (.slice (.int .i64))], nout := 1, F := fun x => F_world_Script_Places x }
def hint_F_world_Script_Places : Hint := (.mk .plain [H0, (.mk .plain [H0, (.mk .plain [H0, (.mk .plain [(.mk .plain [H0, (.mk .plain [(.mk (.loop [⟨.slot 4, (.int .i64), none⟩, ⟨.slot 3, (.slice (.int .i64)), some 2300002⟩, ⟨.slot 12, (.int .i64), none⟩] [(0, 16), (0, 13), (0, 19), (0, 22), (0, 14), (0, 17), (0, 23), (0, 20), (0, 6), (0, 15), (0, 21), (0, 18), (0, 24)] [(.exit 0, [⟨.slot 3, (.slice (.int .i64)), some 2300002⟩])]) [])])])])])])])
theorem run_F_world_Script_Places : runE ⟨tdGet tys, [], []⟩ con_F_world_Script_Places Tryz.f39 hint_F_world_Script_Places = con_F_world_Script_Places.F := by
  funext x
  kernel_rfl
theorem ok_F_world_Script_Places : ConOK Tryz.prog con_F_world_Script_Places :=
  con_of_run (Γ := ⟨tdGet tys, [], []⟩) ⟨fun T d h => tysB_ok tys tys_ok T d h, by simp [], by simp []⟩ (by kernel_rfl) Tryz.func39 rfl (by kernel_rfl) run_F_world_Script_Places
/-- odograph/ratio.Floor -/
noncomputable def F_ratio_Floor (a_1 : Int) (b_2 : Int) (c_3 : Int) : Option (Int × Int) :=
  (F_ratio_divide a_1 b_2 c_3 false).bind fun t11_4 =>
  some (t11_4.1, t11_4.2)
noncomputable def con_F_ratio_Floor : Con := { f := 69, ps := [.dat (.int .i64), .dat (.int .i64), .dat (.int .i64)], boxes := [], ins := (.pair (.int .i64) (.pair (.int .i64) (.int .i64))), nin := 3, outs := (.pair (.int .i64) (.int .i64)), rs := [.dat (.int .i64), .dat (.int .i64)], nout := 2, F := fun x => F_ratio_Floor x.1 x.2.1 x.2.2 }
def hint_F_ratio_Floor : Hint := H0
theorem run_F_ratio_Floor : runE ⟨tdGet tys, [con_F_ratio_divide], []⟩ con_F_ratio_Floor Tryz.f69 hint_F_ratio_Floor = con_F_ratio_Floor.F := by
  funext x
  kernel_rfl
theorem ok_F_ratio_Floor : ConOK Tryz.prog con_F_ratio_Floor :=
  con_of_run (Γ := ⟨tdGet tys, [con_F_ratio_divide], []⟩) ⟨fun T d h => tysB_ok tys tys_ok T d h, by simp [ok_F_ratio_divide], by simp []⟩ (by kernel_rfl) Tryz.func69 rfl (by kernel_rfl) run_F_ratio_Floor
/-- (odograph/world.Script).Counts -/
noncomputable def F_world_Script_Counts (s_1 : Yd479) (c_2 : Yd433) (wheel_3 : Int) : Option (List Int) :=
  chk none ((decide ((0 : Int) ≤ wheel_3)) && (decide (wheel_3 < (2 : Int)))) <|
  let t16_4 : Int := (List.getD [s_1.2.2.2.2.1.1, s_1.2.2.2.2.1.2] wheel_3.toNat (0 : Int))
  let t19_5 : Int := (s_1.2.2.2.2.2.1.length : Int)
  Option.bind (
    loopO (X := (List Int)) (fun (s_6 : (Int × (Int × (List Int)))) =>
      let turned_7 : Int := s_6.1
      let t20_8 : Int := s_6.2.1
      let out_9 : (List Int) := s_6.2.2
      (bif (decide (t20_8 < t19_5)) then
        chk none ((decide ((0 : Int) ≤ t20_8)) && (decide (t20_8 < (s_1.2.2.2.2.2.1.length : Int)))) <|
        let t23_10 : Yd10 := (s_1.2.2.2.2.2.1.getD t20_8.toNat ((0 : Int), (((0 : Int), (0 : Int)), ((0 : Int), ((0 : Int), ((false, (false, (false, false))), ([], false)))))))
        let t29_11 : Int := (IntKind.wrap .i64 (c_2.1 * t23_10.1))
        chk none ((decide ((0 : Int) ≤ wheel_3)) && (decide (wheel_3 < (2 : Int)))) <|
        let t33_12 : Int := (List.getD [t23_10.2.1.1, t23_10.2.1.2] wheel_3.toNat (0 : Int))
        let t34_13 : Int := (IntKind.wrap .i64 (t29_11 + t33_12))
        let t35_14 : Int := (IntKind.wrap .i64 (turned_7 + t34_13))
        chk none ((decide ((0 : Int) ≤ wheel_3)) && (decide (wheel_3 < (2 : Int)))) <|
        let t41_15 : Int := (List.getD [s_1.2.2.2.1.1, s_1.2.2.2.1.2] wheel_3.toNat (0 : Int))
        (F_ratio_Floor t35_14 (1 : Int) t41_15).bind fun t42_16 =>
        chk none (decide ((out_9.length + ([t42_16.1] : List Int).length) * 8 ≤ 140737488355328)) <|
        let t48_17 : (List Int) := (out_9 ++ ([t42_16.1] : List Int))
        let t49_18 : Int := (IntKind.wrap .i64 (t20_8 + (1 : Int)))
        some (.inl (t35_14, t49_18, t48_17))
      else
        some (.inr out_9))) (t16_4, (0 : Int), [])) fun r_19 =>
  some r_19
noncomputable def con_F_world_Script_Counts : Con := { f := 40, ps := [.dat (.agg Yt479), .dat (.agg Yt433), .dat (.int .i64)], boxes := [], ins := Yt481, nin := 3, outs := (.slice (.int .i64)), rs := [.dat (.slice (.int .i64))], nout := 1, F := fun x => F_world_Script_Counts x.1 x.2.1 x.2.2 }
def hint_F_world_Script_Counts : Hint := (.mk .plain [H0, (.mk .plain [H0, (.mk .plain [H0, (.mk .plain [(.mk .plain [H0, (.mk .plain [(.mk (.loop [⟨.slot 8, (.int .i64), none⟩, ⟨.slot 20, (.int .i64), none⟩, ⟨.slot 7, (.slice (.int .i64)), some 4800002⟩] [(0, 30), (0, 36), (0, 42), (0, 39), (0, 45), (0, 48), (0, 11), (0, 23), (0, 26), (0, 29), (0, 35), (0, 32), (0, 38), (0, 41), (0, 47), (0, 44), (0, 10), (0, 22), (0, 28), (0, 25), (0, 31), (0, 34), (0, 40), (0, 37), (0, 43), (0, 46), (0, 49), (0, 12), (0, 21), (0, 24), (0, 27), (0, 33)] [(.exit 0, [⟨.slot 7, (.slice (.int .i64)), some 4800002⟩])]) [])])])])])])])
theorem run_F_world_Script_Counts : runE ⟨tdGet tys, [con_F_ratio_Floor], []⟩ con_F_world_Script_Counts Tryz.f40 hint_F_world_Script_Counts = con_F_world_Script_Counts.F := by
  funext x
  kernel_rfl
theorem ok_F_world_Script_Counts : ConOK Tryz.prog con_F_world_Script_Counts :=
  con_of_run (Γ := ⟨tdGet tys, [con_F_ratio_Floor], []⟩) ⟨fun T d h => tysB_ok tys tys_ok T d h, by simp [ok_F_ratio_Floor], by simp []⟩ (by kernel_rfl) Tryz.func40 rfl (by kernel_rfl) run_F_world_Script_Counts
/-- (*odograph/admit.judge).fit -/
noncomputable def F_admit_judge_fit (i_1 : Int) (k_2 : Int) (x_3 : Int) (x_4 : Int) (x_5 : Int) (x_6 : Int) (x_7 : Int) (x_8 : Int) (x_9 : Int) (x_10 : Int) (x_11 : Int) (x_12 : Int) (x_13 : Int) (x_14 : Int) (x_15 : Int) (x_16 : Int) (x_17 : (List Yd1)) (x_18 : (List Yd4)) (x_19 : (List Int)) (x_20 : Int) (x_21 : Int) (x_22 : Int) (x_23 : Int) (x_24 : Int) (x_25 : Int) (x_26 : (List Yd10)) (x_27 : (List Yd3)) (x_28 : (List Int)) (x_29 : (List Int)) (x_30 : (List Int)) : Option Yd472 :=
  chk none ((decide ((0 : Int) ≤ k_2)) && (decide (k_2 < (x_26.length : Int)))) <|
  chk none ((decide ((0 : Int) ≤ i_1)) && (decide (i_1 < (4 : Int)))) <|
  let e_31 : Yd10 := (x_26.getD k_2.toNat ((0 : Int), (((0 : Int), (0 : Int)), ((0 : Int), ((0 : Int), ((false, (false, (false, false))), ([], false)))))))
  let t18_32 : Bool := (List.getD [e_31.2.2.2.2.1.1, e_31.2.2.2.2.1.2.1, e_31.2.2.2.2.1.2.2.1, e_31.2.2.2.2.1.2.2.2] i_1.toNat false)
  (bif (i_1 == (2 : Int)) then
    some ((!t18_32), x_3, x_4, x_5, x_6, x_7, x_8, x_9, x_10, x_11, x_12, x_13, x_14, x_15, x_16, x_17, x_18, x_19, x_20, x_21, x_22, x_23, x_24, x_25, x_26, x_27, x_28, x_29, x_30)
  else
    let t24_33 : Bool := (decide ((0 : Int) < k_2))
    let t28_34 : Bool := (bif t24_33 then (!t18_32) else false)
    let t36_35 : Int := (IntKind.wrap .i64 (k_2 - (1 : Int)))
    chk none (((decide ((0 : Int) ≤ t36_35)) && (decide (t36_35 < (x_26.length : Int)))) || !t28_34) <|
    chk none (((decide ((0 : Int) ≤ i_1)) && (decide (i_1 < (4 : Int)))) || !t28_34) <|
    let e_36 : Yd10 := (x_26.getD t36_35.toNat ((0 : Int), (((0 : Int), (0 : Int)), ((0 : Int), ((0 : Int), ((false, (false, (false, false))), ([], false)))))))
    let t41_37 : Bool := (List.getD [e_36.2.2.2.2.1.1, e_36.2.2.2.2.1.2.1, e_36.2.2.2.2.1.2.2.1, e_36.2.2.2.2.1.2.2.2] i_1.toNat false)
    let t43_38 : Bool := (bif t28_34 then (!t41_37) else false)
    some (t43_38, x_3, x_4, x_5, x_6, x_7, x_8, x_9, x_10, x_11, x_12, x_13, x_14, x_15, x_16, x_17, x_18, x_19, x_20, x_21, x_22, x_23, x_24, x_25, x_26, x_27, x_28, x_29, x_30))
noncomputable def con_F_admit_judge_fit : Con := { f := 89, ps := [.ref 0 0, .dat (.int .i64), .dat (.int .i64)], boxes := [[.dat (.int .i64), .dat (.int .i64), .dat (.int .i64), .dat (.int .i64), .dat (.int .i64), .dat (.int .i64), .dat (.int .i64), .dat (.int .i64), .dat (.int .i64), .dat (.int .i64), .dat (.int .i64), .dat (.int .i64), .dat (.int .i64), .dat (.int .i64), .dat (.slice (.agg Yt1)), .dat (.slice (.agg Yt4)), .dat (.slice (.int .i64)), .dat (.int .i64), .dat (.int .i64), .dat (.int .i64), .dat (.int .i64), .dat (.int .i64), .dat (.int .i64), .dat (.slice (.agg Yt10)), .dat (.slice (.agg Yt3)), .dat (.slice (.int .i64)), .dat (.slice (.int .i64)), .dat (.slice (.int .i64))]], ins := Yt483, nin := 30, outs := Yt472, rs := [.dat .bool], nout := 29, F := fun x => F_admit_judge_fit x.1 x.2.1 x.2.2.1 x.2.2.2.1 x.2.2.2.2.1 x.2.2.2.2.2.1 x.2.2.2.2.2.2.1 x.2.2.2.2.2.2.2.1 x.2.2.2.2.2.2.2.2.1 x.2.2.2.2.2.2.2.2.2.1 x.2.2.2.2.2.2.2.2.2.2.1 x.2.2.2.2.2.2.2.2.2.2.2.1 x.2.2.2.2.2.2.2.2.2.2.2.2.1 x.2.2.2.2.2.2.2.2.2.2.2.2.2.1 x.2.2.2.2.2.2.2.2.2.2.2.2.2.2.1 x.2.2.2.2.2.2.2.2.2.2.2.2.2.2.2.1 x.2.2.2.2.2.2.2.2.2.2.2.2.2.2.2.2.1 x.2.2.2.2.2.2.2.2.2.2.2.2.2.2.2.2.2.1 x.2.2.2.2.2.2.2.2.2.2.2.2.2.2.2.2.2.2.1 x.2.2.2.2.2.2.2.2.2.2.2.2.2.2.2.2.2.2.2.1 x.2.2.2.2.2.2.2.2.2.2.2.2.2.2.2.2.2.2.2.2.1 x.2.2.2.2.2.2.2.2.2.2.2.2.2.2.2.2.2.2.2.2.2.1 x.2.2.2.2.2.2.2.2.2.2.2.2.2.2.2.2.2.2.2.2.2.2.1 x.2.2.2.2.2.2.2.2.2.2.2.2.2.2.2.2.2.2.2.2.2.2.2.1 x.2.2.2.2.2.2.2.2.2.2.2.2.2.2.2.2.2.2.2.2.2.2.2.2.1 x.2.2.2.2.2.2.2.2.2.2.2.2.2.2.2.2.2.2.2.2.2.2.2.2.2.1 x.2.2.2.2.2.2.2.2.2.2.2.2.2.2.2.2.2.2.2.2.2.2.2.2.2.2.1 x.2.2.2.2.2.2.2.2.2.2.2.2.2.2.2.2.2.2.2.2.2.2.2.2.2.2.2.1 x.2.2.2.2.2.2.2.2.2.2.2.2.2.2.2.2.2.2.2.2.2.2.2.2.2.2.2.2.1 x.2.2.2.2.2.2.2.2.2.2.2.2.2.2.2.2.2.2.2.2.2.2.2.2.2.2.2.2.2 }
def hint_F_admit_judge_fit : Hint := H0
theorem run_F_admit_judge_fit : runE ⟨tdGet tys, [], []⟩ con_F_admit_judge_fit Tryz.f89 hint_F_admit_judge_fit = con_F_admit_judge_fit.F := by
  funext x
  kernel_rfl
theorem ok_F_admit_judge_fit : ConOK Tryz.prog con_F_admit_judge_fit :=
  con_of_run (Γ := ⟨tdGet tys, [], []⟩) ⟨fun T d h => tysB_ok tys tys_ok T d h, by simp [], by simp []⟩ (by kernel_rfl) Tryz.func89 rfl (by kernel_rfl) run_F_admit_judge_fit
/-- (odograph/conf.Config).Error -/
noncomputable def F_conf_Config_Error (c_1 : Yd433) (r_2 : Int) : Option Int :=
  let t10_3 : Int := (IntKind.wrap .i64 (0 - r_2))
  let t11_4 : Int := (if t10_3 > r_2 then t10_3 else r_2)
  (F_ratio_Floor t11_4 c_1.2.2.2.2.1 (1048576 : Int)).bind fun t14_5 =>
  let t20_6 : Int := (IntKind.wrap .i64 (c_1.2.2.2.1 + t14_5.1))
  some t20_6
noncomputable def con_F_conf_Config_Error : Con := { f := 124, ps := [.dat (.agg Yt433), .dat (.int .i64)], boxes := [], ins := Yt480, nin := 2, outs := (.int .i64), rs := [.dat (.int .i64)], nout := 1, F := fun x => F_conf_Config_Error x.1 x.2 }
def hint_F_conf_Config_Error : Hint := H0
theorem run_F_conf_Config_Error : runE ⟨tdGet tys, [con_F_ratio_Floor], []⟩ con_F_conf_Config_Error Tryz.f124 hint_F_conf_Config_Error = con_F_conf_Config_Error.F := by
  funext x
  kernel_rfl
theorem ok_F_conf_Config_Error : ConOK Tryz.prog con_F_conf_Config_Error :=
  con_of_run (Γ := ⟨tdGet tys, [con_F_ratio_Floor], []⟩) ⟨fun T d h => tysB_ok tys tys_ok T d h, by simp [ok_F_ratio_Floor], by simp []⟩ (by kernel_rfl) Tryz.func124 rfl (by kernel_rfl) run_F_conf_Config_Error
/-- odograph/span.At -/
noncomputable def F_span_At (x_1 : Int) : Option (Int × Int) :=
  let w_2 : (Int × Int) := (x_1, x_1)
  some w_2
noncomputable def con_F_span_At : Con := { f := 142, ps := [.dat (.int .i64)], boxes := [], ins := (.int .i64), nin := 1, outs := (.agg (.pair (.int .i64) (.int .i64))), rs := [.dat (.agg (.pair (.int .i64) (.int .i64)))], nout := 1, F := fun x => F_span_At x }
def hint_F_span_At : Hint := H0
theorem run_F_span_At : runE ⟨tdGet tys, [], []⟩ con_F_span_At Tryz.f142 hint_F_span_At = con_F_span_At.F := by
  funext x
  kernel_rfl
theorem ok_F_span_At : ConOK Tryz.prog con_F_span_At :=
  con_of_run (Γ := ⟨tdGet tys, [], []⟩) ⟨fun T d h => tysB_ok tys tys_ok T d h, by simp [], by simp []⟩ (by kernel_rfl) Tryz.func142 rfl (by kernel_rfl) run_F_span_At
/-- (odograph/span.Span).Right -/
noncomputable def F_span_Span_Right (s_1 : (Int × Int)) : Option Bool :=
  some (decide (s_1.1 ≤ s_1.2))
noncomputable def con_F_span_Span_Right : Con := { f := 144, ps := [.dat (.agg (.pair (.int .i64) (.int .i64)))], boxes := [], ins := (.agg (.pair (.int .i64) (.int .i64))), nin := 1, outs := .bool, rs := [.dat .bool], nout := 1, F := fun x => F_span_Span_Right x }
def hint_F_span_Span_Right : Hint := H0
theorem run_F_span_Span_Right : runE ⟨tdGet tys, [], []⟩ con_F_span_Span_Right Tryz.f144 hint_F_span_Span_Right = con_F_span_Span_Right.F := by
  funext x
  kernel_rfl
theorem ok_F_span_Span_Right : ConOK Tryz.prog con_F_span_Span_Right :=
  con_of_run (Γ := ⟨tdGet tys, [], []⟩) ⟨fun T d h => tysB_ok tys tys_ok T d h, by simp [], by simp []⟩ (by kernel_rfl) Tryz.func144 rfl (by kernel_rfl) run_F_span_Span_Right
/-- odograph/num.Sub -/
noncomputable def F_num_Sub (a_1 : Int) (b_2 : Int) : Option (Int × Bool) :=
  let t9_3 : Int := (IntKind.wrap .i64 (a_1 - b_2))
  let t11_4 : Bool := (decide ((0 : Int) ≤ a_1))
  let t13_5 : Bool := (decide ((0 : Int) ≤ b_2))
  let t17_6 : Bool := (decide ((0 : Int) ≤ t9_3))
  let t19_7 : Bool := (decide ((0 : Int) ≤ a_1))
  let t21_8 : Bool := (bif (!(t11_4 == t13_5)) then (!(t17_6 == t19_7)) else false)
  (bif t21_8 then
    some ((0 : Int), false)
  else
    some (t9_3, true))
noncomputable def con_F_num_Sub : Con := { f := 145, ps := [.dat (.int .i64), .dat (.int .i64)], boxes := [], ins := (.pair (.int .i64) (.int .i64)), nin := 2, outs := (.pair (.int .i64) .bool), rs := [.dat (.int .i64), .dat .bool], nout := 2, F := fun x => F_num_Sub x.1 x.2 }
def hint_F_num_Sub : Hint := H0
theorem run_F_num_Sub : runE ⟨tdGet tys, [], []⟩ con_F_num_Sub Tryz.f145 hint_F_num_Sub = con_F_num_Sub.F := by
  funext x
  kernel_rfl
theorem ok_F_num_Sub : ConOK Tryz.prog con_F_num_Sub :=
  con_of_run (Γ := ⟨tdGet tys, [], []⟩) ⟨fun T d h => tysB_ok tys tys_ok T d h, by simp [], by simp []⟩ (by kernel_rfl) Tryz.func145 rfl (by kernel_rfl) run_F_num_Sub
/-- odograph/num.Add -/
noncomputable def F_num_Add (a_1 : Int) (b_2 : Int) : Option (Int × Bool) :=
  let t9_3 : Int := (IntKind.wrap .i64 (a_1 + b_2))
  let t11_4 : Bool := (decide ((0 : Int) ≤ a_1))
  let t13_5 : Bool := (decide ((0 : Int) ≤ b_2))
  let t17_6 : Bool := (decide ((0 : Int) ≤ t9_3))
  let t19_7 : Bool := (decide ((0 : Int) ≤ a_1))
  let t21_8 : Bool := (bif (t11_4 == t13_5) then (!(t17_6 == t19_7)) else false)
  (bif t21_8 then
    some ((0 : Int), false)
  else
    some (t9_3, true))
noncomputable def con_F_num_Add : Con := { f := 146, ps := [.dat (.int .i64), .dat (.int .i64)], boxes := [], ins := (.pair (.int .i64) (.int .i64)), nin := 2, outs := (.pair (.int .i64) .bool), rs := [.dat (.int .i64), .dat .bool], nout := 2, F := fun x => F_num_Add x.1 x.2 }
def hint_F_num_Add : Hint := H0
theorem run_F_num_Add : runE ⟨tdGet tys, [], []⟩ con_F_num_Add Tryz.f146 hint_F_num_Add = con_F_num_Add.F := by
  funext x
  kernel_rfl
theorem ok_F_num_Add : ConOK Tryz.prog con_F_num_Add :=
  con_of_run (Γ := ⟨tdGet tys, [], []⟩) ⟨fun T d h => tysB_ok tys tys_ok T d h, by simp [], by simp []⟩ (by kernel_rfl) Tryz.func146 rfl (by kernel_rfl) run_F_num_Add
/-- odograph/span.both -/
noncomputable def F_span_both (lo_1 : Int) (a_2 : Bool) (hi_3 : Int) (b_4 : Bool) : Option ((Int × Int) × Bool) :=
  let t15_5 : Bool := (bif (!a_2) then true else (!b_4))
  let t20_6 : Bool := (bif t15_5 then true else (decide (hi_3 < lo_1)))
  (bif t20_6 then
    let w_7 : (Int × Int) := ((0 : Int), (0 : Int))
    some (w_7, false)
  else
    let w_8 : (Int × Int) := (lo_1, hi_3)
    some (w_8, true))
noncomputable def con_F_span_both : Con := { f := 139, ps := [.dat (.int .i64), .dat .bool, .dat (.int .i64), .dat .bool], boxes := [], ins := Yt484, nin := 4, outs := (.pair (.agg (.pair (.int .i64) (.int .i64))) .bool), rs := [.dat (.agg (.pair (.int .i64) (.int .i64))), .dat .bool], nout := 2, F := fun x => F_span_both x.1 x.2.1 x.2.2.1 x.2.2.2 }
def hint_F_span_both : Hint := H0
theorem run_F_span_both : runE ⟨tdGet tys, [], []⟩ con_F_span_both Tryz.f139 hint_F_span_both = con_F_span_both.F := by
  funext x
  kernel_rfl
theorem ok_F_span_both : ConOK Tryz.prog con_F_span_both :=
  con_of_run (Γ := ⟨tdGet tys, [], []⟩) ⟨fun T d h => tysB_ok tys tys_ok T d h, by simp [], by simp []⟩ (by kernel_rfl) Tryz.func139 rfl (by kernel_rfl) run_F_span_both
/-- (odograph/span.Span).Grow -/
noncomputable def F_span_Span_Grow (s_1 : (Int × Int)) (far_2 : Int) : Option ((Int × Int) × Bool) :=
  (F_span_Span_Right s_1).bind fun t11_3 =>
  (bif (!t11_3) then
    let w_4 : (Int × Int) := ((0 : Int), (0 : Int))
    some (w_4, false)
  else
    (F_num_Sub s_1.1 far_2).bind fun t18_5 =>
    (F_num_Add s_1.2 far_2).bind fun t25_6 =>
    (F_span_both t18_5.1 t18_5.2 t25_6.1 t25_6.2).bind fun t32_7 =>
    some (t32_7.1, t32_7.2))
noncomputable def con_F_span_Span_Grow : Con := { f := 143, ps := [.dat (.agg (.pair (.int .i64) (.int .i64))), .dat (.int .i64)], boxes := [], ins := (.pair (.agg (.pair (.int .i64) (.int .i64))) (.int .i64)), nin := 2, outs := (.pair (.agg (.pair (.int .i64) (.int .i64))) .bool), rs := [.dat (.agg (.pair (.int .i64) (.int .i64))), .dat .bool], nout := 2, F := fun x => F_span_Span_Grow x.1 x.2 }
def hint_F_span_Span_Grow : Hint := H0
theorem run_F_span_Span_Grow : runE ⟨tdGet tys, [con_F_span_Span_Right, con_F_num_Sub, con_F_num_Add, con_F_span_both], []⟩ con_F_span_Span_Grow Tryz.f143 hint_F_span_Span_Grow = con_F_span_Span_Grow.F := by
  funext x
  kernel_rfl
theorem ok_F_span_Span_Grow : ConOK Tryz.prog con_F_span_Span_Grow :=
  con_of_run (Γ := ⟨tdGet tys, [con_F_span_Span_Right, con_F_num_Sub, con_F_num_Add, con_F_span_both], []⟩) ⟨fun T d h => tysB_ok tys tys_ok T d h, by simp [ok_F_span_Span_Right, ok_F_num_Sub, ok_F_num_Add, ok_F_span_both], by simp []⟩ (by kernel_rfl) Tryz.func143 rfl (by kernel_rfl) run_F_span_Span_Grow
/-- odograph/span.Around -/
noncomputable def F_span_Around (x_1 : Int) (far_2 : Int) : Option ((Int × Int) × Bool) :=
  (F_span_At x_1).bind fun t8_3 =>
  (F_span_Span_Grow t8_3 far_2).bind fun t11_4 =>
  some (t11_4.1, t11_4.2)
noncomputable def con_F_span_Around : Con := { f := 132, ps := [.dat (.int .i64), .dat (.int .i64)], boxes := [], ins := (.pair (.int .i64) (.int .i64)), nin := 2, outs := (.pair (.agg (.pair (.int .i64) (.int .i64))) .bool), rs := [.dat (.agg (.pair (.int .i64) (.int .i64))), .dat .bool], nout := 2, F := fun x => F_span_Around x.1 x.2 }
def hint_F_span_Around : Hint := H0
theorem run_F_span_Around : runE ⟨tdGet tys, [con_F_span_At, con_F_span_Span_Grow], []⟩ con_F_span_Around Tryz.f132 hint_F_span_Around = con_F_span_Around.F := by
  funext x
  kernel_rfl
theorem ok_F_span_Around : ConOK Tryz.prog con_F_span_Around :=
  con_of_run (Γ := ⟨tdGet tys, [con_F_span_At, con_F_span_Span_Grow], []⟩) ⟨fun T d h => tysB_ok tys tys_ok T d h, by simp [ok_F_span_At, ok_F_span_Span_Grow], by simp []⟩ (by kernel_rfl) Tryz.func132 rfl (by kernel_rfl) run_F_span_Around
/-- odograph/sense.Radar -/
noncomputable def F_sense_Radar (c_1 : Yd433) (r_2 : Int) : Option (Int × Int) :=
  (F_conf_Config_Error c_1 r_2).bind fun t11_3 =>
  (F_span_Around r_2 t11_3).bind fun t12_4 =>
  some t12_4.1
noncomputable def con_F_sense_Radar : Con := { f := 114, ps := [.dat (.agg Yt433), .dat (.int .i64)], boxes := [], ins := Yt480, nin := 2, outs := (.agg (.pair (.int .i64) (.int .i64))), rs := [.dat (.agg (.pair (.int .i64) (.int .i64)))], nout := 1, F := fun x => F_sense_Radar x.1 x.2 }
def hint_F_sense_Radar : Hint := H0
theorem run_F_sense_Radar : runE ⟨tdGet tys, [con_F_conf_Config_Error, con_F_span_Around], []⟩ con_F_sense_Radar Tryz.f114 hint_F_sense_Radar = con_F_sense_Radar.F := by
  funext x
  kernel_rfl
theorem ok_F_sense_Radar : ConOK Tryz.prog con_F_sense_Radar :=
  con_of_run (Γ := ⟨tdGet tys, [con_F_conf_Config_Error, con_F_span_Around], []⟩) ⟨fun T d h => tysB_ok tys tys_ok T d h, by simp [ok_F_conf_Config_Error, ok_F_span_Around], by simp []⟩ (by kernel_rfl) Tryz.func114 rfl (by kernel_rfl) run_F_sense_Radar
/-- odograph/pulse.Delta -/
noncomputable def F_pulse_Delta (from_1 : Int) (to_2 : Int) : Option Int :=
  let t7_3 : Int := (IntKind.wrap .u16 (to_2 - from_1))
  let t9_4 : Int := (IntKind.wrap .i64 (IntKind.wrap .i16 t7_3))
  some t9_4
noncomputable def con_F_pulse_Delta : Con := { f := 122, ps := [.dat (.int .u16), .dat (.int .u16)], boxes := [], ins := (.pair (.int .u16) (.int .u16)), nin := 2, outs := (.int .i64), rs := [.dat (.int .i64)], nout := 1, F := fun x => F_pulse_Delta x.1 x.2 }
def hint_F_pulse_Delta : Hint := H0
theorem run_F_pulse_Delta : runE ⟨tdGet tys, [], []⟩ con_F_pulse_Delta Tryz.f122 hint_F_pulse_Delta = con_F_pulse_Delta.F := by
  funext x
  kernel_rfl
theorem ok_F_pulse_Delta : ConOK Tryz.prog con_F_pulse_Delta :=
  con_of_run (Γ := ⟨tdGet tys, [], []⟩) ⟨fun T d h => tysB_ok tys tys_ok T d h, by simp [], by simp []⟩ (by kernel_rfl) Tryz.func122 rfl (by kernel_rfl) run_F_pulse_Delta
/-- (odograph/span.Span).Times -/
noncomputable def F_span_Span_Times (s_1 : (Int × Int)) (k_2 : Int) (by_3 : Int) : Option ((Int × Int) × Int) :=
  (F_span_Span_Right s_1).bind fun t14_4 =>
  let t18_5 : Bool := (decide (by_3 < (1 : Int)))
  let t19_6 : Bool := (bif (!t14_4) then true else t18_5)
  (bif t19_6 then
    let w_7 : (Int × Int) := ((0 : Int), (0 : Int))
    some (w_7, (10 : Int))
  else
    let t26_8 : Bool := (decide (k_2 < (0 : Int)))
    Option.bind (
      (bif t26_8 then
        some (s_1.2, s_1.1)
      else
        some (s_1.1, s_1.2))) fun r_9 =>
    let lo_10 : Int := r_9.1
    let hi_11 : Int := r_9.2
    (F_ratio_Floor k_2 lo_10 by_3).bind fun t33_12 =>
    (bif (t33_12.2 != (0 : Int)) then
      let w_13 : (Int × Int) := ((0 : Int), (0 : Int))
      some (w_13, t33_12.2)
    else
      (F_ratio_Ceil k_2 hi_11 by_3).bind fun t44_14 =>
      (bif (t44_14.2 != (0 : Int)) then
        let w_15 : (Int × Int) := ((0 : Int), (0 : Int))
        some (w_15, t44_14.2)
      else
        let w_16 : (Int × Int) := (t33_12.1, t44_14.1)
        some (w_16, (0 : Int)))))
noncomputable def con_F_span_Span_Times : Con := { f := 137, ps := [.dat (.agg (.pair (.int .i64) (.int .i64))), .dat (.int .i64), .dat (.int .i64)], boxes := [], ins := Yt485, nin := 3, outs := (.pair (.agg (.pair (.int .i64) (.int .i64))) (.int .i64)), rs := [.dat (.agg (.pair (.int .i64) (.int .i64))), .dat (.int .i64)], nout := 2, F := fun x => F_span_Span_Times x.1 x.2.1 x.2.2 }
def hint_F_span_Span_Times : Hint := (.mk .plain [H0, (.mk .plain [H0, (.mk .plain [H0, (.mk .plain [(.mk .plain [H0, (.mk (.join [(0, 27), (0, 28)] [(.normal, [⟨.slot 8, (.int .i64), none⟩, ⟨.slot 9, (.int .i64), none⟩])]) [])])])])])])
theorem run_F_span_Span_Times : runE ⟨tdGet tys, [con_F_span_Span_Right, con_F_ratio_Floor, con_F_ratio_Ceil], []⟩ con_F_span_Span_Times Tryz.f137 hint_F_span_Span_Times = con_F_span_Span_Times.F := by
  funext x
  kernel_rfl
theorem ok_F_span_Span_Times : ConOK Tryz.prog con_F_span_Span_Times :=
  con_of_run (Γ := ⟨tdGet tys, [con_F_span_Span_Right, con_F_ratio_Floor, con_F_ratio_Ceil], []⟩) ⟨fun T d h => tysB_ok tys tys_ok T d h, by simp [ok_F_span_Span_Right, ok_F_ratio_Floor, ok_F_ratio_Ceil], by simp []⟩ (by kernel_rfl) Tryz.func137 rfl (by kernel_rfl) run_F_span_Span_Times
/-- (odograph/span.Span).Hull -/
noncomputable def F_span_Span_Hull (s_1 : (Int × Int)) (t_2 : (Int × Int)) : Option (Int × Int) :=
  (F_span_Span_Right s_1).bind fun t7_3 =>
  (bif (!t7_3) then
    some t_2
  else
    (F_span_Span_Right t_2).bind fun t12_4 =>
    (bif (!t12_4) then
      some s_1
    else
      let t19_5 : Int := (if t_2.1 < s_1.1 then t_2.1 else s_1.1)
      let t24_6 : Int := (if t_2.2 > s_1.2 then t_2.2 else s_1.2)
      let w_7 : (Int × Int) := (t19_5, t24_6)
      some w_7))
noncomputable def con_F_span_Span_Hull : Con := { f := 138, ps := [.dat (.agg (.pair (.int .i64) (.int .i64))), .dat (.agg (.pair (.int .i64) (.int .i64)))], boxes := [], ins := Yt486, nin := 2, outs := (.agg (.pair (.int .i64) (.int .i64))), rs := [.dat (.agg (.pair (.int .i64) (.int .i64)))], nout := 1, F := fun x => F_span_Span_Hull x.1 x.2 }
def hint_F_span_Span_Hull : Hint := H0
theorem run_F_span_Span_Hull : runE ⟨tdGet tys, [con_F_span_Span_Right], []⟩ con_F_span_Span_Hull Tryz.f138 hint_F_span_Span_Hull = con_F_span_Span_Hull.F := by
  funext x
  kernel_rfl
theorem ok_F_span_Span_Hull : ConOK Tryz.prog con_F_span_Span_Hull :=
  con_of_run (Γ := ⟨tdGet tys, [con_F_span_Span_Right], []⟩) ⟨fun T d h => tysB_ok tys tys_ok T d h, by simp [ok_F_span_Span_Right], by simp []⟩ (by kernel_rfl) Tryz.func138 rfl (by kernel_rfl) run_F_span_Span_Hull
/-- odograph/sense.Tacho -/
noncomputable def F_sense_Tacho (d_1 : Int) (circ_2 : (Int × Int)) (pulses_3 : Int) : Option ((Int × Int) × Int) :=
  let t12_4 : Bool := (decide (d_1 < (-32768 : Int)))
  let t15_5 : Bool := (decide ((32767 : Int) < d_1))
  let t16_6 : Bool := (bif t12_4 then true else t15_5)
  (bif t16_6 then
    let w_7 : (Int × Int) := ((0 : Int), (0 : Int))
    some (w_7, (10 : Int))
  else
    let t21_8 : Int := (IntKind.wrap .i64 (d_1 - (1 : Int)))
    (F_span_Span_Times circ_2 t21_8 pulses_3).bind fun t23_9 =>
    (bif (t23_9.2 != (0 : Int)) then
      let w_10 : (Int × Int) := ((0 : Int), (0 : Int))
      some (w_10, t23_9.2)
    else
      let t33_11 : Int := (IntKind.wrap .i64 (d_1 + (1 : Int)))
      (F_span_Span_Times circ_2 t33_11 pulses_3).bind fun t35_12 =>
      (bif (t35_12.2 != (0 : Int)) then
        let w_13 : (Int × Int) := ((0 : Int), (0 : Int))
        some (w_13, t35_12.2)
      else
        (F_span_Span_Hull t23_9.1 t35_12.1).bind fun t44_14 =>
        some (t44_14, (0 : Int)))))
noncomputable def con_F_sense_Tacho : Con := { f := 123, ps := [.dat (.int .i64), .dat (.agg (.pair (.int .i64) (.int .i64))), .dat (.int .i64)], boxes := [], ins := Yt487, nin := 3, outs := (.pair (.agg (.pair (.int .i64) (.int .i64))) (.int .i64)), rs := [.dat (.agg (.pair (.int .i64) (.int .i64))), .dat (.int .i64)], nout := 2, F := fun x => F_sense_Tacho x.1 x.2.1 x.2.2 }
def hint_F_sense_Tacho : Hint := H0
theorem run_F_sense_Tacho : runE ⟨tdGet tys, [con_F_span_Span_Times, con_F_span_Span_Hull], []⟩ con_F_sense_Tacho Tryz.f123 hint_F_sense_Tacho = con_F_sense_Tacho.F := by
  funext x
  kernel_rfl
theorem ok_F_sense_Tacho : ConOK Tryz.prog con_F_sense_Tacho :=
  con_of_run (Γ := ⟨tdGet tys, [con_F_span_Span_Times, con_F_span_Span_Hull], []⟩) ⟨fun T d h => tysB_ok tys tys_ok T d h, by simp [ok_F_span_Span_Times, ok_F_span_Span_Hull], by simp []⟩ (by kernel_rfl) Tryz.func123 rfl (by kernel_rfl) run_F_sense_Tacho
/-- (*odograph/admit.judge).says -/
noncomputable def F_admit_judge_says (i_1 : Int) (k_2 : Int) (x_3 : Int) (x_4 : Int) (x_5 : Int) (x_6 : Int) (x_7 : Int) (x_8 : Int) (x_9 : Int) (x_10 : Int) (x_11 : Int) (x_12 : Int) (x_13 : Int) (x_14 : Int) (x_15 : Int) (x_16 : Int) (x_17 : (List Yd1)) (x_18 : (List Yd4)) (x_19 : (List Int)) (x_20 : Int) (x_21 : Int) (x_22 : Int) (x_23 : Int) (x_24 : Int) (x_25 : Int) (x_26 : (List Yd10)) (x_27 : (List Yd3)) (x_28 : (List Int)) (x_29 : (List Int)) (x_30 : (List Int)) : Option Yd488 :=
  chk none ((decide ((0 : Int) ≤ k_2)) && (decide (k_2 < (x_26.length : Int)))) <|
  let t18_31 : Yd10 := (x_26.getD k_2.toNat ((0 : Int), (((0 : Int), (0 : Int)), ((0 : Int), ((0 : Int), ((false, (false, (false, false))), ([], false)))))))
  (bif (i_1 == (2 : Int)) then
    let t24_32 : Yd433 := (x_3, (x_4, (x_5, (x_6, (x_7, (x_8, (x_9, (x_10, (x_11, (x_12, (x_13, (x_14, (x_15, x_16)))))))))))))
    let t29_33 : Int := (IntKind.wrap .i64 (t18_31.1 + t18_31.2.2.1))
    (F_sense_Radar t24_32 t29_33).bind fun t30_34 =>
    some (t30_34, x_3, x_4, x_5, x_6, x_7, x_8, x_9, x_10, x_11, x_12, x_13, x_14, x_15, x_16, x_17, x_18, x_19, x_20, x_21, x_22, x_23, x_24, x_25, x_26, x_27, x_28, x_29, x_30)
  else
    chk none ((decide ((0 : Int) ≤ i_1)) && (decide (i_1 < (2 : Int)))) <|
    let t36_35 : (List Int) := (List.getD [x_29, x_30] i_1.toNat [])
    let t38_36 : Int := (IntKind.wrap .i64 (k_2 - (1 : Int)))
    chk none ((decide ((0 : Int) ≤ t38_36)) && (decide (t38_36 < (t36_35.length : Int)))) <|
    let t40_37 : Int := (t36_35.getD t38_36.toNat (0 : Int))
    let t41_38 : Int := (IntKind.wrap .u16 t40_37)
    chk none ((decide ((0 : Int) ≤ i_1)) && (decide (i_1 < (2 : Int)))) <|
    let t47_39 : (List Int) := (List.getD [x_29, x_30] i_1.toNat [])
    chk none ((decide ((0 : Int) ≤ k_2)) && (decide (k_2 < (t47_39.length : Int)))) <|
    let t50_40 : Int := (t47_39.getD k_2.toNat (0 : Int))
    let t51_41 : Int := (IntKind.wrap .u16 t50_40)
    (F_pulse_Delta t41_38 t51_41).bind fun t52_42 =>
    let t58_43 : Yd433 := (x_3, (x_4, (x_5, (x_6, (x_7, (x_8, (x_9, (x_10, (x_11, (x_12, (x_13, (x_14, (x_15, x_16)))))))))))))
    (F_conf_Config_Circ t58_43).bind fun t59_44 =>
    (F_sense_Tacho t52_42 t59_44 x_3).bind fun t65_45 =>
    some (t65_45.1, x_3, x_4, x_5, x_6, x_7, x_8, x_9, x_10, x_11, x_12, x_13, x_14, x_15, x_16, x_17, x_18, x_19, x_20, x_21, x_22, x_23, x_24, x_25, x_26, x_27, x_28, x_29, x_30))
noncomputable def con_F_admit_judge_says : Con := { f := 90, ps := [.ref 0 0, .dat (.int .i64), .dat (.int .i64)], boxes := [[.dat (.int .i64), .dat (.int .i64), .dat (.int .i64), .dat (.int .i64), .dat (.int .i64), .dat (.int .i64), .dat (.int .i64), .dat (.int .i64), .dat (.int .i64), .dat (.int .i64), .dat (.int .i64), .dat (.int .i64), .dat (.int .i64), .dat (.int .i64), .dat (.slice (.agg Yt1)), .dat (.slice (.agg Yt4)), .dat (.slice (.int .i64)), .dat (.int .i64), .dat (.int .i64), .dat (.int .i64), .dat (.int .i64), .dat (.int .i64), .dat (.int .i64), .dat (.slice (.agg Yt10)), .dat (.slice (.agg Yt3)), .dat (.slice (.int .i64)), .dat (.slice (.int .i64)), .dat (.slice (.int .i64))]], ins := Yt483, nin := 30, outs := Yt488, rs := [.dat (.agg (.pair (.int .i64) (.int .i64)))], nout := 29, F := fun x => F_admit_judge_says x.1 x.2.1 x.2.2.1 x.2.2.2.1 x.2.2.2.2.1 x.2.2.2.2.2.1 x.2.2.2.2.2.2.1 x.2.2.2.2.2.2.2.1 x.2.2.2.2.2.2.2.2.1 x.2.2.2.2.2.2.2.2.2.1 x.2.2.2.2.2.2.2.2.2.2.1 x.2.2.2.2.2.2.2.2.2.2.2.1 x.2.2.2.2.2.2.2.2.2.2.2.2.1 x.2.2.2.2.2.2.2.2.2.2.2.2.2.1 x.2.2.2.2.2.2.2.2.2.2.2.2.2.2.1 x.2.2.2.2.2.2.2.2.2.2.2.2.2.2.2.1 x.2.2.2.2.2.2.2.2.2.2.2.2.2.2.2.2.1 x.2.2.2.2.2.2.2.2.2.2.2.2.2.2.2.2.2.1 x.2.2.2.2.2.2.2.2.2.2.2.2.2.2.2.2.2.2.1 x.2.2.2.2.2.2.2.2.2.2.2.2.2.2.2.2.2.2.2.1 x.2.2.2.2.2.2.2.2.2.2.2.2.2.2.2.2.2.2.2.2.1 x.2.2.2.2.2.2.2.2.2.2.2.2.2.2.2.2.2.2.2.2.2.1 x.2.2.2.2.2.2.2.2.2.2.2.2.2.2.2.2.2.2.2.2.2.2.1 x.2.2.2.2.2.2.2.2.2.2.2.2.2.2.2.2.2.2.2.2.2.2.2.1 x.2.2.2.2.2.2.2.2.2.2.2.2.2.2.2.2.2.2.2.2.2.2.2.2.1 x.2.2.2.2.2.2.2.2.2.2.2.2.2.2.2.2.2.2.2.2.2.2.2.2.2.1 x.2.2.2.2.2.2.2.2.2.2.2.2.2.2.2.2.2.2.2.2.2.2.2.2.2.2.1 x.2.2.2.2.2.2.2.2.2.2.2.2.2.2.2.2.2.2.2.2.2.2.2.2.2.2.2.1 x.2.2.2.2.2.2.2.2.2.2.2.2.2.2.2.2.2.2.2.2.2.2.2.2.2.2.2.2.1 x.2.2.2.2.2.2.2.2.2.2.2.2.2.2.2.2.2.2.2.2.2.2.2.2.2.2.2.2.2 }
def hint_F_admit_judge_says : Hint := H0
theorem run_F_admit_judge_says : runE ⟨tdGet tys, [con_F_sense_Radar, con_F_pulse_Delta, con_F_conf_Config_Circ, con_F_sense_Tacho], []⟩ con_F_admit_judge_says Tryz.f90 hint_F_admit_judge_says = con_F_admit_judge_says.F := by
  funext x
  kernel_rfl
theorem ok_F_admit_judge_says : ConOK Tryz.prog con_F_admit_judge_says :=
  con_of_run (Γ := ⟨tdGet tys, [con_F_sense_Radar, con_F_pulse_Delta, con_F_conf_Config_Circ, con_F_sense_Tacho], []⟩) ⟨fun T d h => tysB_ok tys tys_ok T d h, by simp [ok_F_sense_Radar, ok_F_pulse_Delta, ok_F_conf_Config_Circ, ok_F_sense_Tacho], by simp []⟩ (by kernel_rfl) Tryz.func90 rfl (by kernel_rfl) run_F_admit_judge_says
/-- (*odograph/admit.judge).wrong -/
noncomputable def F_admit_judge_wrong (i_1 : Int) (k_2 : Int) (x_3 : Int) (x_4 : Int) (x_5 : Int) (x_6 : Int) (x_7 : Int) (x_8 : Int) (x_9 : Int) (x_10 : Int) (x_11 : Int) (x_12 : Int) (x_13 : Int) (x_14 : Int) (x_15 : Int) (x_16 : Int) (x_17 : (List Yd1)) (x_18 : (List Yd4)) (x_19 : (List Int)) (x_20 : Int) (x_21 : Int) (x_22 : Int) (x_23 : Int) (x_24 : Int) (x_25 : Int) (x_26 : (List Yd10)) (x_27 : (List Yd3)) (x_28 : (List Int)) (x_29 : (List Int)) (x_30 : (List Int)) : Option Yd472 :=
  chk none ((decide ((0 : Int) ≤ k_2)) && (decide (k_2 < (x_26.length : Int)))) <|
  let t15_31 : Yd10 := (x_26.getD k_2.toNat ((0 : Int), (((0 : Int), (0 : Int)), ((0 : Int), ((0 : Int), ((false, (false, (false, false))), ([], false)))))))
  (bif (i_1 == (2 : Int)) then
    let t23_32 : Yd433 := (x_3, (x_4, (x_5, (x_6, (x_7, (x_8, (x_9, (x_10, (x_11, (x_12, (x_13, (x_14, (x_15, x_16)))))))))))))
    let t28_33 : Int := (IntKind.wrap .i64 (t15_31.1 + t15_31.2.2.1))
    (F_conf_Config_Error t23_32 t28_33).bind fun t29_34 =>
    (F_admit_within t15_31.2.2.1 t29_34).bind fun t30_35 =>
    some ((!t30_35), x_3, x_4, x_5, x_6, x_7, x_8, x_9, x_10, x_11, x_12, x_13, x_14, x_15, x_16, x_17, x_18, x_19, x_20, x_21, x_22, x_23, x_24, x_25, x_26, x_27, x_28, x_29, x_30)
  else
    chk none ((decide ((0 : Int) ≤ i_1)) && (decide (i_1 < (2 : Int)))) <|
    let t35_36 : Int := (List.getD [t15_31.2.1.1, t15_31.2.1.2] i_1.toNat (0 : Int))
    some ((t35_36 != (0 : Int)), x_3, x_4, x_5, x_6, x_7, x_8, x_9, x_10, x_11, x_12, x_13, x_14, x_15, x_16, x_17, x_18, x_19, x_20, x_21, x_22, x_23, x_24, x_25, x_26, x_27, x_28, x_29, x_30))
noncomputable def con_F_admit_judge_wrong : Con := { f := 91, ps := [.ref 0 0, .dat (.int .i64), .dat (.int .i64)], boxes := [[.dat (.int .i64), .dat (.int .i64), .dat (.int .i64), .dat (.int .i64), .dat (.int .i64), .dat (.int .i64), .dat (.int .i64), .dat (.int .i64), .dat (.int .i64), .dat (.int .i64), .dat (.int .i64), .dat (.int .i64), .dat (.int .i64), .dat (.int .i64), .dat (.slice (.agg Yt1)), .dat (.slice (.agg Yt4)), .dat (.slice (.int .i64)), .dat (.int .i64), .dat (.int .i64), .dat (.int .i64), .dat (.int .i64), .dat (.int .i64), .dat (.int .i64), .dat (.slice (.agg Yt10)), .dat (.slice (.agg Yt3)), .dat (.slice (.int .i64)), .dat (.slice (.int .i64)), .dat (.slice (.int .i64))]], ins := Yt483, nin := 30, outs := Yt472, rs := [.dat .bool], nout := 29, F := fun x => F_admit_judge_wrong x.1 x.2.1 x.2.2.1 x.2.2.2.1 x.2.2.2.2.1 x.2.2.2.2.2.1 x.2.2.2.2.2.2.1 x.2.2.2.2.2.2.2.1 x.2.2.2.2.2.2.2.2.1 x.2.2.2.2.2.2.2.2.2.1 x.2.2.2.2.2.2.2.2.2.2.1 x.2.2.2.2.2.2.2.2.2.2.2.1 x.2.2.2.2.2.2.2.2.2.2.2.2.1 x.2.2.2.2.2.2.2.2.2.2.2.2.2.1 x.2.2.2.2.2.2.2.2.2.2.2.2.2.2.1 x.2.2.2.2.2.2.2.2.2.2.2.2.2.2.2.1 x.2.2.2.2.2.2.2.2.2.2.2.2.2.2.2.2.1 x.2.2.2.2.2.2.2.2.2.2.2.2.2.2.2.2.2.1 x.2.2.2.2.2.2.2.2.2.2.2.2.2.2.2.2.2.2.1 x.2.2.2.2.2.2.2.2.2.2.2.2.2.2.2.2.2.2.2.1 x.2.2.2.2.2.2.2.2.2.2.2.2.2.2.2.2.2.2.2.2.1 x.2.2.2.2.2.2.2.2.2.2.2.2.2.2.2.2.2.2.2.2.2.1 x.2.2.2.2.2.2.2.2.2.2.2.2.2.2.2.2.2.2.2.2.2.2.1 x.2.2.2.2.2.2.2.2.2.2.2.2.2.2.2.2.2.2.2.2.2.2.2.1 x.2.2.2.2.2.2.2.2.2.2.2.2.2.2.2.2.2.2.2.2.2.2.2.2.1 x.2.2.2.2.2.2.2.2.2.2.2.2.2.2.2.2.2.2.2.2.2.2.2.2.2.1 x.2.2.2.2.2.2.2.2.2.2.2.2.2.2.2.2.2.2.2.2.2.2.2.2.2.2.1 x.2.2.2.2.2.2.2.2.2.2.2.2.2.2.2.2.2.2.2.2.2.2.2.2.2.2.2.1 x.2.2.2.2.2.2.2.2.2.2.2.2.2.2.2.2.2.2.2.2.2.2.2.2.2.2.2.2.1 x.2.2.2.2.2.2.2.2.2.2.2.2.2.2.2.2.2.2.2.2.2.2.2.2.2.2.2.2.2 }
def hint_F_admit_judge_wrong : Hint := H0
theorem run_F_admit_judge_wrong : runE ⟨tdGet tys, [con_F_conf_Config_Error, con_F_admit_within], []⟩ con_F_admit_judge_wrong Tryz.f91 hint_F_admit_judge_wrong = con_F_admit_judge_wrong.F := by
  funext x
  kernel_rfl
theorem ok_F_admit_judge_wrong : ConOK Tryz.prog con_F_admit_judge_wrong :=
  con_of_run (Γ := ⟨tdGet tys, [con_F_conf_Config_Error, con_F_admit_within], []⟩) ⟨fun T d h => tysB_ok tys tys_ok T d h, by simp [ok_F_conf_Config_Error, ok_F_admit_within], by simp []⟩ (by kernel_rfl) Tryz.func91 rfl (by kernel_rfl) run_F_admit_judge_wrong
/-- (odograph/span.Span).Meet -/
noncomputable def F_span_Span_Meet (s_1 : (Int × Int)) (t_2 : (Int × Int)) : Option ((Int × Int) × Bool) :=
  let t10_3 : Int := (if t_2.1 > s_1.1 then t_2.1 else s_1.1)
  let t15_4 : Int := (if t_2.2 < s_1.2 then t_2.2 else s_1.2)
  (F_span_both t10_3 true t15_4 true).bind fun t16_5 =>
  some (t16_5.1, t16_5.2)
noncomputable def con_F_span_Span_Meet : Con := { f := 125, ps := [.dat (.agg (.pair (.int .i64) (.int .i64))), .dat (.agg (.pair (.int .i64) (.int .i64)))], boxes := [], ins := Yt486, nin := 2, outs := (.pair (.agg (.pair (.int .i64) (.int .i64))) .bool), rs := [.dat (.agg (.pair (.int .i64) (.int .i64))), .dat .bool], nout := 2, F := fun x => F_span_Span_Meet x.1 x.2 }
def hint_F_span_Span_Meet : Hint := H0
theorem run_F_span_Span_Meet : runE ⟨tdGet tys, [con_F_span_both], []⟩ con_F_span_Span_Meet Tryz.f125 hint_F_span_Span_Meet = con_F_span_Span_Meet.F := by
  funext x
  kernel_rfl
theorem ok_F_span_Span_Meet : ConOK Tryz.prog con_F_span_Span_Meet :=
  con_of_run (Γ := ⟨tdGet tys, [con_F_span_both], []⟩) ⟨fun T d h => tysB_ok tys tys_ok T d h, by simp [ok_F_span_both], by simp []⟩ (by kernel_rfl) Tryz.func125 rfl (by kernel_rfl) run_F_span_Span_Meet
/-- odograph/vote.Common -/
noncomputable def F_vote_Common (l_1 : (List (Int × Int))) : Option ((Int × Int) × Bool) :=
  let t10_2 : Bool := ((l_1.length : Int) == (0 : Int))
  (bif t10_2 then
    let w_3 : (Int × Int) := ((0 : Int), (0 : Int))
    some (w_3, false)
  else
    chk none (true && (decide ((0 : Int) < (l_1.length : Int)))) <|
    let t14_4 : (Int × Int) := (l_1.getD (0 : Int).toNat ((0 : Int), (0 : Int)))
    Option.bind (α := (Int × (Int × Bool)) ⊕ Yd3) (
      loopO (X := (Int × (Int × Bool)) ⊕ Yd3) (fun (s_5 : Yd4) =>
        let b1_6 : Int := s_5.1
        let b0_7 : Int := s_5.2.1
        let b0_8 : Int := s_5.2.2.1
        let b1_9 : Int := s_5.2.2.2.1
        let t17_10 : Int := s_5.2.2.2.2
        let t18_11 : Bool := (decide (t17_10 < (l_1.length : Int)))
        (bif t18_11 then
          chk none ((decide ((0 : Int) ≤ t17_10)) && (decide (t17_10 < (l_1.length : Int)))) <|
          let t20_12 : (Int × Int) := (l_1.getD t17_10.toNat ((0 : Int), (0 : Int)))
          (F_span_Span_Meet (b1_9, b1_6) t20_12).bind fun t24_13 =>
          (bif (!t24_13.2) then
            let w_14 : (Int × Int) := ((0 : Int), (0 : Int))
            some (.inr (.inl (w_14.1, w_14.2, false)))
          else
            let t30_15 : Int := (IntKind.wrap .i64 (t17_10 + (1 : Int)))
            some (.inl (t24_13.1.2, b0_7, b0_8, t24_13.1.1, t30_15)))
        else
          some (.inr (.inr (b1_6, b0_7, b0_8, b1_9))))) (t14_4.2, (0 : Int), (0 : Int), t14_4.1, (0 : Int))) fun z => match z with
    | .inl r_16 =>
      let b0_17 : Int := r_16.1
      let b0_18 : Int := r_16.2.1
      let t3_19 : Bool := r_16.2.2
      some ((b0_17, b0_18), t3_19)
    | .inr r_20 =>
      let b1_21 : Int := r_20.1
      let b0_22 : Int := r_20.2.1
      let b0_23 : Int := r_20.2.2.1
      let b1_24 : Int := r_20.2.2.2
      let w_25 : (Int × Int) := (b1_24, b1_21)
      some (w_25, true))
noncomputable def con_F_vote_Common : Con := { f := 92, ps := [.dat (.slice (.agg (.pair (.int .i64) (.int .i64))))], boxes := [], ins := (.slice (.agg (.pair (.int .i64) (.int .i64)))), nin := 1, outs := (.pair (.agg (.pair (.int .i64) (.int .i64))) .bool), rs := [.dat (.agg (.pair (.int .i64) (.int .i64))), .dat .bool], nout := 2, F := fun x => F_vote_Common x }
def hint_F_vote_Common : Hint := (.mk .plain [H0, (.mk .plain [H0, (.mk .plain [H0, (.mk .plain [(.mk .plain [H0, (.mk .plain [(.mk (.loop [⟨.cell 1 1, (.int .i64), none⟩, ⟨.cell 0 0, (.int .i64), none⟩, ⟨.cell 0 1, (.int .i64), none⟩, ⟨.cell 1 0, (.int .i64), none⟩, ⟨.slot 17, (.int .i64), none⟩] [(0, 7), (0, 19), (0, 22), (0, 28), (0, 25), (0, 23), (0, 20), (0, 26), (0, 29), (0, 3), (0, 6), (0, 21), (0, 18), (0, 24), (0, 27), (0, 30)] [(.ret, [⟨.cell 0 0, (.int .i64), none⟩, ⟨.cell 0 1, (.int .i64), none⟩, ⟨.slot 3, .bool, none⟩]), (.exit 0, [⟨.cell 1 1, (.int .i64), none⟩, ⟨.cell 0 0, (.int .i64), none⟩, ⟨.cell 0 1, (.int .i64), none⟩, ⟨.cell 1 0, (.int .i64), none⟩])]) [])])])])])])])
theorem run_F_vote_Common : runE ⟨tdGet tys, [con_F_span_Span_Meet], []⟩ con_F_vote_Common Tryz.f92 hint_F_vote_Common = con_F_vote_Common.F := by
  funext x
  kernel_rfl
theorem ok_F_vote_Common : ConOK Tryz.prog con_F_vote_Common :=
  con_of_run (Γ := ⟨tdGet tys, [con_F_span_Span_Meet], []⟩) ⟨fun T d h => tysB_ok tys tys_ok T d h, by simp [ok_F_span_Span_Meet], by simp []⟩ (by kernel_rfl) Tryz.func92 rfl (by kernel_rfl) run_F_vote_Common
/-- (*odograph/admit.judge).sensors -/
noncomputable def F_admit_judge_sensors (k_1 : Int) (x_2 : Int) (x_3 : Int) (x_4 : Int) (x_5 : Int) (x_6 : Int) (x_7 : Int) (x_8 : Int) (x_9 : Int) (x_10 : Int) (x_11 : Int) (x_12 : Int) (x_13 : Int) (x_14 : Int) (x_15 : Int) (x_16 : (List Yd1)) (x_17 : (List Yd4)) (x_18 : (List Int)) (x_19 : Int) (x_20 : Int) (x_21 : Int) (x_22 : Int) (x_23 : Int) (x_24 : Int) (x_25 : (List Yd10)) (x_26 : (List Yd3)) (x_27 : (List Int)) (x_28 : (List Int)) (x_29 : (List Int)) : Option Yd472 :=
  Option.bind (
    (F_admit_judge_fit (0 : Int) k_1 x_2 x_3 x_4 x_5 x_6 x_7 x_8 x_9 x_10 x_11 x_12 x_13 x_14 x_15 x_16 x_17 x_18 x_19 x_20 x_21 x_22 x_23 x_24 x_25 x_26 x_27 x_28 x_29).bind fun t16_30 =>
    (bif (!t16_30.1) then
      some (t16_30.2.1, t16_30.2.2.2.2.2.2.2.1, t16_30.2.2.2.2.1, t16_30.2.2.2.2.2.2.2.2.2.2.1, t16_30.2.2.2.2.2.2.2.2.2.2.2.2.2.1, t16_30.2.2.2.2.2.2.2.2.2.2.2.2.2.2.2.2.2.2.2.1, t16_30.2.2.2.2.2.2.2.2.2.2.2.2.2.2.2.2.1, t16_30.2.2.2.2.2.2.2.2.2.2.2.2.2.2.2.2.2.2.2.2.2.2.1, t16_30.2.2.2.2.2.2.2.2.2.2.2.2.2.2.2.2.2.2.2.2.2.2.2.2.2.1, t16_30.2.2.2.2.2.2.2.2.2.2.2.2.2.2.2.2.2.2.2.2.2.2.2.2.2.2.2.2, t16_30.2.2.2.1, t16_30.2.2.2.2.2.2.1, t16_30.2.2.2.2.2.2.2.2.2.2.2.2.1, t16_30.2.2.2.2.2.2.2.2.2.1, t16_30.2.2.2.2.2.2.2.2.2.2.2.2.2.2.2.1, t16_30.2.2.2.2.2.2.2.2.2.2.2.2.2.2.2.2.2.2.2.2.2.1, t16_30.2.2.2.2.2.2.2.2.2.2.2.2.2.2.2.2.2.2.1, t16_30.2.2.2.2.2.2.2.2.2.2.2.2.2.2.2.2.2.2.2.2.2.2.2.2.1, t16_30.2.2.2.2.2.2.2.2.2.2.2.2.2.2.2.2.2.2.2.2.2.2.2.2.2.2.2.1, t16_30.2.2.1, t16_30.2.2.2.2.2.1, t16_30.2.2.2.2.2.2.2.2.1, t16_30.2.2.2.2.2.2.2.2.2.2.2.2.2.2.1, t16_30.2.2.2.2.2.2.2.2.2.2.2.1, t16_30.2.2.2.2.2.2.2.2.2.2.2.2.2.2.2.2.2.1, t16_30.2.2.2.2.2.2.2.2.2.2.2.2.2.2.2.2.2.2.2.2.1, t16_30.2.2.2.2.2.2.2.2.2.2.2.2.2.2.2.2.2.2.2.2.2.2.2.2.2.2.1, t16_30.2.2.2.2.2.2.2.2.2.2.2.2.2.2.2.2.2.2.2.2.2.2.2.1, (0 : Int), [])
    else
      (F_admit_judge_says (0 : Int) k_1 t16_30.2.1 t16_30.2.2.1 t16_30.2.2.2.1 t16_30.2.2.2.2.1 t16_30.2.2.2.2.2.1 t16_30.2.2.2.2.2.2.1 t16_30.2.2.2.2.2.2.2.1 t16_30.2.2.2.2.2.2.2.2.1 t16_30.2.2.2.2.2.2.2.2.2.1 t16_30.2.2.2.2.2.2.2.2.2.2.1 t16_30.2.2.2.2.2.2.2.2.2.2.2.1 t16_30.2.2.2.2.2.2.2.2.2.2.2.2.1 t16_30.2.2.2.2.2.2.2.2.2.2.2.2.2.1 t16_30.2.2.2.2.2.2.2.2.2.2.2.2.2.2.1 t16_30.2.2.2.2.2.2.2.2.2.2.2.2.2.2.2.1 t16_30.2.2.2.2.2.2.2.2.2.2.2.2.2.2.2.2.1 t16_30.2.2.2.2.2.2.2.2.2.2.2.2.2.2.2.2.2.1 t16_30.2.2.2.2.2.2.2.2.2.2.2.2.2.2.2.2.2.2.1 t16_30.2.2.2.2.2.2.2.2.2.2.2.2.2.2.2.2.2.2.2.1 t16_30.2.2.2.2.2.2.2.2.2.2.2.2.2.2.2.2.2.2.2.2.1 t16_30.2.2.2.2.2.2.2.2.2.2.2.2.2.2.2.2.2.2.2.2.2.1 t16_30.2.2.2.2.2.2.2.2.2.2.2.2.2.2.2.2.2.2.2.2.2.2.1 t16_30.2.2.2.2.2.2.2.2.2.2.2.2.2.2.2.2.2.2.2.2.2.2.2.1 t16_30.2.2.2.2.2.2.2.2.2.2.2.2.2.2.2.2.2.2.2.2.2.2.2.2.1 t16_30.2.2.2.2.2.2.2.2.2.2.2.2.2.2.2.2.2.2.2.2.2.2.2.2.2.1 t16_30.2.2.2.2.2.2.2.2.2.2.2.2.2.2.2.2.2.2.2.2.2.2.2.2.2.2.1 t16_30.2.2.2.2.2.2.2.2.2.2.2.2.2.2.2.2.2.2.2.2.2.2.2.2.2.2.2.1 t16_30.2.2.2.2.2.2.2.2.2.2.2.2.2.2.2.2.2.2.2.2.2.2.2.2.2.2.2.2).bind fun t22_31 =>
      let t23_32 : (List (Int × Int)) := ([t22_31.1] : List (Int × Int))
      chk none (decide ((([] : List (Int × Int)).length + t23_32.length) * 16 ≤ 140737488355328)) <|
      let t24_33 : (List (Int × Int)) := t23_32
      (F_admit_judge_wrong (0 : Int) k_1 t22_31.2.1 t22_31.2.2.1 t22_31.2.2.2.1 t22_31.2.2.2.2.1 t22_31.2.2.2.2.2.1 t22_31.2.2.2.2.2.2.1 t22_31.2.2.2.2.2.2.2.1 t22_31.2.2.2.2.2.2.2.2.1 t22_31.2.2.2.2.2.2.2.2.2.1 t22_31.2.2.2.2.2.2.2.2.2.2.1 t22_31.2.2.2.2.2.2.2.2.2.2.2.1 t22_31.2.2.2.2.2.2.2.2.2.2.2.2.1 t22_31.2.2.2.2.2.2.2.2.2.2.2.2.2.1 t22_31.2.2.2.2.2.2.2.2.2.2.2.2.2.2.1 t22_31.2.2.2.2.2.2.2.2.2.2.2.2.2.2.2.1 t22_31.2.2.2.2.2.2.2.2.2.2.2.2.2.2.2.2.1 t22_31.2.2.2.2.2.2.2.2.2.2.2.2.2.2.2.2.2.1 t22_31.2.2.2.2.2.2.2.2.2.2.2.2.2.2.2.2.2.2.1 t22_31.2.2.2.2.2.2.2.2.2.2.2.2.2.2.2.2.2.2.2.1 t22_31.2.2.2.2.2.2.2.2.2.2.2.2.2.2.2.2.2.2.2.2.1 t22_31.2.2.2.2.2.2.2.2.2.2.2.2.2.2.2.2.2.2.2.2.2.1 t22_31.2.2.2.2.2.2.2.2.2.2.2.2.2.2.2.2.2.2.2.2.2.2.1 t22_31.2.2.2.2.2.2.2.2.2.2.2.2.2.2.2.2.2.2.2.2.2.2.2.1 t22_31.2.2.2.2.2.2.2.2.2.2.2.2.2.2.2.2.2.2.2.2.2.2.2.2.1 t22_31.2.2.2.2.2.2.2.2.2.2.2.2.2.2.2.2.2.2.2.2.2.2.2.2.2.1 t22_31.2.2.2.2.2.2.2.2.2.2.2.2.2.2.2.2.2.2.2.2.2.2.2.2.2.2.1 t22_31.2.2.2.2.2.2.2.2.2.2.2.2.2.2.2.2.2.2.2.2.2.2.2.2.2.2.2.1 t22_31.2.2.2.2.2.2.2.2.2.2.2.2.2.2.2.2.2.2.2.2.2.2.2.2.2.2.2.2).bind fun t28_34 =>
      Option.bind (
        (bif t28_34.1 then
          some (1 : Int)
        else
          some (0 : Int))) fun r_35 =>
      some (t28_34.2.1, t28_34.2.2.2.2.2.2.2.1, t28_34.2.2.2.2.1, t28_34.2.2.2.2.2.2.2.2.2.2.1, t28_34.2.2.2.2.2.2.2.2.2.2.2.2.2.1, t28_34.2.2.2.2.2.2.2.2.2.2.2.2.2.2.2.2.2.2.2.1, t28_34.2.2.2.2.2.2.2.2.2.2.2.2.2.2.2.2.1, t28_34.2.2.2.2.2.2.2.2.2.2.2.2.2.2.2.2.2.2.2.2.2.2.1, t28_34.2.2.2.2.2.2.2.2.2.2.2.2.2.2.2.2.2.2.2.2.2.2.2.2.2.1, t28_34.2.2.2.2.2.2.2.2.2.2.2.2.2.2.2.2.2.2.2.2.2.2.2.2.2.2.2.2, t28_34.2.2.2.1, t28_34.2.2.2.2.2.2.1, t28_34.2.2.2.2.2.2.2.2.2.2.2.2.1, t28_34.2.2.2.2.2.2.2.2.2.1, t28_34.2.2.2.2.2.2.2.2.2.2.2.2.2.2.2.1, t28_34.2.2.2.2.2.2.2.2.2.2.2.2.2.2.2.2.2.2.2.2.2.1, t28_34.2.2.2.2.2.2.2.2.2.2.2.2.2.2.2.2.2.2.1, t28_34.2.2.2.2.2.2.2.2.2.2.2.2.2.2.2.2.2.2.2.2.2.2.2.2.1, t28_34.2.2.2.2.2.2.2.2.2.2.2.2.2.2.2.2.2.2.2.2.2.2.2.2.2.2.2.1, t28_34.2.2.1, t28_34.2.2.2.2.2.1, t28_34.2.2.2.2.2.2.2.2.1, t28_34.2.2.2.2.2.2.2.2.2.2.2.2.2.2.1, t28_34.2.2.2.2.2.2.2.2.2.2.2.1, t28_34.2.2.2.2.2.2.2.2.2.2.2.2.2.2.2.2.2.1, t28_34.2.2.2.2.2.2.2.2.2.2.2.2.2.2.2.2.2.2.2.2.1, t28_34.2.2.2.2.2.2.2.2.2.2.2.2.2.2.2.2.2.2.2.2.2.2.2.2.2.2.1, t28_34.2.2.2.2.2.2.2.2.2.2.2.2.2.2.2.2.2.2.2.2.2.2.2.1, r_35, t24_33))) fun r_36 =>
  let b0_37 : Int := r_36.1
  let b0_38 : Int := r_36.2.1
  let b0_39 : Int := r_36.2.2.1
  let b0_40 : Int := r_36.2.2.2.1
  let b0_41 : Int := r_36.2.2.2.2.1
  let b0_42 : Int := r_36.2.2.2.2.2.1
  let b0_43 : (List Yd4) := r_36.2.2.2.2.2.2.1
  let b0_44 : Int := r_36.2.2.2.2.2.2.2.1
  let b0_45 : (List Yd3) := r_36.2.2.2.2.2.2.2.2.1
  let b0_46 : (List Int) := r_36.2.2.2.2.2.2.2.2.2.1
  let b0_47 : Int := r_36.2.2.2.2.2.2.2.2.2.2.1
  let b0_48 : Int := r_36.2.2.2.2.2.2.2.2.2.2.2.1
  let b0_49 : Int := r_36.2.2.2.2.2.2.2.2.2.2.2.2.1
  let b0_50 : Int := r_36.2.2.2.2.2.2.2.2.2.2.2.2.2.1
  let b0_51 : (List Yd1) := r_36.2.2.2.2.2.2.2.2.2.2.2.2.2.2.1
  let b0_52 : Int := r_36.2.2.2.2.2.2.2.2.2.2.2.2.2.2.2.1
  let b0_53 : Int := r_36.2.2.2.2.2.2.2.2.2.2.2.2.2.2.2.2.1
  let b0_54 : (List Yd10) := r_36.2.2.2.2.2.2.2.2.2.2.2.2.2.2.2.2.2.1
  let b0_55 : (List Int) := r_36.2.2.2.2.2.2.2.2.2.2.2.2.2.2.2.2.2.2.1
  let b0_56 : Int := r_36.2.2.2.2.2.2.2.2.2.2.2.2.2.2.2.2.2.2.2.1
  let b0_57 : Int := r_36.2.2.2.2.2.2.2.2.2.2.2.2.2.2.2.2.2.2.2.2.1
  let b0_58 : Int := r_36.2.2.2.2.2.2.2.2.2.2.2.2.2.2.2.2.2.2.2.2.2.1
  let b0_59 : Int := r_36.2.2.2.2.2.2.2.2.2.2.2.2.2.2.2.2.2.2.2.2.2.2.1
  let b0_60 : Int := r_36.2.2.2.2.2.2.2.2.2.2.2.2.2.2.2.2.2.2.2.2.2.2.2.1
  let b0_61 : (List Int) := r_36.2.2.2.2.2.2.2.2.2.2.2.2.2.2.2.2.2.2.2.2.2.2.2.2.1
  let b0_62 : Int := r_36.2.2.2.2.2.2.2.2.2.2.2.2.2.2.2.2.2.2.2.2.2.2.2.2.2.1
  let b0_63 : (List Int) := r_36.2.2.2.2.2.2.2.2.2.2.2.2.2.2.2.2.2.2.2.2.2.2.2.2.2.2.1
  let b0_64 : Int := r_36.2.2.2.2.2.2.2.2.2.2.2.2.2.2.2.2.2.2.2.2.2.2.2.2.2.2.2.1
  let wrong_65 : Int := r_36.2.2.2.2.2.2.2.2.2.2.2.2.2.2.2.2.2.2.2.2.2.2.2.2.2.2.2.2.1
  let l_66 : (List (Int × Int)) := r_36.2.2.2.2.2.2.2.2.2.2.2.2.2.2.2.2.2.2.2.2.2.2.2.2.2.2.2.2.2
  Option.bind (
    (F_admit_judge_fit (1 : Int) k_1 b0_37 b0_56 b0_47 b0_39 b0_57 b0_48 b0_38 b0_58 b0_50 b0_40 b0_60 b0_49 b0_41 b0_59 b0_51 b0_43 b0_61 b0_53 b0_42 b0_62 b0_52 b0_44 b0_64 b0_54 b0_45 b0_63 b0_55 b0_46).bind fun t16_67 =>
    (bif (!t16_67.1) then
      some (t16_67.2.1, t16_67.2.2.2.2.2.2.2.1, t16_67.2.2.2.2.1, t16_67.2.2.2.2.2.2.2.2.2.2.1, t16_67.2.2.2.2.2.2.2.2.2.2.2.2.2.1, t16_67.2.2.2.2.2.2.2.2.2.2.2.2.2.2.2.2.2.2.2.1, t16_67.2.2.2.2.2.2.2.2.2.2.2.2.2.2.2.2.1, t16_67.2.2.2.2.2.2.2.2.2.2.2.2.2.2.2.2.2.2.2.2.2.2.1, t16_67.2.2.2.2.2.2.2.2.2.2.2.2.2.2.2.2.2.2.2.2.2.2.2.2.2.1, t16_67.2.2.2.2.2.2.2.2.2.2.2.2.2.2.2.2.2.2.2.2.2.2.2.2.2.2.2.2, t16_67.2.2.2.1, t16_67.2.2.2.2.2.2.1, t16_67.2.2.2.2.2.2.2.2.2.2.2.2.1, t16_67.2.2.2.2.2.2.2.2.2.1, t16_67.2.2.2.2.2.2.2.2.2.2.2.2.2.2.2.1, t16_67.2.2.2.2.2.2.2.2.2.2.2.2.2.2.2.2.2.2.2.2.2.1, t16_67.2.2.2.2.2.2.2.2.2.2.2.2.2.2.2.2.2.2.1, t16_67.2.2.2.2.2.2.2.2.2.2.2.2.2.2.2.2.2.2.2.2.2.2.2.2.1, t16_67.2.2.2.2.2.2.2.2.2.2.2.2.2.2.2.2.2.2.2.2.2.2.2.2.2.2.2.1, t16_67.2.2.1, t16_67.2.2.2.2.2.1, t16_67.2.2.2.2.2.2.2.2.1, t16_67.2.2.2.2.2.2.2.2.2.2.2.2.2.2.1, t16_67.2.2.2.2.2.2.2.2.2.2.2.1, t16_67.2.2.2.2.2.2.2.2.2.2.2.2.2.2.2.2.2.1, t16_67.2.2.2.2.2.2.2.2.2.2.2.2.2.2.2.2.2.2.2.2.1, t16_67.2.2.2.2.2.2.2.2.2.2.2.2.2.2.2.2.2.2.2.2.2.2.2.2.2.2.1, t16_67.2.2.2.2.2.2.2.2.2.2.2.2.2.2.2.2.2.2.2.2.2.2.2.1, wrong_65, l_66)
    else
      (F_admit_judge_says (1 : Int) k_1 t16_67.2.1 t16_67.2.2.1 t16_67.2.2.2.1 t16_67.2.2.2.2.1 t16_67.2.2.2.2.2.1 t16_67.2.2.2.2.2.2.1 t16_67.2.2.2.2.2.2.2.1 t16_67.2.2.2.2.2.2.2.2.1 t16_67.2.2.2.2.2.2.2.2.2.1 t16_67.2.2.2.2.2.2.2.2.2.2.1 t16_67.2.2.2.2.2.2.2.2.2.2.2.1 t16_67.2.2.2.2.2.2.2.2.2.2.2.2.1 t16_67.2.2.2.2.2.2.2.2.2.2.2.2.2.1 t16_67.2.2.2.2.2.2.2.2.2.2.2.2.2.2.1 t16_67.2.2.2.2.2.2.2.2.2.2.2.2.2.2.2.1 t16_67.2.2.2.2.2.2.2.2.2.2.2.2.2.2.2.2.1 t16_67.2.2.2.2.2.2.2.2.2.2.2.2.2.2.2.2.2.1 t16_67.2.2.2.2.2.2.2.2.2.2.2.2.2.2.2.2.2.2.1 t16_67.2.2.2.2.2.2.2.2.2.2.2.2.2.2.2.2.2.2.2.1 t16_67.2.2.2.2.2.2.2.2.2.2.2.2.2.2.2.2.2.2.2.2.1 t16_67.2.2.2.2.2.2.2.2.2.2.2.2.2.2.2.2.2.2.2.2.2.1 t16_67.2.2.2.2.2.2.2.2.2.2.2.2.2.2.2.2.2.2.2.2.2.2.1 t16_67.2.2.2.2.2.2.2.2.2.2.2.2.2.2.2.2.2.2.2.2.2.2.2.1 t16_67.2.2.2.2.2.2.2.2.2.2.2.2.2.2.2.2.2.2.2.2.2.2.2.2.1 t16_67.2.2.2.2.2.2.2.2.2.2.2.2.2.2.2.2.2.2.2.2.2.2.2.2.2.1 t16_67.2.2.2.2.2.2.2.2.2.2.2.2.2.2.2.2.2.2.2.2.2.2.2.2.2.2.1 t16_67.2.2.2.2.2.2.2.2.2.2.2.2.2.2.2.2.2.2.2.2.2.2.2.2.2.2.2.1 t16_67.2.2.2.2.2.2.2.2.2.2.2.2.2.2.2.2.2.2.2.2.2.2.2.2.2.2.2.2).bind fun t22_68 =>
      let t23_69 : (List (Int × Int)) := ([t22_68.1] : List (Int × Int))
      chk none (decide ((l_66.length + t23_69.length) * 16 ≤ 140737488355328)) <|
      let t24_70 : (List (Int × Int)) := (l_66 ++ t23_69)
      (F_admit_judge_wrong (1 : Int) k_1 t22_68.2.1 t22_68.2.2.1 t22_68.2.2.2.1 t22_68.2.2.2.2.1 t22_68.2.2.2.2.2.1 t22_68.2.2.2.2.2.2.1 t22_68.2.2.2.2.2.2.2.1 t22_68.2.2.2.2.2.2.2.2.1 t22_68.2.2.2.2.2.2.2.2.2.1 t22_68.2.2.2.2.2.2.2.2.2.2.1 t22_68.2.2.2.2.2.2.2.2.2.2.2.1 t22_68.2.2.2.2.2.2.2.2.2.2.2.2.1 t22_68.2.2.2.2.2.2.2.2.2.2.2.2.2.1 t22_68.2.2.2.2.2.2.2.2.2.2.2.2.2.2.1 t22_68.2.2.2.2.2.2.2.2.2.2.2.2.2.2.2.1 t22_68.2.2.2.2.2.2.2.2.2.2.2.2.2.2.2.2.1 t22_68.2.2.2.2.2.2.2.2.2.2.2.2.2.2.2.2.2.1 t22_68.2.2.2.2.2.2.2.2.2.2.2.2.2.2.2.2.2.2.1 t22_68.2.2.2.2.2.2.2.2.2.2.2.2.2.2.2.2.2.2.2.1 t22_68.2.2.2.2.2.2.2.2.2.2.2.2.2.2.2.2.2.2.2.2.1 t22_68.2.2.2.2.2.2.2.2.2.2.2.2.2.2.2.2.2.2.2.2.2.1 t22_68.2.2.2.2.2.2.2.2.2.2.2.2.2.2.2.2.2.2.2.2.2.2.1 t22_68.2.2.2.2.2.2.2.2.2.2.2.2.2.2.2.2.2.2.2.2.2.2.2.1 t22_68.2.2.2.2.2.2.2.2.2.2.2.2.2.2.2.2.2.2.2.2.2.2.2.2.1 t22_68.2.2.2.2.2.2.2.2.2.2.2.2.2.2.2.2.2.2.2.2.2.2.2.2.2.1 t22_68.2.2.2.2.2.2.2.2.2.2.2.2.2.2.2.2.2.2.2.2.2.2.2.2.2.2.1 t22_68.2.2.2.2.2.2.2.2.2.2.2.2.2.2.2.2.2.2.2.2.2.2.2.2.2.2.2.1 t22_68.2.2.2.2.2.2.2.2.2.2.2.2.2.2.2.2.2.2.2.2.2.2.2.2.2.2.2.2).bind fun t28_71 =>
      Option.bind (
        (bif t28_71.1 then
          let t30_72 : Int := (IntKind.wrap .i64 (wrong_65 + (1 : Int)))
          some t30_72
        else
          some wrong_65)) fun r_73 =>
      some (t28_71.2.1, t28_71.2.2.2.2.2.2.2.1, t28_71.2.2.2.2.1, t28_71.2.2.2.2.2.2.2.2.2.2.1, t28_71.2.2.2.2.2.2.2.2.2.2.2.2.2.1, t28_71.2.2.2.2.2.2.2.2.2.2.2.2.2.2.2.2.2.2.2.1, t28_71.2.2.2.2.2.2.2.2.2.2.2.2.2.2.2.2.1, t28_71.2.2.2.2.2.2.2.2.2.2.2.2.2.2.2.2.2.2.2.2.2.2.1, t28_71.2.2.2.2.2.2.2.2.2.2.2.2.2.2.2.2.2.2.2.2.2.2.2.2.2.1, t28_71.2.2.2.2.2.2.2.2.2.2.2.2.2.2.2.2.2.2.2.2.2.2.2.2.2.2.2.2, t28_71.2.2.2.1, t28_71.2.2.2.2.2.2.1, t28_71.2.2.2.2.2.2.2.2.2.2.2.2.1, t28_71.2.2.2.2.2.2.2.2.2.1, t28_71.2.2.2.2.2.2.2.2.2.2.2.2.2.2.2.1, t28_71.2.2.2.2.2.2.2.2.2.2.2.2.2.2.2.2.2.2.2.2.2.1, t28_71.2.2.2.2.2.2.2.2.2.2.2.2.2.2.2.2.2.2.1, t28_71.2.2.2.2.2.2.2.2.2.2.2.2.2.2.2.2.2.2.2.2.2.2.2.2.1, t28_71.2.2.2.2.2.2.2.2.2.2.2.2.2.2.2.2.2.2.2.2.2.2.2.2.2.2.2.1, t28_71.2.2.1, t28_71.2.2.2.2.2.1, t28_71.2.2.2.2.2.2.2.2.1, t28_71.2.2.2.2.2.2.2.2.2.2.2.2.2.2.1, t28_71.2.2.2.2.2.2.2.2.2.2.2.1, t28_71.2.2.2.2.2.2.2.2.2.2.2.2.2.2.2.2.2.1, t28_71.2.2.2.2.2.2.2.2.2.2.2.2.2.2.2.2.2.2.2.2.1, t28_71.2.2.2.2.2.2.2.2.2.2.2.2.2.2.2.2.2.2.2.2.2.2.2.2.2.2.1, t28_71.2.2.2.2.2.2.2.2.2.2.2.2.2.2.2.2.2.2.2.2.2.2.2.1, r_73, t24_70))) fun r_74 =>
  let b0_75 : Int := r_74.1
  let b0_76 : Int := r_74.2.1
  let b0_77 : Int := r_74.2.2.1
  let b0_78 : Int := r_74.2.2.2.1
  let b0_79 : Int := r_74.2.2.2.2.1
  let b0_80 : Int := r_74.2.2.2.2.2.1
  let b0_81 : (List Yd4) := r_74.2.2.2.2.2.2.1
  let b0_82 : Int := r_74.2.2.2.2.2.2.2.1
  let b0_83 : (List Yd3) := r_74.2.2.2.2.2.2.2.2.1
  let b0_84 : (List Int) := r_74.2.2.2.2.2.2.2.2.2.1
  let b0_85 : Int := r_74.2.2.2.2.2.2.2.2.2.2.1
  let b0_86 : Int := r_74.2.2.2.2.2.2.2.2.2.2.2.1
  let b0_87 : Int := r_74.2.2.2.2.2.2.2.2.2.2.2.2.1
  let b0_88 : Int := r_74.2.2.2.2.2.2.2.2.2.2.2.2.2.1
  let b0_89 : (List Yd1) := r_74.2.2.2.2.2.2.2.2.2.2.2.2.2.2.1
  let b0_90 : Int := r_74.2.2.2.2.2.2.2.2.2.2.2.2.2.2.2.1
  let b0_91 : Int := r_74.2.2.2.2.2.2.2.2.2.2.2.2.2.2.2.2.1
  let b0_92 : (List Yd10) := r_74.2.2.2.2.2.2.2.2.2.2.2.2.2.2.2.2.2.1
  let b0_93 : (List Int) := r_74.2.2.2.2.2.2.2.2.2.2.2.2.2.2.2.2.2.2.1
  let b0_94 : Int := r_74.2.2.2.2.2.2.2.2.2.2.2.2.2.2.2.2.2.2.2.1
  let b0_95 : Int := r_74.2.2.2.2.2.2.2.2.2.2.2.2.2.2.2.2.2.2.2.2.1
  let b0_96 : Int := r_74.2.2.2.2.2.2.2.2.2.2.2.2.2.2.2.2.2.2.2.2.2.1
  let b0_97 : Int := r_74.2.2.2.2.2.2.2.2.2.2.2.2.2.2.2.2.2.2.2.2.2.2.1
  let b0_98 : Int := r_74.2.2.2.2.2.2.2.2.2.2.2.2.2.2.2.2.2.2.2.2.2.2.2.1
  let b0_99 : (List Int) := r_74.2.2.2.2.2.2.2.2.2.2.2.2.2.2.2.2.2.2.2.2.2.2.2.2.1
  let b0_100 : Int := r_74.2.2.2.2.2.2.2.2.2.2.2.2.2.2.2.2.2.2.2.2.2.2.2.2.2.1
  let b0_101 : (List Int) := r_74.2.2.2.2.2.2.2.2.2.2.2.2.2.2.2.2.2.2.2.2.2.2.2.2.2.2.1
  let b0_102 : Int := r_74.2.2.2.2.2.2.2.2.2.2.2.2.2.2.2.2.2.2.2.2.2.2.2.2.2.2.2.1
  let wrong_103 : Int := r_74.2.2.2.2.2.2.2.2.2.2.2.2.2.2.2.2.2.2.2.2.2.2.2.2.2.2.2.2.1
  let l_104 : (List (Int × Int)) := r_74.2.2.2.2.2.2.2.2.2.2.2.2.2.2.2.2.2.2.2.2.2.2.2.2.2.2.2.2.2
  Option.bind (
    (F_admit_judge_fit (2 : Int) k_1 b0_75 b0_94 b0_85 b0_77 b0_95 b0_86 b0_76 b0_96 b0_88 b0_78 b0_98 b0_87 b0_79 b0_97 b0_89 b0_81 b0_99 b0_91 b0_80 b0_100 b0_90 b0_82 b0_102 b0_92 b0_83 b0_101 b0_93 b0_84).bind fun t16_105 =>
    (bif (!t16_105.1) then
      some (t16_105.2.1, t16_105.2.2.2.2.2.2.2.1, t16_105.2.2.2.2.1, t16_105.2.2.2.2.2.2.2.2.2.2.1, t16_105.2.2.2.2.2.2.2.2.2.2.2.2.2.1, t16_105.2.2.2.2.2.2.2.2.2.2.2.2.2.2.2.2.2.2.2.1, t16_105.2.2.2.2.2.2.2.2.2.2.2.2.2.2.2.2.1, t16_105.2.2.2.2.2.2.2.2.2.2.2.2.2.2.2.2.2.2.2.2.2.2.1, t16_105.2.2.2.2.2.2.2.2.2.2.2.2.2.2.2.2.2.2.2.2.2.2.2.2.2.1, t16_105.2.2.2.2.2.2.2.2.2.2.2.2.2.2.2.2.2.2.2.2.2.2.2.2.2.2.2.2, t16_105.2.2.2.1, t16_105.2.2.2.2.2.2.1, t16_105.2.2.2.2.2.2.2.2.2.2.2.2.1, t16_105.2.2.2.2.2.2.2.2.2.1, t16_105.2.2.2.2.2.2.2.2.2.2.2.2.2.2.2.1, t16_105.2.2.2.2.2.2.2.2.2.2.2.2.2.2.2.2.2.2.2.2.2.1, t16_105.2.2.2.2.2.2.2.2.2.2.2.2.2.2.2.2.2.2.1, t16_105.2.2.2.2.2.2.2.2.2.2.2.2.2.2.2.2.2.2.2.2.2.2.2.2.1, t16_105.2.2.2.2.2.2.2.2.2.2.2.2.2.2.2.2.2.2.2.2.2.2.2.2.2.2.2.1, t16_105.2.2.1, t16_105.2.2.2.2.2.1, t16_105.2.2.2.2.2.2.2.2.1, t16_105.2.2.2.2.2.2.2.2.2.2.2.2.2.2.1, t16_105.2.2.2.2.2.2.2.2.2.2.2.1, t16_105.2.2.2.2.2.2.2.2.2.2.2.2.2.2.2.2.2.1, t16_105.2.2.2.2.2.2.2.2.2.2.2.2.2.2.2.2.2.2.2.2.1, t16_105.2.2.2.2.2.2.2.2.2.2.2.2.2.2.2.2.2.2.2.2.2.2.2.2.2.2.1, t16_105.2.2.2.2.2.2.2.2.2.2.2.2.2.2.2.2.2.2.2.2.2.2.2.1, wrong_103, l_104)
    else
      (F_admit_judge_says (2 : Int) k_1 t16_105.2.1 t16_105.2.2.1 t16_105.2.2.2.1 t16_105.2.2.2.2.1 t16_105.2.2.2.2.2.1 t16_105.2.2.2.2.2.2.1 t16_105.2.2.2.2.2.2.2.1 t16_105.2.2.2.2.2.2.2.2.1 t16_105.2.2.2.2.2.2.2.2.2.1 t16_105.2.2.2.2.2.2.2.2.2.2.1 t16_105.2.2.2.2.2.2.2.2.2.2.2.1 t16_105.2.2.2.2.2.2.2.2.2.2.2.2.1 t16_105.2.2.2.2.2.2.2.2.2.2.2.2.2.1 t16_105.2.2.2.2.2.2.2.2.2.2.2.2.2.2.1 t16_105.2.2.2.2.2.2.2.2.2.2.2.2.2.2.2.1 t16_105.2.2.2.2.2.2.2.2.2.2.2.2.2.2.2.2.1 t16_105.2.2.2.2.2.2.2.2.2.2.2.2.2.2.2.2.2.1 t16_105.2.2.2.2.2.2.2.2.2.2.2.2.2.2.2.2.2.2.1 t16_105.2.2.2.2.2.2.2.2.2.2.2.2.2.2.2.2.2.2.2.1 t16_105.2.2.2.2.2.2.2.2.2.2.2.2.2.2.2.2.2.2.2.2.1 t16_105.2.2.2.2.2.2.2.2.2.2.2.2.2.2.2.2.2.2.2.2.2.1 t16_105.2.2.2.2.2.2.2.2.2.2.2.2.2.2.2.2.2.2.2.2.2.2.1 t16_105.2.2.2.2.2.2.2.2.2.2.2.2.2.2.2.2.2.2.2.2.2.2.2.1 t16_105.2.2.2.2.2.2.2.2.2.2.2.2.2.2.2.2.2.2.2.2.2.2.2.2.1 t16_105.2.2.2.2.2.2.2.2.2.2.2.2.2.2.2.2.2.2.2.2.2.2.2.2.2.1 t16_105.2.2.2.2.2.2.2.2.2.2.2.2.2.2.2.2.2.2.2.2.2.2.2.2.2.2.1 t16_105.2.2.2.2.2.2.2.2.2.2.2.2.2.2.2.2.2.2.2.2.2.2.2.2.2.2.2.1 t16_105.2.2.2.2.2.2.2.2.2.2.2.2.2.2.2.2.2.2.2.2.2.2.2.2.2.2.2.2).bind fun t22_106 =>
      let t23_107 : (List (Int × Int)) := ([t22_106.1] : List (Int × Int))
      chk none (decide ((l_104.length + t23_107.length) * 16 ≤ 140737488355328)) <|
      let t24_108 : (List (Int × Int)) := (l_104 ++ t23_107)
      (F_admit_judge_wrong (2 : Int) k_1 t22_106.2.1 t22_106.2.2.1 t22_106.2.2.2.1 t22_106.2.2.2.2.1 t22_106.2.2.2.2.2.1 t22_106.2.2.2.2.2.2.1 t22_106.2.2.2.2.2.2.2.1 t22_106.2.2.2.2.2.2.2.2.1 t22_106.2.2.2.2.2.2.2.2.2.1 t22_106.2.2.2.2.2.2.2.2.2.2.1 t22_106.2.2.2.2.2.2.2.2.2.2.2.1 t22_106.2.2.2.2.2.2.2.2.2.2.2.2.1 t22_106.2.2.2.2.2.2.2.2.2.2.2.2.2.1 t22_106.2.2.2.2.2.2.2.2.2.2.2.2.2.2.1 t22_106.2.2.2.2.2.2.2.2.2.2.2.2.2.2.2.1 t22_106.2.2.2.2.2.2.2.2.2.2.2.2.2.2.2.2.1 t22_106.2.2.2.2.2.2.2.2.2.2.2.2.2.2.2.2.2.1 t22_106.2.2.2.2.2.2.2.2.2.2.2.2.2.2.2.2.2.2.1 t22_106.2.2.2.2.2.2.2.2.2.2.2.2.2.2.2.2.2.2.2.1 t22_106.2.2.2.2.2.2.2.2.2.2.2.2.2.2.2.2.2.2.2.2.1 t22_106.2.2.2.2.2.2.2.2.2.2.2.2.2.2.2.2.2.2.2.2.2.1 t22_106.2.2.2.2.2.2.2.2.2.2.2.2.2.2.2.2.2.2.2.2.2.2.1 t22_106.2.2.2.2.2.2.2.2.2.2.2.2.2.2.2.2.2.2.2.2.2.2.2.1 t22_106.2.2.2.2.2.2.2.2.2.2.2.2.2.2.2.2.2.2.2.2.2.2.2.2.1 t22_106.2.2.2.2.2.2.2.2.2.2.2.2.2.2.2.2.2.2.2.2.2.2.2.2.2.1 t22_106.2.2.2.2.2.2.2.2.2.2.2.2.2.2.2.2.2.2.2.2.2.2.2.2.2.2.1 t22_106.2.2.2.2.2.2.2.2.2.2.2.2.2.2.2.2.2.2.2.2.2.2.2.2.2.2.2.1 t22_106.2.2.2.2.2.2.2.2.2.2.2.2.2.2.2.2.2.2.2.2.2.2.2.2.2.2.2.2).bind fun t28_109 =>
      Option.bind (
        (bif t28_109.1 then
          let t30_110 : Int := (IntKind.wrap .i64 (wrong_103 + (1 : Int)))
          some t30_110
        else
          some wrong_103)) fun r_111 =>
      some (t28_109.2.1, t28_109.2.2.2.2.2.2.2.1, t28_109.2.2.2.2.1, t28_109.2.2.2.2.2.2.2.2.2.2.1, t28_109.2.2.2.2.2.2.2.2.2.2.2.2.2.1, t28_109.2.2.2.2.2.2.2.2.2.2.2.2.2.2.2.2.2.2.2.1, t28_109.2.2.2.2.2.2.2.2.2.2.2.2.2.2.2.2.1, t28_109.2.2.2.2.2.2.2.2.2.2.2.2.2.2.2.2.2.2.2.2.2.2.1, t28_109.2.2.2.2.2.2.2.2.2.2.2.2.2.2.2.2.2.2.2.2.2.2.2.2.2.1, t28_109.2.2.2.2.2.2.2.2.2.2.2.2.2.2.2.2.2.2.2.2.2.2.2.2.2.2.2.2, t28_109.2.2.2.1, t28_109.2.2.2.2.2.2.1, t28_109.2.2.2.2.2.2.2.2.2.2.2.2.1, t28_109.2.2.2.2.2.2.2.2.2.1, t28_109.2.2.2.2.2.2.2.2.2.2.2.2.2.2.2.1, t28_109.2.2.2.2.2.2.2.2.2.2.2.2.2.2.2.2.2.2.2.2.2.1, t28_109.2.2.2.2.2.2.2.2.2.2.2.2.2.2.2.2.2.2.1, t28_109.2.2.2.2.2.2.2.2.2.2.2.2.2.2.2.2.2.2.2.2.2.2.2.2.1, t28_109.2.2.2.2.2.2.2.2.2.2.2.2.2.2.2.2.2.2.2.2.2.2.2.2.2.2.2.1, t28_109.2.2.1, t28_109.2.2.2.2.2.1, t28_109.2.2.2.2.2.2.2.2.1, t28_109.2.2.2.2.2.2.2.2.2.2.2.2.2.2.1, t28_109.2.2.2.2.2.2.2.2.2.2.2.1, t28_109.2.2.2.2.2.2.2.2.2.2.2.2.2.2.2.2.2.1, t28_109.2.2.2.2.2.2.2.2.2.2.2.2.2.2.2.2.2.2.2.2.1, t28_109.2.2.2.2.2.2.2.2.2.2.2.2.2.2.2.2.2.2.2.2.2.2.2.2.2.2.1, t28_109.2.2.2.2.2.2.2.2.2.2.2.2.2.2.2.2.2.2.2.2.2.2.2.1, r_111, t24_108))) fun r_112 =>
  let b0_113 : Int := r_112.1
  let b0_114 : Int := r_112.2.1
  let b0_115 : Int := r_112.2.2.1
  let b0_116 : Int := r_112.2.2.2.1
  let b0_117 : Int := r_112.2.2.2.2.1
  let b0_118 : Int := r_112.2.2.2.2.2.1
  let b0_119 : (List Yd4) := r_112.2.2.2.2.2.2.1
  let b0_120 : Int := r_112.2.2.2.2.2.2.2.1
  let b0_121 : (List Yd3) := r_112.2.2.2.2.2.2.2.2.1
  let b0_122 : (List Int) := r_112.2.2.2.2.2.2.2.2.2.1
  let b0_123 : Int := r_112.2.2.2.2.2.2.2.2.2.2.1
  let b0_124 : Int := r_112.2.2.2.2.2.2.2.2.2.2.2.1
  let b0_125 : Int := r_112.2.2.2.2.2.2.2.2.2.2.2.2.1
  let b0_126 : Int := r_112.2.2.2.2.2.2.2.2.2.2.2.2.2.1
  let b0_127 : (List Yd1) := r_112.2.2.2.2.2.2.2.2.2.2.2.2.2.2.1
  let b0_128 : Int := r_112.2.2.2.2.2.2.2.2.2.2.2.2.2.2.2.1
  let b0_129 : Int := r_112.2.2.2.2.2.2.2.2.2.2.2.2.2.2.2.2.1
  let b0_130 : (List Yd10) := r_112.2.2.2.2.2.2.2.2.2.2.2.2.2.2.2.2.2.1
  let b0_131 : (List Int) := r_112.2.2.2.2.2.2.2.2.2.2.2.2.2.2.2.2.2.2.1
  let b0_132 : Int := r_112.2.2.2.2.2.2.2.2.2.2.2.2.2.2.2.2.2.2.2.1
  let b0_133 : Int := r_112.2.2.2.2.2.2.2.2.2.2.2.2.2.2.2.2.2.2.2.2.1
  let b0_134 : Int := r_112.2.2.2.2.2.2.2.2.2.2.2.2.2.2.2.2.2.2.2.2.2.1
  let b0_135 : Int := r_112.2.2.2.2.2.2.2.2.2.2.2.2.2.2.2.2.2.2.2.2.2.2.1
  let b0_136 : Int := r_112.2.2.2.2.2.2.2.2.2.2.2.2.2.2.2.2.2.2.2.2.2.2.2.1
  let b0_137 : (List Int) := r_112.2.2.2.2.2.2.2.2.2.2.2.2.2.2.2.2.2.2.2.2.2.2.2.2.1
  let b0_138 : Int := r_112.2.2.2.2.2.2.2.2.2.2.2.2.2.2.2.2.2.2.2.2.2.2.2.2.2.1
  let b0_139 : (List Int) := r_112.2.2.2.2.2.2.2.2.2.2.2.2.2.2.2.2.2.2.2.2.2.2.2.2.2.2.1
  let b0_140 : Int := r_112.2.2.2.2.2.2.2.2.2.2.2.2.2.2.2.2.2.2.2.2.2.2.2.2.2.2.2.1
  let wrong_141 : Int := r_112.2.2.2.2.2.2.2.2.2.2.2.2.2.2.2.2.2.2.2.2.2.2.2.2.2.2.2.2.1
  let l_142 : (List (Int × Int)) := r_112.2.2.2.2.2.2.2.2.2.2.2.2.2.2.2.2.2.2.2.2.2.2.2.2.2.2.2.2.2
  (bif (wrong_141 == (0 : Int)) then
    some (true, b0_113, b0_132, b0_123, b0_115, b0_133, b0_124, b0_114, b0_134, b0_126, b0_116, b0_136, b0_125, b0_117, b0_135, b0_127, b0_119, b0_137, b0_129, b0_118, b0_138, b0_128, b0_120, b0_140, b0_130, b0_121, b0_139, b0_131, b0_122)
  else
    (F_vote_Common l_142).bind fun t36_143 =>
    let t44_144 : Bool := ((l_142.length : Int) == (3 : Int))
    let t45_145 : Bool := (bif (wrong_141 == (1 : Int)) then t44_144 else false)
    let t49_146 : Bool := (bif t45_145 then (!t36_143.2) else false)
    some (t49_146, b0_113, b0_132, b0_123, b0_115, b0_133, b0_124, b0_114, b0_134, b0_126, b0_116, b0_136, b0_125, b0_117, b0_135, b0_127, b0_119, b0_137, b0_129, b0_118, b0_138, b0_128, b0_120, b0_140, b0_130, b0_121, b0_139, b0_131, b0_122))
noncomputable def con_F_admit_judge_sensors : Con := { f := 70, ps := [.ref 0 0, .dat (.int .i64)], boxes := [[.dat (.int .i64), .dat (.int .i64), .dat (.int .i64), .dat (.int .i64), .dat (.int .i64), .dat (.int .i64), .dat (.int .i64), .dat (.int .i64), .dat (.int .i64), .dat (.int .i64), .dat (.int .i64), .dat (.int .i64), .dat (.int .i64), .dat (.int .i64), .dat (.slice (.agg Yt1)), .dat (.slice (.agg Yt4)), .dat (.slice (.int .i64)), .dat (.int .i64), .dat (.int .i64), .dat (.int .i64), .dat (.int .i64), .dat (.int .i64), .dat (.int .i64), .dat (.slice (.agg Yt10)), .dat (.slice (.agg Yt3)), .dat (.slice (.int .i64)), .dat (.slice (.int .i64)), .dat (.slice (.int .i64))]], ins := Yt482, nin := 29, outs := Yt472, rs := [.dat .bool], nout := 29, F := fun x => F_admit_judge_sensors x.1 x.2.1 x.2.2.1 x.2.2.2.1 x.2.2.2.2.1 x.2.2.2.2.2.1 x.2.2.2.2.2.2.1 x.2.2.2.2.2.2.2.1 x.2.2.2.2.2.2.2.2.1 x.2.2.2.2.2.2.2.2.2.1 x.2.2.2.2.2.2.2.2.2.2.1 x.2.2.2.2.2.2.2.2.2.2.2.1 x.2.2.2.2.2.2.2.2.2.2.2.2.1 x.2.2.2.2.2.2.2.2.2.2.2.2.2.1 x.2.2.2.2.2.2.2.2.2.2.2.2.2.2.1 x.2.2.2.2.2.2.2.2.2.2.2.2.2.2.2.1 x.2.2.2.2.2.2.2.2.2.2.2.2.2.2.2.2.1 x.2.2.2.2.2.2.2.2.2.2.2.2.2.2.2.2.2.1 x.2.2.2.2.2.2.2.2.2.2.2.2.2.2.2.2.2.2.1 x.2.2.2.2.2.2.2.2.2.2.2.2.2.2.2.2.2.2.2.1 x.2.2.2.2.2.2.2.2.2.2.2.2.2.2.2.2.2.2.2.2.1 x.2.2.2.2.2.2.2.2.2.2.2.2.2.2.2.2.2.2.2.2.2.1 x.2.2.2.2.2.2.2.2.2.2.2.2.2.2.2.2.2.2.2.2.2.2.1 x.2.2.2.2.2.2.2.2.2.2.2.2.2.2.2.2.2.2.2.2.2.2.2.1 x.2.2.2.2.2.2.2.2.2.2.2.2.2.2.2.2.2.2.2.2.2.2.2.2.1 x.2.2.2.2.2.2.2.2.2.2.2.2.2.2.2.2.2.2.2.2.2.2.2.2.2.1 x.2.2.2.2.2.2.2.2.2.2.2.2.2.2.2.2.2.2.2.2.2.2.2.2.2.2.1 x.2.2.2.2.2.2.2.2.2.2.2.2.2.2.2.2.2.2.2.2.2.2.2.2.2.2.2.1 x.2.2.2.2.2.2.2.2.2.2.2.2.2.2.2.2.2.2.2.2.2.2.2.2.2.2.2.2 }
def hint_F_admit_judge_sensors : Hint := (.mk .plain [H0, (.mk .plain [H0, (.mk .plain [H0, (.mk .plain [(.mk .plain [H0, (.mk .plain [(.mk (.unroll 4) [(.mk .plain [H0, (.mk .plain [H0, (.mk .plain [(.mk (.join [(0, 14), (0, 17), (0, 7), (0, 16), (0, 13), (0, 12), (0, 15), (0, 30), (0, 23), (0, 20), (0, 26), (0, 29), (0, 19), (0, 22), (0, 28), (0, 25), (0, 21), (0, 18), (0, 24), (0, 27)] [(.normal, [⟨.cell 0 0, (.int .i64), none⟩, ⟨.cell 0 6, (.int .i64), none⟩, ⟨.cell 0 3, (.int .i64), none⟩, ⟨.cell 0 9, (.int .i64), none⟩, ⟨.cell 0 12, (.int .i64), none⟩, ⟨.cell 0 18, (.int .i64), none⟩, ⟨.cell 0 15, (.slice (.agg Yt4)), none⟩, ⟨.cell 0 21, (.int .i64), none⟩, ⟨.cell 0 24, (.slice (.agg Yt3)), none⟩, ⟨.cell 0 27, (.slice (.int .i64)), none⟩, ⟨.cell 0 2, (.int .i64), none⟩, ⟨.cell 0 5, (.int .i64), none⟩, ⟨.cell 0 11, (.int .i64), none⟩, ⟨.cell 0 8, (.int .i64), none⟩, ⟨.cell 0 14, (.slice (.agg Yt1)), none⟩, ⟨.cell 0 20, (.int .i64), none⟩, ⟨.cell 0 17, (.int .i64), none⟩, ⟨.cell 0 23, (.slice (.agg Yt10)), none⟩, ⟨.cell 0 26, (.slice (.int .i64)), none⟩, ⟨.cell 0 1, (.int .i64), none⟩, ⟨.cell 0 4, (.int .i64), none⟩, ⟨.cell 0 7, (.int .i64), none⟩, ⟨.cell 0 13, (.int .i64), none⟩, ⟨.cell 0 10, (.int .i64), none⟩, ⟨.cell 0 16, (.slice (.int .i64)), none⟩, ⟨.cell 0 19, (.int .i64), none⟩, ⟨.cell 0 25, (.slice (.int .i64)), none⟩, ⟨.cell 0 22, (.int .i64), none⟩, ⟨.slot 6, (.int .i64), none⟩, ⟨.slot 5, (.slice (.agg (.pair (.int .i64) (.int .i64)))), some 2400140⟩])]) [(.mk .plain [H0, (.mk .plain [H0, (.mk .plain [H0, (.mk .plain [H0, (.mk (.join [(0, 29), (0, 30)] [(.normal, [⟨.slot 6, (.int .i64), none⟩])]) [])])])])])])])])])])])])])])])])
theorem run_F_admit_judge_sensors : runE ⟨tdGet tys, [con_F_admit_judge_fit, con_F_admit_judge_says, con_F_admit_judge_wrong, con_F_vote_Common], []⟩ con_F_admit_judge_sensors Tryz.f70 hint_F_admit_judge_sensors = con_F_admit_judge_sensors.F := by
  funext x
  kernel_rfl
theorem ok_F_admit_judge_sensors : ConOK Tryz.prog con_F_admit_judge_sensors :=
  con_of_run (Γ := ⟨tdGet tys, [con_F_admit_judge_fit, con_F_admit_judge_says, con_F_admit_judge_wrong, con_F_vote_Common], []⟩) ⟨fun T d h => tysB_ok tys tys_ok T d h, by simp [ok_F_admit_judge_fit, ok_F_admit_judge_says, ok_F_admit_judge_wrong, ok_F_vote_Common], by simp []⟩ (by kernel_rfl) Tryz.func70 rfl (by kernel_rfl) run_F_admit_judge_sensors
/-- (*odograph/admit.judge).all -/
noncomputable def F_admit_judge_all (x_1 : Int) (x_2 : Int) (x_3 : Int) (x_4 : Int) (x_5 : Int) (x_6 : Int) (x_7 : Int) (x_8 : Int) (x_9 : Int) (x_10 : Int) (x_11 : Int) (x_12 : Int) (x_13 : Int) (x_14 : Int) (x_15 : (List Yd1)) (x_16 : (List Yd4)) (x_17 : (List Int)) (x_18 : Int) (x_19 : Int) (x_20 : Int) (x_21 : Int) (x_22 : Int) (x_23 : Int) (x_24 : (List Yd10)) (x_25 : (List Yd3)) (x_26 : (List Int)) (x_27 : (List Int)) (x_28 : (List Int)) : Option Yd472 :=
  Option.bind (α := Yd64 ⊕ Yd63) (
    loopO (X := Yd64 ⊕ Yd63) (fun (s_29 : Yd514) =>
      let b0_30 : Int := s_29.1
      let b0_31 : Int := s_29.2.1
      let b0_32 : Int := s_29.2.2.1
      let b0_33 : Int := s_29.2.2.2.1
      let b0_34 : Int := s_29.2.2.2.2.1
      let b0_35 : Int := s_29.2.2.2.2.2.1
      let b0_36 : (List Yd4) := s_29.2.2.2.2.2.2.1
      let b0_37 : Int := s_29.2.2.2.2.2.2.2.1
      let b0_38 : (List Yd3) := s_29.2.2.2.2.2.2.2.2.1
      let b0_39 : (List Int) := s_29.2.2.2.2.2.2.2.2.2.1
      let b0_40 : Int := s_29.2.2.2.2.2.2.2.2.2.2.1
      let b0_41 : Int := s_29.2.2.2.2.2.2.2.2.2.2.2.1
      let b0_42 : Int := s_29.2.2.2.2.2.2.2.2.2.2.2.2.1
      let b0_43 : Int := s_29.2.2.2.2.2.2.2.2.2.2.2.2.2.1
      let b0_44 : (List Yd1) := s_29.2.2.2.2.2.2.2.2.2.2.2.2.2.2.1
      let b0_45 : Int := s_29.2.2.2.2.2.2.2.2.2.2.2.2.2.2.2.1
      let b0_46 : Int := s_29.2.2.2.2.2.2.2.2.2.2.2.2.2.2.2.2.1
      let b0_47 : (List Yd10) := s_29.2.2.2.2.2.2.2.2.2.2.2.2.2.2.2.2.2.1
      let b0_48 : (List Int) := s_29.2.2.2.2.2.2.2.2.2.2.2.2.2.2.2.2.2.2.1
      let b0_49 : Int := s_29.2.2.2.2.2.2.2.2.2.2.2.2.2.2.2.2.2.2.2.1
      let b0_50 : Int := s_29.2.2.2.2.2.2.2.2.2.2.2.2.2.2.2.2.2.2.2.2.1
      let b0_51 : Int := s_29.2.2.2.2.2.2.2.2.2.2.2.2.2.2.2.2.2.2.2.2.2.1
      let b0_52 : Int := s_29.2.2.2.2.2.2.2.2.2.2.2.2.2.2.2.2.2.2.2.2.2.2.1
      let b0_53 : Int := s_29.2.2.2.2.2.2.2.2.2.2.2.2.2.2.2.2.2.2.2.2.2.2.2.1
      let b0_54 : (List Int) := s_29.2.2.2.2.2.2.2.2.2.2.2.2.2.2.2.2.2.2.2.2.2.2.2.2.1
      let b0_55 : Int := s_29.2.2.2.2.2.2.2.2.2.2.2.2.2.2.2.2.2.2.2.2.2.2.2.2.2.1
      let b0_56 : (List Int) := s_29.2.2.2.2.2.2.2.2.2.2.2.2.2.2.2.2.2.2.2.2.2.2.2.2.2.2.1
      let b0_57 : Int := s_29.2.2.2.2.2.2.2.2.2.2.2.2.2.2.2.2.2.2.2.2.2.2.2.2.2.2.2.1
      let t10_58 : Int := s_29.2.2.2.2.2.2.2.2.2.2.2.2.2.2.2.2.2.2.2.2.2.2.2.2.2.2.2.2
      let t11_59 : Bool := (decide (t10_58 < (x_24.length : Int)))
      (bif t11_59 then
        (F_admit_judge_sensors t10_58 b0_30 b0_49 b0_40 b0_32 b0_50 b0_41 b0_31 b0_51 b0_43 b0_33 b0_53 b0_42 b0_34 b0_52 b0_44 b0_36 b0_54 b0_46 b0_35 b0_55 b0_45 b0_37 b0_57 b0_47 b0_38 b0_56 b0_48 b0_39).bind fun t15_60 =>
        (bif (!t15_60.1) then
          some (.inr (.inl (false, t15_60.2.1, t15_60.2.2.2.2.2.2.2.1, t15_60.2.2.2.2.1, t15_60.2.2.2.2.2.2.2.2.2.2.1, t15_60.2.2.2.2.2.2.2.2.2.2.2.2.2.1, t15_60.2.2.2.2.2.2.2.2.2.2.2.2.2.2.2.2.2.2.2.1, t15_60.2.2.2.2.2.2.2.2.2.2.2.2.2.2.2.2.1, t15_60.2.2.2.2.2.2.2.2.2.2.2.2.2.2.2.2.2.2.2.2.2.2.1, t15_60.2.2.2.2.2.2.2.2.2.2.2.2.2.2.2.2.2.2.2.2.2.2.2.2.2.1, t15_60.2.2.2.2.2.2.2.2.2.2.2.2.2.2.2.2.2.2.2.2.2.2.2.2.2.2.2.2, t15_60.2.2.2.1, t15_60.2.2.2.2.2.2.1, t15_60.2.2.2.2.2.2.2.2.2.2.2.2.1, t15_60.2.2.2.2.2.2.2.2.2.1, t15_60.2.2.2.2.2.2.2.2.2.2.2.2.2.2.2.1, t15_60.2.2.2.2.2.2.2.2.2.2.2.2.2.2.2.2.2.2.2.2.2.1, t15_60.2.2.2.2.2.2.2.2.2.2.2.2.2.2.2.2.2.2.1, t15_60.2.2.2.2.2.2.2.2.2.2.2.2.2.2.2.2.2.2.2.2.2.2.2.2.1, t15_60.2.2.2.2.2.2.2.2.2.2.2.2.2.2.2.2.2.2.2.2.2.2.2.2.2.2.2.1, t15_60.2.2.1, t15_60.2.2.2.2.2.1, t15_60.2.2.2.2.2.2.2.2.1, t15_60.2.2.2.2.2.2.2.2.2.2.2.2.2.2.1, t15_60.2.2.2.2.2.2.2.2.2.2.2.1, t15_60.2.2.2.2.2.2.2.2.2.2.2.2.2.2.2.2.2.1, t15_60.2.2.2.2.2.2.2.2.2.2.2.2.2.2.2.2.2.2.2.2.1, t15_60.2.2.2.2.2.2.2.2.2.2.2.2.2.2.2.2.2.2.2.2.2.2.2.2.2.2.1, t15_60.2.2.2.2.2.2.2.2.2.2.2.2.2.2.2.2.2.2.2.2.2.2.2.1)))
        else
          let t17_61 : Int := (IntKind.wrap .i64 (t10_58 + (1 : Int)))
          some (.inl (t15_60.2.1, t15_60.2.2.2.2.2.2.2.1, t15_60.2.2.2.2.1, t15_60.2.2.2.2.2.2.2.2.2.2.1, t15_60.2.2.2.2.2.2.2.2.2.2.2.2.2.1, t15_60.2.2.2.2.2.2.2.2.2.2.2.2.2.2.2.2.2.2.2.1, t15_60.2.2.2.2.2.2.2.2.2.2.2.2.2.2.2.2.1, t15_60.2.2.2.2.2.2.2.2.2.2.2.2.2.2.2.2.2.2.2.2.2.2.1, t15_60.2.2.2.2.2.2.2.2.2.2.2.2.2.2.2.2.2.2.2.2.2.2.2.2.2.1, t15_60.2.2.2.2.2.2.2.2.2.2.2.2.2.2.2.2.2.2.2.2.2.2.2.2.2.2.2.2, t15_60.2.2.2.1, t15_60.2.2.2.2.2.2.1, t15_60.2.2.2.2.2.2.2.2.2.2.2.2.1, t15_60.2.2.2.2.2.2.2.2.2.1, t15_60.2.2.2.2.2.2.2.2.2.2.2.2.2.2.2.1, t15_60.2.2.2.2.2.2.2.2.2.2.2.2.2.2.2.2.2.2.2.2.2.1, t15_60.2.2.2.2.2.2.2.2.2.2.2.2.2.2.2.2.2.2.1, t15_60.2.2.2.2.2.2.2.2.2.2.2.2.2.2.2.2.2.2.2.2.2.2.2.2.1, t15_60.2.2.2.2.2.2.2.2.2.2.2.2.2.2.2.2.2.2.2.2.2.2.2.2.2.2.2.1, t15_60.2.2.1, t15_60.2.2.2.2.2.1, t15_60.2.2.2.2.2.2.2.2.1, t15_60.2.2.2.2.2.2.2.2.2.2.2.2.2.2.1, t15_60.2.2.2.2.2.2.2.2.2.2.2.1, t15_60.2.2.2.2.2.2.2.2.2.2.2.2.2.2.2.2.2.1, t15_60.2.2.2.2.2.2.2.2.2.2.2.2.2.2.2.2.2.2.2.2.1, t15_60.2.2.2.2.2.2.2.2.2.2.2.2.2.2.2.2.2.2.2.2.2.2.2.2.2.2.1, t15_60.2.2.2.2.2.2.2.2.2.2.2.2.2.2.2.2.2.2.2.2.2.2.2.1, t17_61)))
      else
        some (.inr (.inr (b0_30, b0_31, b0_32, b0_33, b0_34, b0_35, b0_36, b0_37, b0_38, b0_39, b0_40, b0_41, b0_42, b0_43, b0_44, b0_45, b0_46, b0_47, b0_48, b0_49, b0_50, b0_51, b0_52, b0_53, b0_54, b0_55, b0_56, b0_57))))) (x_1, x_7, x_4, x_10, x_13, x_19, x_16, x_22, x_25, x_28, x_3, x_6, x_12, x_9, x_15, x_21, x_18, x_24, x_27, x_2, x_5, x_8, x_14, x_11, x_17, x_20, x_26, x_23, (0 : Int))) fun z => match z with
  | .inl r_62 =>
    let t2_63 : Bool := r_62.1
    let b0_64 : Int := r_62.2.1
    let b0_65 : Int := r_62.2.2.1
    let b0_66 : Int := r_62.2.2.2.1
    let b0_67 : Int := r_62.2.2.2.2.1
    let b0_68 : Int := r_62.2.2.2.2.2.1
    let b0_69 : Int := r_62.2.2.2.2.2.2.1
    let b0_70 : (List Yd4) := r_62.2.2.2.2.2.2.2.1
    let b0_71 : Int := r_62.2.2.2.2.2.2.2.2.1
    let b0_72 : (List Yd3) := r_62.2.2.2.2.2.2.2.2.2.1
    let b0_73 : (List Int) := r_62.2.2.2.2.2.2.2.2.2.2.1
    let b0_74 : Int := r_62.2.2.2.2.2.2.2.2.2.2.2.1
    let b0_75 : Int := r_62.2.2.2.2.2.2.2.2.2.2.2.2.1
    let b0_76 : Int := r_62.2.2.2.2.2.2.2.2.2.2.2.2.2.1
    let b0_77 : Int := r_62.2.2.2.2.2.2.2.2.2.2.2.2.2.2.1
    let b0_78 : (List Yd1) := r_62.2.2.2.2.2.2.2.2.2.2.2.2.2.2.2.1
    let b0_79 : Int := r_62.2.2.2.2.2.2.2.2.2.2.2.2.2.2.2.2.1
    let b0_80 : Int := r_62.2.2.2.2.2.2.2.2.2.2.2.2.2.2.2.2.2.1
    let b0_81 : (List Yd10) := r_62.2.2.2.2.2.2.2.2.2.2.2.2.2.2.2.2.2.2.1
    let b0_82 : (List Int) := r_62.2.2.2.2.2.2.2.2.2.2.2.2.2.2.2.2.2.2.2.1
    let b0_83 : Int := r_62.2.2.2.2.2.2.2.2.2.2.2.2.2.2.2.2.2.2.2.2.1
    let b0_84 : Int := r_62.2.2.2.2.2.2.2.2.2.2.2.2.2.2.2.2.2.2.2.2.2.1
    let b0_85 : Int := r_62.2.2.2.2.2.2.2.2.2.2.2.2.2.2.2.2.2.2.2.2.2.2.1
    let b0_86 : Int := r_62.2.2.2.2.2.2.2.2.2.2.2.2.2.2.2.2.2.2.2.2.2.2.2.1
    let b0_87 : Int := r_62.2.2.2.2.2.2.2.2.2.2.2.2.2.2.2.2.2.2.2.2.2.2.2.2.1
    let b0_88 : (List Int) := r_62.2.2.2.2.2.2.2.2.2.2.2.2.2.2.2.2.2.2.2.2.2.2.2.2.2.1
    let b0_89 : Int := r_62.2.2.2.2.2.2.2.2.2.2.2.2.2.2.2.2.2.2.2.2.2.2.2.2.2.2.1
    let b0_90 : (List Int) := r_62.2.2.2.2.2.2.2.2.2.2.2.2.2.2.2.2.2.2.2.2.2.2.2.2.2.2.2.1
    let b0_91 : Int := r_62.2.2.2.2.2.2.2.2.2.2.2.2.2.2.2.2.2.2.2.2.2.2.2.2.2.2.2.2
    some (t2_63, b0_64, b0_83, b0_74, b0_66, b0_84, b0_75, b0_65, b0_85, b0_77, b0_67, b0_87, b0_76, b0_68, b0_86, b0_78, b0_70, b0_88, b0_80, b0_69, b0_89, b0_79, b0_71, b0_91, b0_81, b0_72, b0_90, b0_82, b0_73)
  | .inr r_92 =>
    let b0_93 : Int := r_92.1
    let b0_94 : Int := r_92.2.1
    let b0_95 : Int := r_92.2.2.1
    let b0_96 : Int := r_92.2.2.2.1
    let b0_97 : Int := r_92.2.2.2.2.1
    let b0_98 : Int := r_92.2.2.2.2.2.1
    let b0_99 : (List Yd4) := r_92.2.2.2.2.2.2.1
    let b0_100 : Int := r_92.2.2.2.2.2.2.2.1
    let b0_101 : (List Yd3) := r_92.2.2.2.2.2.2.2.2.1
    let b0_102 : (List Int) := r_92.2.2.2.2.2.2.2.2.2.1
    let b0_103 : Int := r_92.2.2.2.2.2.2.2.2.2.2.1
    let b0_104 : Int := r_92.2.2.2.2.2.2.2.2.2.2.2.1
    let b0_105 : Int := r_92.2.2.2.2.2.2.2.2.2.2.2.2.1
    let b0_106 : Int := r_92.2.2.2.2.2.2.2.2.2.2.2.2.2.1
    let b0_107 : (List Yd1) := r_92.2.2.2.2.2.2.2.2.2.2.2.2.2.2.1
    let b0_108 : Int := r_92.2.2.2.2.2.2.2.2.2.2.2.2.2.2.2.1
    let b0_109 : Int := r_92.2.2.2.2.2.2.2.2.2.2.2.2.2.2.2.2.1
    let b0_110 : (List Yd10) := r_92.2.2.2.2.2.2.2.2.2.2.2.2.2.2.2.2.2.1
    let b0_111 : (List Int) := r_92.2.2.2.2.2.2.2.2.2.2.2.2.2.2.2.2.2.2.1
    let b0_112 : Int := r_92.2.2.2.2.2.2.2.2.2.2.2.2.2.2.2.2.2.2.2.1
    let b0_113 : Int := r_92.2.2.2.2.2.2.2.2.2.2.2.2.2.2.2.2.2.2.2.2.1
    let b0_114 : Int := r_92.2.2.2.2.2.2.2.2.2.2.2.2.2.2.2.2.2.2.2.2.2.1
    let b0_115 : Int := r_92.2.2.2.2.2.2.2.2.2.2.2.2.2.2.2.2.2.2.2.2.2.2.1
    let b0_116 : Int := r_92.2.2.2.2.2.2.2.2.2.2.2.2.2.2.2.2.2.2.2.2.2.2.2.1
    let b0_117 : (List Int) := r_92.2.2.2.2.2.2.2.2.2.2.2.2.2.2.2.2.2.2.2.2.2.2.2.2.1
    let b0_118 : Int := r_92.2.2.2.2.2.2.2.2.2.2.2.2.2.2.2.2.2.2.2.2.2.2.2.2.2.1
    let b0_119 : (List Int) := r_92.2.2.2.2.2.2.2.2.2.2.2.2.2.2.2.2.2.2.2.2.2.2.2.2.2.2.1
    let b0_120 : Int := r_92.2.2.2.2.2.2.2.2.2.2.2.2.2.2.2.2.2.2.2.2.2.2.2.2.2.2.2
    some (true, b0_93, b0_112, b0_103, b0_95, b0_113, b0_104, b0_94, b0_114, b0_106, b0_96, b0_116, b0_105, b0_97, b0_115, b0_107, b0_99, b0_117, b0_109, b0_98, b0_118, b0_108, b0_100, b0_120, b0_110, b0_101, b0_119, b0_111, b0_102)
noncomputable def con_F_admit_judge_all : Con := { f := 41, ps := [.ref 0 0], boxes := [[.dat (.int .i64), .dat (.int .i64), .dat (.int .i64), .dat (.int .i64), .dat (.int .i64), .dat (.int .i64), .dat (.int .i64), .dat (.int .i64), .dat (.int .i64), .dat (.int .i64), .dat (.int .i64), .dat (.int .i64), .dat (.int .i64), .dat (.int .i64), .dat (.slice (.agg Yt1)), .dat (.slice (.agg Yt4)), .dat (.slice (.int .i64)), .dat (.int .i64), .dat (.int .i64), .dat (.int .i64), .dat (.int .i64), .dat (.int .i64), .dat (.int .i64), .dat (.slice (.agg Yt10)), .dat (.slice (.agg Yt3)), .dat (.slice (.int .i64)), .dat (.slice (.int .i64)), .dat (.slice (.int .i64))]], ins := Yt471, nin := 28, outs := Yt472, rs := [.dat .bool], nout := 29, F := fun x => F_admit_judge_all x.1 x.2.1 x.2.2.1 x.2.2.2.1 x.2.2.2.2.1 x.2.2.2.2.2.1 x.2.2.2.2.2.2.1 x.2.2.2.2.2.2.2.1 x.2.2.2.2.2.2.2.2.1 x.2.2.2.2.2.2.2.2.2.1 x.2.2.2.2.2.2.2.2.2.2.1 x.2.2.2.2.2.2.2.2.2.2.2.1 x.2.2.2.2.2.2.2.2.2.2.2.2.1 x.2.2.2.2.2.2.2.2.2.2.2.2.2.1 x.2.2.2.2.2.2.2.2.2.2.2.2.2.2.1 x.2.2.2.2.2.2.2.2.2.2.2.2.2.2.2.1 x.2.2.2.2.2.2.2.2.2.2.2.2.2.2.2.2.1 x.2.2.2.2.2.2.2.2.2.2.2.2.2.2.2.2.2.1 x.2.2.2.2.2.2.2.2.2.2.2.2.2.2.2.2.2.2.1 x.2.2.2.2.2.2.2.2.2.2.2.2.2.2.2.2.2.2.2.1 x.2.2.2.2.2.2.2.2.2.2.2.2.2.2.2.2.2.2.2.2.1 x.2.2.2.2.2.2.2.2.2.2.2.2.2.2.2.2.2.2.2.2.2.1 x.2.2.2.2.2.2.2.2.2.2.2.2.2.2.2.2.2.2.2.2.2.2.1 x.2.2.2.2.2.2.2.2.2.2.2.2.2.2.2.2.2.2.2.2.2.2.2.1 x.2.2.2.2.2.2.2.2.2.2.2.2.2.2.2.2.2.2.2.2.2.2.2.2.1 x.2.2.2.2.2.2.2.2.2.2.2.2.2.2.2.2.2.2.2.2.2.2.2.2.2.1 x.2.2.2.2.2.2.2.2.2.2.2.2.2.2.2.2.2.2.2.2.2.2.2.2.2.2.1 x.2.2.2.2.2.2.2.2.2.2.2.2.2.2.2.2.2.2.2.2.2.2.2.2.2.2.2 }
def hint_F_admit_judge_all : Hint := (.mk .plain [H0, (.mk .plain [(.mk .plain [H0, (.mk .plain [(.mk (.loop [⟨.cell 0 0, (.int .i64), none⟩, ⟨.cell 0 6, (.int .i64), none⟩, ⟨.cell 0 3, (.int .i64), none⟩, ⟨.cell 0 9, (.int .i64), none⟩, ⟨.cell 0 12, (.int .i64), none⟩, ⟨.cell 0 18, (.int .i64), none⟩, ⟨.cell 0 15, (.slice (.agg Yt4)), none⟩, ⟨.cell 0 21, (.int .i64), none⟩, ⟨.cell 0 24, (.slice (.agg Yt3)), none⟩, ⟨.cell 0 27, (.slice (.int .i64)), none⟩, ⟨.cell 0 2, (.int .i64), none⟩, ⟨.cell 0 5, (.int .i64), none⟩, ⟨.cell 0 11, (.int .i64), none⟩, ⟨.cell 0 8, (.int .i64), none⟩, ⟨.cell 0 14, (.slice (.agg Yt1)), none⟩, ⟨.cell 0 20, (.int .i64), none⟩, ⟨.cell 0 17, (.int .i64), none⟩, ⟨.cell 0 23, (.slice (.agg Yt10)), none⟩, ⟨.cell 0 26, (.slice (.int .i64)), none⟩, ⟨.cell 0 1, (.int .i64), none⟩, ⟨.cell 0 4, (.int .i64), none⟩, ⟨.cell 0 7, (.int .i64), none⟩, ⟨.cell 0 13, (.int .i64), none⟩, ⟨.cell 0 10, (.int .i64), none⟩, ⟨.cell 0 16, (.slice (.int .i64)), none⟩, ⟨.cell 0 19, (.int .i64), none⟩, ⟨.cell 0 25, (.slice (.int .i64)), none⟩, ⟨.cell 0 22, (.int .i64), none⟩, ⟨.slot 10, (.int .i64), none⟩] [(0, 2), (0, 14), (0, 11), (0, 16), (0, 13), (0, 3), (0, 12), (0, 15), (0, 17)] [(.ret, [⟨.slot 2, .bool, none⟩, ⟨.cell 0 0, (.int .i64), none⟩, ⟨.cell 0 6, (.int .i64), none⟩, ⟨.cell 0 3, (.int .i64), none⟩, ⟨.cell 0 9, (.int .i64), none⟩, ⟨.cell 0 12, (.int .i64), none⟩, ⟨.cell 0 18, (.int .i64), none⟩, ⟨.cell 0 15, (.slice (.agg Yt4)), none⟩, ⟨.cell 0 21, (.int .i64), none⟩, ⟨.cell 0 24, (.slice (.agg Yt3)), none⟩, ⟨.cell 0 27, (.slice (.int .i64)), none⟩, ⟨.cell 0 2, (.int .i64), none⟩, ⟨.cell 0 5, (.int .i64), none⟩, ⟨.cell 0 11, (.int .i64), none⟩, ⟨.cell 0 8, (.int .i64), none⟩, ⟨.cell 0 14, (.slice (.agg Yt1)), none⟩, ⟨.cell 0 20, (.int .i64), none⟩, ⟨.cell 0 17, (.int .i64), none⟩, ⟨.cell 0 23, (.slice (.agg Yt10)), none⟩, ⟨.cell 0 26, (.slice (.int .i64)), none⟩, ⟨.cell 0 1, (.int .i64), none⟩, ⟨.cell 0 4, (.int .i64), none⟩, ⟨.cell 0 7, (.int .i64), none⟩, ⟨.cell 0 13, (.int .i64), none⟩, ⟨.cell 0 10, (.int .i64), none⟩, ⟨.cell 0 16, (.slice (.int .i64)), none⟩, ⟨.cell 0 19, (.int .i64), none⟩, ⟨.cell 0 25, (.slice (.int .i64)), none⟩, ⟨.cell 0 22, (.int .i64), none⟩]), (.exit 0, [⟨.cell 0 0, (.int .i64), none⟩, ⟨.cell 0 6, (.int .i64), none⟩, ⟨.cell 0 3, (.int .i64), none⟩, ⟨.cell 0 9, (.int .i64), none⟩, ⟨.cell 0 12, (.int .i64), none⟩, ⟨.cell 0 18, (.int .i64), none⟩, ⟨.cell 0 15, (.slice (.agg Yt4)), none⟩, ⟨.cell 0 21, (.int .i64), none⟩, ⟨.cell 0 24, (.slice (.agg Yt3)), none⟩, ⟨.cell 0 27, (.slice (.int .i64)), none⟩, ⟨.cell 0 2, (.int .i64), none⟩, ⟨.cell 0 5, (.int .i64), none⟩, ⟨.cell 0 11, (.int .i64), none⟩, ⟨.cell 0 8, (.int .i64), none⟩, ⟨.cell 0 14, (.slice (.agg Yt1)), none⟩, ⟨.cell 0 20, (.int .i64), none⟩, ⟨.cell 0 17, (.int .i64), none⟩, ⟨.cell 0 23, (.slice (.agg Yt10)), none⟩, ⟨.cell 0 26, (.slice (.int .i64)), none⟩, ⟨.cell 0 1, (.int .i64), none⟩, ⟨.cell 0 4, (.int .i64), none⟩, ⟨.cell 0 7, (.int .i64), none⟩, ⟨.cell 0 13, (.int .i64), none⟩, ⟨.cell 0 10, (.int .i64), none⟩, ⟨.cell 0 16, (.slice (.int .i64)), none⟩, ⟨.cell 0 19, (.int .i64), none⟩, ⟨.cell 0 25, (.slice (.int .i64)), none⟩, ⟨.cell 0 22, (.int .i64), none⟩])]) [])])])])])
theorem run_F_admit_judge_all : runE ⟨tdGet tys, [con_F_admit_judge_sensors], []⟩ con_F_admit_judge_all Tryz.f41 hint_F_admit_judge_all = con_F_admit_judge_all.F := by
  funext x
  kernel_rfl
theorem ok_F_admit_judge_all : ConOK Tryz.prog con_F_admit_judge_all :=
  con_of_run (Γ := ⟨tdGet tys, [con_F_admit_judge_sensors], []⟩) ⟨fun T d h => tysB_ok tys tys_ok T d h, by simp [ok_F_admit_judge_sensors], by simp []⟩ (by kernel_rfl) Tryz.func41 rfl (by kernel_rfl) run_F_admit_judge_all
/-- cmp.isNaN[int] -/
noncomputable def F_cmp_isNaN_int (x_1 : Int) : Option Bool :=
  some (x_1 != x_1)
noncomputable def con_F_cmp_isNaN_int : Con := { f := 140, ps := [.dat (.int .i64)], boxes := [], ins := (.int .i64), nin := 1, outs := .bool, rs := [.dat .bool], nout := 1, F := fun x => F_cmp_isNaN_int x }
def hint_F_cmp_isNaN_int : Hint := H0
theorem run_F_cmp_isNaN_int : runE ⟨tdGet tys, [], []⟩ con_F_cmp_isNaN_int Tryz.f140 hint_F_cmp_isNaN_int = con_F_cmp_isNaN_int.F := by
  funext x
  kernel_rfl
theorem ok_F_cmp_isNaN_int : ConOK Tryz.prog con_F_cmp_isNaN_int :=
  con_of_run (Γ := ⟨tdGet tys, [], []⟩) ⟨fun T d h => tysB_ok tys tys_ok T d h, by simp [], by simp []⟩ (by kernel_rfl) Tryz.func140 rfl (by kernel_rfl) run_F_cmp_isNaN_int
/-- cmp.Compare[int] -/
noncomputable def F_cmp_Compare_int (x_1 : Int) (y_2 : Int) : Option Int :=
  (F_cmp_isNaN_int x_1).bind fun t8_3 =>
  (F_cmp_isNaN_int y_2).bind fun t10_4 =>
  (bif t8_3 then
    (bif t10_4 then
      some (0 : Int)
    else
      some (-1 : Int))
  else
    (bif t10_4 then
      some (1 : Int)
    else
      (bif (decide (x_1 < y_2)) then
        some (-1 : Int)
      else
        (bif (decide (y_2 < x_1)) then
          some (1 : Int)
        else
          some (0 : Int)))))
noncomputable def con_F_cmp_Compare_int : Con := { f := 128, ps := [.dat (.int .i64), .dat (.int .i64)], boxes := [], ins := (.pair (.int .i64) (.int .i64)), nin := 2, outs := (.int .i64), rs := [.dat (.int .i64)], nout := 1, F := fun x => F_cmp_Compare_int x.1 x.2 }
def hint_F_cmp_Compare_int : Hint := H0
theorem run_F_cmp_Compare_int : runE ⟨tdGet tys, [con_F_cmp_isNaN_int], []⟩ con_F_cmp_Compare_int Tryz.f128 hint_F_cmp_Compare_int = con_F_cmp_Compare_int.F := by
  funext x
  kernel_rfl
theorem ok_F_cmp_Compare_int : ConOK Tryz.prog con_F_cmp_Compare_int :=
  con_of_run (Γ := ⟨tdGet tys, [con_F_cmp_isNaN_int], []⟩) ⟨fun T d h => tysB_ok tys tys_ok T d h, by simp [ok_F_cmp_isNaN_int], by simp []⟩ (by kernel_rfl) Tryz.func128 rfl (by kernel_rfl) run_F_cmp_Compare_int
/-- (odograph/track.Track).Find$1 -/
noncomputable def F_track_Track_Find_1 (g_1 : Yd4) (id_2 : Int) : Option Int :=
  (F_cmp_Compare_int g_1.1 id_2).bind fun t8_3 =>
  some t8_3
noncomputable def con_F_track_Track_Find_1 : Con := { f := 127, ps := [.dat (.agg Yt4), .dat (.int .i64)], boxes := [], ins := Yt515, nin := 2, outs := (.int .i64), rs := [.dat (.int .i64)], nout := 1, F := fun x => F_track_Track_Find_1 x.1 x.2 }
def hint_F_track_Track_Find_1 : Hint := H0
theorem run_F_track_Track_Find_1 : runE ⟨tdGet tys, [con_F_cmp_Compare_int], []⟩ con_F_track_Track_Find_1 Tryz.f127 hint_F_track_Track_Find_1 = con_F_track_Track_Find_1.F := by
  funext x
  kernel_rfl
theorem ok_F_track_Track_Find_1 : ConOK Tryz.prog con_F_track_Track_Find_1 :=
  con_of_run (Γ := ⟨tdGet tys, [con_F_cmp_Compare_int], []⟩) ⟨fun T d h => tysB_ok tys tys_ok T d h, by simp [ok_F_cmp_Compare_int], by simp []⟩ (by kernel_rfl) Tryz.func127 rfl (by kernel_rfl) run_F_track_Track_Find_1
/-- slices.BinarySearchFunc[[]odograph/track.Group,odograph/track.Group,int] -/
noncomputable def F_slices_BinarySearchFunc_track_Group_track_Group_int (x_1 : (List Yd4)) (target_2 : Int) : Option (Int × Bool) :=
  Option.bind (
    loopO (X := Int) (fun (s_3 : (Int × Int)) =>
      let j_4 : Int := s_3.1
      let i_5 : Int := s_3.2
      (bif (decide (i_5 < j_4)) then
        let t20_6 : Int := (IntKind.wrap .i64 (i_5 + j_4))
        let t21_7 : Int := (IntKind.wrap .u64 t20_6)
        let t23_8 : Int := (IntKind.wrap .i64 (t21_7.fdiv (2 ^ 1)))
        chk none ((decide ((0 : Int) ≤ t23_8)) && (decide (t23_8 < (x_1.length : Int)))) <|
        let t28_9 : Yd4 := (x_1.getD t23_8.toNat ((0 : Int), ((0 : Int), ((0 : Int), ((0 : Int), (0 : Int))))))
        (F_track_Track_Find_1 t28_9 target_2).bind fun t30_10 =>
        let t31_11 : Bool := (decide (t30_10 < (0 : Int)))
        Option.bind (
          (bif t31_11 then
            let t33_12 : Int := (IntKind.wrap .i64 (t23_8 + (1 : Int)))
            some (t33_12, j_4)
          else
            some (i_5, t23_8))) fun r_13 =>
        let i_14 : Int := r_13.1
        let j_15 : Int := r_13.2
        some (.inl (j_15, i_14))
      else
        some (.inr i_5))) ((x_1.length : Int), (0 : Int))) fun r_16 =>
  let t38_17 : Bool := (decide (r_16 < (x_1.length : Int)))
  chk none (((decide ((0 : Int) ≤ r_16)) && (decide (r_16 < (x_1.length : Int)))) || !t38_17) <|
  let t44_18 : Yd4 := (x_1.getD r_16.toNat ((0 : Int), ((0 : Int), ((0 : Int), ((0 : Int), (0 : Int))))))
  (bif t38_17 then F_track_Track_Find_1 t44_18 target_2 else some (0 : Int)).bind fun t46_19 =>
  let t48_20 : Bool := (bif t38_17 then (t46_19 == (0 : Int)) else false)
  some (r_16, t48_20)
noncomputable def con_F_slices_BinarySearchFunc_track_Group_track_Group_int : Con := { f := 126, ps := [.dat (.slice (.agg Yt4)), .dat (.int .i64), .clo 127 [] []], boxes := [], ins := Yt516, nin := 2, outs := (.pair (.int .i64) .bool), rs := [.dat (.int .i64), .dat .bool], nout := 2, F := fun x => F_slices_BinarySearchFunc_track_Group_track_Group_int x.1 x.2 }
def hint_F_slices_BinarySearchFunc_track_Group_track_Group_int : Hint := (.mk .plain [H0, (.mk .plain [H0, (.mk .plain [H0, (.mk .plain [(.mk .plain [(.mk (.loop [⟨.slot 10, (.int .i64), none⟩, ⟨.slot 9, (.int .i64), none⟩] [(0, 30), (0, 16), (0, 19), (0, 22), (0, 28), (0, 25), (0, 31), (0, 34), (0, 11), (0, 17), (0, 23), (0, 20), (0, 26), (0, 29), (0, 32), (0, 15), (0, 21), (0, 18), (0, 24), (0, 27), (0, 33)] [(.exit 0, [⟨.slot 9, (.int .i64), none⟩])]) [(.mk .plain [H0, (.mk .plain [(.mk .plain [H0, (.mk .plain [H0, (.mk (.join [(0, 32), (0, 33), (0, 34)] [(.normal, [⟨.slot 9, (.int .i64), none⟩, ⟨.slot 10, (.int .i64), none⟩])]) [])])])])])])])])])])])
theorem run_F_slices_BinarySearchFunc_track_Group_track_Group_int : runE ⟨tdGet tys, [con_F_track_Track_Find_1], []⟩ con_F_slices_BinarySearchFunc_track_Group_track_Group_int Tryz.f126 hint_F_slices_BinarySearchFunc_track_Group_track_Group_int = con_F_slices_BinarySearchFunc_track_Group_track_Group_int.F := by
  funext x
  kernel_rfl
theorem ok_F_slices_BinarySearchFunc_track_Group_track_Group_int : ConOK Tryz.prog con_F_slices_BinarySearchFunc_track_Group_track_Group_int :=
  con_of_run (Γ := ⟨tdGet tys, [con_F_track_Track_Find_1], []⟩) ⟨fun T d h => tysB_ok tys tys_ok T d h, by simp [ok_F_track_Track_Find_1], by simp []⟩ (by kernel_rfl) Tryz.func126 rfl (by kernel_rfl) run_F_slices_BinarySearchFunc_track_Group_track_Group_int
/-- (odograph/track.Track).Find -/
noncomputable def F_track_Track_Find (t_1 : Yd440) (id_2 : Int) : Option (Int × Bool) :=
  (F_slices_BinarySearchFunc_track_Group_track_Group_int t_1.2 id_2).bind fun t9_3 =>
  some (t9_3.1, t9_3.2)
noncomputable def con_F_track_Track_Find : Con := { f := 94, ps := [.dat (.agg Yt440), .dat (.int .i64)], boxes := [], ins := Yt517, nin := 2, outs := (.pair (.int .i64) .bool), rs := [.dat (.int .i64), .dat .bool], nout := 2, F := fun x => F_track_Track_Find x.1 x.2 }
def hint_F_track_Track_Find : Hint := H0
theorem run_F_track_Track_Find : runE ⟨tdGet tys, [con_F_slices_BinarySearchFunc_track_Group_track_Group_int], []⟩ con_F_track_Track_Find Tryz.f94 hint_F_track_Track_Find = con_F_track_Track_Find.F := by
  funext x
  kernel_rfl
theorem ok_F_track_Track_Find : ConOK Tryz.prog con_F_track_Track_Find :=
  con_of_run (Γ := ⟨tdGet tys, [con_F_slices_BinarySearchFunc_track_Group_track_Group_int], []⟩) ⟨fun T d h => tysB_ok tys tys_ok T d h, by simp [ok_F_slices_BinarySearchFunc_track_Group_track_Group_int], by simp []⟩ (by kernel_rfl) Tryz.func94 rfl (by kernel_rfl) run_F_track_Track_Find
/-- odograph/world.Nominal -/
noncomputable def F_world_Nominal (t_1 : Yd440) (s_2 : Yd479) (r_3 : Yd3) : Option (Int × Bool) :=
  (F_track_Track_Find t_1 r_3.2.2.1).bind fun t14_4 =>
  let t22_5 : Bool := (decide (r_3.2.1 < (0 : Int)))
  let t23_6 : Bool := (bif (!t14_4.2) then true else t22_5)
  let t30_7 : Bool := (decide ((s_2.1.length : Int) ≤ r_3.2.1))
  let t31_8 : Bool := (bif t23_6 then true else t30_7)
  chk none (((decide ((0 : Int) ≤ r_3.2.1)) && (decide (r_3.2.1 < (s_2.1.length : Int)))) || !(!t31_8)) <|
  let t38_9 : Int := (s_2.1.getD r_3.2.1.toNat (0 : Int))
  chk none (((decide ((0 : Int) ≤ t14_4.1)) && (decide (t14_4.1 < (t_1.2.length : Int)))) || !(!t31_8)) <|
  let e_10 : Yd4 := (t_1.2.getD t14_4.1.toNat ((0 : Int), ((0 : Int), ((0 : Int), ((0 : Int), (0 : Int))))))
  let t46_11 : Bool := (bif t31_8 then true else (t38_9 != e_10.2.1))
  (bif t46_11 then
    some ((0 : Int), false)
  else
    (F_world_Start t_1 s_2.1 r_3.2.1).bind fun t52_12 =>
    chk none ((decide ((0 : Int) ≤ t14_4.1)) && (decide (t14_4.1 < (t_1.2.length : Int)))) <|
    let e_13 : Yd4 := (t_1.2.getD t14_4.1.toNat ((0 : Int), ((0 : Int), ((0 : Int), ((0 : Int), (0 : Int))))))
    let t59_14 : Int := (IntKind.wrap .i64 (t52_12 + e_13.2.2.1))
    some (t59_14, true))
noncomputable def con_F_world_Nominal : Con := { f := 93, ps := [.dat (.agg Yt440), .dat (.agg Yt479), .dat (.agg Yt3)], boxes := [], ins := Yt519, nin := 3, outs := (.pair (.int .i64) .bool), rs := [.dat (.int .i64), .dat .bool], nout := 2, F := fun x => F_world_Nominal x.1 x.2.1 x.2.2 }
def hint_F_world_Nominal : Hint := H0
theorem run_F_world_Nominal : runE ⟨tdGet tys, [con_F_track_Track_Find, con_F_world_Start], []⟩ con_F_world_Nominal Tryz.f93 hint_F_world_Nominal = con_F_world_Nominal.F := by
  funext x
  kernel_rfl
theorem ok_F_world_Nominal : ConOK Tryz.prog con_F_world_Nominal :=
  con_of_run (Γ := ⟨tdGet tys, [con_F_track_Track_Find, con_F_world_Start], []⟩) ⟨fun T d h => tysB_ok tys tys_ok T d h, by simp [ok_F_track_Track_Find, ok_F_world_Start], by simp []⟩ (by kernel_rfl) Tryz.func93 rfl (by kernel_rfl) run_F_world_Nominal
end Go.Proofs.YtgogjcbfnnhaoaaGreat
