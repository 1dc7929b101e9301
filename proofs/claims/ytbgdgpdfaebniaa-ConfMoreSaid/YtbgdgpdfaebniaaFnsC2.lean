/- The functional reading of the code (printed). -/
import Derived.Test.YtbgdgpdfaebniaaFnsC
set_option linter.unusedSimpArgs false
set_option linter.unusedVariables false
namespace Go.Proofs.Ytbgdgpdfaebniaa
open Go
/-- odograph/odographlaw13.usual -/
noncomputable def F_law13_usual (_ : Unit) : Option (Int × (Int × (Int × (Int × (Int × (Int × (Int × (Int × (Int × (Int × (Int × (Int × (Int × Int))))))))))))) :=
  let t1_1 : (Int × (Int × (Int × (Int × (Int × (Int × (Int × (Int × (Int × (Int × (Int × (Int × (Int × Int))))))))))))) := ((100 : Int), ((3000000 : Int), ((3100000 : Int), ((10 : Int), ((65536 : Int), ((5 : Int), ((5000000 : Int), ((100000 : Int), ((100 : Int), ((3 : Int), ((40000 : Int), ((1000 : Int), ((5 : Int), (50 : Int))))))))))))))
  some t1_1
noncomputable def con_F_law13_usual : Con := { f := 45, ps := [], boxes := [], ins := .unit, nin := 0, outs := (.agg (.pair (.int .i64) (.pair (.int .i64) (.pair (.int .i64) (.pair (.int .i64) (.pair (.int .i64) (.pair (.int .i64) (.pair (.int .i64) (.pair (.int .i64) (.pair (.int .i64) (.pair (.int .i64) (.pair (.int .i64) (.pair (.int .i64) (.pair (.int .i64) (.int .i64))))))))))))))), rs := [.dat (.agg (.pair (.int .i64) (.pair (.int .i64) (.pair (.int .i64) (.pair (.int .i64) (.pair (.int .i64) (.pair (.int .i64) (.pair (.int .i64) (.pair (.int .i64) (.pair (.int .i64) (.pair (.int .i64) (.pair (.int .i64) (.pair (.int .i64) (.pair (.int .i64) (.int .i64)))))))))))))))], nout := 1, F := fun x => F_law13_usual () }
def hint_F_law13_usual : Hint := H0
theorem run_F_law13_usual : runE ⟨tdGet tys, [], []⟩ con_F_law13_usual Try.f45 hint_F_law13_usual = con_F_law13_usual.F := by
  funext x
  kernel_rfl
theorem ok_F_law13_usual : ConOK Try.prog con_F_law13_usual :=
  con_of_run (Γ := ⟨tdGet tys, [], []⟩) ⟨fun T d h => tysB_ok tys tys_ok T d h, by simp [], by simp []⟩ (by kernel_rfl) Try.func45 rfl (by kernel_rfl) run_F_law13_usual
/-- (odograph/conf.Config).rules -/
noncomputable def F_conf_Config_rules (c_1 : (Int × (Int × (Int × (Int × (Int × (Int × (Int × (Int × (Int × (Int × (Int × (Int × (Int × Int)))))))))))))) : Option (Int × (Int × (Int × (Int × (Int × (Int × (Int × (Int × (Int × (Int × (Int × (Int × (Int × Int))))))))))))) :=
  some (c_1.1, c_1.2.1, c_1.2.2.1, c_1.2.2.2.1, c_1.2.2.2.2.1, c_1.2.2.2.2.2.1, c_1.2.2.2.2.2.2.1, c_1.2.2.2.2.2.2.2.1, c_1.2.2.2.2.2.2.2.2.1, c_1.2.2.2.2.2.2.2.2.2.1, c_1.2.2.2.2.2.2.2.2.2.2.1, c_1.2.2.2.2.2.2.2.2.2.2.2.1, c_1.2.2.2.2.2.2.2.2.2.2.2.2.1, c_1.2.2.2.2.2.2.2.2.2.2.2.2.2)
noncomputable def con_F_conf_Config_rules : NCon := { f := 46, ps := [.dat (.agg (.pair (.int .i64) (.pair (.int .i64) (.pair (.int .i64) (.pair (.int .i64) (.pair (.int .i64) (.pair (.int .i64) (.pair (.int .i64) (.pair (.int .i64) (.pair (.int .i64) (.pair (.int .i64) (.pair (.int .i64) (.pair (.int .i64) (.pair (.int .i64) (.int .i64)))))))))))))))], ins := (.agg (.pair (.int .i64) (.pair (.int .i64) (.pair (.int .i64) (.pair (.int .i64) (.pair (.int .i64) (.pair (.int .i64) (.pair (.int .i64) (.pair (.int .i64) (.pair (.int .i64) (.pair (.int .i64) (.pair (.int .i64) (.pair (.int .i64) (.pair (.int .i64) (.int .i64))))))))))))))), nin := 1, outs := (.pair (.int .i64) (.pair (.int .i64) (.pair (.int .i64) (.pair (.int .i64) (.pair (.int .i64) (.pair (.int .i64) (.pair (.int .i64) (.pair (.int .i64) (.pair (.int .i64) (.pair (.int .i64) (.pair (.int .i64) (.pair (.int .i64) (.pair (.int .i64) (.int .i64)))))))))))))), rs := [.sl [.clo 66 [] [.ref 0 0], .clo 68 [] [.ref 0 0], .clo 69 [] [.ref 0 0], .clo 70 [] [.ref 0 0], .clo 71 [] [.ref 0 0], .clo 72 [] [.ref 0 0], .clo 73 [] [.ref 0 0], .clo 74 [] [.ref 0 0], .clo 75 [] [.ref 0 0], .clo 76 [] [.ref 0 0], .clo 77 [] [.ref 0 0], .clo 78 [] [.ref 0 0]]], new := [.dat (.int .i64), .dat (.int .i64), .dat (.int .i64), .dat (.int .i64), .dat (.int .i64), .dat (.int .i64), .dat (.int .i64), .dat (.int .i64), .dat (.int .i64), .dat (.int .i64), .dat (.int .i64), .dat (.int .i64), .dat (.int .i64), .dat (.int .i64)], nout := 14, F := fun x => F_conf_Config_rules x }
def hint_F_conf_Config_rules : Hint := H0
theorem run_F_conf_Config_rules : runN ⟨tdGet tys, [], []⟩ con_F_conf_Config_rules Try.f46 hint_F_conf_Config_rules = con_F_conf_Config_rules.F := by
  funext x
  kernel_rfl
theorem ok_F_conf_Config_rules : NOK Try.prog con_F_conf_Config_rules :=
  ncon_of_run (Γ := ⟨tdGet tys, [], []⟩) ⟨fun T d h => tysB_ok tys tys_ok T d h, by simp [], by simp []⟩ (by kernel_rfl) Try.func46 rfl (by kernel_rfl) run_F_conf_Config_rules
/-- odograph/conf.within -/
noncomputable def F_conf_within (x_1 : Int) (lo_2 : Int) (hi_3 : Int) : Option Bool :=
  let t14_4 : Bool := (bif (decide (lo_2 ≤ x_1)) then (decide (x_1 ≤ hi_3)) else false)
  some t14_4
noncomputable def con_F_conf_within : Con := { f := 67, ps := [.dat (.int .i64), .dat (.int .i64), .dat (.int .i64)], boxes := [], ins := (.pair (.int .i64) (.pair (.int .i64) (.int .i64))), nin := 3, outs := .bool, rs := [.dat .bool], nout := 1, F := fun x => F_conf_within x.1 x.2.1 x.2.2 }
def hint_F_conf_within : Hint := H0
theorem run_F_conf_within : runE ⟨tdGet tys, [], []⟩ con_F_conf_within Try.f67 hint_F_conf_within = con_F_conf_within.F := by
  funext x
  kernel_rfl
theorem ok_F_conf_within : ConOK Try.prog con_F_conf_within :=
  con_of_run (Γ := ⟨tdGet tys, [], []⟩) ⟨fun T d h => tysB_ok tys tys_ok T d h, by simp [], by simp []⟩ (by kernel_rfl) Try.func67 rfl (by kernel_rfl) run_F_conf_within
/-- (odograph/conf.Config).rules$1 -/
noncomputable def F_conf_Config_rules_1 (x_1 : Int) (x_2 : Int) (x_3 : Int) (x_4 : Int) (x_5 : Int) (x_6 : Int) (x_7 : Int) (x_8 : Int) (x_9 : Int) (x_10 : Int) (x_11 : Int) (x_12 : Int) (x_13 : Int) (x_14 : Int) : Option (Bool × (Int × (Int × (Int × (Int × (Int × (Int × (Int × (Int × (Int × (Int × (Int × (Int × (Int × Int)))))))))))))) :=
  (F_conf_within x_1 (1 : Int) (1024 : Int)).bind fun t4_15 =>
  some (t4_15, x_1, x_2, x_3, x_4, x_5, x_6, x_7, x_8, x_9, x_10, x_11, x_12, x_13, x_14)
noncomputable def con_F_conf_Config_rules_1 : Con := { f := 66, ps := [.ref 0 0], boxes := [[.dat (.int .i64), .dat (.int .i64), .dat (.int .i64), .dat (.int .i64), .dat (.int .i64), .dat (.int .i64), .dat (.int .i64), .dat (.int .i64), .dat (.int .i64), .dat (.int .i64), .dat (.int .i64), .dat (.int .i64), .dat (.int .i64), .dat (.int .i64)]], ins := (.pair (.int .i64) (.pair (.int .i64) (.pair (.int .i64) (.pair (.int .i64) (.pair (.int .i64) (.pair (.int .i64) (.pair (.int .i64) (.pair (.int .i64) (.pair (.int .i64) (.pair (.int .i64) (.pair (.int .i64) (.pair (.int .i64) (.pair (.int .i64) (.int .i64)))))))))))))), nin := 14, outs := (.pair .bool (.pair (.int .i64) (.pair (.int .i64) (.pair (.int .i64) (.pair (.int .i64) (.pair (.int .i64) (.pair (.int .i64) (.pair (.int .i64) (.pair (.int .i64) (.pair (.int .i64) (.pair (.int .i64) (.pair (.int .i64) (.pair (.int .i64) (.pair (.int .i64) (.int .i64))))))))))))))), rs := [.dat .bool], nout := 15, F := fun x => F_conf_Config_rules_1 x.1 x.2.1 x.2.2.1 x.2.2.2.1 x.2.2.2.2.1 x.2.2.2.2.2.1 x.2.2.2.2.2.2.1 x.2.2.2.2.2.2.2.1 x.2.2.2.2.2.2.2.2.1 x.2.2.2.2.2.2.2.2.2.1 x.2.2.2.2.2.2.2.2.2.2.1 x.2.2.2.2.2.2.2.2.2.2.2.1 x.2.2.2.2.2.2.2.2.2.2.2.2.1 x.2.2.2.2.2.2.2.2.2.2.2.2.2 }
def hint_F_conf_Config_rules_1 : Hint := H0
theorem run_F_conf_Config_rules_1 : runE ⟨tdGet tys, [con_F_conf_within], []⟩ con_F_conf_Config_rules_1 Try.f66 hint_F_conf_Config_rules_1 = con_F_conf_Config_rules_1.F := by
  funext x
  kernel_rfl
theorem ok_F_conf_Config_rules_1 : ConOK Try.prog con_F_conf_Config_rules_1 :=
  con_of_run (Γ := ⟨tdGet tys, [con_F_conf_within], []⟩) ⟨fun T d h => tysB_ok tys tys_ok T d h, by simp [ok_F_conf_within], by simp []⟩ (by kernel_rfl) Try.func66 rfl (by kernel_rfl) run_F_conf_Config_rules_1
/-- (odograph/conf.Config).rules$2 -/
noncomputable def F_conf_Config_rules_2 (x_1 : Int) (x_2 : Int) (x_3 : Int) (x_4 : Int) (x_5 : Int) (x_6 : Int) (x_7 : Int) (x_8 : Int) (x_9 : Int) (x_10 : Int) (x_11 : Int) (x_12 : Int) (x_13 : Int) (x_14 : Int) : Option (Bool × (Int × (Int × (Int × (Int × (Int × (Int × (Int × (Int × (Int × (Int × (Int × (Int × (Int × Int)))))))))))))) :=
  (F_conf_within x_2 (131072 : Int) (8388608 : Int)).bind fun t4_15 =>
  (bif t4_15 then F_conf_within x_3 x_2 (8388608 : Int) else some false).bind fun t10_16 =>
  let t11_17 : Bool := (bif t4_15 then t10_16 else false)
  some (t11_17, x_1, x_2, x_3, x_4, x_5, x_6, x_7, x_8, x_9, x_10, x_11, x_12, x_13, x_14)
noncomputable def con_F_conf_Config_rules_2 : Con := { f := 68, ps := [.ref 0 0], boxes := [[.dat (.int .i64), .dat (.int .i64), .dat (.int .i64), .dat (.int .i64), .dat (.int .i64), .dat (.int .i64), .dat (.int .i64), .dat (.int .i64), .dat (.int .i64), .dat (.int .i64), .dat (.int .i64), .dat (.int .i64), .dat (.int .i64), .dat (.int .i64)]], ins := (.pair (.int .i64) (.pair (.int .i64) (.pair (.int .i64) (.pair (.int .i64) (.pair (.int .i64) (.pair (.int .i64) (.pair (.int .i64) (.pair (.int .i64) (.pair (.int .i64) (.pair (.int .i64) (.pair (.int .i64) (.pair (.int .i64) (.pair (.int .i64) (.int .i64)))))))))))))), nin := 14, outs := (.pair .bool (.pair (.int .i64) (.pair (.int .i64) (.pair (.int .i64) (.pair (.int .i64) (.pair (.int .i64) (.pair (.int .i64) (.pair (.int .i64) (.pair (.int .i64) (.pair (.int .i64) (.pair (.int .i64) (.pair (.int .i64) (.pair (.int .i64) (.pair (.int .i64) (.int .i64))))))))))))))), rs := [.dat .bool], nout := 15, F := fun x => F_conf_Config_rules_2 x.1 x.2.1 x.2.2.1 x.2.2.2.1 x.2.2.2.2.1 x.2.2.2.2.2.1 x.2.2.2.2.2.2.1 x.2.2.2.2.2.2.2.1 x.2.2.2.2.2.2.2.2.1 x.2.2.2.2.2.2.2.2.2.1 x.2.2.2.2.2.2.2.2.2.2.1 x.2.2.2.2.2.2.2.2.2.2.2.1 x.2.2.2.2.2.2.2.2.2.2.2.2.1 x.2.2.2.2.2.2.2.2.2.2.2.2.2 }
def hint_F_conf_Config_rules_2 : Hint := H0
theorem run_F_conf_Config_rules_2 : runE ⟨tdGet tys, [con_F_conf_within], []⟩ con_F_conf_Config_rules_2 Try.f68 hint_F_conf_Config_rules_2 = con_F_conf_Config_rules_2.F := by
  funext x
  kernel_rfl
theorem ok_F_conf_Config_rules_2 : ConOK Try.prog con_F_conf_Config_rules_2 :=
  con_of_run (Γ := ⟨tdGet tys, [con_F_conf_within], []⟩) ⟨fun T d h => tysB_ok tys tys_ok T d h, by simp [ok_F_conf_within], by simp []⟩ (by kernel_rfl) Try.func68 rfl (by kernel_rfl) run_F_conf_Config_rules_2
/-- (odograph/conf.Config).rules$3 -/
noncomputable def F_conf_Config_rules_3 (x_1 : Int) (x_2 : Int) (x_3 : Int) (x_4 : Int) (x_5 : Int) (x_6 : Int) (x_7 : Int) (x_8 : Int) (x_9 : Int) (x_10 : Int) (x_11 : Int) (x_12 : Int) (x_13 : Int) (x_14 : Int) : Option (Bool × (Int × (Int × (Int × (Int × (Int × (Int × (Int × (Int × (Int × (Int × (Int × (Int × (Int × Int)))))))))))))) :=
  let t6_15 : Int := (IntKind.wrap .i64 (x_3 - x_2))
  let t7_16 : Int := (IntKind.wrap .i64 ((16 : Int) * t6_15))
  some ((decide (t7_16 ≤ x_2)), x_1, x_2, x_3, x_4, x_5, x_6, x_7, x_8, x_9, x_10, x_11, x_12, x_13, x_14)
noncomputable def con_F_conf_Config_rules_3 : Con := { f := 69, ps := [.ref 0 0], boxes := [[.dat (.int .i64), .dat (.int .i64), .dat (.int .i64), .dat (.int .i64), .dat (.int .i64), .dat (.int .i64), .dat (.int .i64), .dat (.int .i64), .dat (.int .i64), .dat (.int .i64), .dat (.int .i64), .dat (.int .i64), .dat (.int .i64), .dat (.int .i64)]], ins := (.pair (.int .i64) (.pair (.int .i64) (.pair (.int .i64) (.pair (.int .i64) (.pair (.int .i64) (.pair (.int .i64) (.pair (.int .i64) (.pair (.int .i64) (.pair (.int .i64) (.pair (.int .i64) (.pair (.int .i64) (.pair (.int .i64) (.pair (.int .i64) (.int .i64)))))))))))))), nin := 14, outs := (.pair .bool (.pair (.int .i64) (.pair (.int .i64) (.pair (.int .i64) (.pair (.int .i64) (.pair (.int .i64) (.pair (.int .i64) (.pair (.int .i64) (.pair (.int .i64) (.pair (.int .i64) (.pair (.int .i64) (.pair (.int .i64) (.pair (.int .i64) (.pair (.int .i64) (.int .i64))))))))))))))), rs := [.dat .bool], nout := 15, F := fun x => F_conf_Config_rules_3 x.1 x.2.1 x.2.2.1 x.2.2.2.1 x.2.2.2.2.1 x.2.2.2.2.2.1 x.2.2.2.2.2.2.1 x.2.2.2.2.2.2.2.1 x.2.2.2.2.2.2.2.2.1 x.2.2.2.2.2.2.2.2.2.1 x.2.2.2.2.2.2.2.2.2.2.1 x.2.2.2.2.2.2.2.2.2.2.2.1 x.2.2.2.2.2.2.2.2.2.2.2.2.1 x.2.2.2.2.2.2.2.2.2.2.2.2.2 }
def hint_F_conf_Config_rules_3 : Hint := H0
theorem run_F_conf_Config_rules_3 : runE ⟨tdGet tys, [], []⟩ con_F_conf_Config_rules_3 Try.f69 hint_F_conf_Config_rules_3 = con_F_conf_Config_rules_3.F := by
  funext x
  kernel_rfl
theorem ok_F_conf_Config_rules_3 : ConOK Try.prog con_F_conf_Config_rules_3 :=
  con_of_run (Γ := ⟨tdGet tys, [], []⟩) ⟨fun T d h => tysB_ok tys tys_ok T d h, by simp [], by simp []⟩ (by kernel_rfl) Try.func69 rfl (by kernel_rfl) run_F_conf_Config_rules_3
/-- (odograph/conf.Config).rules$4 -/
noncomputable def F_conf_Config_rules_4 (x_1 : Int) (x_2 : Int) (x_3 : Int) (x_4 : Int) (x_5 : Int) (x_6 : Int) (x_7 : Int) (x_8 : Int) (x_9 : Int) (x_10 : Int) (x_11 : Int) (x_12 : Int) (x_13 : Int) (x_14 : Int) : Option (Bool × (Int × (Int × (Int × (Int × (Int × (Int × (Int × (Int × (Int × (Int × (Int × (Int × (Int × Int)))))))))))))) :=
  (F_conf_within x_4 (0 : Int) (1048576 : Int)).bind fun t4_15 =>
  (bif t4_15 then F_conf_within x_5 (0 : Int) (65536 : Int) else some false).bind fun t8_16 =>
  let t9_17 : Bool := (bif t4_15 then t8_16 else false)
  some (t9_17, x_1, x_2, x_3, x_4, x_5, x_6, x_7, x_8, x_9, x_10, x_11, x_12, x_13, x_14)
noncomputable def con_F_conf_Config_rules_4 : Con := { f := 70, ps := [.ref 0 0], boxes := [[.dat (.int .i64), .dat (.int .i64), .dat (.int .i64), .dat (.int .i64), .dat (.int .i64), .dat (.int .i64), .dat (.int .i64), .dat (.int .i64), .dat (.int .i64), .dat (.int .i64), .dat (.int .i64), .dat (.int .i64), .dat (.int .i64), .dat (.int .i64)]], ins := (.pair (.int .i64) (.pair (.int .i64) (.pair (.int .i64) (.pair (.int .i64) (.pair (.int .i64) (.pair (.int .i64) (.pair (.int .i64) (.pair (.int .i64) (.pair (.int .i64) (.pair (.int .i64) (.pair (.int .i64) (.pair (.int .i64) (.pair (.int .i64) (.int .i64)))))))))))))), nin := 14, outs := (.pair .bool (.pair (.int .i64) (.pair (.int .i64) (.pair (.int .i64) (.pair (.int .i64) (.pair (.int .i64) (.pair (.int .i64) (.pair (.int .i64) (.pair (.int .i64) (.pair (.int .i64) (.pair (.int .i64) (.pair (.int .i64) (.pair (.int .i64) (.pair (.int .i64) (.int .i64))))))))))))))), rs := [.dat .bool], nout := 15, F := fun x => F_conf_Config_rules_4 x.1 x.2.1 x.2.2.1 x.2.2.2.1 x.2.2.2.2.1 x.2.2.2.2.2.1 x.2.2.2.2.2.2.1 x.2.2.2.2.2.2.2.1 x.2.2.2.2.2.2.2.2.1 x.2.2.2.2.2.2.2.2.2.1 x.2.2.2.2.2.2.2.2.2.2.1 x.2.2.2.2.2.2.2.2.2.2.2.1 x.2.2.2.2.2.2.2.2.2.2.2.2.1 x.2.2.2.2.2.2.2.2.2.2.2.2.2 }
def hint_F_conf_Config_rules_4 : Hint := H0
theorem run_F_conf_Config_rules_4 : runE ⟨tdGet tys, [con_F_conf_within], []⟩ con_F_conf_Config_rules_4 Try.f70 hint_F_conf_Config_rules_4 = con_F_conf_Config_rules_4.F := by
  funext x
  kernel_rfl
theorem ok_F_conf_Config_rules_4 : ConOK Try.prog con_F_conf_Config_rules_4 :=
  con_of_run (Γ := ⟨tdGet tys, [con_F_conf_within], []⟩) ⟨fun T d h => tysB_ok tys tys_ok T d h, by simp [ok_F_conf_within], by simp []⟩ (by kernel_rfl) Try.func70 rfl (by kernel_rfl) run_F_conf_Config_rules_4
/-- (odograph/conf.Config).rules$5 -/
noncomputable def F_conf_Config_rules_5 (x_1 : Int) (x_2 : Int) (x_3 : Int) (x_4 : Int) (x_5 : Int) (x_6 : Int) (x_7 : Int) (x_8 : Int) (x_9 : Int) (x_10 : Int) (x_11 : Int) (x_12 : Int) (x_13 : Int) (x_14 : Int) : Option (Bool × (Int × (Int × (Int × (Int × (Int × (Int × (Int × (Int × (Int × (Int × (Int × (Int × (Int × Int)))))))))))))) :=
  (F_conf_within x_6 (0 : Int) (1048576 : Int)).bind fun t4_15 =>
  some (t4_15, x_1, x_2, x_3, x_4, x_5, x_6, x_7, x_8, x_9, x_10, x_11, x_12, x_13, x_14)
noncomputable def con_F_conf_Config_rules_5 : Con := { f := 71, ps := [.ref 0 0], boxes := [[.dat (.int .i64), .dat (.int .i64), .dat (.int .i64), .dat (.int .i64), .dat (.int .i64), .dat (.int .i64), .dat (.int .i64), .dat (.int .i64), .dat (.int .i64), .dat (.int .i64), .dat (.int .i64), .dat (.int .i64), .dat (.int .i64), .dat (.int .i64)]], ins := (.pair (.int .i64) (.pair (.int .i64) (.pair (.int .i64) (.pair (.int .i64) (.pair (.int .i64) (.pair (.int .i64) (.pair (.int .i64) (.pair (.int .i64) (.pair (.int .i64) (.pair (.int .i64) (.pair (.int .i64) (.pair (.int .i64) (.pair (.int .i64) (.int .i64)))))))))))))), nin := 14, outs := (.pair .bool (.pair (.int .i64) (.pair (.int .i64) (.pair (.int .i64) (.pair (.int .i64) (.pair (.int .i64) (.pair (.int .i64) (.pair (.int .i64) (.pair (.int .i64) (.pair (.int .i64) (.pair (.int .i64) (.pair (.int .i64) (.pair (.int .i64) (.pair (.int .i64) (.int .i64))))))))))))))), rs := [.dat .bool], nout := 15, F := fun x => F_conf_Config_rules_5 x.1 x.2.1 x.2.2.1 x.2.2.2.1 x.2.2.2.2.1 x.2.2.2.2.2.1 x.2.2.2.2.2.2.1 x.2.2.2.2.2.2.2.1 x.2.2.2.2.2.2.2.2.1 x.2.2.2.2.2.2.2.2.2.1 x.2.2.2.2.2.2.2.2.2.2.1 x.2.2.2.2.2.2.2.2.2.2.2.1 x.2.2.2.2.2.2.2.2.2.2.2.2.1 x.2.2.2.2.2.2.2.2.2.2.2.2.2 }
def hint_F_conf_Config_rules_5 : Hint := H0
theorem run_F_conf_Config_rules_5 : runE ⟨tdGet tys, [con_F_conf_within], []⟩ con_F_conf_Config_rules_5 Try.f71 hint_F_conf_Config_rules_5 = con_F_conf_Config_rules_5.F := by
  funext x
  kernel_rfl
theorem ok_F_conf_Config_rules_5 : ConOK Try.prog con_F_conf_Config_rules_5 :=
  con_of_run (Γ := ⟨tdGet tys, [con_F_conf_within], []⟩) ⟨fun T d h => tysB_ok tys tys_ok T d h, by simp [ok_F_conf_within], by simp []⟩ (by kernel_rfl) Try.func71 rfl (by kernel_rfl) run_F_conf_Config_rules_5
/-- (odograph/conf.Config).rules$6 -/
noncomputable def F_conf_Config_rules_6 (x_1 : Int) (x_2 : Int) (x_3 : Int) (x_4 : Int) (x_5 : Int) (x_6 : Int) (x_7 : Int) (x_8 : Int) (x_9 : Int) (x_10 : Int) (x_11 : Int) (x_12 : Int) (x_13 : Int) (x_14 : Int) : Option (Bool × (Int × (Int × (Int × (Int × (Int × (Int × (Int × (Int × (Int × (Int × (Int × (Int × (Int × Int)))))))))))))) :=
  (F_conf_within x_7 (1 : Int) (16777216 : Int)).bind fun t4_15 =>
  (bif t4_15 then F_conf_within x_8 (1 : Int) (1048576 : Int) else some false).bind fun t8_16 =>
  let t9_17 : Bool := (bif t4_15 then t8_16 else false)
  some (t9_17, x_1, x_2, x_3, x_4, x_5, x_6, x_7, x_8, x_9, x_10, x_11, x_12, x_13, x_14)
noncomputable def con_F_conf_Config_rules_6 : Con := { f := 72, ps := [.ref 0 0], boxes := [[.dat (.int .i64), .dat (.int .i64), .dat (.int .i64), .dat (.int .i64), .dat (.int .i64), .dat (.int .i64), .dat (.int .i64), .dat (.int .i64), .dat (.int .i64), .dat (.int .i64), .dat (.int .i64), .dat (.int .i64), .dat (.int .i64), .dat (.int .i64)]], ins := (.pair (.int .i64) (.pair (.int .i64) (.pair (.int .i64) (.pair (.int .i64) (.pair (.int .i64) (.pair (.int .i64) (.pair (.int .i64) (.pair (.int .i64) (.pair (.int .i64) (.pair (.int .i64) (.pair (.int .i64) (.pair (.int .i64) (.pair (.int .i64) (.int .i64)))))))))))))), nin := 14, outs := (.pair .bool (.pair (.int .i64) (.pair (.int .i64) (.pair (.int .i64) (.pair (.int .i64) (.pair (.int .i64) (.pair (.int .i64) (.pair (.int .i64) (.pair (.int .i64) (.pair (.int .i64) (.pair (.int .i64) (.pair (.int .i64) (.pair (.int .i64) (.pair (.int .i64) (.int .i64))))))))))))))), rs := [.dat .bool], nout := 15, F := fun x => F_conf_Config_rules_6 x.1 x.2.1 x.2.2.1 x.2.2.2.1 x.2.2.2.2.1 x.2.2.2.2.2.1 x.2.2.2.2.2.2.1 x.2.2.2.2.2.2.2.1 x.2.2.2.2.2.2.2.2.1 x.2.2.2.2.2.2.2.2.2.1 x.2.2.2.2.2.2.2.2.2.2.1 x.2.2.2.2.2.2.2.2.2.2.2.1 x.2.2.2.2.2.2.2.2.2.2.2.2.1 x.2.2.2.2.2.2.2.2.2.2.2.2.2 }
def hint_F_conf_Config_rules_6 : Hint := H0
theorem run_F_conf_Config_rules_6 : runE ⟨tdGet tys, [con_F_conf_within], []⟩ con_F_conf_Config_rules_6 Try.f72 hint_F_conf_Config_rules_6 = con_F_conf_Config_rules_6.F := by
  funext x
  kernel_rfl
theorem ok_F_conf_Config_rules_6 : ConOK Try.prog con_F_conf_Config_rules_6 :=
  con_of_run (Γ := ⟨tdGet tys, [con_F_conf_within], []⟩) ⟨fun T d h => tysB_ok tys tys_ok T d h, by simp [ok_F_conf_within], by simp []⟩ (by kernel_rfl) Try.func72 rfl (by kernel_rfl) run_F_conf_Config_rules_6
/-- (odograph/conf.Config).rules$7 -/
noncomputable def F_conf_Config_rules_7 (x_1 : Int) (x_2 : Int) (x_3 : Int) (x_4 : Int) (x_5 : Int) (x_6 : Int) (x_7 : Int) (x_8 : Int) (x_9 : Int) (x_10 : Int) (x_11 : Int) (x_12 : Int) (x_13 : Int) (x_14 : Int) : Option (Bool × (Int × (Int × (Int × (Int × (Int × (Int × (Int × (Int × (Int × (Int × (Int × (Int × (Int × Int)))))))))))))) :=
  let t6_15 : Int := (IntKind.wrap .i64 (x_7 * x_1))
  let t9_16 : Int := (IntKind.wrap .i64 ((32000 : Int) * x_2))
  some ((decide (t6_15 ≤ t9_16)), x_1, x_2, x_3, x_4, x_5, x_6, x_7, x_8, x_9, x_10, x_11, x_12, x_13, x_14)
noncomputable def con_F_conf_Config_rules_7 : Con := { f := 73, ps := [.ref 0 0], boxes := [[.dat (.int .i64), .dat (.int .i64), .dat (.int .i64), .dat (.int .i64), .dat (.int .i64), .dat (.int .i64), .dat (.int .i64), .dat (.int .i64), .dat (.int .i64), .dat (.int .i64), .dat (.int .i64), .dat (.int .i64), .dat (.int .i64), .dat (.int .i64)]], ins := (.pair (.int .i64) (.pair (.int .i64) (.pair (.int .i64) (.pair (.int .i64) (.pair (.int .i64) (.pair (.int .i64) (.pair (.int .i64) (.pair (.int .i64) (.pair (.int .i64) (.pair (.int .i64) (.pair (.int .i64) (.pair (.int .i64) (.pair (.int .i64) (.int .i64)))))))))))))), nin := 14, outs := (.pair .bool (.pair (.int .i64) (.pair (.int .i64) (.pair (.int .i64) (.pair (.int .i64) (.pair (.int .i64) (.pair (.int .i64) (.pair (.int .i64) (.pair (.int .i64) (.pair (.int .i64) (.pair (.int .i64) (.pair (.int .i64) (.pair (.int .i64) (.pair (.int .i64) (.int .i64))))))))))))))), rs := [.dat .bool], nout := 15, F := fun x => F_conf_Config_rules_7 x.1 x.2.1 x.2.2.1 x.2.2.2.1 x.2.2.2.2.1 x.2.2.2.2.2.1 x.2.2.2.2.2.2.1 x.2.2.2.2.2.2.2.1 x.2.2.2.2.2.2.2.2.1 x.2.2.2.2.2.2.2.2.2.1 x.2.2.2.2.2.2.2.2.2.2.1 x.2.2.2.2.2.2.2.2.2.2.2.1 x.2.2.2.2.2.2.2.2.2.2.2.2.1 x.2.2.2.2.2.2.2.2.2.2.2.2.2 }
def hint_F_conf_Config_rules_7 : Hint := H0
theorem run_F_conf_Config_rules_7 : runE ⟨tdGet tys, [], []⟩ con_F_conf_Config_rules_7 Try.f73 hint_F_conf_Config_rules_7 = con_F_conf_Config_rules_7.F := by
  funext x
  kernel_rfl
theorem ok_F_conf_Config_rules_7 : ConOK Try.prog con_F_conf_Config_rules_7 :=
  con_of_run (Γ := ⟨tdGet tys, [], []⟩) ⟨fun T d h => tysB_ok tys tys_ok T d h, by simp [], by simp []⟩ (by kernel_rfl) Try.func73 rfl (by kernel_rfl) run_F_conf_Config_rules_7
/-- (odograph/conf.Config).rules$8 -/
noncomputable def F_conf_Config_rules_8 (x_1 : Int) (x_2 : Int) (x_3 : Int) (x_4 : Int) (x_5 : Int) (x_6 : Int) (x_7 : Int) (x_8 : Int) (x_9 : Int) (x_10 : Int) (x_11 : Int) (x_12 : Int) (x_13 : Int) (x_14 : Int) : Option (Bool × (Int × (Int × (Int × (Int × (Int × (Int × (Int × (Int × (Int × (Int × (Int × (Int × (Int × Int)))))))))))))) :=
  (F_conf_within x_9 (0 : Int) (1048576 : Int)).bind fun t4_15 =>
  some (t4_15, x_1, x_2, x_3, x_4, x_5, x_6, x_7, x_8, x_9, x_10, x_11, x_12, x_13, x_14)
noncomputable def con_F_conf_Config_rules_8 : Con := { f := 74, ps := [.ref 0 0], boxes := [[.dat (.int .i64), .dat (.int .i64), .dat (.int .i64), .dat (.int .i64), .dat (.int .i64), .dat (.int .i64), .dat (.int .i64), .dat (.int .i64), .dat (.int .i64), .dat (.int .i64), .dat (.int .i64), .dat (.int .i64), .dat (.int .i64), .dat (.int .i64)]], ins := (.pair (.int .i64) (.pair (.int .i64) (.pair (.int .i64) (.pair (.int .i64) (.pair (.int .i64) (.pair (.int .i64) (.pair (.int .i64) (.pair (.int .i64) (.pair (.int .i64) (.pair (.int .i64) (.pair (.int .i64) (.pair (.int .i64) (.pair (.int .i64) (.int .i64)))))))))))))), nin := 14, outs := (.pair .bool (.pair (.int .i64) (.pair (.int .i64) (.pair (.int .i64) (.pair (.int .i64) (.pair (.int .i64) (.pair (.int .i64) (.pair (.int .i64) (.pair (.int .i64) (.pair (.int .i64) (.pair (.int .i64) (.pair (.int .i64) (.pair (.int .i64) (.pair (.int .i64) (.int .i64))))))))))))))), rs := [.dat .bool], nout := 15, F := fun x => F_conf_Config_rules_8 x.1 x.2.1 x.2.2.1 x.2.2.2.1 x.2.2.2.2.1 x.2.2.2.2.2.1 x.2.2.2.2.2.2.1 x.2.2.2.2.2.2.2.1 x.2.2.2.2.2.2.2.2.1 x.2.2.2.2.2.2.2.2.2.1 x.2.2.2.2.2.2.2.2.2.2.1 x.2.2.2.2.2.2.2.2.2.2.2.1 x.2.2.2.2.2.2.2.2.2.2.2.2.1 x.2.2.2.2.2.2.2.2.2.2.2.2.2 }
def hint_F_conf_Config_rules_8 : Hint := H0
theorem run_F_conf_Config_rules_8 : runE ⟨tdGet tys, [con_F_conf_within], []⟩ con_F_conf_Config_rules_8 Try.f74 hint_F_conf_Config_rules_8 = con_F_conf_Config_rules_8.F := by
  funext x
  kernel_rfl
theorem ok_F_conf_Config_rules_8 : ConOK Try.prog con_F_conf_Config_rules_8 :=
  con_of_run (Γ := ⟨tdGet tys, [con_F_conf_within], []⟩) ⟨fun T d h => tysB_ok tys tys_ok T d h, by simp [ok_F_conf_within], by simp []⟩ (by kernel_rfl) Try.func74 rfl (by kernel_rfl) run_F_conf_Config_rules_8
/-- (odograph/conf.Config).rules$9 -/
noncomputable def F_conf_Config_rules_9 (x_1 : Int) (x_2 : Int) (x_3 : Int) (x_4 : Int) (x_5 : Int) (x_6 : Int) (x_7 : Int) (x_8 : Int) (x_9 : Int) (x_10 : Int) (x_11 : Int) (x_12 : Int) (x_13 : Int) (x_14 : Int) : Option (Bool × (Int × (Int × (Int × (Int × (Int × (Int × (Int × (Int × (Int × (Int × (Int × (Int × (Int × Int)))))))))))))) :=
  (F_conf_within x_10 (1 : Int) (1000 : Int)).bind fun t4_15 =>
  (bif t4_15 then F_conf_within x_13 (1 : Int) (1000 : Int) else some false).bind fun t8_16 =>
  let t9_17 : Bool := (bif t4_15 then t8_16 else false)
  some (t9_17, x_1, x_2, x_3, x_4, x_5, x_6, x_7, x_8, x_9, x_10, x_11, x_12, x_13, x_14)
noncomputable def con_F_conf_Config_rules_9 : Con := { f := 75, ps := [.ref 0 0], boxes := [[.dat (.int .i64), .dat (.int .i64), .dat (.int .i64), .dat (.int .i64), .dat (.int .i64), .dat (.int .i64), .dat (.int .i64), .dat (.int .i64), .dat (.int .i64), .dat (.int .i64), .dat (.int .i64), .dat (.int .i64), .dat (.int .i64), .dat (.int .i64)]], ins := (.pair (.int .i64) (.pair (.int .i64) (.pair (.int .i64) (.pair (.int .i64) (.pair (.int .i64) (.pair (.int .i64) (.pair (.int .i64) (.pair (.int .i64) (.pair (.int .i64) (.pair (.int .i64) (.pair (.int .i64) (.pair (.int .i64) (.pair (.int .i64) (.int .i64)))))))))))))), nin := 14, outs := (.pair .bool (.pair (.int .i64) (.pair (.int .i64) (.pair (.int .i64) (.pair (.int .i64) (.pair (.int .i64) (.pair (.int .i64) (.pair (.int .i64) (.pair (.int .i64) (.pair (.int .i64) (.pair (.int .i64) (.pair (.int .i64) (.pair (.int .i64) (.pair (.int .i64) (.int .i64))))))))))))))), rs := [.dat .bool], nout := 15, F := fun x => F_conf_Config_rules_9 x.1 x.2.1 x.2.2.1 x.2.2.2.1 x.2.2.2.2.1 x.2.2.2.2.2.1 x.2.2.2.2.2.2.1 x.2.2.2.2.2.2.2.1 x.2.2.2.2.2.2.2.2.1 x.2.2.2.2.2.2.2.2.2.1 x.2.2.2.2.2.2.2.2.2.2.1 x.2.2.2.2.2.2.2.2.2.2.2.1 x.2.2.2.2.2.2.2.2.2.2.2.2.1 x.2.2.2.2.2.2.2.2.2.2.2.2.2 }
def hint_F_conf_Config_rules_9 : Hint := H0
theorem run_F_conf_Config_rules_9 : runE ⟨tdGet tys, [con_F_conf_within], []⟩ con_F_conf_Config_rules_9 Try.f75 hint_F_conf_Config_rules_9 = con_F_conf_Config_rules_9.F := by
  funext x
  kernel_rfl
theorem ok_F_conf_Config_rules_9 : ConOK Try.prog con_F_conf_Config_rules_9 :=
  con_of_run (Γ := ⟨tdGet tys, [con_F_conf_within], []⟩) ⟨fun T d h => tysB_ok tys tys_ok T d h, by simp [ok_F_conf_within], by simp []⟩ (by kernel_rfl) Try.func75 rfl (by kernel_rfl) run_F_conf_Config_rules_9
/-- (odograph/conf.Config).pulse -/
noncomputable def F_conf_Config_pulse (c_1 : (Int × (Int × (Int × (Int × (Int × (Int × (Int × (Int × (Int × (Int × (Int × (Int × (Int × Int)))))))))))))) : Option Int :=
  (F_ratio_Ceil c_1.2.2.1 (1 : Int) c_1.1).bind fun t10_2 =>
  some t10_2.1
noncomputable def con_F_conf_Config_pulse : Con := { f := 49, ps := [.dat (.agg (.pair (.int .i64) (.pair (.int .i64) (.pair (.int .i64) (.pair (.int .i64) (.pair (.int .i64) (.pair (.int .i64) (.pair (.int .i64) (.pair (.int .i64) (.pair (.int .i64) (.pair (.int .i64) (.pair (.int .i64) (.pair (.int .i64) (.pair (.int .i64) (.int .i64)))))))))))))))], boxes := [], ins := (.agg (.pair (.int .i64) (.pair (.int .i64) (.pair (.int .i64) (.pair (.int .i64) (.pair (.int .i64) (.pair (.int .i64) (.pair (.int .i64) (.pair (.int .i64) (.pair (.int .i64) (.pair (.int .i64) (.pair (.int .i64) (.pair (.int .i64) (.pair (.int .i64) (.int .i64))))))))))))))), nin := 1, outs := (.int .i64), rs := [.dat (.int .i64)], nout := 1, F := fun x => F_conf_Config_pulse x }
def hint_F_conf_Config_pulse : Hint := H0
theorem run_F_conf_Config_pulse : runE ⟨tdGet tys, [con_F_ratio_Ceil], []⟩ con_F_conf_Config_pulse Try.f49 hint_F_conf_Config_pulse = con_F_conf_Config_pulse.F := by
  funext x
  kernel_rfl
theorem ok_F_conf_Config_pulse : ConOK Try.prog con_F_conf_Config_pulse :=
  con_of_run (Γ := ⟨tdGet tys, [con_F_ratio_Ceil], []⟩) ⟨fun T d h => tysB_ok tys tys_ok T d h, by simp [ok_F_ratio_Ceil], by simp []⟩ (by kernel_rfl) Try.func49 rfl (by kernel_rfl) run_F_conf_Config_pulse
/-- (odograph/conf.Config).rules$10 -/
noncomputable def F_conf_Config_rules_10 (x_1 : Int) (x_2 : Int) (x_3 : Int) (x_4 : Int) (x_5 : Int) (x_6 : Int) (x_7 : Int) (x_8 : Int) (x_9 : Int) (x_10 : Int) (x_11 : Int) (x_12 : Int) (x_13 : Int) (x_14 : Int) : Option (Bool × (Int × (Int × (Int × (Int × (Int × (Int × (Int × (Int × (Int × (Int × (Int × (Int × (Int × Int)))))))))))))) :=
  let t4_15 : (Int × (Int × (Int × (Int × (Int × (Int × (Int × (Int × (Int × (Int × (Int × (Int × (Int × Int))))))))))))) := (x_1, (x_2, (x_3, (x_4, (x_5, (x_6, (x_7, (x_8, (x_9, (x_10, (x_11, (x_12, (x_13, x_14)))))))))))))
  (F_conf_Config_pulse t4_15).bind fun t5_16 =>
  let t8_17 : Int := (IntKind.wrap .i64 ((3 : Int) * x_4))
  let t9_18 : Int := (if t8_17 > t5_16 then t8_17 else t5_16)
  (F_conf_within x_11 t9_18 (16777216 : Int)).bind fun t10_19 =>
  some (t10_19, x_1, x_2, x_3, x_4, x_5, x_6, x_7, x_8, x_9, x_10, x_11, x_12, x_13, x_14)
noncomputable def con_F_conf_Config_rules_10 : Con := { f := 76, ps := [.ref 0 0], boxes := [[.dat (.int .i64), .dat (.int .i64), .dat (.int .i64), .dat (.int .i64), .dat (.int .i64), .dat (.int .i64), .dat (.int .i64), .dat (.int .i64), .dat (.int .i64), .dat (.int .i64), .dat (.int .i64), .dat (.int .i64), .dat (.int .i64), .dat (.int .i64)]], ins := (.pair (.int .i64) (.pair (.int .i64) (.pair (.int .i64) (.pair (.int .i64) (.pair (.int .i64) (.pair (.int .i64) (.pair (.int .i64) (.pair (.int .i64) (.pair (.int .i64) (.pair (.int .i64) (.pair (.int .i64) (.pair (.int .i64) (.pair (.int .i64) (.int .i64)))))))))))))), nin := 14, outs := (.pair .bool (.pair (.int .i64) (.pair (.int .i64) (.pair (.int .i64) (.pair (.int .i64) (.pair (.int .i64) (.pair (.int .i64) (.pair (.int .i64) (.pair (.int .i64) (.pair (.int .i64) (.pair (.int .i64) (.pair (.int .i64) (.pair (.int .i64) (.pair (.int .i64) (.int .i64))))))))))))))), rs := [.dat .bool], nout := 15, F := fun x => F_conf_Config_rules_10 x.1 x.2.1 x.2.2.1 x.2.2.2.1 x.2.2.2.2.1 x.2.2.2.2.2.1 x.2.2.2.2.2.2.1 x.2.2.2.2.2.2.2.1 x.2.2.2.2.2.2.2.2.1 x.2.2.2.2.2.2.2.2.2.1 x.2.2.2.2.2.2.2.2.2.2.1 x.2.2.2.2.2.2.2.2.2.2.2.1 x.2.2.2.2.2.2.2.2.2.2.2.2.1 x.2.2.2.2.2.2.2.2.2.2.2.2.2 }
def hint_F_conf_Config_rules_10 : Hint := H0
theorem run_F_conf_Config_rules_10 : runE ⟨tdGet tys, [con_F_conf_Config_pulse, con_F_conf_within], []⟩ con_F_conf_Config_rules_10 Try.f76 hint_F_conf_Config_rules_10 = con_F_conf_Config_rules_10.F := by
  funext x
  kernel_rfl
theorem ok_F_conf_Config_rules_10 : ConOK Try.prog con_F_conf_Config_rules_10 :=
  con_of_run (Γ := ⟨tdGet tys, [con_F_conf_Config_pulse, con_F_conf_within], []⟩) ⟨fun T d h => tysB_ok tys tys_ok T d h, by simp [ok_F_conf_Config_pulse, ok_F_conf_within], by simp []⟩ (by kernel_rfl) Try.func76 rfl (by kernel_rfl) run_F_conf_Config_rules_10
/-- (odograph/conf.Config).rules$11 -/
noncomputable def F_conf_Config_rules_11 (x_1 : Int) (x_2 : Int) (x_3 : Int) (x_4 : Int) (x_5 : Int) (x_6 : Int) (x_7 : Int) (x_8 : Int) (x_9 : Int) (x_10 : Int) (x_11 : Int) (x_12 : Int) (x_13 : Int) (x_14 : Int) : Option (Bool × (Int × (Int × (Int × (Int × (Int × (Int × (Int × (Int × (Int × (Int × (Int × (Int × (Int × Int)))))))))))))) :=
  (F_conf_within x_12 (0 : Int) (1073741824 : Int)).bind fun t4_15 =>
  some (t4_15, x_1, x_2, x_3, x_4, x_5, x_6, x_7, x_8, x_9, x_10, x_11, x_12, x_13, x_14)
noncomputable def con_F_conf_Config_rules_11 : Con := { f := 77, ps := [.ref 0 0], boxes := [[.dat (.int .i64), .dat (.int .i64), .dat (.int .i64), .dat (.int .i64), .dat (.int .i64), .dat (.int .i64), .dat (.int .i64), .dat (.int .i64), .dat (.int .i64), .dat (.int .i64), .dat (.int .i64), .dat (.int .i64), .dat (.int .i64), .dat (.int .i64)]], ins := (.pair (.int .i64) (.pair (.int .i64) (.pair (.int .i64) (.pair (.int .i64) (.pair (.int .i64) (.pair (.int .i64) (.pair (.int .i64) (.pair (.int .i64) (.pair (.int .i64) (.pair (.int .i64) (.pair (.int .i64) (.pair (.int .i64) (.pair (.int .i64) (.int .i64)))))))))))))), nin := 14, outs := (.pair .bool (.pair (.int .i64) (.pair (.int .i64) (.pair (.int .i64) (.pair (.int .i64) (.pair (.int .i64) (.pair (.int .i64) (.pair (.int .i64) (.pair (.int .i64) (.pair (.int .i64) (.pair (.int .i64) (.pair (.int .i64) (.pair (.int .i64) (.pair (.int .i64) (.int .i64))))))))))))))), rs := [.dat .bool], nout := 15, F := fun x => F_conf_Config_rules_11 x.1 x.2.1 x.2.2.1 x.2.2.2.1 x.2.2.2.2.1 x.2.2.2.2.2.1 x.2.2.2.2.2.2.1 x.2.2.2.2.2.2.2.1 x.2.2.2.2.2.2.2.2.1 x.2.2.2.2.2.2.2.2.2.1 x.2.2.2.2.2.2.2.2.2.2.1 x.2.2.2.2.2.2.2.2.2.2.2.1 x.2.2.2.2.2.2.2.2.2.2.2.2.1 x.2.2.2.2.2.2.2.2.2.2.2.2.2 }
def hint_F_conf_Config_rules_11 : Hint := H0
theorem run_F_conf_Config_rules_11 : runE ⟨tdGet tys, [con_F_conf_within], []⟩ con_F_conf_Config_rules_11 Try.f77 hint_F_conf_Config_rules_11 = con_F_conf_Config_rules_11.F := by
  funext x
  kernel_rfl
theorem ok_F_conf_Config_rules_11 : ConOK Try.prog con_F_conf_Config_rules_11 :=
  con_of_run (Γ := ⟨tdGet tys, [con_F_conf_within], []⟩) ⟨fun T d h => tysB_ok tys tys_ok T d h, by simp [ok_F_conf_within], by simp []⟩ (by kernel_rfl) Try.func77 rfl (by kernel_rfl) run_F_conf_Config_rules_11
/-- (odograph/conf.Config).rules$12 -/
noncomputable def F_conf_Config_rules_12 (x_1 : Int) (x_2 : Int) (x_3 : Int) (x_4 : Int) (x_5 : Int) (x_6 : Int) (x_7 : Int) (x_8 : Int) (x_9 : Int) (x_10 : Int) (x_11 : Int) (x_12 : Int) (x_13 : Int) (x_14 : Int) : Option (Bool × (Int × (Int × (Int × (Int × (Int × (Int × (Int × (Int × (Int × (Int × (Int × (Int × (Int × Int)))))))))))))) :=
  (F_conf_within x_14 (1 : Int) (1048576 : Int)).bind fun t4_15 =>
  some (t4_15, x_1, x_2, x_3, x_4, x_5, x_6, x_7, x_8, x_9, x_10, x_11, x_12, x_13, x_14)
noncomputable def con_F_conf_Config_rules_12 : Con := { f := 78, ps := [.ref 0 0], boxes := [[.dat (.int .i64), .dat (.int .i64), .dat (.int .i64), .dat (.int .i64), .dat (.int .i64), .dat (.int .i64), .dat (.int .i64), .dat (.int .i64), .dat (.int .i64), .dat (.int .i64), .dat (.int .i64), .dat (.int .i64), .dat (.int .i64), .dat (.int .i64)]], ins := (.pair (.int .i64) (.pair (.int .i64) (.pair (.int .i64) (.pair (.int .i64) (.pair (.int .i64) (.pair (.int .i64) (.pair (.int .i64) (.pair (.int .i64) (.pair (.int .i64) (.pair (.int .i64) (.pair (.int .i64) (.pair (.int .i64) (.pair (.int .i64) (.int .i64)))))))))))))), nin := 14, outs := (.pair .bool (.pair (.int .i64) (.pair (.int .i64) (.pair (.int .i64) (.pair (.int .i64) (.pair (.int .i64) (.pair (.int .i64) (.pair (.int .i64) (.pair (.int .i64) (.pair (.int .i64) (.pair (.int .i64) (.pair (.int .i64) (.pair (.int .i64) (.pair (.int .i64) (.int .i64))))))))))))))), rs := [.dat .bool], nout := 15, F := fun x => F_conf_Config_rules_12 x.1 x.2.1 x.2.2.1 x.2.2.2.1 x.2.2.2.2.1 x.2.2.2.2.2.1 x.2.2.2.2.2.2.1 x.2.2.2.2.2.2.2.1 x.2.2.2.2.2.2.2.2.1 x.2.2.2.2.2.2.2.2.2.1 x.2.2.2.2.2.2.2.2.2.2.1 x.2.2.2.2.2.2.2.2.2.2.2.1 x.2.2.2.2.2.2.2.2.2.2.2.2.1 x.2.2.2.2.2.2.2.2.2.2.2.2.2 }
def hint_F_conf_Config_rules_12 : Hint := H0
theorem run_F_conf_Config_rules_12 : runE ⟨tdGet tys, [con_F_conf_within], []⟩ con_F_conf_Config_rules_12 Try.f78 hint_F_conf_Config_rules_12 = con_F_conf_Config_rules_12.F := by
  funext x
  kernel_rfl
theorem ok_F_conf_Config_rules_12 : ConOK Try.prog con_F_conf_Config_rules_12 :=
  con_of_run (Γ := ⟨tdGet tys, [con_F_conf_within], []⟩) ⟨fun T d h => tysB_ok tys tys_ok T d h, by simp [ok_F_conf_within], by simp []⟩ (by kernel_rfl) Try.func78 rfl (by kernel_rfl) run_F_conf_Config_rules_12
/-- (odograph/conf.Config).Check -/
noncomputable def F_conf_Config_Check (c_1 : (Int × (Int × (Int × (Int × (Int × (Int × (Int × (Int × (Int × (Int × (Int × (Int × (Int × Int)))))))))))))) : Option (Int × Int) :=
  (F_conf_Config_rules c_1).bind fun t7_2 =>
  (F_conf_Config_rules_1 t7_2.1 t7_2.2.1 t7_2.2.2.1 t7_2.2.2.2.1 t7_2.2.2.2.2.1 t7_2.2.2.2.2.2.1 t7_2.2.2.2.2.2.2.1 t7_2.2.2.2.2.2.2.2.1 t7_2.2.2.2.2.2.2.2.2.1 t7_2.2.2.2.2.2.2.2.2.2.1 t7_2.2.2.2.2.2.2.2.2.2.2.1 t7_2.2.2.2.2.2.2.2.2.2.2.2.1 t7_2.2.2.2.2.2.2.2.2.2.2.2.2.1 t7_2.2.2.2.2.2.2.2.2.2.2.2.2.2).bind fun t15_3 =>
  (bif (!t15_3.1) then
    some ((50 : Int), (1 : Int))
  else
    (F_conf_Config_rules_2 t15_3.2.1 t15_3.2.2.1 t15_3.2.2.2.1 t15_3.2.2.2.2.1 t15_3.2.2.2.2.2.1 t15_3.2.2.2.2.2.2.1 t15_3.2.2.2.2.2.2.2.1 t15_3.2.2.2.2.2.2.2.2.1 t15_3.2.2.2.2.2.2.2.2.2.1 t15_3.2.2.2.2.2.2.2.2.2.2.1 t15_3.2.2.2.2.2.2.2.2.2.2.2.1 t15_3.2.2.2.2.2.2.2.2.2.2.2.2.1 t15_3.2.2.2.2.2.2.2.2.2.2.2.2.2.1 t15_3.2.2.2.2.2.2.2.2.2.2.2.2.2.2).bind fun t15_4 =>
    (bif (!t15_4.1) then
      some ((50 : Int), (2 : Int))
    else
      (F_conf_Config_rules_3 t15_4.2.1 t15_4.2.2.1 t15_4.2.2.2.1 t15_4.2.2.2.2.1 t15_4.2.2.2.2.2.1 t15_4.2.2.2.2.2.2.1 t15_4.2.2.2.2.2.2.2.1 t15_4.2.2.2.2.2.2.2.2.1 t15_4.2.2.2.2.2.2.2.2.2.1 t15_4.2.2.2.2.2.2.2.2.2.2.1 t15_4.2.2.2.2.2.2.2.2.2.2.2.1 t15_4.2.2.2.2.2.2.2.2.2.2.2.2.1 t15_4.2.2.2.2.2.2.2.2.2.2.2.2.2.1 t15_4.2.2.2.2.2.2.2.2.2.2.2.2.2.2).bind fun t15_5 =>
      (bif (!t15_5.1) then
        some ((50 : Int), (3 : Int))
      else
        (F_conf_Config_rules_4 t15_5.2.1 t15_5.2.2.1 t15_5.2.2.2.1 t15_5.2.2.2.2.1 t15_5.2.2.2.2.2.1 t15_5.2.2.2.2.2.2.1 t15_5.2.2.2.2.2.2.2.1 t15_5.2.2.2.2.2.2.2.2.1 t15_5.2.2.2.2.2.2.2.2.2.1 t15_5.2.2.2.2.2.2.2.2.2.2.1 t15_5.2.2.2.2.2.2.2.2.2.2.2.1 t15_5.2.2.2.2.2.2.2.2.2.2.2.2.1 t15_5.2.2.2.2.2.2.2.2.2.2.2.2.2.1 t15_5.2.2.2.2.2.2.2.2.2.2.2.2.2.2).bind fun t15_6 =>
        (bif (!t15_6.1) then
          some ((50 : Int), (4 : Int))
        else
          (F_conf_Config_rules_5 t15_6.2.1 t15_6.2.2.1 t15_6.2.2.2.1 t15_6.2.2.2.2.1 t15_6.2.2.2.2.2.1 t15_6.2.2.2.2.2.2.1 t15_6.2.2.2.2.2.2.2.1 t15_6.2.2.2.2.2.2.2.2.1 t15_6.2.2.2.2.2.2.2.2.2.1 t15_6.2.2.2.2.2.2.2.2.2.2.1 t15_6.2.2.2.2.2.2.2.2.2.2.2.1 t15_6.2.2.2.2.2.2.2.2.2.2.2.2.1 t15_6.2.2.2.2.2.2.2.2.2.2.2.2.2.1 t15_6.2.2.2.2.2.2.2.2.2.2.2.2.2.2).bind fun t15_7 =>
          (bif (!t15_7.1) then
            some ((50 : Int), (5 : Int))
          else
            (F_conf_Config_rules_6 t15_7.2.1 t15_7.2.2.1 t15_7.2.2.2.1 t15_7.2.2.2.2.1 t15_7.2.2.2.2.2.1 t15_7.2.2.2.2.2.2.1 t15_7.2.2.2.2.2.2.2.1 t15_7.2.2.2.2.2.2.2.2.1 t15_7.2.2.2.2.2.2.2.2.2.1 t15_7.2.2.2.2.2.2.2.2.2.2.1 t15_7.2.2.2.2.2.2.2.2.2.2.2.1 t15_7.2.2.2.2.2.2.2.2.2.2.2.2.1 t15_7.2.2.2.2.2.2.2.2.2.2.2.2.2.1 t15_7.2.2.2.2.2.2.2.2.2.2.2.2.2.2).bind fun t15_8 =>
            (bif (!t15_8.1) then
              some ((50 : Int), (6 : Int))
            else
              (F_conf_Config_rules_7 t15_8.2.1 t15_8.2.2.1 t15_8.2.2.2.1 t15_8.2.2.2.2.1 t15_8.2.2.2.2.2.1 t15_8.2.2.2.2.2.2.1 t15_8.2.2.2.2.2.2.2.1 t15_8.2.2.2.2.2.2.2.2.1 t15_8.2.2.2.2.2.2.2.2.2.1 t15_8.2.2.2.2.2.2.2.2.2.2.1 t15_8.2.2.2.2.2.2.2.2.2.2.2.1 t15_8.2.2.2.2.2.2.2.2.2.2.2.2.1 t15_8.2.2.2.2.2.2.2.2.2.2.2.2.2.1 t15_8.2.2.2.2.2.2.2.2.2.2.2.2.2.2).bind fun t15_9 =>
              (bif (!t15_9.1) then
                some ((50 : Int), (7 : Int))
              else
                (F_conf_Config_rules_8 t15_9.2.1 t15_9.2.2.1 t15_9.2.2.2.1 t15_9.2.2.2.2.1 t15_9.2.2.2.2.2.1 t15_9.2.2.2.2.2.2.1 t15_9.2.2.2.2.2.2.2.1 t15_9.2.2.2.2.2.2.2.2.1 t15_9.2.2.2.2.2.2.2.2.2.1 t15_9.2.2.2.2.2.2.2.2.2.2.1 t15_9.2.2.2.2.2.2.2.2.2.2.2.1 t15_9.2.2.2.2.2.2.2.2.2.2.2.2.1 t15_9.2.2.2.2.2.2.2.2.2.2.2.2.2.1 t15_9.2.2.2.2.2.2.2.2.2.2.2.2.2.2).bind fun t15_10 =>
                (bif (!t15_10.1) then
                  some ((50 : Int), (8 : Int))
                else
                  (F_conf_Config_rules_9 t15_10.2.1 t15_10.2.2.1 t15_10.2.2.2.1 t15_10.2.2.2.2.1 t15_10.2.2.2.2.2.1 t15_10.2.2.2.2.2.2.1 t15_10.2.2.2.2.2.2.2.1 t15_10.2.2.2.2.2.2.2.2.1 t15_10.2.2.2.2.2.2.2.2.2.1 t15_10.2.2.2.2.2.2.2.2.2.2.1 t15_10.2.2.2.2.2.2.2.2.2.2.2.1 t15_10.2.2.2.2.2.2.2.2.2.2.2.2.1 t15_10.2.2.2.2.2.2.2.2.2.2.2.2.2.1 t15_10.2.2.2.2.2.2.2.2.2.2.2.2.2.2).bind fun t15_11 =>
                  (bif (!t15_11.1) then
                    some ((50 : Int), (9 : Int))
                  else
                    (F_conf_Config_rules_10 t15_11.2.1 t15_11.2.2.1 t15_11.2.2.2.1 t15_11.2.2.2.2.1 t15_11.2.2.2.2.2.1 t15_11.2.2.2.2.2.2.1 t15_11.2.2.2.2.2.2.2.1 t15_11.2.2.2.2.2.2.2.2.1 t15_11.2.2.2.2.2.2.2.2.2.1 t15_11.2.2.2.2.2.2.2.2.2.2.1 t15_11.2.2.2.2.2.2.2.2.2.2.2.1 t15_11.2.2.2.2.2.2.2.2.2.2.2.2.1 t15_11.2.2.2.2.2.2.2.2.2.2.2.2.2.1 t15_11.2.2.2.2.2.2.2.2.2.2.2.2.2.2).bind fun t15_12 =>
                    (bif (!t15_12.1) then
                      some ((50 : Int), (10 : Int))
                    else
                      (F_conf_Config_rules_11 t15_12.2.1 t15_12.2.2.1 t15_12.2.2.2.1 t15_12.2.2.2.2.1 t15_12.2.2.2.2.2.1 t15_12.2.2.2.2.2.2.1 t15_12.2.2.2.2.2.2.2.1 t15_12.2.2.2.2.2.2.2.2.1 t15_12.2.2.2.2.2.2.2.2.2.1 t15_12.2.2.2.2.2.2.2.2.2.2.1 t15_12.2.2.2.2.2.2.2.2.2.2.2.1 t15_12.2.2.2.2.2.2.2.2.2.2.2.2.1 t15_12.2.2.2.2.2.2.2.2.2.2.2.2.2.1 t15_12.2.2.2.2.2.2.2.2.2.2.2.2.2.2).bind fun t15_13 =>
                      (bif (!t15_13.1) then
                        some ((50 : Int), (11 : Int))
                      else
                        (F_conf_Config_rules_12 t15_13.2.1 t15_13.2.2.1 t15_13.2.2.2.1 t15_13.2.2.2.2.1 t15_13.2.2.2.2.2.1 t15_13.2.2.2.2.2.2.1 t15_13.2.2.2.2.2.2.2.1 t15_13.2.2.2.2.2.2.2.2.1 t15_13.2.2.2.2.2.2.2.2.2.1 t15_13.2.2.2.2.2.2.2.2.2.2.1 t15_13.2.2.2.2.2.2.2.2.2.2.2.1 t15_13.2.2.2.2.2.2.2.2.2.2.2.2.1 t15_13.2.2.2.2.2.2.2.2.2.2.2.2.2.1 t15_13.2.2.2.2.2.2.2.2.2.2.2.2.2.2).bind fun t15_14 =>
                        (bif (!t15_14.1) then
                          some ((50 : Int), (12 : Int))
                        else
                          some ((0 : Int), (0 : Int))))))))))))))
noncomputable def con_F_conf_Config_Check : Con := { f := 18, ps := [.dat (.agg (.pair (.int .i64) (.pair (.int .i64) (.pair (.int .i64) (.pair (.int .i64) (.pair (.int .i64) (.pair (.int .i64) (.pair (.int .i64) (.pair (.int .i64) (.pair (.int .i64) (.pair (.int .i64) (.pair (.int .i64) (.pair (.int .i64) (.pair (.int .i64) (.int .i64)))))))))))))))], boxes := [], ins := (.agg (.pair (.int .i64) (.pair (.int .i64) (.pair (.int .i64) (.pair (.int .i64) (.pair (.int .i64) (.pair (.int .i64) (.pair (.int .i64) (.pair (.int .i64) (.pair (.int .i64) (.pair (.int .i64) (.pair (.int .i64) (.pair (.int .i64) (.pair (.int .i64) (.int .i64))))))))))))))), nin := 1, outs := (.pair (.int .i64) (.int .i64)), rs := [.dat (.int .i64), .dat (.int .i64)], nout := 2, F := fun x => F_conf_Config_Check x }
def hint_F_conf_Config_Check : Hint := (.mk .plain [H0, (.mk .plain [(.mk .plain [H0, (.mk .plain [(.mk (.unroll 13) [])])])])])
theorem run_F_conf_Config_Check : runE ⟨tdGet tys, [con_F_conf_Config_rules_1, con_F_conf_Config_rules_2, con_F_conf_Config_rules_3, con_F_conf_Config_rules_4, con_F_conf_Config_rules_5, con_F_conf_Config_rules_6, con_F_conf_Config_rules_7, con_F_conf_Config_rules_8, con_F_conf_Config_rules_9, con_F_conf_Config_rules_10, con_F_conf_Config_rules_11, con_F_conf_Config_rules_12], [con_F_conf_Config_rules]⟩ con_F_conf_Config_Check Try.f18 hint_F_conf_Config_Check = con_F_conf_Config_Check.F := by
  funext x
  kernel_rfl
theorem ok_F_conf_Config_Check : ConOK Try.prog con_F_conf_Config_Check :=
  con_of_run (Γ := ⟨tdGet tys, [con_F_conf_Config_rules_1, con_F_conf_Config_rules_2, con_F_conf_Config_rules_3, con_F_conf_Config_rules_4, con_F_conf_Config_rules_5, con_F_conf_Config_rules_6, con_F_conf_Config_rules_7, con_F_conf_Config_rules_8, con_F_conf_Config_rules_9, con_F_conf_Config_rules_10, con_F_conf_Config_rules_11, con_F_conf_Config_rules_12], [con_F_conf_Config_rules]⟩) ⟨fun T d h => tysB_ok tys tys_ok T d h, by simp [ok_F_conf_Config_rules_1, ok_F_conf_Config_rules_2, ok_F_conf_Config_rules_3, ok_F_conf_Config_rules_4, ok_F_conf_Config_rules_5, ok_F_conf_Config_rules_6, ok_F_conf_Config_rules_7, ok_F_conf_Config_rules_8, ok_F_conf_Config_rules_9, ok_F_conf_Config_rules_10, ok_F_conf_Config_rules_11, ok_F_conf_Config_rules_12], by simp [ok_F_conf_Config_rules]⟩ (by kernel_rfl) Try.func18 rfl (by kernel_rfl) run_F_conf_Config_Check
/-- odograph/odographlaw13.anchor -/
noncomputable def F_law13_anchor (_ : Unit) : Option Bool :=
  (F_law13_usual ()).bind fun t4_1 =>
  (F_conf_Config_Check t4_1).bind fun t5_2 =>
  (F_law13_usual ()).bind fun t8_3 =>
  (F_conf_Config_Error t8_3 (-160 : Int)).bind fun t9_4 =>
  let t14_5 : Bool := (bif (t9_4 == (20 : Int)) then (t5_2.1 == (0 : Int)) else false)
  let t18_6 : Bool := (bif t14_5 then (t5_2.2 == (0 : Int)) else false)
  some t18_6
noncomputable def con_F_law13_anchor : Con := { f := 17, ps := [], boxes := [], ins := .unit, nin := 0, outs := .bool, rs := [.dat .bool], nout := 1, F := fun x => F_law13_anchor () }
def hint_F_law13_anchor : Hint := H0
theorem run_F_law13_anchor : runE ⟨tdGet tys, [con_F_law13_usual, con_F_conf_Config_Check, con_F_conf_Config_Error], []⟩ con_F_law13_anchor Try.f17 hint_F_law13_anchor = con_F_law13_anchor.F := by
  funext x
  kernel_rfl
theorem ok_F_law13_anchor : ConOK Try.prog con_F_law13_anchor :=
  con_of_run (Γ := ⟨tdGet tys, [con_F_law13_usual, con_F_conf_Config_Check, con_F_conf_Config_Error], []⟩) ⟨fun T d h => tysB_ok tys tys_ok T d h, by simp [ok_F_law13_usual, ok_F_conf_Config_Check, ok_F_conf_Config_Error], by simp []⟩ (by kernel_rfl) Try.func17 rfl (by kernel_rfl) run_F_law13_anchor
/-- odograph/odographlaw13.ConfChecks -/
noncomputable def F_law13_ConfChecks (c_1 : (Int × (Int × (Int × (Int × (Int × (Int × (Int × (Int × (Int × (Int × (Int × (Int × (Int × Int)))))))))))))) : Option Bool :=
  (F_law13_anchor ()).bind fun t6_2 =>
  (bif (!t6_2) then
    some false
  else
    (F_conf_Config_Check c_1).bind fun t10_3 =>
    (F_ref13_Wrong c_1).bind fun t14_4 =>
    let t23_5 : Bool := ((t10_3.1 == (0 : Int)) == (t14_4 == (0 : Int)))
    let t24_6 : Bool := (bif (t10_3.2 == t14_4) then t23_5 else false)
    let t31_7 : Bool := (bif (t10_3.1 == (0 : Int)) then true else (t10_3.1 == (50 : Int)))
    let t32_8 : Bool := (bif t24_6 then t31_7 else false)
    some t32_8)
noncomputable def con_F_law13_ConfChecks : Con := { f := 3, ps := [.dat (.agg (.pair (.int .i64) (.pair (.int .i64) (.pair (.int .i64) (.pair (.int .i64) (.pair (.int .i64) (.pair (.int .i64) (.pair (.int .i64) (.pair (.int .i64) (.pair (.int .i64) (.pair (.int .i64) (.pair (.int .i64) (.pair (.int .i64) (.pair (.int .i64) (.int .i64)))))))))))))))], boxes := [], ins := (.agg (.pair (.int .i64) (.pair (.int .i64) (.pair (.int .i64) (.pair (.int .i64) (.pair (.int .i64) (.pair (.int .i64) (.pair (.int .i64) (.pair (.int .i64) (.pair (.int .i64) (.pair (.int .i64) (.pair (.int .i64) (.pair (.int .i64) (.pair (.int .i64) (.int .i64))))))))))))))), nin := 1, outs := .bool, rs := [.dat .bool], nout := 1, F := fun x => F_law13_ConfChecks x }
def hint_F_law13_ConfChecks : Hint := H0
theorem run_F_law13_ConfChecks : runE ⟨tdGet tys, [con_F_law13_anchor, con_F_conf_Config_Check, con_F_ref13_Wrong], []⟩ con_F_law13_ConfChecks Try.f3 hint_F_law13_ConfChecks = con_F_law13_ConfChecks.F := by
  funext x
  kernel_rfl
theorem ok_F_law13_ConfChecks : ConOK Try.prog con_F_law13_ConfChecks :=
  con_of_run (Γ := ⟨tdGet tys, [con_F_law13_anchor, con_F_conf_Config_Check, con_F_ref13_Wrong], []⟩) ⟨fun T d h => tysB_ok tys tys_ok T d h, by simp [ok_F_law13_anchor, ok_F_conf_Config_Check, ok_F_ref13_Wrong], by simp []⟩ (by kernel_rfl) Try.func3 rfl (by kernel_rfl) run_F_law13_ConfChecks
/-- (odograph/conf.Config).Growth -/
noncomputable def F_conf_Config_Growth (c_1 : (Int × (Int × (Int × (Int × (Int × (Int × (Int × (Int × (Int × (Int × (Int × (Int × (Int × Int)))))))))))))) : Option (Int × Int) :=
  let t11_2 : Int := (IntKind.wrap .i64 (c_1.2.2.1 - c_1.2.1))
  (F_ratio_Ceil (1048576 : Int) t11_2 c_1.2.1).bind fun t14_3 =>
  let t18_4 : Int := (IntKind.wrap .i64 ((4 : Int) * t14_3.1))
  let t21_5 : Int := (IntKind.wrap .i64 ((6 : Int) * c_1.2.2.2.2.1))
  let t22_6 : Int := (IntKind.wrap .i64 (t18_4 + t21_5))
  (F_conf_Config_pulse c_1).bind fun t24_7 =>
  let t25_8 : Int := (IntKind.wrap .i64 ((12 : Int) * t24_7))
  let t28_9 : Int := (IntKind.wrap .i64 ((6 : Int) * c_1.2.2.2.1))
  let t29_10 : Int := (IntKind.wrap .i64 (t25_8 + t28_9))
  let t30_11 : Int := (IntKind.wrap .i64 (t29_10 + (9 : Int)))
  some (t22_6, t30_11)
noncomputable def con_F_conf_Config_Growth : Con := { f := 20, ps := [.dat (.agg (.pair (.int .i64) (.pair (.int .i64) (.pair (.int .i64) (.pair (.int .i64) (.pair (.int .i64) (.pair (.int .i64) (.pair (.int .i64) (.pair (.int .i64) (.pair (.int .i64) (.pair (.int .i64) (.pair (.int .i64) (.pair (.int .i64) (.pair (.int .i64) (.int .i64)))))))))))))))], boxes := [], ins := (.agg (.pair (.int .i64) (.pair (.int .i64) (.pair (.int .i64) (.pair (.int .i64) (.pair (.int .i64) (.pair (.int .i64) (.pair (.int .i64) (.pair (.int .i64) (.pair (.int .i64) (.pair (.int .i64) (.pair (.int .i64) (.pair (.int .i64) (.pair (.int .i64) (.int .i64))))))))))))))), nin := 1, outs := (.pair (.int .i64) (.int .i64)), rs := [.dat (.int .i64), .dat (.int .i64)], nout := 2, F := fun x => F_conf_Config_Growth x }
def hint_F_conf_Config_Growth : Hint := H0
theorem run_F_conf_Config_Growth : runE ⟨tdGet tys, [con_F_ratio_Ceil, con_F_conf_Config_pulse], []⟩ con_F_conf_Config_Growth Try.f20 hint_F_conf_Config_Growth = con_F_conf_Config_Growth.F := by
  funext x
  kernel_rfl
theorem ok_F_conf_Config_Growth : ConOK Try.prog con_F_conf_Config_Growth :=
  con_of_run (Γ := ⟨tdGet tys, [con_F_ratio_Ceil, con_F_conf_Config_pulse], []⟩) ⟨fun T d h => tysB_ok tys tys_ok T d h, by simp [ok_F_ratio_Ceil, ok_F_conf_Config_pulse], by simp []⟩ (by kernel_rfl) Try.func20 rfl (by kernel_rfl) run_F_conf_Config_Growth
/-- odograph/odographref13.Growth -/
noncomputable def F_ref13_Growth (c_1 : (Int × (Int × (Int × (Int × (Int × (Int × (Int × (Int × (Int × (Int × (Int × (Int × (Int × Int)))))))))))))) : Option (Int × Int) :=
  let t8_2 : Int := (IntKind.wrap .i64 (c_1.2.2.1 - c_1.2.1))
  let t9_3 : Int := (IntKind.wrap .i64 ((1048576 : Int) * t8_2))
  (F_ref13_Up t9_3 c_1.2.1).bind fun t12_4 =>
  let t13_5 : Int := (IntKind.wrap .i64 ((4 : Int) * t12_4))
  let t16_6 : Int := (IntKind.wrap .i64 ((6 : Int) * c_1.2.2.2.2.1))
  let t17_7 : Int := (IntKind.wrap .i64 (t13_5 + t16_6))
  (F_ref13_Up c_1.2.2.1 c_1.1).bind fun t22_8 =>
  let t23_9 : Int := (IntKind.wrap .i64 ((12 : Int) * t22_8))
  let t26_10 : Int := (IntKind.wrap .i64 ((6 : Int) * c_1.2.2.2.1))
  let t27_11 : Int := (IntKind.wrap .i64 (t23_9 + t26_10))
  let t28_12 : Int := (IntKind.wrap .i64 (t27_11 + (9 : Int)))
  some (t17_7, t28_12)
noncomputable def con_F_ref13_Growth : Con := { f := 21, ps := [.dat (.agg (.pair (.int .i64) (.pair (.int .i64) (.pair (.int .i64) (.pair (.int .i64) (.pair (.int .i64) (.pair (.int .i64) (.pair (.int .i64) (.pair (.int .i64) (.pair (.int .i64) (.pair (.int .i64) (.pair (.int .i64) (.pair (.int .i64) (.pair (.int .i64) (.int .i64)))))))))))))))], boxes := [], ins := (.agg (.pair (.int .i64) (.pair (.int .i64) (.pair (.int .i64) (.pair (.int .i64) (.pair (.int .i64) (.pair (.int .i64) (.pair (.int .i64) (.pair (.int .i64) (.pair (.int .i64) (.pair (.int .i64) (.pair (.int .i64) (.pair (.int .i64) (.pair (.int .i64) (.int .i64))))))))))))))), nin := 1, outs := (.pair (.int .i64) (.int .i64)), rs := [.dat (.int .i64), .dat (.int .i64)], nout := 2, F := fun x => F_ref13_Growth x }
def hint_F_ref13_Growth : Hint := H0
theorem run_F_ref13_Growth : runE ⟨tdGet tys, [con_F_ref13_Up], []⟩ con_F_ref13_Growth Try.f21 hint_F_ref13_Growth = con_F_ref13_Growth.F := by
  funext x
  kernel_rfl
theorem ok_F_ref13_Growth : ConOK Try.prog con_F_ref13_Growth :=
  con_of_run (Γ := ⟨tdGet tys, [con_F_ref13_Up], []⟩) ⟨fun T d h => tysB_ok tys tys_ok T d h, by simp [ok_F_ref13_Up], by simp []⟩ (by kernel_rfl) Try.func21 rfl (by kernel_rfl) run_F_ref13_Growth
/-- odograph/odographlaw13.ConfGrowth -/
noncomputable def F_law13_ConfGrowth (c_1 : (Int × (Int × (Int × (Int × (Int × (Int × (Int × (Int × (Int × (Int × (Int × (Int × (Int × Int)))))))))))))) : Option Bool :=
  (F_law13_anchor ()).bind fun t7_2 =>
  (bif (!t7_2) then
    some false
  else
    (F_ref13_Wrong c_1).bind fun t10_3 =>
    (bif (t10_3 != (0 : Int)) then
      some true
    else
      (F_conf_Config_Growth c_1).bind fun t14_4 =>
      (F_ref13_Growth c_1).bind fun t19_5 =>
      let t29_6 : Bool := (bif (t14_4.1 == t19_5.1) then (t14_4.2 == t19_5.2) else false)
      let t32_7 : Bool := (decide ((0 : Int) ≤ t14_4.1))
      let t33_8 : Bool := (bif t29_6 then t32_7 else false)
      let t36_9 : Bool := (decide (t14_4.1 ≤ (655364 : Int)))
      let t37_10 : Bool := (bif t33_8 then t36_9 else false)
      let t40_11 : Bool := (decide ((9 : Int) ≤ t14_4.2))
      let t41_12 : Bool := (bif t37_10 then t40_11 else false)
      some t41_12))
noncomputable def con_F_law13_ConfGrowth : Con := { f := 4, ps := [.dat (.agg (.pair (.int .i64) (.pair (.int .i64) (.pair (.int .i64) (.pair (.int .i64) (.pair (.int .i64) (.pair (.int .i64) (.pair (.int .i64) (.pair (.int .i64) (.pair (.int .i64) (.pair (.int .i64) (.pair (.int .i64) (.pair (.int .i64) (.pair (.int .i64) (.int .i64)))))))))))))))], boxes := [], ins := (.agg (.pair (.int .i64) (.pair (.int .i64) (.pair (.int .i64) (.pair (.int .i64) (.pair (.int .i64) (.pair (.int .i64) (.pair (.int .i64) (.pair (.int .i64) (.pair (.int .i64) (.pair (.int .i64) (.pair (.int .i64) (.pair (.int .i64) (.pair (.int .i64) (.int .i64))))))))))))))), nin := 1, outs := .bool, rs := [.dat .bool], nout := 1, F := fun x => F_law13_ConfGrowth x }
def hint_F_law13_ConfGrowth : Hint := H0
theorem run_F_law13_ConfGrowth : runE ⟨tdGet tys, [con_F_law13_anchor, con_F_ref13_Wrong, con_F_conf_Config_Growth, con_F_ref13_Growth], []⟩ con_F_law13_ConfGrowth Try.f4 hint_F_law13_ConfGrowth = con_F_law13_ConfGrowth.F := by
  funext x
  kernel_rfl
theorem ok_F_law13_ConfGrowth : ConOK Try.prog con_F_law13_ConfGrowth :=
  con_of_run (Γ := ⟨tdGet tys, [con_F_law13_anchor, con_F_ref13_Wrong, con_F_conf_Config_Growth, con_F_ref13_Growth], []⟩) ⟨fun T d h => tysB_ok tys tys_ok T d h, by simp [ok_F_law13_anchor, ok_F_ref13_Wrong, ok_F_conf_Config_Growth, ok_F_ref13_Growth], by simp []⟩ (by kernel_rfl) Try.func4 rfl (by kernel_rfl) run_F_law13_ConfGrowth
/-- odograph/odographlaw13.ConfMore -/
noncomputable def F_law13_ConfMore (c_1 : (Int × (Int × (Int × (Int × (Int × (Int × (Int × (Int × (Int × (Int × (Int × (Int × (Int × Int)))))))))))))) (r_2 : Int) (more_3 : Int) (base_4 : Int) : Option Bool :=
  (F_law13_anchor ()).bind fun t16_5 =>
  (bif (!t16_5) then
    some false
  else
    (F_ref13_Wrong c_1).bind fun t19_6 =>
    (bif (t19_6 != (0 : Int)) then
      some true
    else
      let t24_7 : Int := (IntKind.wrap .i64 more_3)
      let t27_8 : Int := (IntKind.wrap .i64 (0 - (IntKind.wrap .i64 r_2)))
      let t28_9 : Int := (if t27_8 > (IntKind.wrap .i64 r_2) then t27_8 else (IntKind.wrap .i64 r_2))
      let t31_10 : Int := (IntKind.wrap .i64 (0 - t24_7))
      let t32_11 : Int := (if t31_10 > t24_7 then t31_10 else t24_7)
      let t33_12 : Bool := (decide (t28_9 ≤ t32_11))
      (bif t33_12 then F_conf_Config_Error c_1 (IntKind.wrap .i64 r_2) else some (0 : Int)).bind fun t37_13 =>
      (bif t33_12 then F_conf_Config_Error c_1 t24_7 else some (0 : Int)).bind fun t40_14 =>
      let t41_15 : Bool := (decide (t40_14 < t37_13))
      let t42_16 : Bool := (bif t33_12 then t41_15 else false)
      (bif t42_16 then
        some false
      else
        let t49_17 : Bool := (decide (base_4 < c_1.2.2.2.1))
        let t51_18 : (Int × (Int × (Int × (Int × (Int × (Int × (Int × (Int × (Int × (Int × (Int × (Int × (Int × Int))))))))))))) := (c_1.1, (c_1.2.1, (c_1.2.2.1, (base_4, c_1.2.2.2.2))))
        (bif !t49_17 then F_ref13_Wrong t51_18 else some (0 : Int)).bind fun t52_19 =>
        let t54_20 : Bool := (bif t49_17 then true else (t52_19 != (0 : Int)))
        (bif t54_20 then
          some true
        else
          (F_conf_Config_Growth c_1).bind fun t57_21 =>
          let t61_22 : (Int × (Int × (Int × (Int × (Int × (Int × (Int × (Int × (Int × (Int × (Int × (Int × (Int × Int))))))))))))) := (c_1.1, (c_1.2.1, (c_1.2.2.1, (base_4, c_1.2.2.2.2))))
          (F_conf_Config_Growth t61_22).bind fun t62_23 =>
          let t71_24 : Bool := (decide (t57_21.2 ≤ t62_23.2))
          let t72_25 : Bool := (bif (t57_21.1 == t62_23.1) then t71_24 else false)
          (bif t72_25 then F_conf_Config_Error c_1 (IntKind.wrap .i64 r_2) else some (0 : Int)).bind fun t76_26 =>
          let t77_27 : (Int × (Int × (Int × (Int × (Int × (Int × (Int × (Int × (Int × (Int × (Int × (Int × (Int × Int))))))))))))) := (c_1.1, (c_1.2.1, (c_1.2.2.1, (base_4, c_1.2.2.2.2))))
          (bif t72_25 then F_conf_Config_Error t77_27 (IntKind.wrap .i64 r_2) else some (0 : Int)).bind fun t79_28 =>
          let t80_29 : Bool := (decide (t76_26 ≤ t79_28))
          let t81_30 : Bool := (bif t72_25 then t80_29 else false)
          some t81_30))))
noncomputable def con_F_law13_ConfMore : Con := { f := 5, ps := [.dat (.agg (.pair (.int .i64) (.pair (.int .i64) (.pair (.int .i64) (.pair (.int .i64) (.pair (.int .i64) (.pair (.int .i64) (.pair (.int .i64) (.pair (.int .i64) (.pair (.int .i64) (.pair (.int .i64) (.pair (.int .i64) (.pair (.int .i64) (.pair (.int .i64) (.int .i64))))))))))))))), .dat (.int .i32), .dat (.int .i32), .dat (.int .i64)], boxes := [], ins := (.pair (.agg (.pair (.int .i64) (.pair (.int .i64) (.pair (.int .i64) (.pair (.int .i64) (.pair (.int .i64) (.pair (.int .i64) (.pair (.int .i64) (.pair (.int .i64) (.pair (.int .i64) (.pair (.int .i64) (.pair (.int .i64) (.pair (.int .i64) (.pair (.int .i64) (.int .i64))))))))))))))) (.pair (.int .i32) (.pair (.int .i32) (.int .i64)))), nin := 4, outs := .bool, rs := [.dat .bool], nout := 1, F := fun x => F_law13_ConfMore x.1 x.2.1 x.2.2.1 x.2.2.2 }
def hint_F_law13_ConfMore : Hint := H0
theorem run_F_law13_ConfMore : runE ⟨tdGet tys, [con_F_law13_anchor, con_F_ref13_Wrong, con_F_conf_Config_Error, con_F_conf_Config_Growth], []⟩ con_F_law13_ConfMore Try.f5 hint_F_law13_ConfMore = con_F_law13_ConfMore.F := by
  funext x
  kernel_rfl
theorem ok_F_law13_ConfMore : ConOK Try.prog con_F_law13_ConfMore :=
  con_of_run (Γ := ⟨tdGet tys, [con_F_law13_anchor, con_F_ref13_Wrong, con_F_conf_Config_Error, con_F_conf_Config_Growth], []⟩) ⟨fun T d h => tysB_ok tys tys_ok T d h, by simp [ok_F_law13_anchor, ok_F_ref13_Wrong, ok_F_conf_Config_Error, ok_F_conf_Config_Growth], by simp []⟩ (by kernel_rfl) Try.func5 rfl (by kernel_rfl) run_F_law13_ConfMore
/-- odograph/odographlaw13.great -/
noncomputable def F_law13_great (t_1 : ((List (Int × ((List (Int × Int)) × (List Int)))) × (List (Int × (Int × (Int × (Int × Int))))))) : Option Bool :=
  let t12_2 : Int := (IntKind.wrap .i64 ((t_1.1.length : Int) + (t_1.2.length : Int)))
  let t14_3 : Bool := (decide ((2000 : Int) < t12_2))
  (bif t14_3 then
    some true
  else
    Option.bind (α := Bool ⊕ Unit) (
      loopO (X := Bool ⊕ Unit) (fun (s_4 : (Int × Int)) =>
        let n_5 : Int := s_4.1
        let t18_6 : Int := s_4.2
        let t19_7 : Bool := (decide (t18_6 < (t_1.1.length : Int)))
        (bif t19_7 then
          chk none ((decide ((0 : Int) ≤ t18_6)) && (decide (t18_6 < (t_1.1.length : Int)))) <|
          let t21_8 : (Int × ((List (Int × Int)) × (List Int))) := (t_1.1.getD t18_6.toNat ((0 : Int), ([], [])))
          let t29_9 : Int := (IntKind.wrap .i64 ((t21_8.2.1.length : Int) + (t21_8.2.2.length : Int)))
          let t30_10 : Int := (IntKind.wrap .i64 (n_5 + t29_9))
          let t32_11 : Bool := (decide ((20000 : Int) < t30_10))
          (bif t32_11 then
            some (.inr (.inl true))
          else
            let t33_12 : Int := (IntKind.wrap .i64 (t18_6 + (1 : Int)))
            some (.inl (t30_10, t33_12)))
        else
          some (.inr (.inr ())))) (t12_2, (0 : Int))) fun z => match z with
    | .inl r_13 =>
      some r_13
    | .inr _ =>
      some false)
noncomputable def con_F_law13_great : Con := { f := 38, ps := [.dat (.agg (.pair (.slice (.agg (.pair (.int .i64) (.pair (.slice (.agg (.pair (.int .i64) (.int .i64)))) (.slice (.int .i64)))))) (.slice (.agg (.pair (.int .i64) (.pair (.int .i64) (.pair (.int .i64) (.pair (.int .i64) (.int .i64)))))))))], boxes := [], ins := (.agg (.pair (.slice (.agg (.pair (.int .i64) (.pair (.slice (.agg (.pair (.int .i64) (.int .i64)))) (.slice (.int .i64)))))) (.slice (.agg (.pair (.int .i64) (.pair (.int .i64) (.pair (.int .i64) (.pair (.int .i64) (.int .i64))))))))), nin := 1, outs := .bool, rs := [.dat .bool], nout := 1, F := fun x => F_law13_great x }
def hint_F_law13_great : Hint := (.mk .plain [H0, (.mk .plain [H0, (.mk .plain [H0, (.mk .plain [(.mk .plain [H0, (.mk .plain [(.mk (.loop [⟨.slot 3, (.int .i64), none⟩, ⟨.slot 18, (.int .i64), none⟩] [(0, 30), (0, 19), (0, 22), (0, 28), (0, 2), (0, 25), (0, 31), (0, 5), (0, 23), (0, 20), (0, 26), (0, 29), (0, 32), (0, 21), (0, 24), (0, 27), (0, 33)] [(.ret, [⟨.slot 2, .bool, none⟩]), (.exit 0, [])]) [])])])])])])])
theorem run_F_law13_great : runE ⟨tdGet tys, [], []⟩ con_F_law13_great Try.f38 hint_F_law13_great = con_F_law13_great.F := by
  funext x
  kernel_rfl
theorem ok_F_law13_great : ConOK Try.prog con_F_law13_great :=
  con_of_run (Γ := ⟨tdGet tys, [], []⟩) ⟨fun T d h => tysB_ok tys tys_ok T d h, by simp [], by simp []⟩ (by kernel_rfl) Try.func38 rfl (by kernel_rfl) run_F_law13_great
/-- odograph/grade.Check -/
noncomputable def F_grade_Check (l_1 : (List (Int × Int))) (length_2 : Int) : Option Int :=
  let t9_3 : Bool := ((l_1.length : Int) == (0 : Int))
  let t13_4 : Bool := (decide ((64 : Int) < (l_1.length : Int)))
  let t14_5 : Bool := (bif t9_3 then true else t13_4)
  chk none ((true && (decide ((0 : Int) < (l_1.length : Int)))) || !(!t14_5)) <|
  let e_6 : (Int × Int) := (l_1.getD (0 : Int).toNat ((0 : Int), (0 : Int)))
  let t21_7 : Bool := (bif t14_5 then true else (e_6.1 != (0 : Int)))
  (bif t21_7 then
    some (11 : Int)
  else
    Option.bind (α := Int ⊕ Unit) (
      loopO (X := Int ⊕ Unit) (fun (s_8 : Int) =>
        let t25_9 : Bool := (decide (s_8 < (l_1.length : Int)))
        (bif t25_9 then
          chk none ((decide ((0 : Int) ≤ s_8)) && (decide (s_8 < (l_1.length : Int)))) <|
          let t28_10 : (Int × Int) := (l_1.getD s_8.toNat ((0 : Int), (0 : Int)))
          let t31_11 : Bool := (decide (t28_10.2 < (-1048576 : Int)))
          let t35_12 : Bool := (decide ((1048576 : Int) < t28_10.2))
          let t36_13 : Bool := (bif t31_11 then true else t35_12)
          let t41_14 : Bool := (decide (length_2 ≤ t28_10.1))
          let t42_15 : Bool := (bif t36_13 then true else t41_14)
          let t45_16 : Bool := (decide ((0 : Int) < s_8))
          let t51_17 : Int := (IntKind.wrap .i64 (s_8 - (1 : Int)))
          chk none (((decide ((0 : Int) ≤ t51_17)) && (decide (t51_17 < (l_1.length : Int)))) || !(t45_16 && !t42_15)) <|
          let e_18 : (Int × Int) := (l_1.getD t51_17.toNat ((0 : Int), (0 : Int)))
          let t55_19 : Bool := (decide (t28_10.1 ≤ e_18.1))
          let t56_20 : Bool := (bif t45_16 then t55_19 else false)
          let t57_21 : Bool := (bif t42_15 then true else t56_20)
          (bif t57_21 then
            some (.inr (.inl (11 : Int)))
          else
            let t58_22 : Int := (IntKind.wrap .i64 (s_8 + (1 : Int)))
            some (.inl t58_22))
        else
          some (.inr (.inr ())))) (0 : Int)) fun z => match z with
    | .inl r_23 =>
      some r_23
    | .inr _ =>
      some (0 : Int))
noncomputable def con_F_grade_Check : Con := { f := 92, ps := [.dat (.slice (.agg (.pair (.int .i64) (.int .i64)))), .dat (.int .i64)], boxes := [], ins := (.pair (.slice (.agg (.pair (.int .i64) (.int .i64)))) (.int .i64)), nin := 2, outs := (.int .i64), rs := [.dat (.int .i64)], nout := 1, F := fun x => F_grade_Check x.1 x.2 }
def hint_F_grade_Check : Hint := (.mk .plain [H0, (.mk .plain [H0, (.mk .plain [(.mk .plain [H0, (.mk .plain [(.mk (.loop [⟨.slot 24, (.int .i64), none⟩] [(0, 30), (0, 36), (0, 42), (0, 39), (0, 45), (0, 48), (0, 54), (0, 51), (0, 57), (0, 5), (0, 26), (0, 29), (0, 35), (0, 32), (0, 38), (0, 41), (0, 47), (0, 44), (0, 50), (0, 53), (0, 56), (0, 4), (0, 28), (0, 25), (0, 31), (0, 34), (0, 40), (0, 37), (0, 43), (0, 46), (0, 52), (0, 49), (0, 55), (0, 6), (0, 27), (0, 33), (0, 58)] [(.ret, [⟨.slot 4, (.int .i64), none⟩]), (.exit 0, [])]) [])])])])])])
theorem run_F_grade_Check : runE ⟨tdGet tys, [], []⟩ con_F_grade_Check Try.f92 hint_F_grade_Check = con_F_grade_Check.F := by
  funext x
  kernel_rfl
theorem ok_F_grade_Check : ConOK Try.prog con_F_grade_Check :=
  con_of_run (Γ := ⟨tdGet tys, [], []⟩) ⟨fun T d h => tysB_ok tys tys_ok T d h, by simp [], by simp []⟩ (by kernel_rfl) Try.func92 rfl (by kernel_rfl) run_F_grade_Check
/-- (odograph/track.Track).segment -/
noncomputable def F_track_Track_segment (t_1 : ((List (Int × ((List (Int × Int)) × (List Int)))) × (List (Int × (Int × (Int × (Int × Int))))))) (s_2 : (Int × ((List (Int × Int)) × (List Int)))) : Option Bool :=
  let t9_3 : Bool := (decide (s_2.1 < (1 : Int)))
  let t13_4 : Bool := (decide ((1099511627776 : Int) < s_2.1))
  let t14_5 : Bool := (bif t9_3 then true else t13_4)
  (bif !t14_5 then F_grade_Check s_2.2.1 s_2.1 else some (0 : Int)).bind fun t20_6 =>
  let t22_7 : Bool := (bif t14_5 then true else (t20_6 != (0 : Int)))
  let t27_8 : Bool := (decide ((2 : Int) < (s_2.2.2.length : Int)))
  let t28_9 : Bool := (bif t22_7 then true else t27_8)
  (bif t28_9 then
    some false
  else
    Option.bind (α := Bool ⊕ Unit) (
      loopO (X := Bool ⊕ Unit) (fun (s_10 : Int) =>
        let t33_11 : Bool := (decide (s_10 < (s_2.2.2.length : Int)))
        (bif t33_11 then
          chk none ((decide ((0 : Int) ≤ s_10)) && (decide (s_10 < (s_2.2.2.length : Int)))) <|
          let t36_12 : Int := (s_2.2.2.getD s_10.toNat (0 : Int))
          let t38_13 : Bool := (decide (t36_12 < (0 : Int)))
          let t44_14 : Bool := (decide ((t_1.1.length : Int) ≤ t36_12))
          let t45_15 : Bool := (bif t38_13 then true else t44_14)
          let t48_16 : Bool := (decide ((0 : Int) < s_10))
          let t54_17 : Int := (IntKind.wrap .i64 (s_10 - (1 : Int)))
          chk none (((decide ((0 : Int) ≤ t54_17)) && (decide (t54_17 < (s_2.2.2.length : Int)))) || !(t48_16 && !t45_15)) <|
          let t56_18 : Int := (s_2.2.2.getD t54_17.toNat (0 : Int))
          let t57_19 : Bool := (decide (t36_12 ≤ t56_18))
          let t58_20 : Bool := (bif t48_16 then t57_19 else false)
          let t59_21 : Bool := (bif t45_15 then true else t58_20)
          (bif t59_21 then
            some (.inr (.inl false))
          else
            let t60_22 : Int := (IntKind.wrap .i64 (s_10 + (1 : Int)))
            some (.inl t60_22))
        else
          some (.inr (.inr ())))) (0 : Int)) fun z => match z with
    | .inl r_23 =>
      some r_23
    | .inr _ =>
      some true)
noncomputable def con_F_track_Track_segment : Con := { f := 84, ps := [.dat (.agg (.pair (.slice (.agg (.pair (.int .i64) (.pair (.slice (.agg (.pair (.int .i64) (.int .i64)))) (.slice (.int .i64)))))) (.slice (.agg (.pair (.int .i64) (.pair (.int .i64) (.pair (.int .i64) (.pair (.int .i64) (.int .i64))))))))), .dat (.agg (.pair (.int .i64) (.pair (.slice (.agg (.pair (.int .i64) (.int .i64)))) (.slice (.int .i64)))))], boxes := [], ins := (.pair (.agg (.pair (.slice (.agg (.pair (.int .i64) (.pair (.slice (.agg (.pair (.int .i64) (.int .i64)))) (.slice (.int .i64)))))) (.slice (.agg (.pair (.int .i64) (.pair (.int .i64) (.pair (.int .i64) (.pair (.int .i64) (.int .i64))))))))) (.agg (.pair (.int .i64) (.pair (.slice (.agg (.pair (.int .i64) (.int .i64)))) (.slice (.int .i64)))))), nin := 2, outs := .bool, rs := [.dat .bool], nout := 1, F := fun x => F_track_Track_segment x.1 x.2 }
def hint_F_track_Track_segment : Hint := (.mk .plain [H0, (.mk .plain [H0, (.mk .plain [(.mk .plain [H0, (.mk .plain [(.mk (.loop [⟨.slot 32, (.int .i64), none⟩] [(0, 36), (0, 42), (0, 4), (0, 39), (0, 45), (0, 48), (0, 54), (0, 51), (0, 57), (0, 5), (0, 34), (0, 40), (0, 37), (0, 43), (0, 46), (0, 52), (0, 49), (0, 55), (0, 35), (0, 58), (0, 38), (0, 6), (0, 41), (0, 47), (0, 33), (0, 44), (0, 50), (0, 53), (0, 59), (0, 56), (0, 60)] [(.ret, [⟨.slot 4, .bool, none⟩]), (.exit 0, [])]) [])])])])])])
theorem run_F_track_Track_segment : runE ⟨tdGet tys, [con_F_grade_Check], []⟩ con_F_track_Track_segment Try.f84 hint_F_track_Track_segment = con_F_track_Track_segment.F := by
  funext x
  kernel_rfl
theorem ok_F_track_Track_segment : ConOK Try.prog con_F_track_Track_segment :=
  con_of_run (Γ := ⟨tdGet tys, [con_F_grade_Check], []⟩) ⟨fun T d h => tysB_ok tys tys_ok T d h, by simp [ok_F_grade_Check], by simp []⟩ (by kernel_rfl) Try.func84 rfl (by kernel_rfl) run_F_track_Track_segment
/-- (odograph/track.Track).group -/
noncomputable def F_track_Track_group (t_1 : ((List (Int × ((List (Int × Int)) × (List Int)))) × (List (Int × (Int × (Int × (Int × Int))))))) (i_2 : Int) (g_3 : (Int × (Int × (Int × (Int × Int))))) : Option Bool :=
  let t10_4 : Bool := (decide (g_3.1 < (1 : Int)))
  let t14_5 : Bool := (decide ((65535 : Int) < g_3.1))
  let t15_6 : Bool := (bif t10_4 then true else t14_5)
  let t18_7 : Bool := (decide ((0 : Int) < i_2))
  let t25_8 : Int := (IntKind.wrap .i64 (i_2 - (1 : Int)))
  chk none (((decide ((0 : Int) ≤ t25_8)) && (decide (t25_8 < (t_1.2.length : Int)))) || !(t18_7 && !t15_6)) <|
  let e_9 : (Int × (Int × (Int × (Int × Int)))) := (t_1.2.getD t25_8.toNat ((0 : Int), ((0 : Int), ((0 : Int), ((0 : Int), (0 : Int))))))
  let t30_10 : Bool := (bif t18_7 then (decide (g_3.1 ≤ e_9.1)) else false)
  let t31_11 : Bool := (bif t15_6 then true else t30_10)
  let t35_12 : Bool := (decide (g_3.2.1 < (0 : Int)))
  let t36_13 : Bool := (bif t31_11 then true else t35_12)
  let t43_14 : Bool := (decide ((t_1.1.length : Int) ≤ g_3.2.1))
  let t44_15 : Bool := (bif t36_13 then true else t43_14)
  (bif t44_15 then
    some false
  else
    let t47_16 : Bool := (decide ((0 : Int) ≤ g_3.2.2.1))
    chk none (((decide ((0 : Int) ≤ g_3.2.1)) && (decide (g_3.2.1 < (t_1.1.length : Int)))) || !t47_16) <|
    let e_17 : (Int × ((List (Int × Int)) × (List Int))) := (t_1.1.getD g_3.2.1.toNat ((0 : Int), ([], [])))
    let t58_18 : Bool := (decide (g_3.2.2.1 ≤ e_17.1))
    let t59_19 : Bool := (bif t47_16 then t58_18 else false)
    let t64_20 : Bool := (decide ((0 : Int) ≤ g_3.2.2.2.1))
    let t65_21 : Bool := (bif t59_19 then t64_20 else false)
    let t69_22 : Bool := (decide (g_3.2.2.2.1 ≤ (1048576 : Int)))
    let t70_23 : Bool := (bif t65_21 then t69_22 else false)
    let t74_24 : Bool := (decide ((0 : Int) ≤ g_3.2.2.2.2))
    let t75_25 : Bool := (bif t70_23 then t74_24 else false)
    let t79_26 : Bool := (decide (g_3.2.2.2.2 ≤ (16777216 : Int)))
    let t80_27 : Bool := (bif t75_25 then t79_26 else false)
    some t80_27)
noncomputable def con_F_track_Track_group : Con := { f := 85, ps := [.dat (.agg (.pair (.slice (.agg (.pair (.int .i64) (.pair (.slice (.agg (.pair (.int .i64) (.int .i64)))) (.slice (.int .i64)))))) (.slice (.agg (.pair (.int .i64) (.pair (.int .i64) (.pair (.int .i64) (.pair (.int .i64) (.int .i64))))))))), .dat (.int .i64), .dat (.agg (.pair (.int .i64) (.pair (.int .i64) (.pair (.int .i64) (.pair (.int .i64) (.int .i64))))))], boxes := [], ins := (.pair (.agg (.pair (.slice (.agg (.pair (.int .i64) (.pair (.slice (.agg (.pair (.int .i64) (.int .i64)))) (.slice (.int .i64)))))) (.slice (.agg (.pair (.int .i64) (.pair (.int .i64) (.pair (.int .i64) (.pair (.int .i64) (.int .i64))))))))) (.pair (.int .i64) (.agg (.pair (.int .i64) (.pair (.int .i64) (.pair (.int .i64) (.pair (.int .i64) (.int .i64)))))))), nin := 3, outs := .bool, rs := [.dat .bool], nout := 1, F := fun x => F_track_Track_group x.1 x.2.1 x.2.2 }
def hint_F_track_Track_group : Hint := H0
theorem run_F_track_Track_group : runE ⟨tdGet tys, [], []⟩ con_F_track_Track_group Try.f85 hint_F_track_Track_group = con_F_track_Track_group.F := by
  funext x
  kernel_rfl
theorem ok_F_track_Track_group : ConOK Try.prog con_F_track_Track_group :=
  con_of_run (Γ := ⟨tdGet tys, [], []⟩) ⟨fun T d h => tysB_ok tys tys_ok T d h, by simp [], by simp []⟩ (by kernel_rfl) Try.func85 rfl (by kernel_rfl) run_F_track_Track_group
/-- (odograph/track.Track).Check -/
noncomputable def F_track_Track_Check (t_1 : ((List (Int × ((List (Int × Int)) × (List Int)))) × (List (Int × (Int × (Int × (Int × Int))))))) : Option (Int × Int) :=
  let t11_2 : Bool := ((t_1.1.length : Int) == (0 : Int))
  let t16_3 : Bool := (decide ((200 : Int) < (t_1.1.length : Int)))
  let t17_4 : Bool := (bif t11_2 then true else t16_3)
  let t22_5 : Bool := (decide ((400 : Int) < (t_1.2.length : Int)))
  let t23_6 : Bool := (bif t17_4 then true else t22_5)
  (bif t23_6 then
    some ((13 : Int), (0 : Int))
  else
    Option.bind (α := (Int × Int) ⊕ Unit) (
      loopO (X := (Int × Int) ⊕ Unit) (fun (s_7 : Int) =>
        let t28_8 : Bool := (decide (s_7 < (t_1.1.length : Int)))
        (bif t28_8 then
          chk none ((decide ((0 : Int) ≤ s_7)) && (decide (s_7 < (t_1.1.length : Int)))) <|
          let t31_9 : (Int × ((List (Int × Int)) × (List Int))) := (t_1.1.getD s_7.toNat ((0 : Int), ([], [])))
          (F_track_Track_segment t_1 t31_9).bind fun t34_10 =>
          (bif (!t34_10) then
            some (.inr (.inl (s_7, (11 : Int))))
          else
            let t37_11 : Int := (IntKind.wrap .i64 (s_7 + (1 : Int)))
            some (.inl t37_11))
        else
          some (.inr (.inr ())))) (0 : Int)) fun z => match z with
    | .inl r_12 =>
      let t3_13 : Int := r_12.1
      let t2_14 : Int := r_12.2
      some (t2_14, t3_13)
    | .inr _ =>
      Option.bind (α := (Int × Int) ⊕ Unit) (
        loopO (X := (Int × Int) ⊕ Unit) (fun (s_15 : Int) =>
          let t42_16 : Bool := (decide (s_15 < (t_1.2.length : Int)))
          (bif t42_16 then
            chk none ((decide ((0 : Int) ≤ s_15)) && (decide (s_15 < (t_1.2.length : Int)))) <|
            let t45_17 : (Int × (Int × (Int × (Int × Int)))) := (t_1.2.getD s_15.toNat ((0 : Int), ((0 : Int), ((0 : Int), ((0 : Int), (0 : Int))))))
            (F_track_Track_group t_1 s_15 t45_17).bind fun t49_18 =>
            (bif (!t49_18) then
              some (.inr (.inl ((16 : Int), s_15)))
            else
              let t52_19 : Int := (IntKind.wrap .i64 (s_15 + (1 : Int)))
              some (.inl t52_19))
          else
            some (.inr (.inr ())))) (0 : Int)) fun z => match z with
      | .inl r_20 =>
        let t2_21 : Int := r_20.1
        let t3_22 : Int := r_20.2
        some (t2_21, t3_22)
      | .inr _ =>
        some ((0 : Int), (0 : Int)))
noncomputable def con_F_track_Track_Check : Con := { f := 61, ps := [.dat (.agg (.pair (.slice (.agg (.pair (.int .i64) (.pair (.slice (.agg (.pair (.int .i64) (.int .i64)))) (.slice (.int .i64)))))) (.slice (.agg (.pair (.int .i64) (.pair (.int .i64) (.pair (.int .i64) (.pair (.int .i64) (.int .i64)))))))))], boxes := [], ins := (.agg (.pair (.slice (.agg (.pair (.int .i64) (.pair (.slice (.agg (.pair (.int .i64) (.int .i64)))) (.slice (.int .i64)))))) (.slice (.agg (.pair (.int .i64) (.pair (.int .i64) (.pair (.int .i64) (.pair (.int .i64) (.int .i64))))))))), nin := 1, outs := (.pair (.int .i64) (.int .i64)), rs := [.dat (.int .i64), .dat (.int .i64)], nout := 2, F := fun x => F_track_Track_Check x }
def hint_F_track_Track_Check : Hint := (.mk .plain [H0, (.mk .plain [H0, (.mk .plain [(.mk .plain [H0, (.mk .plain [(.mk (.loop [⟨.slot 27, (.int .i64), none⟩] [(0, 30), (0, 36), (0, 4), (0, 29), (0, 35), (0, 3), (0, 32), (0, 28), (0, 2), (0, 31), (0, 5), (0, 34), (0, 33), (0, 37)] [(.ret, [⟨.slot 3, (.int .i64), none⟩, ⟨.slot 2, (.int .i64), none⟩]), (.exit 0, [])]) [])])]), (.mk .plain [(.mk .plain [H0, (.mk .plain [(.mk (.loop [⟨.slot 41, (.int .i64), none⟩] [(0, 7), (0, 42), (0, 45), (0, 48), (0, 51), (0, 2), (0, 43), (0, 46), (0, 49), (0, 3), (0, 6), (0, 47), (0, 44), (0, 50), (0, 52)] [(.ret, [⟨.slot 2, (.int .i64), none⟩, ⟨.slot 3, (.int .i64), none⟩]), (.exit 2, [])]) [])])])])])])])
theorem run_F_track_Track_Check : runE ⟨tdGet tys, [con_F_track_Track_segment, con_F_track_Track_group], []⟩ con_F_track_Track_Check Try.f61 hint_F_track_Track_Check = con_F_track_Track_Check.F := by
  funext x
  kernel_rfl
theorem ok_F_track_Track_Check : ConOK Try.prog con_F_track_Track_Check :=
  con_of_run (Γ := ⟨tdGet tys, [con_F_track_Track_segment, con_F_track_Track_group], []⟩) ⟨fun T d h => tysB_ok tys tys_ok T d h, by simp [ok_F_track_Track_segment, ok_F_track_Track_group], by simp []⟩ (by kernel_rfl) Try.func61 rfl (by kernel_rfl) run_F_track_Track_Check
/-- (odograph/conf.Config).Reach -/
noncomputable def F_conf_Config_Reach (c_1 : (Int × (Int × (Int × (Int × (Int × (Int × (Int × (Int × (Int × (Int × (Int × (Int × (Int × Int)))))))))))))) (g_2 : (Int × (Int × (Int × (Int × Int))))) : Option Int :=
  let t9_3 : Int := (IntKind.wrap .i64 (g_2.2.2.2.1 + c_1.2.2.2.2.2.2.2.2.1))
  let t12_4 : Int := (IntKind.wrap .i64 (t9_3 + c_1.2.2.2.2.2.2.1))
  some t12_4
noncomputable def con_F_conf_Config_Reach : Con := { f := 62, ps := [.dat (.agg (.pair (.int .i64) (.pair (.int .i64) (.pair (.int .i64) (.pair (.int .i64) (.pair (.int .i64) (.pair (.int .i64) (.pair (.int .i64) (.pair (.int .i64) (.pair (.int .i64) (.pair (.int .i64) (.pair (.int .i64) (.pair (.int .i64) (.pair (.int .i64) (.int .i64))))))))))))))), .dat (.agg (.pair (.int .i64) (.pair (.int .i64) (.pair (.int .i64) (.pair (.int .i64) (.int .i64))))))], boxes := [], ins := (.pair (.agg (.pair (.int .i64) (.pair (.int .i64) (.pair (.int .i64) (.pair (.int .i64) (.pair (.int .i64) (.pair (.int .i64) (.pair (.int .i64) (.pair (.int .i64) (.pair (.int .i64) (.pair (.int .i64) (.pair (.int .i64) (.pair (.int .i64) (.pair (.int .i64) (.int .i64))))))))))))))) (.agg (.pair (.int .i64) (.pair (.int .i64) (.pair (.int .i64) (.pair (.int .i64) (.int .i64))))))), nin := 2, outs := (.int .i64), rs := [.dat (.int .i64)], nout := 1, F := fun x => F_conf_Config_Reach x.1 x.2 }
def hint_F_conf_Config_Reach : Hint := H0
theorem run_F_conf_Config_Reach : runE ⟨tdGet tys, [], []⟩ con_F_conf_Config_Reach Try.f62 hint_F_conf_Config_Reach = con_F_conf_Config_Reach.F := by
  funext x
  kernel_rfl
theorem ok_F_conf_Config_Reach : ConOK Try.prog con_F_conf_Config_Reach :=
  con_of_run (Γ := ⟨tdGet tys, [], []⟩) ⟨fun T d h => tysB_ok tys tys_ok T d h, by simp [], by simp []⟩ (by kernel_rfl) Try.func62 rfl (by kernel_rfl) run_F_conf_Config_Reach
/-- (odograph/conf.Config).Fits -/
noncomputable def F_conf_Config_Fits (c_1 : (Int × (Int × (Int × (Int × (Int × (Int × (Int × (Int × (Int × (Int × (Int × (Int × (Int × Int)))))))))))))) (t_2 : ((List (Int × ((List (Int × Int)) × (List Int)))) × (List (Int × (Int × (Int × (Int × Int))))))) : Option (Int × Int) :=
  (F_conf_Config_Check c_1).bind fun t16_3 =>
  (bif (t16_3.1 != (0 : Int)) then
    some (t16_3.1, (0 : Int))
  else
    (F_track_Track_Check t_2).bind fun t24_4 =>
    (bif (t24_4.1 != (0 : Int)) then
      some ((51 : Int), (0 : Int))
    else
      Option.bind (α := (Int × Int) ⊕ Unit) (
        loopO (X := (Int × Int) ⊕ Unit) (fun (s_5 : Int) =>
          let t33_6 : Bool := (decide (s_5 < (t_2.2.length : Int)))
          (bif t33_6 then
            chk none ((decide ((0 : Int) ≤ s_5)) && (decide (s_5 < (t_2.2.length : Int)))) <|
            let t36_7 : (Int × (Int × (Int × (Int × Int)))) := (t_2.2.getD s_5.toNat ((0 : Int), ((0 : Int), ((0 : Int), ((0 : Int), (0 : Int))))))
            chk none ((decide ((0 : Int) ≤ t36_7.2.1)) && (decide (t36_7.2.1 < (t_2.1.length : Int)))) <|
            let e_8 : (Int × ((List (Int × Int)) × (List Int))) := (t_2.1.getD t36_7.2.1.toNat ((0 : Int), ([], [])))
            let t46_9 : Int := (IntKind.wrap .i64 (e_8.1 - t36_7.2.2.1))
            (F_conf_Config_Reach c_1 t36_7).bind fun t49_10 =>
            let t53_11 : Bool := (decide (t36_7.2.2.1 < t49_10))
            let t57_12 : Bool := (decide (t46_9 < t49_10))
            let t58_13 : Bool := (bif t53_11 then true else t57_12)
            (bif t58_13 then
              some (.inr (.inl (s_5, (11 : Int))))
            else
              let t60_14 : Int := (IntKind.wrap .i64 (s_5 + (1 : Int)))
              some (.inl t60_14))
          else
            some (.inr (.inr ())))) (0 : Int)) fun z => match z with
      | .inl r_15 =>
        let t5_16 : Int := r_15.1
        let t4_17 : Int := r_15.2
        some (t4_17, t5_16)
      | .inr _ =>
        some ((0 : Int), (0 : Int))))
noncomputable def con_F_conf_Config_Fits : Con := { f := 39, ps := [.dat (.agg (.pair (.int .i64) (.pair (.int .i64) (.pair (.int .i64) (.pair (.int .i64) (.pair (.int .i64) (.pair (.int .i64) (.pair (.int .i64) (.pair (.int .i64) (.pair (.int .i64) (.pair (.int .i64) (.pair (.int .i64) (.pair (.int .i64) (.pair (.int .i64) (.int .i64))))))))))))))), .dat (.agg (.pair (.slice (.agg (.pair (.int .i64) (.pair (.slice (.agg (.pair (.int .i64) (.int .i64)))) (.slice (.int .i64)))))) (.slice (.agg (.pair (.int .i64) (.pair (.int .i64) (.pair (.int .i64) (.pair (.int .i64) (.int .i64)))))))))], boxes := [], ins := (.pair (.agg (.pair (.int .i64) (.pair (.int .i64) (.pair (.int .i64) (.pair (.int .i64) (.pair (.int .i64) (.pair (.int .i64) (.pair (.int .i64) (.pair (.int .i64) (.pair (.int .i64) (.pair (.int .i64) (.pair (.int .i64) (.pair (.int .i64) (.pair (.int .i64) (.int .i64))))))))))))))) (.agg (.pair (.slice (.agg (.pair (.int .i64) (.pair (.slice (.agg (.pair (.int .i64) (.int .i64)))) (.slice (.int .i64)))))) (.slice (.agg (.pair (.int .i64) (.pair (.int .i64) (.pair (.int .i64) (.pair (.int .i64) (.int .i64)))))))))), nin := 2, outs := (.pair (.int .i64) (.int .i64)), rs := [.dat (.int .i64), .dat (.int .i64)], nout := 2, F := fun x => F_conf_Config_Fits x.1 x.2 }
def hint_F_conf_Config_Fits : Hint := (.mk .plain [H0, (.mk .plain [H0, (.mk .plain [H0, (.mk .plain [(.mk .plain [H0, (.mk .plain [(.mk (.loop [⟨.slot 32, (.int .i64), none⟩] [(0, 36), (0, 42), (0, 39), (0, 45), (0, 48), (0, 54), (0, 51), (0, 57), (0, 5), (0, 11), (0, 35), (0, 38), (0, 41), (0, 47), (0, 44), (0, 50), (0, 53), (0, 59), (0, 56), (0, 4), (0, 10), (0, 13), (0, 34), (0, 40), (0, 37), (0, 43), (0, 46), (0, 52), (0, 49), (0, 55), (0, 58), (0, 12), (0, 33), (0, 60)] [(.ret, [⟨.slot 5, (.int .i64), none⟩, ⟨.slot 4, (.int .i64), none⟩]), (.exit 0, [])]) [])])])])])])])
theorem run_F_conf_Config_Fits : runE ⟨tdGet tys, [con_F_conf_Config_Check, con_F_track_Track_Check, con_F_conf_Config_Reach], []⟩ con_F_conf_Config_Fits Try.f39 hint_F_conf_Config_Fits = con_F_conf_Config_Fits.F := by
  funext x
  kernel_rfl
theorem ok_F_conf_Config_Fits : ConOK Try.prog con_F_conf_Config_Fits :=
  con_of_run (Γ := ⟨tdGet tys, [con_F_conf_Config_Check, con_F_track_Track_Check, con_F_conf_Config_Reach], []⟩) ⟨fun T d h => tysB_ok tys tys_ok T d h, by simp [ok_F_conf_Config_Check, ok_F_track_Track_Check, ok_F_conf_Config_Reach], by simp []⟩ (by kernel_rfl) Try.func39 rfl (by kernel_rfl) run_F_conf_Config_Fits
/-- odograph/odographlaw13.refs -/
noncomputable def F_law13_refs (t_1 : ((List (Int × ((List (Int × Int)) × (List Int)))) × (List (Int × (Int × (Int × (Int × Int))))))) : Option ((List (Int × ((List (Int × Int)) × (List Int)))) × (List (Int × (Int × (Int × (Int × Int)))))) :=
  Option.bind (
    loopO (X := (List (Int × ((List (Int × Int)) × (List Int))))) (fun (s_2 : (Int × (List (Int × ((List (Int × Int)) × (List Int)))))) =>
      let t14_3 : Int := s_2.1
      let b2_4 : (List (Int × ((List (Int × Int)) × (List Int)))) := s_2.2
      let t15_5 : Bool := (decide (t14_3 < (t_1.1.length : Int)))
      (bif t15_5 then
        chk none ((decide ((0 : Int) ≤ t14_3)) && (decide (t14_3 < (t_1.1.length : Int)))) <|
        let t17_6 : (Int × ((List (Int × Int)) × (List Int))) := (t_1.1.getD t14_3.toNat ((0 : Int), ([], [])))
        Option.bind (
          loopO (X := (List (Int × Int))) (fun (s_7 : ((List (Int × Int)) × Int)) =>
            let b4_8 : (List (Int × Int)) := s_7.1
            let t26_9 : Int := s_7.2
            let t27_10 : Bool := (decide (t26_9 < (t17_6.2.1.length : Int)))
            (bif t27_10 then
              chk none ((decide ((0 : Int) ≤ t26_9)) && (decide (t26_9 < (t17_6.2.1.length : Int)))) <|
              let t29_11 : (Int × Int) := (t17_6.2.1.getD t26_9.toNat ((0 : Int), (0 : Int)))
              let t37_12 : (List (Int × Int)) := ([t29_11] : List (Int × Int))
              chk none (decide ((b4_8.length + t37_12.length) * 16 ≤ 140737488355328)) <|
              let t38_13 : (List (Int × Int)) := (b4_8 ++ t37_12)
              let t40_14 : Int := (IntKind.wrap .i64 (t26_9 + (1 : Int)))
              some (.inl (t38_13, t40_14))
            else
              some (.inr b4_8))) ([], (0 : Int))) fun r_15 =>
        let t43_16 : (Int × ((List (Int × Int)) × (List Int))) := (t17_6.1, (r_15, t17_6.2.2))
        let t44_17 : (List (Int × ((List (Int × Int)) × (List Int)))) := ([t43_16] : List (Int × ((List (Int × Int)) × (List Int))))
        chk none (decide ((b2_4.length + t44_17.length) * 56 ≤ 140737488355328)) <|
        let t45_18 : (List (Int × ((List (Int × Int)) × (List Int)))) := (b2_4 ++ t44_17)
        let t47_19 : Int := (IntKind.wrap .i64 (t14_3 + (1 : Int)))
        some (.inl (t47_19, t45_18))
      else
        some (.inr b2_4))) ((0 : Int), [])) fun r_20 =>
  Option.bind (
    loopO (X := (List (Int × (Int × (Int × (Int × Int)))))) (fun (s_21 : ((List (Int × (Int × (Int × (Int × Int))))) × Int)) =>
      let b2_22 : (List (Int × (Int × (Int × (Int × Int))))) := s_21.1
      let t51_23 : Int := s_21.2
      let t52_24 : Bool := (decide (t51_23 < (t_1.2.length : Int)))
      (bif t52_24 then
        chk none ((decide ((0 : Int) ≤ t51_23)) && (decide (t51_23 < (t_1.2.length : Int)))) <|
        let t54_25 : (Int × (Int × (Int × (Int × Int)))) := (t_1.2.getD t51_23.toNat ((0 : Int), ((0 : Int), ((0 : Int), ((0 : Int), (0 : Int))))))
        let t58_26 : (List (Int × (Int × (Int × (Int × Int))))) := ([t54_25] : List (Int × (Int × (Int × (Int × Int)))))
        chk none (decide ((b2_22.length + t58_26.length) * 40 ≤ 140737488355328)) <|
        let t59_27 : (List (Int × (Int × (Int × (Int × Int))))) := (b2_22 ++ t58_26)
        let t61_28 : Int := (IntKind.wrap .i64 (t51_23 + (1 : Int)))
        some (.inl (t59_27, t61_28))
      else
        some (.inr b2_22))) ([], (0 : Int))) fun r_29 =>
  let w_30 : ((List (Int × ((List (Int × Int)) × (List Int)))) × (List (Int × (Int × (Int × (Int × Int)))))) := (r_20, r_29)
  some w_30
noncomputable def con_F_law13_refs : Con := { f := 41, ps := [.dat (.agg (.pair (.slice (.agg (.pair (.int .i64) (.pair (.slice (.agg (.pair (.int .i64) (.int .i64)))) (.slice (.int .i64)))))) (.slice (.agg (.pair (.int .i64) (.pair (.int .i64) (.pair (.int .i64) (.pair (.int .i64) (.int .i64)))))))))], boxes := [], ins := (.agg (.pair (.slice (.agg (.pair (.int .i64) (.pair (.slice (.agg (.pair (.int .i64) (.int .i64)))) (.slice (.int .i64)))))) (.slice (.agg (.pair (.int .i64) (.pair (.int .i64) (.pair (.int .i64) (.pair (.int .i64) (.int .i64))))))))), nin := 1, outs := (.agg (.pair (.slice (.agg (.pair (.int .i64) (.pair (.slice (.agg (.pair (.int .i64) (.int .i64)))) (.slice (.int .i64)))))) (.slice (.agg (.pair (.int .i64) (.pair (.int .i64) (.pair (.int .i64) (.pair (.int .i64) (.int .i64))))))))), rs := [.dat (.agg (.pair (.slice (.agg (.pair (.int .i64) (.pair (.slice (.agg (.pair (.int .i64) (.int .i64)))) (.slice (.int .i64)))))) (.slice (.agg (.pair (.int .i64) (.pair (.int .i64) (.pair (.int .i64) (.pair (.int .i64) (.int .i64)))))))))], nout := 1, F := fun x => F_law13_refs x }
def hint_F_law13_refs : Hint := (.mk .plain [H0, (.mk .plain [H0, (.mk .plain [(.mk .plain [H0, (.mk .plain [(.mk (.loop [⟨.slot 14, (.int .i64), none⟩, ⟨.cell 2 0, (.slice (.agg (.pair (.int .i64) (.pair (.slice (.agg (.pair (.int .i64) (.int .i64)))) (.slice (.int .i64)))))), some 4500104⟩] [(0, 30), (0, 36), (0, 42), (0, 39), (0, 45), (0, 5), (0, 8), (0, 17), (0, 23), (0, 20), (0, 26), (0, 29), (0, 35), (0, 32), (0, 38), (0, 41), (0, 47), (0, 44), (0, 16), (0, 19), (0, 22), (0, 28), (0, 25), (0, 31), (0, 34), (0, 40), (0, 37), (0, 43), (0, 46), (0, 6), (0, 15), (0, 21), (0, 18), (0, 24), (0, 27), (0, 33)] [(.exit 0, [⟨.cell 2 0, (.slice (.agg (.pair (.int .i64) (.pair (.slice (.agg (.pair (.int .i64) (.int .i64)))) (.slice (.int .i64)))))), some 4500104⟩])]) [(.mk .plain [H0, (.mk .plain [H0, (.mk .plain [(.mk .plain [(.mk .plain [H0, (.mk .plain [H0, (.mk .plain [(.mk .plain [H0, (.mk .plain [(.mk (.loop [⟨.cell 4 1, (.slice (.agg (.pair (.int .i64) (.int .i64)))), some 3800107⟩, ⟨.slot 26, (.int .i64), none⟩] [(0, 30), (0, 36), (0, 39), (0, 28), (0, 31), (0, 34), (0, 40), (0, 8), (0, 37), (0, 29), (0, 35), (0, 32), (0, 38), (0, 27), (0, 33)] [(.exit 2, [⟨.cell 4 1, (.slice (.agg (.pair (.int .i64) (.int .i64)))), some 3800107⟩])]) [])])])])])])])])])])])])]), (.mk .plain [(.mk .plain [H0, (.mk .plain [(.mk (.loop [⟨.cell 2 1, (.slice (.agg (.pair (.int .i64) (.pair (.int .i64) (.pair (.int .i64) (.pair (.int .i64) (.int .i64))))))), some 5900101⟩, ⟨.slot 51, (.int .i64), none⟩] [(0, 10), (0, 54), (0, 57), (0, 60), (0, 52), (0, 55), (0, 61), (0, 58), (0, 53), (0, 59), (0, 56)] [(.exit 4, [⟨.cell 2 1, (.slice (.agg (.pair (.int .i64) (.pair (.int .i64) (.pair (.int .i64) (.pair (.int .i64) (.int .i64))))))), some 5900101⟩])]) [])])])])])])])
theorem run_F_law13_refs : runE ⟨tdGet tys, [], []⟩ con_F_law13_refs Try.f41 hint_F_law13_refs = con_F_law13_refs.F := by
  funext x
  kernel_rfl
theorem ok_F_law13_refs : ConOK Try.prog con_F_law13_refs :=
  con_of_run (Γ := ⟨tdGet tys, [], []⟩) ⟨fun T d h => tysB_ok tys tys_ok T d h, by simp [], by simp []⟩ (by kernel_rfl) Try.func41 rfl (by kernel_rfl) run_F_law13_refs
/-- odograph/odographref10.May -/
noncomputable def F_ref10_May (l_1 : (List (Int × Int))) (length_2 : Int) : Option Bool :=
  let t8_3 : Bool := (decide ((l_1.length : Int) < (1 : Int)))
  let t12_4 : Bool := (decide ((64 : Int) < (l_1.length : Int)))
  let t13_5 : Bool := (bif t8_3 then true else t12_4)
  chk none ((true && (decide ((0 : Int) < (l_1.length : Int)))) || !(!t13_5)) <|
  let e_6 : (Int × Int) := (l_1.getD (0 : Int).toNat ((0 : Int), (0 : Int)))
  let t20_7 : Bool := (bif t13_5 then true else (e_6.1 != (0 : Int)))
  (bif t20_7 then
    some false
  else
    Option.bind (α := Bool ⊕ Unit) (
      loopO (X := Bool ⊕ Unit) (fun (s_8 : Int) =>
        let t24_9 : Bool := (decide (s_8 < (l_1.length : Int)))
        (bif t24_9 then
          chk none ((decide ((0 : Int) ≤ s_8)) && (decide (s_8 < (l_1.length : Int)))) <|
          let e_10 : (Int × Int) := (l_1.getD s_8.toNat ((0 : Int), (0 : Int)))
          let t32_11 : Bool := (decide (e_10.2 < (-1048576 : Int)))
          chk none (((decide ((0 : Int) ≤ s_8)) && (decide (s_8 < (l_1.length : Int)))) || !(!t32_11)) <|
          let e_12 : (Int × Int) := (l_1.getD s_8.toNat ((0 : Int), (0 : Int)))
          let t39_13 : Bool := (decide ((1048576 : Int) < e_12.2))
          let t40_14 : Bool := (bif t32_11 then true else t39_13)
          chk none (((decide ((0 : Int) ≤ s_8)) && (decide (s_8 < (l_1.length : Int)))) || !(!t40_14)) <|
          let e_15 : (Int × Int) := (l_1.getD s_8.toNat ((0 : Int), (0 : Int)))
          let t48_16 : Bool := (decide (length_2 ≤ e_15.1))
          let t49_17 : Bool := (bif t40_14 then true else t48_16)
          (bif t49_17 then
            some (.inr (.inl false))
          else
            let t51_18 : Bool := (decide ((0 : Int) < s_8))
            chk none (((decide ((0 : Int) ≤ s_8)) && (decide (s_8 < (l_1.length : Int)))) || !t51_18) <|
            let e_19 : (Int × Int) := (l_1.getD s_8.toNat ((0 : Int), (0 : Int)))
            let t60_20 : Int := (IntKind.wrap .i64 (s_8 - (1 : Int)))
            chk none (((decide ((0 : Int) ≤ t60_20)) && (decide (t60_20 < (l_1.length : Int)))) || !t51_18) <|
            let e_21 : (Int × Int) := (l_1.getD t60_20.toNat ((0 : Int), (0 : Int)))
            let t64_22 : Bool := (decide (e_19.1 ≤ e_21.1))
            let t65_23 : Bool := (bif t51_18 then t64_22 else false)
            (bif t65_23 then
              some (.inr (.inl false))
            else
              let t26_24 : Int := (IntKind.wrap .i64 (s_8 + (1 : Int)))
              some (.inl t26_24)))
        else
          some (.inr (.inr ())))) (0 : Int)) fun z => match z with
    | .inl r_25 =>
      some r_25
    | .inr _ =>
      some true)
noncomputable def con_F_ref10_May : Con := { f := 93, ps := [.dat (.slice (.agg (.pair (.int .i64) (.int .i64)))), .dat (.int .i64)], boxes := [], ins := (.pair (.slice (.agg (.pair (.int .i64) (.int .i64)))) (.int .i64)), nin := 2, outs := .bool, rs := [.dat .bool], nout := 1, F := fun x => F_ref10_May x.1 x.2 }
def hint_F_ref10_May : Hint := (.mk .plain [H0, (.mk .plain [H0, (.mk .plain [(.mk .plain [H0, (.mk .plain [(.mk (.loop [⟨.slot 5, (.int .i64), none⟩] [(0, 30), (0, 36), (0, 42), (0, 4), (0, 39), (0, 45), (0, 48), (0, 22), (0, 28), (0, 31), (0, 34), (0, 40), (0, 37), (0, 43), (0, 46), (0, 23), (0, 49), (0, 29), (0, 35), (0, 32), (0, 38), (0, 41), (0, 47), (0, 44), (0, 21), (0, 24), (0, 27), (0, 33), (0, 54), (0, 51), (0, 57), (0, 60), (0, 63), (0, 26), (0, 50), (0, 53), (0, 59), (0, 56), (0, 62), (0, 65), (0, 25), (0, 52), (0, 55), (0, 61), (0, 58), (0, 64)] [(.ret, [⟨.slot 4, .bool, none⟩]), (.exit 0, [])]) [])])])])])])
theorem run_F_ref10_May : runE ⟨tdGet tys, [], []⟩ con_F_ref10_May Try.f93 hint_F_ref10_May = con_F_ref10_May.F := by
  funext x
  kernel_rfl
theorem ok_F_ref10_May : ConOK Try.prog con_F_ref10_May :=
  con_of_run (Γ := ⟨tdGet tys, [], []⟩) ⟨fun T d h => tysB_ok tys tys_ok T d h, by simp [], by simp []⟩ (by kernel_rfl) Try.func93 rfl (by kernel_rfl) run_F_ref10_May
/-- odograph/odographref11.segment -/
noncomputable def F_ref11_segment (s_1 : (Int × ((List (Int × Int)) × (List Int)))) (many_2 : Int) : Option Bool :=
  let t8_3 : Bool := (decide (s_1.1 < (1 : Int)))
  let t12_4 : Bool := (decide ((1099511627776 : Int) < s_1.1))
  let t13_5 : Bool := (bif t8_3 then true else t12_4)
  (bif !t13_5 then F_ref10_May s_1.2.1 s_1.1 else some false).bind fun t19_6 =>
  let t21_7 : Bool := (bif t13_5 then true else (!t19_6))
  let t26_8 : Bool := (decide ((2 : Int) < (s_1.2.2.length : Int)))
  let t27_9 : Bool := (bif t21_7 then true else t26_8)
  (bif t27_9 then
    some false
  else
    Option.bind (α := Bool ⊕ Unit) (
      loopO (X := Bool ⊕ Unit) (fun (s_10 : Int) =>
        let t32_11 : Bool := (decide (s_10 < (s_1.2.2.length : Int)))
        (bif t32_11 then
          chk none ((decide ((0 : Int) ≤ s_10)) && (decide (s_10 < (s_1.2.2.length : Int)))) <|
          let t39_12 : Int := (s_1.2.2.getD s_10.toNat (0 : Int))
          let t40_13 : Bool := (decide (t39_12 < (0 : Int)))
          chk none (((decide ((0 : Int) ≤ s_10)) && (decide (s_10 < (s_1.2.2.length : Int)))) || !(!t40_13)) <|
          let t46_14 : Int := (s_1.2.2.getD s_10.toNat (0 : Int))
          let t48_15 : Bool := (decide (many_2 ≤ t46_14))
          let t49_16 : Bool := (bif t40_13 then true else t48_15)
          (bif t49_16 then
            some (.inr (.inl false))
          else
            let t34_17 : Int := (IntKind.wrap .i64 (s_10 + (1 : Int)))
            some (.inl t34_17))
        else
          some (.inr (.inr ())))) (0 : Int)) fun z => match z with
    | .inl r_18 =>
      some r_18
    | .inr _ =>
      let t53_19 : Bool := (decide ((s_1.2.2.length : Int) < (2 : Int)))
      chk none ((true && (decide ((0 : Int) < (s_1.2.2.length : Int)))) || !(!t53_19)) <|
      let t58_20 : Int := (s_1.2.2.getD (0 : Int).toNat (0 : Int))
      chk none ((true && (decide ((1 : Int) < (s_1.2.2.length : Int)))) || !(!t53_19)) <|
      let t62_21 : Int := (s_1.2.2.getD (1 : Int).toNat (0 : Int))
      let t63_22 : Bool := (decide (t58_20 < t62_21))
      let t64_23 : Bool := (bif t53_19 then true else t63_22)
      some t64_23)
noncomputable def con_F_ref11_segment : Con := { f := 86, ps := [.dat (.agg (.pair (.int .i64) (.pair (.slice (.agg (.pair (.int .i64) (.int .i64)))) (.slice (.int .i64))))), .dat (.int .i64)], boxes := [], ins := (.pair (.agg (.pair (.int .i64) (.pair (.slice (.agg (.pair (.int .i64) (.int .i64)))) (.slice (.int .i64))))) (.int .i64)), nin := 2, outs := .bool, rs := [.dat .bool], nout := 1, F := fun x => F_ref11_segment x.1 x.2 }
def hint_F_ref11_segment : Hint := (.mk .plain [H0, (.mk .plain [H0, (.mk .plain [(.mk .plain [H0, (.mk .plain [(.mk (.loop [⟨.slot 5, (.int .i64), none⟩] [(0, 30), (0, 36), (0, 42), (0, 4), (0, 39), (0, 45), (0, 48), (0, 28), (0, 31), (0, 40), (0, 37), (0, 43), (0, 46), (0, 49), (0, 29), (0, 35), (0, 32), (0, 38), (0, 41), (0, 47), (0, 44), (0, 34), (0, 33)] [(.ret, [⟨.slot 4, .bool, none⟩]), (.exit 0, [])]) [])])])])])])
theorem run_F_ref11_segment : runE ⟨tdGet tys, [con_F_ref10_May], []⟩ con_F_ref11_segment Try.f86 hint_F_ref11_segment = con_F_ref11_segment.F := by
  funext x
  kernel_rfl
theorem ok_F_ref11_segment : ConOK Try.prog con_F_ref11_segment :=
  con_of_run (Γ := ⟨tdGet tys, [con_F_ref10_May], []⟩) ⟨fun T d h => tysB_ok tys tys_ok T d h, by simp [ok_F_ref10_May], by simp []⟩ (by kernel_rfl) Try.func86 rfl (by kernel_rfl) run_F_ref11_segment
/-- odograph/odographref11.Check -/
noncomputable def F_ref11_Check (t_1 : ((List (Int × ((List (Int × Int)) × (List Int)))) × (List (Int × (Int × (Int × (Int × Int))))))) : Option (Int × Int) :=
  let t11_2 : Bool := (decide ((t_1.1.length : Int) < (1 : Int)))
  let t16_3 : Bool := (decide ((200 : Int) < (t_1.1.length : Int)))
  let t17_4 : Bool := (bif t11_2 then true else t16_3)
  let t22_5 : Bool := (decide ((400 : Int) < (t_1.2.length : Int)))
  let t23_6 : Bool := (bif t17_4 then true else t22_5)
  (bif t23_6 then
    some ((13 : Int), (0 : Int))
  else
    Option.bind (α := (Int × Int) ⊕ Unit) (
      loopO (X := (Int × Int) ⊕ Unit) (fun (s_7 : Int) =>
        let t28_8 : Bool := (decide (s_7 < (t_1.1.length : Int)))
        (bif t28_8 then
          chk none ((decide ((0 : Int) ≤ s_7)) && (decide (s_7 < (t_1.1.length : Int)))) <|
          let t35_9 : (Int × ((List (Int × Int)) × (List Int))) := (t_1.1.getD s_7.toNat ((0 : Int), ([], [])))
          (F_ref11_segment t35_9 (t_1.1.length : Int)).bind fun t39_10 =>
          (bif (!t39_10) then
            some (.inr (.inl (s_7, (11 : Int))))
          else
            let t30_11 : Int := (IntKind.wrap .i64 (s_7 + (1 : Int)))
            some (.inl t30_11))
        else
          some (.inr (.inr ())))) (0 : Int)) fun z => match z with
    | .inl r_12 =>
      let t3_13 : Int := r_12.1
      let t2_14 : Int := r_12.2
      some (t2_14, t3_13)
    | .inr _ =>
      Option.bind (α := (Int × Int) ⊕ Unit) (
        loopO (X := (Int × Int) ⊕ Unit) (fun (s_15 : (Int × Int)) =>
          let last_16 : Int := s_15.1
          let i_17 : Int := s_15.2
          let t46_18 : Bool := (decide (i_17 < (t_1.2.length : Int)))
          (bif t46_18 then
            chk none ((decide ((0 : Int) ≤ i_17)) && (decide (i_17 < (t_1.2.length : Int)))) <|
            let t53_19 : (Int × (Int × (Int × (Int × Int)))) := (t_1.2.getD i_17.toNat ((0 : Int), ((0 : Int), ((0 : Int), ((0 : Int), (0 : Int))))))
            let t57_20 : Bool := (decide (t53_19.1 ≤ last_16))
            let t61_21 : Bool := (decide ((65535 : Int) < t53_19.1))
            let t62_22 : Bool := (bif t57_20 then true else t61_21)
            let t66_23 : Bool := (decide (t53_19.2.1 < (0 : Int)))
            let t67_24 : Bool := (bif t62_22 then true else t66_23)
            let t74_25 : Bool := (decide ((t_1.1.length : Int) ≤ t53_19.2.1))
            let t75_26 : Bool := (bif t67_24 then true else t74_25)
            (bif t75_26 then
              some (.inr (.inl ((16 : Int), i_17)))
            else
              let t79_27 : Bool := (decide (t53_19.2.2.1 < (0 : Int)))
              chk none (((decide ((0 : Int) ≤ t53_19.2.1)) && (decide (t53_19.2.1 < (t_1.1.length : Int)))) || !(!t79_27)) <|
              let e_28 : (Int × ((List (Int × Int)) × (List Int))) := (t_1.1.getD t53_19.2.1.toNat ((0 : Int), ([], [])))
              let t90_29 : Bool := (decide (e_28.1 < t53_19.2.2.1))
              let t91_30 : Bool := (bif t79_27 then true else t90_29)
              let t95_31 : Bool := (decide (t53_19.2.2.2.1 < (0 : Int)))
              let t96_32 : Bool := (bif t91_30 then true else t95_31)
              let t100_33 : Bool := (decide ((1048576 : Int) < t53_19.2.2.2.1))
              let t101_34 : Bool := (bif t96_32 then true else t100_33)
              let t105_35 : Bool := (decide (t53_19.2.2.2.2 < (0 : Int)))
              let t106_36 : Bool := (bif t101_34 then true else t105_35)
              let t110_37 : Bool := (decide ((16777216 : Int) < t53_19.2.2.2.2))
              let t111_38 : Bool := (bif t106_36 then true else t110_37)
              (bif t111_38 then
                some (.inr (.inl ((16 : Int), i_17)))
              else
                let t48_39 : Int := (IntKind.wrap .i64 (i_17 + (1 : Int)))
                some (.inl (t53_19.1, t48_39))))
          else
            some (.inr (.inr ())))) ((0 : Int), (0 : Int))) fun z => match z with
      | .inl r_40 =>
        let t2_41 : Int := r_40.1
        let t3_42 : Int := r_40.2
        some (t2_41, t3_42)
      | .inr _ =>
        some ((0 : Int), (0 : Int)))
noncomputable def con_F_ref11_Check : Con := { f := 63, ps := [.dat (.agg (.pair (.slice (.agg (.pair (.int .i64) (.pair (.slice (.agg (.pair (.int .i64) (.int .i64)))) (.slice (.int .i64)))))) (.slice (.agg (.pair (.int .i64) (.pair (.int .i64) (.pair (.int .i64) (.pair (.int .i64) (.int .i64)))))))))], boxes := [], ins := (.agg (.pair (.slice (.agg (.pair (.int .i64) (.pair (.slice (.agg (.pair (.int .i64) (.int .i64)))) (.slice (.int .i64)))))) (.slice (.agg (.pair (.int .i64) (.pair (.int .i64) (.pair (.int .i64) (.pair (.int .i64) (.int .i64))))))))), nin := 1, outs := (.pair (.int .i64) (.int .i64)), rs := [.dat (.int .i64), .dat (.int .i64)], nout := 2, F := fun x => F_ref11_Check x }
def hint_F_ref11_Check : Hint := (.mk .plain [H0, (.mk .plain [H0, (.mk .plain [(.mk .plain [H0, (.mk .plain [(.mk (.loop [⟨.slot 4, (.int .i64), none⟩] [(0, 36), (0, 26), (0, 39), (0, 35), (0, 3), (0, 32), (0, 38), (0, 28), (0, 41), (0, 2), (0, 31), (0, 25), (0, 34), (0, 40), (0, 24), (0, 37), (0, 27), (0, 33), (0, 30), (0, 29)] [(.ret, [⟨.slot 3, (.int .i64), none⟩, ⟨.slot 2, (.int .i64), none⟩]), (.exit 0, [])]) [])])]), (.mk .plain [H0, (.mk .plain [(.mk .plain [H0, (.mk .plain [(.mk (.loop [⟨.slot 5, (.int .i64), none⟩, ⟨.slot 6, (.int .i64), none⟩] [(0, 42), (0, 45), (0, 54), (0, 51), (0, 57), (0, 2), (0, 60), (0, 66), (0, 63), (0, 69), (0, 72), (0, 75), (0, 44), (0, 50), (0, 53), (0, 59), (0, 56), (0, 62), (0, 68), (0, 7), (0, 65), (0, 71), (0, 74), (0, 43), (0, 46), (0, 52), (0, 49), (0, 55), (0, 61), (0, 58), (0, 64), (0, 3), (0, 67), (0, 73), (0, 70), (0, 76), (0, 91), (0, 100), (0, 109), (0, 78), (0, 87), (0, 84), (0, 93), (0, 102), (0, 111), (0, 108), (0, 80), (0, 77), (0, 86), (0, 95), (0, 104), (0, 101), (0, 110), (0, 79), (0, 88), (0, 97), (0, 94), (0, 106), (0, 103), (0, 112), (0, 81), (0, 90), (0, 99), (0, 96), (0, 105), (0, 83), (0, 92), (0, 89), (0, 98), (0, 107), (0, 85), (0, 82), (0, 47), (0, 113), (0, 48), (0, 114)] [(.ret, [⟨.slot 2, (.int .i64), none⟩, ⟨.slot 3, (.int .i64), none⟩]), (.exit 2, [])]) [])])])])])])])])
theorem run_F_ref11_Check : runE ⟨tdGet tys, [con_F_ref11_segment], []⟩ con_F_ref11_Check Try.f63 hint_F_ref11_Check = con_F_ref11_Check.F := by
  funext x
  kernel_rfl
theorem ok_F_ref11_Check : ConOK Try.prog con_F_ref11_Check :=
  con_of_run (Γ := ⟨tdGet tys, [con_F_ref11_segment], []⟩) ⟨fun T d h => tysB_ok tys tys_ok T d h, by simp [ok_F_ref11_segment], by simp []⟩ (by kernel_rfl) Try.func63 rfl (by kernel_rfl) run_F_ref11_Check
/-- odograph/odographref13.Fits -/
noncomputable def F_ref13_Fits (c_1 : (Int × (Int × (Int × (Int × (Int × (Int × (Int × (Int × (Int × (Int × (Int × (Int × (Int × Int)))))))))))))) (t_2 : ((List (Int × ((List (Int × Int)) × (List Int)))) × (List (Int × (Int × (Int × (Int × Int))))))) : Option (Int × Int) :=
  (F_ref13_Wrong c_1).bind fun t12_3 =>
  (bif (t12_3 != (0 : Int)) then
    some ((50 : Int), (0 : Int))
  else
    (F_ref11_Check t_2).bind fun t16_4 =>
    (bif (t16_4.1 != (0 : Int)) then
      some ((51 : Int), (0 : Int))
    else
      Option.bind (α := (Int × Int) ⊕ Unit) (
        loopO (X := (Int × Int) ⊕ Unit) (fun (s_5 : Int) =>
          let t25_6 : Bool := (decide (s_5 < (t_2.2.length : Int)))
          (bif t25_6 then
            chk none ((decide ((0 : Int) ≤ s_5)) && (decide (s_5 < (t_2.2.length : Int)))) <|
            let t32_7 : (Int × (Int × (Int × (Int × Int)))) := (t_2.2.getD s_5.toNat ((0 : Int), ((0 : Int), ((0 : Int), ((0 : Int), (0 : Int))))))
            let t37_8 : Int := (IntKind.wrap .i64 (t32_7.2.2.2.1 + c_1.2.2.2.2.2.2.2.2.1))
            let t40_9 : Int := (IntKind.wrap .i64 (t37_8 + c_1.2.2.2.2.2.2.1))
            let t44_10 : Bool := (decide (t32_7.2.2.1 < t40_9))
            chk none (((decide ((0 : Int) ≤ t32_7.2.1)) && (decide (t32_7.2.1 < (t_2.1.length : Int)))) || !(!t44_10)) <|
            let e_11 : (Int × ((List (Int × Int)) × (List Int))) := (t_2.1.getD t32_7.2.1.toNat ((0 : Int), ([], [])))
            let t55_12 : Int := (IntKind.wrap .i64 (e_11.1 - t32_7.2.2.1))
            let t57_13 : Bool := (decide (t55_12 < t40_9))
            let t58_14 : Bool := (bif t44_10 then true else t57_13)
            (bif t58_14 then
              some (.inr (.inl (s_5, (11 : Int))))
            else
              let t27_15 : Int := (IntKind.wrap .i64 (s_5 + (1 : Int)))
              some (.inl t27_15))
          else
            some (.inr (.inr ())))) (0 : Int)) fun z => match z with
      | .inl r_16 =>
        let t5_17 : Int := r_16.1
        let t4_18 : Int := r_16.2
        some (t4_18, t5_17)
      | .inr _ =>
        some ((0 : Int), (0 : Int))))
noncomputable def con_F_ref13_Fits : Con := { f := 40, ps := [.dat (.agg (.pair (.int .i64) (.pair (.int .i64) (.pair (.int .i64) (.pair (.int .i64) (.pair (.int .i64) (.pair (.int .i64) (.pair (.int .i64) (.pair (.int .i64) (.pair (.int .i64) (.pair (.int .i64) (.pair (.int .i64) (.pair (.int .i64) (.pair (.int .i64) (.int .i64))))))))))))))), .dat (.agg (.pair (.slice (.agg (.pair (.int .i64) (.pair (.slice (.agg (.pair (.int .i64) (.int .i64)))) (.slice (.int .i64)))))) (.slice (.agg (.pair (.int .i64) (.pair (.int .i64) (.pair (.int .i64) (.pair (.int .i64) (.int .i64)))))))))], boxes := [], ins := (.pair (.agg (.pair (.int .i64) (.pair (.int .i64) (.pair (.int .i64) (.pair (.int .i64) (.pair (.int .i64) (.pair (.int .i64) (.pair (.int .i64) (.pair (.int .i64) (.pair (.int .i64) (.pair (.int .i64) (.pair (.int .i64) (.pair (.int .i64) (.pair (.int .i64) (.int .i64))))))))))))))) (.agg (.pair (.slice (.agg (.pair (.int .i64) (.pair (.slice (.agg (.pair (.int .i64) (.int .i64)))) (.slice (.int .i64)))))) (.slice (.agg (.pair (.int .i64) (.pair (.int .i64) (.pair (.int .i64) (.pair (.int .i64) (.int .i64)))))))))), nin := 2, outs := (.pair (.int .i64) (.int .i64)), rs := [.dat (.int .i64), .dat (.int .i64)], nout := 2, F := fun x => F_ref13_Fits x.1 x.2 }
def hint_F_ref13_Fits : Hint := (.mk .plain [H0, (.mk .plain [H0, (.mk .plain [H0, (.mk .plain [H0, (.mk .plain [(.mk .plain [H0, (.mk .plain [(.mk (.loop [⟨.slot 8, (.int .i64), none⟩] [(0, 30), (0, 36), (0, 42), (0, 39), (0, 45), (0, 48), (0, 54), (0, 51), (0, 57), (0, 5), (0, 23), (0, 29), (0, 35), (0, 32), (0, 38), (0, 41), (0, 47), (0, 44), (0, 50), (0, 53), (0, 59), (0, 56), (0, 4), (0, 10), (0, 22), (0, 28), (0, 25), (0, 31), (0, 34), (0, 40), (0, 37), (0, 43), (0, 46), (0, 52), (0, 49), (0, 55), (0, 58), (0, 9), (0, 21), (0, 24), (0, 33), (0, 26), (0, 27)] [(.ret, [⟨.slot 5, (.int .i64), none⟩, ⟨.slot 4, (.int .i64), none⟩]), (.exit 0, [])]) [])])])])])])])])
theorem run_F_ref13_Fits : runE ⟨tdGet tys, [con_F_ref13_Wrong, con_F_ref11_Check], []⟩ con_F_ref13_Fits Try.f40 hint_F_ref13_Fits = con_F_ref13_Fits.F := by
  funext x
  kernel_rfl
theorem ok_F_ref13_Fits : ConOK Try.prog con_F_ref13_Fits :=
  con_of_run (Γ := ⟨tdGet tys, [con_F_ref13_Wrong, con_F_ref11_Check], []⟩) ⟨fun T d h => tysB_ok tys tys_ok T d h, by simp [ok_F_ref13_Wrong, ok_F_ref11_Check], by simp []⟩ (by kernel_rfl) Try.func40 rfl (by kernel_rfl) run_F_ref13_Fits
/-- odograph/odographlaw13.ConfFits -/
noncomputable def F_law13_ConfFits (c_1 : (Int × (Int × (Int × (Int × (Int × (Int × (Int × (Int × (Int × (Int × (Int × (Int × (Int × Int)))))))))))))) (t_2 : ((List (Int × ((List (Int × Int)) × (List Int)))) × (List (Int × (Int × (Int × (Int × Int))))))) : Option Bool :=
  (F_law13_anchor ()).bind fun t9_3 =>
  (bif (!t9_3) then
    some false
  else
    (F_law13_great t_2).bind fun t12_4 =>
    (bif t12_4 then
      some true
    else
      (F_conf_Config_Fits c_1 t_2).bind fun t16_5 =>
      (F_law13_refs t_2).bind fun t22_6 =>
      (F_ref13_Fits c_1 t22_6).bind fun t23_7 =>
      let t33_8 : Bool := (bif (t16_5.1 == t23_7.1) then (t16_5.2 == t23_7.2) else false)
      some t33_8))
noncomputable def con_F_law13_ConfFits : Con := { f := 15, ps := [.dat (.agg (.pair (.int .i64) (.pair (.int .i64) (.pair (.int .i64) (.pair (.int .i64) (.pair (.int .i64) (.pair (.int .i64) (.pair (.int .i64) (.pair (.int .i64) (.pair (.int .i64) (.pair (.int .i64) (.pair (.int .i64) (.pair (.int .i64) (.pair (.int .i64) (.int .i64))))))))))))))), .dat (.agg (.pair (.slice (.agg (.pair (.int .i64) (.pair (.slice (.agg (.pair (.int .i64) (.int .i64)))) (.slice (.int .i64)))))) (.slice (.agg (.pair (.int .i64) (.pair (.int .i64) (.pair (.int .i64) (.pair (.int .i64) (.int .i64)))))))))], boxes := [], ins := (.pair (.agg (.pair (.int .i64) (.pair (.int .i64) (.pair (.int .i64) (.pair (.int .i64) (.pair (.int .i64) (.pair (.int .i64) (.pair (.int .i64) (.pair (.int .i64) (.pair (.int .i64) (.pair (.int .i64) (.pair (.int .i64) (.pair (.int .i64) (.pair (.int .i64) (.int .i64))))))))))))))) (.agg (.pair (.slice (.agg (.pair (.int .i64) (.pair (.slice (.agg (.pair (.int .i64) (.int .i64)))) (.slice (.int .i64)))))) (.slice (.agg (.pair (.int .i64) (.pair (.int .i64) (.pair (.int .i64) (.pair (.int .i64) (.int .i64)))))))))), nin := 2, outs := .bool, rs := [.dat .bool], nout := 1, F := fun x => F_law13_ConfFits x.1 x.2 }
def hint_F_law13_ConfFits : Hint := H0
theorem run_F_law13_ConfFits : runE ⟨tdGet tys, [con_F_law13_anchor, con_F_law13_great, con_F_conf_Config_Fits, con_F_law13_refs, con_F_ref13_Fits], []⟩ con_F_law13_ConfFits Try.f15 hint_F_law13_ConfFits = con_F_law13_ConfFits.F := by
  funext x
  kernel_rfl
theorem ok_F_law13_ConfFits : ConOK Try.prog con_F_law13_ConfFits :=
  con_of_run (Γ := ⟨tdGet tys, [con_F_law13_anchor, con_F_law13_great, con_F_conf_Config_Fits, con_F_law13_refs, con_F_ref13_Fits], []⟩) ⟨fun T d h => tysB_ok tys tys_ok T d h, by simp [ok_F_law13_anchor, ok_F_law13_great, ok_F_conf_Config_Fits, ok_F_law13_refs, ok_F_ref13_Fits], by simp []⟩ (by kernel_rfl) Try.func15 rfl (by kernel_rfl) run_F_law13_ConfFits
end Go.Proofs.Ytbgdgpdfaebniaa
