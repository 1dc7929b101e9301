/- The functional reading of the code (printed). -/
import Derived.Test.YtlkcanjbgaeceaaGreatTysZ
set_option linter.unusedSimpArgs false
set_option linter.unusedVariables false
namespace Go.Proofs.YtlkcanjbgaeceaaGreat
open Go
abbrev dI : PT := .dat (.int .i64)
abbrev oI : OP := .dat (.int .i64)
noncomputable def F_conf_Config_rules (c_1 : Yd460) : Option Yd460 :=
 some (c_1.1, c_1.2.1, c_1.2.2.1, c_1.2.2.2.1, c_1.2.2.2.2.1, c_1.2.2.2.2.2.1, c_1.2.2.2.2.2.2.1, c_1.2.2.2.2.2.2.2.1, c_1.2.2.2.2.2.2.2.2.1, c_1.2.2.2.2.2.2.2.2.2.1, c_1.2.2.2.2.2.2.2.2.2.2.1, c_1.2.2.2.2.2.2.2.2.2.2.2.1, c_1.2.2.2.2.2.2.2.2.2.2.2.2.1, c_1.2.2.2.2.2.2.2.2.2.2.2.2.2)
noncomputable def con_F_conf_Config_rules : NCon := { f := 42, ps := [.dat (.agg Yt460)], ins := (.agg Yt460), nin := 1, outs := Yt460, rs := [.sl [.clo 59 [] [.ref 0 0], .clo 61 [] [.ref 0 0], .clo 62 [] [.ref 0 0], .clo 63 [] [.ref 0 0], .clo 64 [] [.ref 0 0], .clo 65 [] [.ref 0 0], .clo 66 [] [.ref 0 0], .clo 67 [] [.ref 0 0], .clo 68 [] [.ref 0 0], .clo 69 [] [.ref 0 0], .clo 71 [] [.ref 0 0], .clo 72 [] [.ref 0 0]]], new := [dI, dI, dI, dI, dI, dI, dI, dI, dI, dI, dI, dI, dI, dI], nout := 14, F := fun x => F_conf_Config_rules x }
def hint_F_conf_Config_rules : Hint := H0
theorem run_F_conf_Config_rules : runN ⟨tdGet tys, [], [], [], []⟩ con_F_conf_Config_rules Tryz.f42 hint_F_conf_Config_rules = con_F_conf_Config_rules.F := by
 funext x
 kernel_rfl
theorem ok_F_conf_Config_rules : NOK Tryz.prog con_F_conf_Config_rules :=
 ncon_of_run (Γ := ⟨tdGet tys, [], [], [], []⟩) ⟨fun T d h => tysB_ok tys tys_ok T d h, by simp [], by simp [], by simp [], ptrs_ok Tryz.prog [] (by kernel_rfl)⟩ (by kernel_rfl) Tryz.func42 rfl (by kernel_rfl) run_F_conf_Config_rules
noncomputable def F_conf_within (x_1 : Int) (lo_2 : Int) (hi_3 : Int) : Option Bool :=
 let t14_4 := (bif (decide (lo_2 ≤ x_1)) then (decide (x_1 ≤ hi_3)) else false)
 some t14_4
noncomputable def con_F_conf_within : Con := { f := 60, ps := [dI, dI, dI], boxes := [], ins := (.pair (.int .i64) (.pair (.int .i64) (.int .i64))), nin := 3, outs := .bool, rs := [.dat .bool], nout := 1, F := fun x => F_conf_within x.1 x.2.1 x.2.2 }
def hint_F_conf_within : Hint := H0
theorem run_F_conf_within : runE ⟨tdGet tys, [], [], [], []⟩ con_F_conf_within Tryz.f60 hint_F_conf_within = con_F_conf_within.F := by
 funext x
 kernel_rfl
theorem ok_F_conf_within : ConOK Tryz.prog con_F_conf_within :=
 con_of_run (Γ := ⟨tdGet tys, [], [], [], []⟩) ⟨fun T d h => tysB_ok tys tys_ok T d h, by simp [], by simp [], by simp [], ptrs_ok Tryz.prog [] (by kernel_rfl)⟩ (by kernel_rfl) Tryz.func60 rfl (by kernel_rfl) run_F_conf_within
noncomputable def F_conf_Config_rules_1 (x_1 : Int) (x_2 : Int) (x_3 : Int) (x_4 : Int) (x_5 : Int) (x_6 : Int) (x_7 : Int) (x_8 : Int) (x_9 : Int) (x_10 : Int) (x_11 : Int) (x_12 : Int) (x_13 : Int) (x_14 : Int) : Option Yd461 :=
 (F_conf_within x_1 (1 : Int) (1024 : Int)).bind fun t4_15 =>
 some (t4_15, x_1, x_2, x_3, x_4, x_5, x_6, x_7, x_8, x_9, x_10, x_11, x_12, x_13, x_14)
noncomputable def con_F_conf_Config_rules_1 : Con := { f := 59, ps := [.ref 0 0], boxes := [[dI, dI, dI, dI, dI, dI, dI, dI, dI, dI, dI, dI, dI, dI]], ins := Yt460, nin := 14, outs := Yt461, rs := [.dat .bool], nout := 15, F := fun x => let a := x.2.2.2.2.2.2.2.2; F_conf_Config_rules_1 x.1 x.2.1 x.2.2.1 x.2.2.2.1 x.2.2.2.2.1 x.2.2.2.2.2.1 x.2.2.2.2.2.2.1 x.2.2.2.2.2.2.2.1 x.2.2.2.2.2.2.2.2.1 a.2.1 a.2.2.1 a.2.2.2.1 a.2.2.2.2.1 a.2.2.2.2.2 }
def hint_F_conf_Config_rules_1 : Hint := H0
theorem run_F_conf_Config_rules_1 : runE ⟨tdGet tys, [con_F_conf_within], [], [], []⟩ con_F_conf_Config_rules_1 Tryz.f59 hint_F_conf_Config_rules_1 = con_F_conf_Config_rules_1.F := by
 funext x
 kernel_rfl
theorem ok_F_conf_Config_rules_1 : ConOK Tryz.prog con_F_conf_Config_rules_1 :=
 con_of_run (Γ := ⟨tdGet tys, [con_F_conf_within], [], [], []⟩) ⟨fun T d h => tysB_ok tys tys_ok T d h, by simp [ok_F_conf_within], by simp [], by simp [], ptrs_ok Tryz.prog [] (by kernel_rfl)⟩ (by kernel_rfl) Tryz.func59 rfl (by kernel_rfl) run_F_conf_Config_rules_1
noncomputable def F_conf_Config_rules_2 (x_1 : Int) (x_2 : Int) (x_3 : Int) (x_4 : Int) (x_5 : Int) (x_6 : Int) (x_7 : Int) (x_8 : Int) (x_9 : Int) (x_10 : Int) (x_11 : Int) (x_12 : Int) (x_13 : Int) (x_14 : Int) : Option Yd461 :=
 (F_conf_within x_2 (131072 : Int) (8388608 : Int)).bind fun t4_15 =>
 (bif t4_15 then F_conf_within x_3 x_2 (8388608 : Int) else some false).bind fun t10_16 =>
 let t11_17 := (bif t4_15 then t10_16 else false)
 some (t11_17, x_1, x_2, x_3, x_4, x_5, x_6, x_7, x_8, x_9, x_10, x_11, x_12, x_13, x_14)
noncomputable def con_F_conf_Config_rules_2 : Con := { f := 61, ps := [.ref 0 0], boxes := [[dI, dI, dI, dI, dI, dI, dI, dI, dI, dI, dI, dI, dI, dI]], ins := Yt460, nin := 14, outs := Yt461, rs := [.dat .bool], nout := 15, F := fun x => let a := x.2.2.2.2.2.2.2.2; F_conf_Config_rules_2 x.1 x.2.1 x.2.2.1 x.2.2.2.1 x.2.2.2.2.1 x.2.2.2.2.2.1 x.2.2.2.2.2.2.1 x.2.2.2.2.2.2.2.1 x.2.2.2.2.2.2.2.2.1 a.2.1 a.2.2.1 a.2.2.2.1 a.2.2.2.2.1 a.2.2.2.2.2 }
def hint_F_conf_Config_rules_2 : Hint := H0
theorem run_F_conf_Config_rules_2 : runE ⟨tdGet tys, [con_F_conf_within], [], [], []⟩ con_F_conf_Config_rules_2 Tryz.f61 hint_F_conf_Config_rules_2 = con_F_conf_Config_rules_2.F := by
 funext x
 kernel_rfl
theorem ok_F_conf_Config_rules_2 : ConOK Tryz.prog con_F_conf_Config_rules_2 :=
 con_of_run (Γ := ⟨tdGet tys, [con_F_conf_within], [], [], []⟩) ⟨fun T d h => tysB_ok tys tys_ok T d h, by simp [ok_F_conf_within], by simp [], by simp [], ptrs_ok Tryz.prog [] (by kernel_rfl)⟩ (by kernel_rfl) Tryz.func61 rfl (by kernel_rfl) run_F_conf_Config_rules_2
noncomputable def F_conf_Config_rules_3 (x_1 : Int) (x_2 : Int) (x_3 : Int) (x_4 : Int) (x_5 : Int) (x_6 : Int) (x_7 : Int) (x_8 : Int) (x_9 : Int) (x_10 : Int) (x_11 : Int) (x_12 : Int) (x_13 : Int) (x_14 : Int) : Option Yd461 :=
 let t6_15 := (IntKind.wrap .i64 (x_3 - x_2))
 let t7_16 := (IntKind.wrap .i64 ((16 : Int) * t6_15))
 some ((decide (t7_16 ≤ x_2)), x_1, x_2, x_3, x_4, x_5, x_6, x_7, x_8, x_9, x_10, x_11, x_12, x_13, x_14)
noncomputable def con_F_conf_Config_rules_3 : Con := { f := 62, ps := [.ref 0 0], boxes := [[dI, dI, dI, dI, dI, dI, dI, dI, dI, dI, dI, dI, dI, dI]], ins := Yt460, nin := 14, outs := Yt461, rs := [.dat .bool], nout := 15, F := fun x => let a := x.2.2.2.2.2.2.2.2; F_conf_Config_rules_3 x.1 x.2.1 x.2.2.1 x.2.2.2.1 x.2.2.2.2.1 x.2.2.2.2.2.1 x.2.2.2.2.2.2.1 x.2.2.2.2.2.2.2.1 x.2.2.2.2.2.2.2.2.1 a.2.1 a.2.2.1 a.2.2.2.1 a.2.2.2.2.1 a.2.2.2.2.2 }
def hint_F_conf_Config_rules_3 : Hint := H0
theorem run_F_conf_Config_rules_3 : runE ⟨tdGet tys, [], [], [], []⟩ con_F_conf_Config_rules_3 Tryz.f62 hint_F_conf_Config_rules_3 = con_F_conf_Config_rules_3.F := by
 funext x
 kernel_rfl
theorem ok_F_conf_Config_rules_3 : ConOK Tryz.prog con_F_conf_Config_rules_3 :=
 con_of_run (Γ := ⟨tdGet tys, [], [], [], []⟩) ⟨fun T d h => tysB_ok tys tys_ok T d h, by simp [], by simp [], by simp [], ptrs_ok Tryz.prog [] (by kernel_rfl)⟩ (by kernel_rfl) Tryz.func62 rfl (by kernel_rfl) run_F_conf_Config_rules_3
noncomputable def F_conf_Config_rules_4 (x_1 : Int) (x_2 : Int) (x_3 : Int) (x_4 : Int) (x_5 : Int) (x_6 : Int) (x_7 : Int) (x_8 : Int) (x_9 : Int) (x_10 : Int) (x_11 : Int) (x_12 : Int) (x_13 : Int) (x_14 : Int) : Option Yd461 :=
 (F_conf_within x_4 (0 : Int) (1048576 : Int)).bind fun t4_15 =>
 (bif t4_15 then F_conf_within x_5 (0 : Int) (65536 : Int) else some false).bind fun t8_16 =>
 let t9_17 := (bif t4_15 then t8_16 else false)
 some (t9_17, x_1, x_2, x_3, x_4, x_5, x_6, x_7, x_8, x_9, x_10, x_11, x_12, x_13, x_14)
noncomputable def con_F_conf_Config_rules_4 : Con := { f := 63, ps := [.ref 0 0], boxes := [[dI, dI, dI, dI, dI, dI, dI, dI, dI, dI, dI, dI, dI, dI]], ins := Yt460, nin := 14, outs := Yt461, rs := [.dat .bool], nout := 15, F := fun x => let a := x.2.2.2.2.2.2.2.2; F_conf_Config_rules_4 x.1 x.2.1 x.2.2.1 x.2.2.2.1 x.2.2.2.2.1 x.2.2.2.2.2.1 x.2.2.2.2.2.2.1 x.2.2.2.2.2.2.2.1 x.2.2.2.2.2.2.2.2.1 a.2.1 a.2.2.1 a.2.2.2.1 a.2.2.2.2.1 a.2.2.2.2.2 }
def hint_F_conf_Config_rules_4 : Hint := H0
theorem run_F_conf_Config_rules_4 : runE ⟨tdGet tys, [con_F_conf_within], [], [], []⟩ con_F_conf_Config_rules_4 Tryz.f63 hint_F_conf_Config_rules_4 = con_F_conf_Config_rules_4.F := by
 funext x
 kernel_rfl
theorem ok_F_conf_Config_rules_4 : ConOK Tryz.prog con_F_conf_Config_rules_4 :=
 con_of_run (Γ := ⟨tdGet tys, [con_F_conf_within], [], [], []⟩) ⟨fun T d h => tysB_ok tys tys_ok T d h, by simp [ok_F_conf_within], by simp [], by simp [], ptrs_ok Tryz.prog [] (by kernel_rfl)⟩ (by kernel_rfl) Tryz.func63 rfl (by kernel_rfl) run_F_conf_Config_rules_4
noncomputable def F_conf_Config_rules_5 (x_1 : Int) (x_2 : Int) (x_3 : Int) (x_4 : Int) (x_5 : Int) (x_6 : Int) (x_7 : Int) (x_8 : Int) (x_9 : Int) (x_10 : Int) (x_11 : Int) (x_12 : Int) (x_13 : Int) (x_14 : Int) : Option Yd461 :=
 (F_conf_within x_6 (0 : Int) (1048576 : Int)).bind fun t4_15 =>
 some (t4_15, x_1, x_2, x_3, x_4, x_5, x_6, x_7, x_8, x_9, x_10, x_11, x_12, x_13, x_14)
noncomputable def con_F_conf_Config_rules_5 : Con := { f := 64, ps := [.ref 0 0], boxes := [[dI, dI, dI, dI, dI, dI, dI, dI, dI, dI, dI, dI, dI, dI]], ins := Yt460, nin := 14, outs := Yt461, rs := [.dat .bool], nout := 15, F := fun x => let a := x.2.2.2.2.2.2.2.2; F_conf_Config_rules_5 x.1 x.2.1 x.2.2.1 x.2.2.2.1 x.2.2.2.2.1 x.2.2.2.2.2.1 x.2.2.2.2.2.2.1 x.2.2.2.2.2.2.2.1 x.2.2.2.2.2.2.2.2.1 a.2.1 a.2.2.1 a.2.2.2.1 a.2.2.2.2.1 a.2.2.2.2.2 }
def hint_F_conf_Config_rules_5 : Hint := H0
theorem run_F_conf_Config_rules_5 : runE ⟨tdGet tys, [con_F_conf_within], [], [], []⟩ con_F_conf_Config_rules_5 Tryz.f64 hint_F_conf_Config_rules_5 = con_F_conf_Config_rules_5.F := by
 funext x
 kernel_rfl
theorem ok_F_conf_Config_rules_5 : ConOK Tryz.prog con_F_conf_Config_rules_5 :=
 con_of_run (Γ := ⟨tdGet tys, [con_F_conf_within], [], [], []⟩) ⟨fun T d h => tysB_ok tys tys_ok T d h, by simp [ok_F_conf_within], by simp [], by simp [], ptrs_ok Tryz.prog [] (by kernel_rfl)⟩ (by kernel_rfl) Tryz.func64 rfl (by kernel_rfl) run_F_conf_Config_rules_5
noncomputable def F_conf_Config_rules_6 (x_1 : Int) (x_2 : Int) (x_3 : Int) (x_4 : Int) (x_5 : Int) (x_6 : Int) (x_7 : Int) (x_8 : Int) (x_9 : Int) (x_10 : Int) (x_11 : Int) (x_12 : Int) (x_13 : Int) (x_14 : Int) : Option Yd461 :=
 (F_conf_within x_7 (1 : Int) (16777216 : Int)).bind fun t4_15 =>
 (bif t4_15 then F_conf_within x_8 (1 : Int) (1048576 : Int) else some false).bind fun t8_16 =>
 let t9_17 := (bif t4_15 then t8_16 else false)
 some (t9_17, x_1, x_2, x_3, x_4, x_5, x_6, x_7, x_8, x_9, x_10, x_11, x_12, x_13, x_14)
noncomputable def con_F_conf_Config_rules_6 : Con := { f := 65, ps := [.ref 0 0], boxes := [[dI, dI, dI, dI, dI, dI, dI, dI, dI, dI, dI, dI, dI, dI]], ins := Yt460, nin := 14, outs := Yt461, rs := [.dat .bool], nout := 15, F := fun x => let a := x.2.2.2.2.2.2.2.2; F_conf_Config_rules_6 x.1 x.2.1 x.2.2.1 x.2.2.2.1 x.2.2.2.2.1 x.2.2.2.2.2.1 x.2.2.2.2.2.2.1 x.2.2.2.2.2.2.2.1 x.2.2.2.2.2.2.2.2.1 a.2.1 a.2.2.1 a.2.2.2.1 a.2.2.2.2.1 a.2.2.2.2.2 }
def hint_F_conf_Config_rules_6 : Hint := H0
theorem run_F_conf_Config_rules_6 : runE ⟨tdGet tys, [con_F_conf_within], [], [], []⟩ con_F_conf_Config_rules_6 Tryz.f65 hint_F_conf_Config_rules_6 = con_F_conf_Config_rules_6.F := by
 funext x
 kernel_rfl
theorem ok_F_conf_Config_rules_6 : ConOK Tryz.prog con_F_conf_Config_rules_6 :=
 con_of_run (Γ := ⟨tdGet tys, [con_F_conf_within], [], [], []⟩) ⟨fun T d h => tysB_ok tys tys_ok T d h, by simp [ok_F_conf_within], by simp [], by simp [], ptrs_ok Tryz.prog [] (by kernel_rfl)⟩ (by kernel_rfl) Tryz.func65 rfl (by kernel_rfl) run_F_conf_Config_rules_6
noncomputable def F_conf_Config_rules_7 (x_1 : Int) (x_2 : Int) (x_3 : Int) (x_4 : Int) (x_5 : Int) (x_6 : Int) (x_7 : Int) (x_8 : Int) (x_9 : Int) (x_10 : Int) (x_11 : Int) (x_12 : Int) (x_13 : Int) (x_14 : Int) : Option Yd461 :=
 let t6_15 := (IntKind.wrap .i64 (x_7 * x_1))
 let t9_16 := (IntKind.wrap .i64 ((32000 : Int) * x_2))
 some ((decide (t6_15 ≤ t9_16)), x_1, x_2, x_3, x_4, x_5, x_6, x_7, x_8, x_9, x_10, x_11, x_12, x_13, x_14)
noncomputable def con_F_conf_Config_rules_7 : Con := { f := 66, ps := [.ref 0 0], boxes := [[dI, dI, dI, dI, dI, dI, dI, dI, dI, dI, dI, dI, dI, dI]], ins := Yt460, nin := 14, outs := Yt461, rs := [.dat .bool], nout := 15, F := fun x => let a := x.2.2.2.2.2.2.2.2; F_conf_Config_rules_7 x.1 x.2.1 x.2.2.1 x.2.2.2.1 x.2.2.2.2.1 x.2.2.2.2.2.1 x.2.2.2.2.2.2.1 x.2.2.2.2.2.2.2.1 x.2.2.2.2.2.2.2.2.1 a.2.1 a.2.2.1 a.2.2.2.1 a.2.2.2.2.1 a.2.2.2.2.2 }
def hint_F_conf_Config_rules_7 : Hint := H0
theorem run_F_conf_Config_rules_7 : runE ⟨tdGet tys, [], [], [], []⟩ con_F_conf_Config_rules_7 Tryz.f66 hint_F_conf_Config_rules_7 = con_F_conf_Config_rules_7.F := by
 funext x
 kernel_rfl
theorem ok_F_conf_Config_rules_7 : ConOK Tryz.prog con_F_conf_Config_rules_7 :=
 con_of_run (Γ := ⟨tdGet tys, [], [], [], []⟩) ⟨fun T d h => tysB_ok tys tys_ok T d h, by simp [], by simp [], by simp [], ptrs_ok Tryz.prog [] (by kernel_rfl)⟩ (by kernel_rfl) Tryz.func66 rfl (by kernel_rfl) run_F_conf_Config_rules_7
noncomputable def F_conf_Config_rules_8 (x_1 : Int) (x_2 : Int) (x_3 : Int) (x_4 : Int) (x_5 : Int) (x_6 : Int) (x_7 : Int) (x_8 : Int) (x_9 : Int) (x_10 : Int) (x_11 : Int) (x_12 : Int) (x_13 : Int) (x_14 : Int) : Option Yd461 :=
 (F_conf_within x_9 (0 : Int) (1048576 : Int)).bind fun t4_15 =>
 some (t4_15, x_1, x_2, x_3, x_4, x_5, x_6, x_7, x_8, x_9, x_10, x_11, x_12, x_13, x_14)
noncomputable def con_F_conf_Config_rules_8 : Con := { f := 67, ps := [.ref 0 0], boxes := [[dI, dI, dI, dI, dI, dI, dI, dI, dI, dI, dI, dI, dI, dI]], ins := Yt460, nin := 14, outs := Yt461, rs := [.dat .bool], nout := 15, F := fun x => let a := x.2.2.2.2.2.2.2.2; F_conf_Config_rules_8 x.1 x.2.1 x.2.2.1 x.2.2.2.1 x.2.2.2.2.1 x.2.2.2.2.2.1 x.2.2.2.2.2.2.1 x.2.2.2.2.2.2.2.1 x.2.2.2.2.2.2.2.2.1 a.2.1 a.2.2.1 a.2.2.2.1 a.2.2.2.2.1 a.2.2.2.2.2 }
def hint_F_conf_Config_rules_8 : Hint := H0
theorem run_F_conf_Config_rules_8 : runE ⟨tdGet tys, [con_F_conf_within], [], [], []⟩ con_F_conf_Config_rules_8 Tryz.f67 hint_F_conf_Config_rules_8 = con_F_conf_Config_rules_8.F := by
 funext x
 kernel_rfl
theorem ok_F_conf_Config_rules_8 : ConOK Tryz.prog con_F_conf_Config_rules_8 :=
 con_of_run (Γ := ⟨tdGet tys, [con_F_conf_within], [], [], []⟩) ⟨fun T d h => tysB_ok tys tys_ok T d h, by simp [ok_F_conf_within], by simp [], by simp [], ptrs_ok Tryz.prog [] (by kernel_rfl)⟩ (by kernel_rfl) Tryz.func67 rfl (by kernel_rfl) run_F_conf_Config_rules_8
noncomputable def F_conf_Config_rules_9 (x_1 : Int) (x_2 : Int) (x_3 : Int) (x_4 : Int) (x_5 : Int) (x_6 : Int) (x_7 : Int) (x_8 : Int) (x_9 : Int) (x_10 : Int) (x_11 : Int) (x_12 : Int) (x_13 : Int) (x_14 : Int) : Option Yd461 :=
 (F_conf_within x_10 (1 : Int) (1000 : Int)).bind fun t4_15 =>
 (bif t4_15 then F_conf_within x_13 (1 : Int) (1000 : Int) else some false).bind fun t8_16 =>
 let t9_17 := (bif t4_15 then t8_16 else false)
 some (t9_17, x_1, x_2, x_3, x_4, x_5, x_6, x_7, x_8, x_9, x_10, x_11, x_12, x_13, x_14)
noncomputable def con_F_conf_Config_rules_9 : Con := { f := 68, ps := [.ref 0 0], boxes := [[dI, dI, dI, dI, dI, dI, dI, dI, dI, dI, dI, dI, dI, dI]], ins := Yt460, nin := 14, outs := Yt461, rs := [.dat .bool], nout := 15, F := fun x => let a := x.2.2.2.2.2.2.2.2; F_conf_Config_rules_9 x.1 x.2.1 x.2.2.1 x.2.2.2.1 x.2.2.2.2.1 x.2.2.2.2.2.1 x.2.2.2.2.2.2.1 x.2.2.2.2.2.2.2.1 x.2.2.2.2.2.2.2.2.1 a.2.1 a.2.2.1 a.2.2.2.1 a.2.2.2.2.1 a.2.2.2.2.2 }
def hint_F_conf_Config_rules_9 : Hint := H0
theorem run_F_conf_Config_rules_9 : runE ⟨tdGet tys, [con_F_conf_within], [], [], []⟩ con_F_conf_Config_rules_9 Tryz.f68 hint_F_conf_Config_rules_9 = con_F_conf_Config_rules_9.F := by
 funext x
 kernel_rfl
theorem ok_F_conf_Config_rules_9 : ConOK Tryz.prog con_F_conf_Config_rules_9 :=
 con_of_run (Γ := ⟨tdGet tys, [con_F_conf_within], [], [], []⟩) ⟨fun T d h => tysB_ok tys tys_ok T d h, by simp [ok_F_conf_within], by simp [], by simp [], ptrs_ok Tryz.prog [] (by kernel_rfl)⟩ (by kernel_rfl) Tryz.func68 rfl (by kernel_rfl) run_F_conf_Config_rules_9
noncomputable def F_num_Size (a_1 : Int) : Option Int :=
 let t4_2 := (decide (a_1 < (0 : Int)))
 (bif t4_2 then
  let t7_3 := (IntKind.wrap .u64 (0 - (IntKind.wrap .u64 a_1)))
  some t7_3
 else
  some (IntKind.wrap .u64 a_1))
noncomputable def con_F_num_Size : Con := { f := 96, ps := [dI], boxes := [], ins := (.int .i64), nin := 1, outs := (.int .u64), rs := [.dat (.int .u64)], nout := 1, F := fun x => F_num_Size x }
def hint_F_num_Size : Hint := H0
theorem run_F_num_Size : runE ⟨tdGet tys, [], [], [], []⟩ con_F_num_Size Tryz.f96 hint_F_num_Size = con_F_num_Size.F := by
 funext x
 kernel_rfl
theorem ok_F_num_Size : ConOK Tryz.prog con_F_num_Size :=
 con_of_run (Γ := ⟨tdGet tys, [], [], [], []⟩) ⟨fun T d h => tysB_ok tys tys_ok T d h, by simp [], by simp [], by simp [], ptrs_ok Tryz.prog [] (by kernel_rfl)⟩ (by kernel_rfl) Tryz.func96 rfl (by kernel_rfl) run_F_num_Size
noncomputable def F_wide_Mul (a_1 : Int) (b_2 : Int) : Option (Int × Int) :=
 let t15_3 := (bits .u64 .and a_1 (4294967295 : Int))
 let t19_4 := (bits .u64 .and b_2 (4294967295 : Int))
 let t22_5 := (IntKind.wrap .u64 (t15_3 * t19_4))
 let t25_6 := (IntKind.wrap .u64 ((a_1.fdiv (2 ^ 32)) * t19_4))
 let t28_7 := (IntKind.wrap .u64 (t25_6 + (t22_5.fdiv (2 ^ 32))))
 let t31_8 := (IntKind.wrap .u64 (t15_3 * (b_2.fdiv (2 ^ 32))))
 let t33_9 := (bits .u64 .and t28_7 (4294967295 : Int))
 let t34_10 := (IntKind.wrap .u64 (t31_8 + t33_9))
 let t37_11 := (IntKind.wrap .u64 ((a_1.fdiv (2 ^ 32)) * (b_2.fdiv (2 ^ 32))))
 let t40_12 := (IntKind.wrap .u64 (t37_11 + (t28_7.fdiv (2 ^ 32))))
 let t43_13 := (IntKind.wrap .u64 (t40_12 + (t34_10.fdiv (2 ^ 32))))
 let t45_14 := (IntKind.wrap .u64 (t34_10 * 2 ^ 32))
 let t47_15 := (bits .u64 .and t22_5 (4294967295 : Int))
 let t48_16 := (bits .u64 .or t45_14 t47_15)
 let w_17 : (Int × Int) := (t43_13, t48_16)
 some w_17
noncomputable def con_F_wide_Mul : Con := { f := 95, ps := [.dat (.int .u64), .dat (.int .u64)], boxes := [], ins := (.pair (.int .u64) (.int .u64)), nin := 2, outs := (.agg (.pair (.int .u64) (.int .u64))), rs := [.dat (.agg (.pair (.int .u64) (.int .u64)))], nout := 1, F := fun x => F_wide_Mul x.1 x.2 }
def hint_F_wide_Mul : Hint := H0
theorem run_F_wide_Mul : runE ⟨tdGet tys, [], [], [], []⟩ con_F_wide_Mul Tryz.f95 hint_F_wide_Mul = con_F_wide_Mul.F := by
 funext x
 kernel_rfl
theorem ok_F_wide_Mul : ConOK Tryz.prog con_F_wide_Mul :=
 con_of_run (Γ := ⟨tdGet tys, [], [], [], []⟩) ⟨fun T d h => tysB_ok tys tys_ok T d h, by simp [], by simp [], by simp [], ptrs_ok Tryz.prog [] (by kernel_rfl)⟩ (by kernel_rfl) Tryz.func95 rfl (by kernel_rfl) run_F_wide_Mul
noncomputable def F_wide_U_Shl (x_1 : (Int × Int)) (n_2 : Int) : Option (Int × Int) :=
 let t7_3 := (decide (n_2 ≤ (0 : Int)))
 (bif t7_3 then
  some x_1
 else
  let t11_4 := (decide ((64 : Int) ≤ n_2))
  (bif t11_4 then
   let t15_5 := (IntKind.wrap .i64 (n_2 - (64 : Int)))
   let t16_6 := (IntKind.wrap .u64 t15_5)
   chk none (decide ((0 : Int) ≤ t16_6)) <|
   let t17_7 := (IntKind.wrap .u64 (x_1.2 * 2 ^ (min t16_6.toNat 64)))
   let w_8 : (Int × Int) := (t17_7, (0 : Int))
   some w_8
  else
   chk none (decide ((0 : Int) ≤ (IntKind.wrap .u64 n_2))) <|
   let t23_9 := (IntKind.wrap .u64 (x_1.1 * 2 ^ (min (IntKind.wrap .u64 n_2).toNat 64)))
   let t27_10 := (IntKind.wrap .i64 ((64 : Int) - n_2))
   let t28_11 := (IntKind.wrap .u64 t27_10)
   chk none (decide ((0 : Int) ≤ t28_11)) <|
   let t29_12 := (x_1.2.fdiv (2 ^ (min t28_11.toNat 64)))
   let t30_13 := (bits .u64 .or t23_9 t29_12)
   chk none (decide ((0 : Int) ≤ (IntKind.wrap .u64 n_2))) <|
   let t35_14 := (IntKind.wrap .u64 (x_1.2 * 2 ^ (min (IntKind.wrap .u64 n_2).toNat 64)))
   let w_15 : (Int × Int) := (t30_13, t35_14)
   some w_15))
noncomputable def con_F_wide_U_Shl : Con := { f := 103, ps := [.dat (.agg (.pair (.int .u64) (.int .u64))), dI], boxes := [], ins := (.pair (.agg (.pair (.int .u64) (.int .u64))) (.int .i64)), nin := 2, outs := (.agg (.pair (.int .u64) (.int .u64))), rs := [.dat (.agg (.pair (.int .u64) (.int .u64)))], nout := 1, F := fun x => F_wide_U_Shl x.1 x.2 }
def hint_F_wide_U_Shl : Hint := H0
theorem run_F_wide_U_Shl : runE ⟨tdGet tys, [], [], [], []⟩ con_F_wide_U_Shl Tryz.f103 hint_F_wide_U_Shl = con_F_wide_U_Shl.F := by
 funext x
 kernel_rfl
theorem ok_F_wide_U_Shl : ConOK Tryz.prog con_F_wide_U_Shl :=
 con_of_run (Γ := ⟨tdGet tys, [], [], [], []⟩) ⟨fun T d h => tysB_ok tys tys_ok T d h, by simp [], by simp [], by simp [], ptrs_ok Tryz.prog [] (by kernel_rfl)⟩ (by kernel_rfl) Tryz.func103 rfl (by kernel_rfl) run_F_wide_U_Shl
noncomputable def F_wide_U_Shr (x_1 : (Int × Int)) (n_2 : Int) : Option (Int × Int) :=
 let t7_3 := (decide (n_2 ≤ (0 : Int)))
 (bif t7_3 then
  some x_1
 else
  let t11_4 := (decide ((64 : Int) ≤ n_2))
  (bif t11_4 then
   let t15_5 := (IntKind.wrap .i64 (n_2 - (64 : Int)))
   let t16_6 := (IntKind.wrap .u64 t15_5)
   chk none (decide ((0 : Int) ≤ t16_6)) <|
   let t17_7 := (x_1.1.fdiv (2 ^ (min t16_6.toNat 64)))
   let w_8 : (Int × Int) := ((0 : Int), t17_7)
   some w_8
  else
   chk none (decide ((0 : Int) ≤ (IntKind.wrap .u64 n_2))) <|
   let t23_9 := (x_1.1.fdiv (2 ^ (min (IntKind.wrap .u64 n_2).toNat 64)))
   chk none (decide ((0 : Int) ≤ (IntKind.wrap .u64 n_2))) <|
   let t28_10 := (x_1.2.fdiv (2 ^ (min (IntKind.wrap .u64 n_2).toNat 64)))
   let t32_11 := (IntKind.wrap .i64 ((64 : Int) - n_2))
   let t33_12 := (IntKind.wrap .u64 t32_11)
   chk none (decide ((0 : Int) ≤ t33_12)) <|
   let t34_13 := (IntKind.wrap .u64 (x_1.1 * 2 ^ (min t33_12.toNat 64)))
   let t35_14 := (bits .u64 .or t28_10 t34_13)
   let w_15 : (Int × Int) := (t23_9, t35_14)
   some w_15))
noncomputable def con_F_wide_U_Shr : Con := { f := 104, ps := [.dat (.agg (.pair (.int .u64) (.int .u64))), dI], boxes := [], ins := (.pair (.agg (.pair (.int .u64) (.int .u64))) (.int .i64)), nin := 2, outs := (.agg (.pair (.int .u64) (.int .u64))), rs := [.dat (.agg (.pair (.int .u64) (.int .u64)))], nout := 1, F := fun x => F_wide_U_Shr x.1 x.2 }
def hint_F_wide_U_Shr : Hint := H0
theorem run_F_wide_U_Shr : runE ⟨tdGet tys, [], [], [], []⟩ con_F_wide_U_Shr Tryz.f104 hint_F_wide_U_Shr = con_F_wide_U_Shr.F := by
 funext x
 kernel_rfl
theorem ok_F_wide_U_Shr : ConOK Tryz.prog con_F_wide_U_Shr :=
 con_of_run (Γ := ⟨tdGet tys, [], [], [], []⟩) ⟨fun T d h => tysB_ok tys tys_ok T d h, by simp [], by simp [], by simp [], ptrs_ok Tryz.prog [] (by kernel_rfl)⟩ (by kernel_rfl) Tryz.func104 rfl (by kernel_rfl) run_F_wide_U_Shr
noncomputable def F_wide_U_Cmp (x_1 : (Int × Int)) (y_2 : (Int × Int)) : Option Int :=
 let t8_3 := (eqT (.agg (.pair (.int .u64) (.int .u64))) x_1 y_2)
 (bif t8_3 then
  some (0 : Int)
 else
  let t27_4 := (bif (x_1.1 == y_2.1) then (decide (x_1.2 < y_2.2)) else false)
  let t28_5 := (bif (decide (x_1.1 < y_2.1)) then true else t27_4)
  (bif t28_5 then
   some (-1 : Int)
  else
   some (1 : Int)))
noncomputable def con_F_wide_U_Cmp : Con := { f := 105, ps := [.dat (.agg (.pair (.int .u64) (.int .u64))), .dat (.agg (.pair (.int .u64) (.int .u64)))], boxes := [], ins := Yt462, nin := 2, outs := (.int .i64), rs := [dI], nout := 1, F := fun x => F_wide_U_Cmp x.1 x.2 }
def hint_F_wide_U_Cmp : Hint := H0
theorem run_F_wide_U_Cmp : runE ⟨tdGet tys, [], [], [], []⟩ con_F_wide_U_Cmp Tryz.f105 hint_F_wide_U_Cmp = con_F_wide_U_Cmp.F := by
 funext x
 kernel_rfl
theorem ok_F_wide_U_Cmp : ConOK Tryz.prog con_F_wide_U_Cmp :=
 con_of_run (Γ := ⟨tdGet tys, [], [], [], []⟩) ⟨fun T d h => tysB_ok tys tys_ok T d h, by simp [], by simp [], by simp [], ptrs_ok Tryz.prog [] (by kernel_rfl)⟩ (by kernel_rfl) Tryz.func105 rfl (by kernel_rfl) run_F_wide_U_Cmp
noncomputable def F_wide_U_Sub (x_1 : (Int × Int)) (y_2 : (Int × Int)) : Option ((Int × Int) × Bool) :=
 let t11_3 := (IntKind.wrap .u64 (x_1.1 - y_2.1))
 let t16_4 := (IntKind.wrap .u64 (x_1.2 - y_2.2))
 let w_5 : (Int × Int) := (t11_3, t16_4)
 Option.bind (
  (bif (decide (x_1.2 < y_2.2)) then
   let t25_6 := (IntKind.wrap .u64 (w_5.1 - (1 : Int)))
   some t25_6
  else
   some w_5.1)) fun r_7 =>
 (F_wide_U_Cmp x_1 y_2).bind fun t30_8 =>
 let t31_9 := (decide (t30_8 < (0 : Int)))
 let w_10 : (Int × Int) := (r_7, w_5.2)
 some (w_10, t31_9)
noncomputable def con_F_wide_U_Sub : Con := { f := 106, ps := [.dat (.agg (.pair (.int .u64) (.int .u64))), .dat (.agg (.pair (.int .u64) (.int .u64)))], boxes := [], ins := Yt462, nin := 2, outs := (.pair (.agg (.pair (.int .u64) (.int .u64))) .bool), rs := [.dat (.agg (.pair (.int .u64) (.int .u64))), .dat .bool], nout := 2, F := fun x => F_wide_U_Sub x.1 x.2 }
def hint_F_wide_U_Sub : Hint := (.mk .plain [H0, (.mk .plain [H0, (.mk .plain [(.mk .plain [H0, (.mk (.join [(0, 23), (0, 25), (0, 26), (0, 24)] [(.normal, [⟨.cell 3 0, (.int .u64), none⟩])]) [])])])])])
theorem run_F_wide_U_Sub : runE ⟨tdGet tys, [con_F_wide_U_Cmp], [], [], []⟩ con_F_wide_U_Sub Tryz.f106 hint_F_wide_U_Sub = con_F_wide_U_Sub.F := by
 funext x
 kernel_rfl
theorem ok_F_wide_U_Sub : ConOK Tryz.prog con_F_wide_U_Sub :=
 con_of_run (Γ := ⟨tdGet tys, [con_F_wide_U_Cmp], [], [], []⟩) ⟨fun T d h => tysB_ok tys tys_ok T d h, by simp [ok_F_wide_U_Cmp], by simp [], by simp [], ptrs_ok Tryz.prog [] (by kernel_rfl)⟩ (by kernel_rfl) Tryz.func106 rfl (by kernel_rfl) run_F_wide_U_Sub
noncomputable def F_wide_U_Div (x_1 : (Int × Int)) (d_2 : Int) : Option Yd463 :=
 (bif (d_2 == (0 : Int)) then
  let w_3 : (Int × Int) := ((0 : Int), (0 : Int))
  some (w_3, (0 : Int), (21 : Int))
 else
  let w_4 : (Int × Int) := ((0 : Int), (0 : Int))
  Option.bind (
   loopO (X := Yd2) (fun (s_5 : Yd465) =>
    let b3_6 := s_5.1
    let b2_7 := s_5.2.1
    let b2_8 := s_5.2.2.1
    let b3_9 := s_5.2.2.2.1
    let i_10 := s_5.2.2.2.2
    let t15_11 := (decide ((0 : Int) ≤ i_10))
    (bif t15_11 then
     (F_wide_U_Shl (b3_6, b3_9) (1 : Int)).bind fun t19_12 =>
     (F_wide_U_Shr x_1 i_10).bind fun t24_13 =>
     let t26_14 := (bits .u64 .and t24_13.2 (1 : Int))
     let t27_15 := (bits .u64 .or t19_12.2 t26_14)
     (F_wide_U_Shl (b2_8, b2_7) (1 : Int)).bind fun t30_16 =>
     (F_wide_U_Cmp (t19_12.1, t27_15) ((0 : Int), d_2)).bind fun t34_17 =>
     let t35_18 := (decide ((0 : Int) ≤ t34_17))
     Option.bind (
      (bif t35_18 then
       (F_wide_U_Sub (t19_12.1, t27_15) ((0 : Int), d_2)).bind fun t40_19 =>
       let t45_20 := (bits .u64 .or t30_16.2 (1 : Int))
       some (t40_19.1.1, t45_20, t40_19.1.2)
      else
       some (t19_12.1, t30_16.2, t27_15))) fun r_21 =>
     let b3_22 := r_21.1
     let b2_23 := r_21.2.1
     let b3_24 := r_21.2.2
     let t17_25 := (IntKind.wrap .i64 (i_10 - (1 : Int)))
     some (.inl (b3_22, b2_23, t30_16.1, b3_24, t17_25))
    else
     some (.inr (b3_6, b2_7, b2_8, b3_9)))) (w_4.1, (0 : Int), (0 : Int), w_4.2, (127 : Int))) fun r_26 =>
  let b3_27 := r_26.1
  let b2_28 := r_26.2.1
  let b2_29 := r_26.2.2.1
  let b3_30 := r_26.2.2.2
  let w_31 : (Int × Int) := (b2_29, b2_28)
  some (w_31, b3_30, (0 : Int)))
noncomputable def con_F_wide_U_Div : Con := { f := 97, ps := [.dat (.agg (.pair (.int .u64) (.int .u64))), .dat (.int .u64)], boxes := [], ins := (.pair (.agg (.pair (.int .u64) (.int .u64))) (.int .u64)), nin := 2, outs := Yt463, rs := [.dat (.agg (.pair (.int .u64) (.int .u64))), .dat (.int .u64), dI], nout := 3, F := fun x => F_wide_U_Div x.1 x.2 }
def hint_F_wide_U_Div : Hint := (.mk .plain [H0, (.mk .plain [H0, (.mk .plain [H0, (.mk .plain [H0, (.mk .plain [(.mk .plain [H0, (.mk .plain [(.mk (.loop [⟨.cell 3 0, (.int .u64), none⟩, ⟨.cell 2 1, (.int .u64), none⟩, ⟨.cell 2 0, (.int .u64), none⟩, ⟨.cell 3 1, (.int .u64), none⟩, ⟨.slot 9, (.int .i64), none⟩] [(0, 30), (0, 36), (0, 42), (0, 39), (0, 45), (0, 14), (0, 17), (0, 23), (0, 20), (0, 26), (0, 29), (0, 35), (0, 32), (0, 38), (0, 41), (0, 44), (0, 16), (0, 19), (0, 22), (0, 28), (0, 25), (0, 31), (0, 34), (0, 40), (0, 37), (0, 43), (0, 46), (0, 15), (0, 21), (0, 18), (0, 24), (0, 27), (0, 33)] [(.exit 0, [⟨.cell 3 0, (.int .u64), none⟩, ⟨.cell 2 1, (.int .u64), none⟩, ⟨.cell 2 0, (.int .u64), none⟩, ⟨.cell 3 1, (.int .u64), none⟩])]) [(.mk .plain [H0, (.mk .plain [(.mk .plain [(.mk .plain [H0, (.mk .plain [H0, (.mk .plain [H0, (.mk .plain [H0, (.mk (.join [(0, 46), (0, 36), (0, 42), (0, 43), (0, 39), (0, 45), (0, 38), (0, 41), (0, 44), (0, 40), (0, 37)] [(.normal, [⟨.cell 3 0, (.int .u64), none⟩, ⟨.cell 2 1, (.int .u64), none⟩, ⟨.cell 3 1, (.int .u64), none⟩])]) [])])])])])])])])])])])])])])])])
theorem run_F_wide_U_Div : runE ⟨tdGet tys, [con_F_wide_U_Shl, con_F_wide_U_Shr, con_F_wide_U_Cmp, con_F_wide_U_Sub], [], [], []⟩ con_F_wide_U_Div Tryz.f97 hint_F_wide_U_Div = con_F_wide_U_Div.F := by
 funext x
 kernel_rfl
theorem ok_F_wide_U_Div : ConOK Tryz.prog con_F_wide_U_Div :=
 con_of_run (Γ := ⟨tdGet tys, [con_F_wide_U_Shl, con_F_wide_U_Shr, con_F_wide_U_Cmp, con_F_wide_U_Sub], [], [], []⟩) ⟨fun T d h => tysB_ok tys tys_ok T d h, by simp [ok_F_wide_U_Shl, ok_F_wide_U_Shr, ok_F_wide_U_Cmp, ok_F_wide_U_Sub], by simp [], by simp [], ptrs_ok Tryz.prog [] (by kernel_rfl)⟩ (by kernel_rfl) Tryz.func97 rfl (by kernel_rfl) run_F_wide_U_Div
noncomputable def F_wide_U_Add (x_1 : (Int × Int)) (y_2 : (Int × Int)) : Option ((Int × Int) × Bool) :=
 let t12_3 := (IntKind.wrap .u64 (x_1.2 + y_2.2))
 let w_4 : (Int × Int) := ((0 : Int), t12_3)
 let t18_5 := (IntKind.wrap .u64 (x_1.1 + y_2.1))
 Option.bind (
  (bif (decide (w_4.2 < x_1.2)) then
   let t32_6 := (IntKind.wrap .u64 (t18_5 + (1 : Int)))
   let t39_7 := (bif (decide (t18_5 < x_1.1)) then true else (t32_6 == (0 : Int)))
   some (t32_6, t39_7)
  else
   some (t18_5, (decide (t18_5 < x_1.1))))) fun r_8 =>
 let b3_9 := r_8.1
 let over_10 := r_8.2
 let w_11 : (Int × Int) := (b3_9, w_4.2)
 some (w_11, over_10)
noncomputable def con_F_wide_U_Add : Con := { f := 98, ps := [.dat (.agg (.pair (.int .u64) (.int .u64))), .dat (.agg (.pair (.int .u64) (.int .u64)))], boxes := [], ins := Yt462, nin := 2, outs := (.pair (.agg (.pair (.int .u64) (.int .u64))) .bool), rs := [.dat (.agg (.pair (.int .u64) (.int .u64))), .dat .bool], nout := 2, F := fun x => F_wide_U_Add x.1 x.2 }
def hint_F_wide_U_Add : Hint := (.mk .plain [H0, (.mk .plain [H0, (.mk .plain [H0, (.mk .plain [H0, (.mk .plain [(.mk .plain [H0, (.mk (.join [(0, 30), (0, 36), (0, 39), (0, 35), (0, 32), (0, 38), (0, 31), (0, 34), (0, 37), (0, 33)] [(.normal, [⟨.cell 3 0, (.int .u64), none⟩, ⟨.slot 7, .bool, none⟩])]) [])])])])])])])
theorem run_F_wide_U_Add : runE ⟨tdGet tys, [], [], [], []⟩ con_F_wide_U_Add Tryz.f98 hint_F_wide_U_Add = con_F_wide_U_Add.F := by
 funext x
 kernel_rfl
theorem ok_F_wide_U_Add : ConOK Tryz.prog con_F_wide_U_Add :=
 con_of_run (Γ := ⟨tdGet tys, [], [], [], []⟩) ⟨fun T d h => tysB_ok tys tys_ok T d h, by simp [], by simp [], by simp [], ptrs_ok Tryz.prog [] (by kernel_rfl)⟩ (by kernel_rfl) Tryz.func98 rfl (by kernel_rfl) run_F_wide_U_Add
noncomputable def F_ratio_signed (x_1 : (Int × Int)) (below_2 : Bool) : Option (Int × Int) :=
 let t7_3 : (Int × Int) := ((0 : Int), (9223372036854775807 : Int))
 Option.bind (
  (bif below_2 then
   let t11_4 := (IntKind.wrap .u64 (t7_3.2 + (1 : Int)))
   some t11_4
  else
   some t7_3.2)) fun r_5 =>
 (F_wide_U_Cmp x_1 (t7_3.1, r_5)).bind fun t15_6 =>
 let t16_7 := (decide ((0 : Int) < t15_6))
 (bif t16_7 then
  some ((0 : Int), (20 : Int))
 else
  (bif below_2 then
   let t20_8 := (IntKind.wrap .u64 (0 - x_1.2))
   let t21_9 := (IntKind.wrap .i64 t20_8)
   some (t21_9, (0 : Int))
  else
   let t24_10 := (IntKind.wrap .i64 x_1.2)
   some (t24_10, (0 : Int))))
noncomputable def con_F_ratio_signed : Con := { f := 99, ps := [.dat (.agg (.pair (.int .u64) (.int .u64))), .dat .bool], boxes := [], ins := (.pair (.agg (.pair (.int .u64) (.int .u64))) .bool), nin := 2, outs := (.pair (.int .i64) (.int .i64)), rs := [dI, dI], nout := 2, F := fun x => F_ratio_signed x.1 x.2 }
def hint_F_ratio_signed : Hint := (.mk .plain [H0, (.mk .plain [H0, (.mk .plain [(.mk .plain [H0, (.mk (.join [(0, 12), (0, 10), (0, 9), (0, 11)] [(.normal, [⟨.cell 1 1, (.int .u64), none⟩])]) [])])])])])
theorem run_F_ratio_signed : runE ⟨tdGet tys, [con_F_wide_U_Cmp], [], [], []⟩ con_F_ratio_signed Tryz.f99 hint_F_ratio_signed = con_F_ratio_signed.F := by
 funext x
 kernel_rfl
theorem ok_F_ratio_signed : ConOK Tryz.prog con_F_ratio_signed :=
 con_of_run (Γ := ⟨tdGet tys, [con_F_wide_U_Cmp], [], [], []⟩) ⟨fun T d h => tysB_ok tys tys_ok T d h, by simp [ok_F_wide_U_Cmp], by simp [], by simp [], ptrs_ok Tryz.prog [] (by kernel_rfl)⟩ (by kernel_rfl) Tryz.func99 rfl (by kernel_rfl) run_F_ratio_signed
noncomputable def F_ratio_divide (a_1 : Int) (b_2 : Int) (c_3 : Int) (up_4 : Bool) : Option (Int × Int) :=
 (bif (c_3 == (0 : Int)) then
  some ((0 : Int), (21 : Int))
 else
  let t17_5 := (decide (a_1 < (0 : Int)))
  let t19_6 := (decide (b_2 < (0 : Int)))
  let t22_7 := (decide (c_3 < (0 : Int)))
  let t23_8 := (!((!(t17_5 == t19_6)) == t22_7))
  (F_num_Size a_1).bind fun t26_9 =>
  (F_num_Size b_2).bind fun t28_10 =>
  (F_wide_Mul t26_9 t28_10).bind fun t29_11 =>
  (F_num_Size c_3).bind fun t31_12 =>
  (F_wide_U_Div t29_11 t31_12).bind fun t32_13 =>
  let t37_14 := (decide ((0 : Int) < t32_13.2.1))
  let t42_15 := (bif t37_14 then (!(up_4 == t23_8)) else false)
  Option.bind (
   (bif t42_15 then
    (F_wide_U_Add t32_13.1 ((0 : Int), (1 : Int))).bind fun t46_16 =>
    some (t46_16.1.2, t46_16.1.1)
   else
    some (t32_13.1.2, t32_13.1.1))) fun r_17 =>
  let b0_18 := r_17.1
  let b0_19 := r_17.2
  (F_ratio_signed (b0_19, b0_18) t23_8).bind fun t51_20 =>
  some (t51_20.1, t51_20.2))
noncomputable def con_F_ratio_divide : Con := { f := 88, ps := [dI, dI, dI, .dat .bool], boxes := [], ins := Yt466, nin := 4, outs := (.pair (.int .i64) (.int .i64)), rs := [dI, dI], nout := 2, F := fun x => F_ratio_divide x.1 x.2.1 x.2.2.1 x.2.2.2 }
def hint_F_ratio_divide : Hint := (.mk .plain [H0, (.mk .plain [H0, (.mk .plain [H0, (.mk .plain [H0, (.mk .plain [(.mk .plain [H0, (.mk (.join [(0, 46), (0, 45), (0, 48), (0, 47), (0, 44), (0, 43)] [(.normal, [⟨.cell 0 1, (.int .u64), none⟩, ⟨.cell 0 0, (.int .u64), none⟩])]) [])])])])])])])
theorem run_F_ratio_divide : runE ⟨tdGet tys, [con_F_num_Size, con_F_wide_Mul, con_F_wide_U_Div, con_F_wide_U_Add, con_F_ratio_signed], [], [], []⟩ con_F_ratio_divide Tryz.f88 hint_F_ratio_divide = con_F_ratio_divide.F := by
 funext x
 kernel_rfl
theorem ok_F_ratio_divide : ConOK Tryz.prog con_F_ratio_divide :=
 con_of_run (Γ := ⟨tdGet tys, [con_F_num_Size, con_F_wide_Mul, con_F_wide_U_Div, con_F_wide_U_Add, con_F_ratio_signed], [], [], []⟩) ⟨fun T d h => tysB_ok tys tys_ok T d h, by simp [ok_F_num_Size, ok_F_wide_Mul, ok_F_wide_U_Div, ok_F_wide_U_Add, ok_F_ratio_signed], by simp [], by simp [], ptrs_ok Tryz.prog [] (by kernel_rfl)⟩ (by kernel_rfl) Tryz.func88 rfl (by kernel_rfl) run_F_ratio_divide
noncomputable def F_ratio_Ceil (a_1 : Int) (b_2 : Int) (c_3 : Int) : Option (Int × Int) :=
 (F_ratio_divide a_1 b_2 c_3 true).bind fun t11_4 =>
 some (t11_4.1, t11_4.2)
noncomputable def con_F_ratio_Ceil : Con := { f := 80, ps := [dI, dI, dI], boxes := [], ins := (.pair (.int .i64) (.pair (.int .i64) (.int .i64))), nin := 3, outs := (.pair (.int .i64) (.int .i64)), rs := [dI, dI], nout := 2, F := fun x => F_ratio_Ceil x.1 x.2.1 x.2.2 }
def hint_F_ratio_Ceil : Hint := H0
theorem run_F_ratio_Ceil : runE ⟨tdGet tys, [con_F_ratio_divide], [], [], []⟩ con_F_ratio_Ceil Tryz.f80 hint_F_ratio_Ceil = con_F_ratio_Ceil.F := by
 funext x
 kernel_rfl
theorem ok_F_ratio_Ceil : ConOK Tryz.prog con_F_ratio_Ceil :=
 con_of_run (Γ := ⟨tdGet tys, [con_F_ratio_divide], [], [], []⟩) ⟨fun T d h => tysB_ok tys tys_ok T d h, by simp [ok_F_ratio_divide], by simp [], by simp [], ptrs_ok Tryz.prog [] (by kernel_rfl)⟩ (by kernel_rfl) Tryz.func80 rfl (by kernel_rfl) run_F_ratio_Ceil
noncomputable def F_conf_Config_pulse (c_1 : Yd460) : Option Int :=
 (F_ratio_Ceil c_1.2.2.1 (1 : Int) c_1.1).bind fun t10_2 =>
 some t10_2.1
noncomputable def con_F_conf_Config_pulse : Con := { f := 70, ps := [.dat (.agg Yt460)], boxes := [], ins := (.agg Yt460), nin := 1, outs := (.int .i64), rs := [dI], nout := 1, F := fun x => F_conf_Config_pulse x }
def hint_F_conf_Config_pulse : Hint := H0
theorem run_F_conf_Config_pulse : runE ⟨tdGet tys, [con_F_ratio_Ceil], [], [], []⟩ con_F_conf_Config_pulse Tryz.f70 hint_F_conf_Config_pulse = con_F_conf_Config_pulse.F := by
 funext x
 kernel_rfl
theorem ok_F_conf_Config_pulse : ConOK Tryz.prog con_F_conf_Config_pulse :=
 con_of_run (Γ := ⟨tdGet tys, [con_F_ratio_Ceil], [], [], []⟩) ⟨fun T d h => tysB_ok tys tys_ok T d h, by simp [ok_F_ratio_Ceil], by simp [], by simp [], ptrs_ok Tryz.prog [] (by kernel_rfl)⟩ (by kernel_rfl) Tryz.func70 rfl (by kernel_rfl) run_F_conf_Config_pulse
noncomputable def F_conf_Config_rules_10 (x_1 : Int) (x_2 : Int) (x_3 : Int) (x_4 : Int) (x_5 : Int) (x_6 : Int) (x_7 : Int) (x_8 : Int) (x_9 : Int) (x_10 : Int) (x_11 : Int) (x_12 : Int) (x_13 : Int) (x_14 : Int) : Option Yd461 :=
 let t4_15 : Yd460 := (x_1, (x_2, (x_3, (x_4, (x_5, (x_6, (x_7, (x_8, (x_9, (x_10, (x_11, (x_12, (x_13, x_14)))))))))))))
 (F_conf_Config_pulse t4_15).bind fun t5_16 =>
 let t8_17 := (IntKind.wrap .i64 ((3 : Int) * x_4))
 let t9_18 := (if t8_17 > t5_16 then t8_17 else t5_16)
 (F_conf_within x_11 t9_18 (16777216 : Int)).bind fun t10_19 =>
 some (t10_19, x_1, x_2, x_3, x_4, x_5, x_6, x_7, x_8, x_9, x_10, x_11, x_12, x_13, x_14)
noncomputable def con_F_conf_Config_rules_10 : Con := { f := 69, ps := [.ref 0 0], boxes := [[dI, dI, dI, dI, dI, dI, dI, dI, dI, dI, dI, dI, dI, dI]], ins := Yt460, nin := 14, outs := Yt461, rs := [.dat .bool], nout := 15, F := fun x => let a := x.2.2.2.2.2.2.2.2; F_conf_Config_rules_10 x.1 x.2.1 x.2.2.1 x.2.2.2.1 x.2.2.2.2.1 x.2.2.2.2.2.1 x.2.2.2.2.2.2.1 x.2.2.2.2.2.2.2.1 x.2.2.2.2.2.2.2.2.1 a.2.1 a.2.2.1 a.2.2.2.1 a.2.2.2.2.1 a.2.2.2.2.2 }
def hint_F_conf_Config_rules_10 : Hint := H0
theorem run_F_conf_Config_rules_10 : runE ⟨tdGet tys, [con_F_conf_Config_pulse, con_F_conf_within], [], [], []⟩ con_F_conf_Config_rules_10 Tryz.f69 hint_F_conf_Config_rules_10 = con_F_conf_Config_rules_10.F := by
 funext x
 kernel_rfl
theorem ok_F_conf_Config_rules_10 : ConOK Tryz.prog con_F_conf_Config_rules_10 :=
 con_of_run (Γ := ⟨tdGet tys, [con_F_conf_Config_pulse, con_F_conf_within], [], [], []⟩) ⟨fun T d h => tysB_ok tys tys_ok T d h, by simp [ok_F_conf_Config_pulse, ok_F_conf_within], by simp [], by simp [], ptrs_ok Tryz.prog [] (by kernel_rfl)⟩ (by kernel_rfl) Tryz.func69 rfl (by kernel_rfl) run_F_conf_Config_rules_10
noncomputable def F_conf_Config_rules_11 (x_1 : Int) (x_2 : Int) (x_3 : Int) (x_4 : Int) (x_5 : Int) (x_6 : Int) (x_7 : Int) (x_8 : Int) (x_9 : Int) (x_10 : Int) (x_11 : Int) (x_12 : Int) (x_13 : Int) (x_14 : Int) : Option Yd461 :=
 (F_conf_within x_12 (0 : Int) (1073741824 : Int)).bind fun t4_15 =>
 some (t4_15, x_1, x_2, x_3, x_4, x_5, x_6, x_7, x_8, x_9, x_10, x_11, x_12, x_13, x_14)
noncomputable def con_F_conf_Config_rules_11 : Con := { f := 71, ps := [.ref 0 0], boxes := [[dI, dI, dI, dI, dI, dI, dI, dI, dI, dI, dI, dI, dI, dI]], ins := Yt460, nin := 14, outs := Yt461, rs := [.dat .bool], nout := 15, F := fun x => let a := x.2.2.2.2.2.2.2.2; F_conf_Config_rules_11 x.1 x.2.1 x.2.2.1 x.2.2.2.1 x.2.2.2.2.1 x.2.2.2.2.2.1 x.2.2.2.2.2.2.1 x.2.2.2.2.2.2.2.1 x.2.2.2.2.2.2.2.2.1 a.2.1 a.2.2.1 a.2.2.2.1 a.2.2.2.2.1 a.2.2.2.2.2 }
def hint_F_conf_Config_rules_11 : Hint := H0
theorem run_F_conf_Config_rules_11 : runE ⟨tdGet tys, [con_F_conf_within], [], [], []⟩ con_F_conf_Config_rules_11 Tryz.f71 hint_F_conf_Config_rules_11 = con_F_conf_Config_rules_11.F := by
 funext x
 kernel_rfl
theorem ok_F_conf_Config_rules_11 : ConOK Tryz.prog con_F_conf_Config_rules_11 :=
 con_of_run (Γ := ⟨tdGet tys, [con_F_conf_within], [], [], []⟩) ⟨fun T d h => tysB_ok tys tys_ok T d h, by simp [ok_F_conf_within], by simp [], by simp [], ptrs_ok Tryz.prog [] (by kernel_rfl)⟩ (by kernel_rfl) Tryz.func71 rfl (by kernel_rfl) run_F_conf_Config_rules_11
noncomputable def F_conf_Config_rules_12 (x_1 : Int) (x_2 : Int) (x_3 : Int) (x_4 : Int) (x_5 : Int) (x_6 : Int) (x_7 : Int) (x_8 : Int) (x_9 : Int) (x_10 : Int) (x_11 : Int) (x_12 : Int) (x_13 : Int) (x_14 : Int) : Option Yd461 :=
 (F_conf_within x_14 (1 : Int) (1048576 : Int)).bind fun t4_15 =>
 some (t4_15, x_1, x_2, x_3, x_4, x_5, x_6, x_7, x_8, x_9, x_10, x_11, x_12, x_13, x_14)
noncomputable def con_F_conf_Config_rules_12 : Con := { f := 72, ps := [.ref 0 0], boxes := [[dI, dI, dI, dI, dI, dI, dI, dI, dI, dI, dI, dI, dI, dI]], ins := Yt460, nin := 14, outs := Yt461, rs := [.dat .bool], nout := 15, F := fun x => let a := x.2.2.2.2.2.2.2.2; F_conf_Config_rules_12 x.1 x.2.1 x.2.2.1 x.2.2.2.1 x.2.2.2.2.1 x.2.2.2.2.2.1 x.2.2.2.2.2.2.1 x.2.2.2.2.2.2.2.1 x.2.2.2.2.2.2.2.2.1 a.2.1 a.2.2.1 a.2.2.2.1 a.2.2.2.2.1 a.2.2.2.2.2 }
def hint_F_conf_Config_rules_12 : Hint := H0
theorem run_F_conf_Config_rules_12 : runE ⟨tdGet tys, [con_F_conf_within], [], [], []⟩ con_F_conf_Config_rules_12 Tryz.f72 hint_F_conf_Config_rules_12 = con_F_conf_Config_rules_12.F := by
 funext x
 kernel_rfl
theorem ok_F_conf_Config_rules_12 : ConOK Tryz.prog con_F_conf_Config_rules_12 :=
 con_of_run (Γ := ⟨tdGet tys, [con_F_conf_within], [], [], []⟩) ⟨fun T d h => tysB_ok tys tys_ok T d h, by simp [ok_F_conf_within], by simp [], by simp [], ptrs_ok Tryz.prog [] (by kernel_rfl)⟩ (by kernel_rfl) Tryz.func72 rfl (by kernel_rfl) run_F_conf_Config_rules_12
noncomputable def F_conf_Config_Check (c_1 : Yd460) : Option (Int × Int) :=
 (F_conf_Config_rules c_1).bind fun t7_2 =>
 (F_conf_Config_rules_1 t7_2.1 t7_2.2.1 t7_2.2.2.1 t7_2.2.2.2.1 t7_2.2.2.2.2.1 t7_2.2.2.2.2.2.1 t7_2.2.2.2.2.2.2.1 t7_2.2.2.2.2.2.2.2.1 t7_2.2.2.2.2.2.2.2.2.1 t7_2.2.2.2.2.2.2.2.2.2.1 t7_2.2.2.2.2.2.2.2.2.2.2.1 t7_2.2.2.2.2.2.2.2.2.2.2.2.1 t7_2.2.2.2.2.2.2.2.2.2.2.2.2.1 t7_2.2.2.2.2.2.2.2.2.2.2.2.2.2).bind fun t15_3 =>
 (bif (!t15_3.1) then
  some ((50 : Int), (1 : Int))
 else
  (F_conf_Config_rules_2 t15_3.2.1 t15_3.2.2.1 t15_3.2.2.2.1 t15_3.2.2.2.2.1 t15_3.2.2.2.2.2.1 t15_3.2.2.2.2.2.2.1 t15_3.2.2.2.2.2.2.2.1 t15_3.2.2.2.2.2.2.2.2.1 t15_3.2.2.2.2.2.2.2.2.2.1 t15_3.2.2.2.2.2.2.2.2.2.2.1 t15_3.2.2.2.2.2.2.2.2.2.2.2.1 t15_3.2.2.2.2.2.2.2.2.2.2.2.2.1 t15_3.2.2.2.2.2.2.2.2.2.2.2.2.2.1 t15_3.2.2.2.2.2.2.2.2.2.2.2.2.2.2).bind fun t15_4 =>
  (bif (!t15_4.1) then
   some ((50 : Int), (2 : Int))
  else
   (F_conf_Config_rules_3 t15_4.2.1 t15_4.2.2.1 t15_4.2.2.2.1 t15_4.2.2.2.2.1 t15_4.2.2.2.2.2.1 t15_4.2.2.2.2.2.2.1 t15_4.2.2.2.2.2.2.2.1 t15_4.2.2.2.2.2.2.2.2.1 t15_4.2.2.2.2.2.2.2.2.2.1 t15_4.2.2.2.2.2.2.2.2.2.2.1 t15_4.2.2.2.2.2.2.2.2.2.2.2.1 t15_4.2.2.2.2.2.2.2.2.2.2.2.2.1 t15_4.2.2.2.2.2.2.2.2.2.2.2.2.2.1 t15_4.2.2.2.2.2.2.2.2.2.2.2.2.2.2).bind fun t15_5 =>
   (bif (!t15_5.1) then
    some ((50 : Int), (3 : Int))
   else
    (F_conf_Config_rules_4 t15_5.2.1 t15_5.2.2.1 t15_5.2.2.2.1 t15_5.2.2.2.2.1 t15_5.2.2.2.2.2.1 t15_5.2.2.2.2.2.2.1 t15_5.2.2.2.2.2.2.2.1 t15_5.2.2.2.2.2.2.2.2.1 t15_5.2.2.2.2.2.2.2.2.2.1 t15_5.2.2.2.2.2.2.2.2.2.2.1 t15_5.2.2.2.2.2.2.2.2.2.2.2.1 t15_5.2.2.2.2.2.2.2.2.2.2.2.2.1 t15_5.2.2.2.2.2.2.2.2.2.2.2.2.2.1 t15_5.2.2.2.2.2.2.2.2.2.2.2.2.2.2).bind fun t15_6 =>
    (bif (!t15_6.1) then
     some ((50 : Int), (4 : Int))
    else
     (F_conf_Config_rules_5 t15_6.2.1 t15_6.2.2.1 t15_6.2.2.2.1 t15_6.2.2.2.2.1 t15_6.2.2.2.2.2.1 t15_6.2.2.2.2.2.2.1 t15_6.2.2.2.2.2.2.2.1 t15_6.2.2.2.2.2.2.2.2.1 t15_6.2.2.2.2.2.2.2.2.2.1 t15_6.2.2.2.2.2.2.2.2.2.2.1 t15_6.2.2.2.2.2.2.2.2.2.2.2.1 t15_6.2.2.2.2.2.2.2.2.2.2.2.2.1 t15_6.2.2.2.2.2.2.2.2.2.2.2.2.2.1 t15_6.2.2.2.2.2.2.2.2.2.2.2.2.2.2).bind fun t15_7 =>
     (bif (!t15_7.1) then
      some ((50 : Int), (5 : Int))
     else
      (F_conf_Config_rules_6 t15_7.2.1 t15_7.2.2.1 t15_7.2.2.2.1 t15_7.2.2.2.2.1 t15_7.2.2.2.2.2.1 t15_7.2.2.2.2.2.2.1 t15_7.2.2.2.2.2.2.2.1 t15_7.2.2.2.2.2.2.2.2.1 t15_7.2.2.2.2.2.2.2.2.2.1 t15_7.2.2.2.2.2.2.2.2.2.2.1 t15_7.2.2.2.2.2.2.2.2.2.2.2.1 t15_7.2.2.2.2.2.2.2.2.2.2.2.2.1 t15_7.2.2.2.2.2.2.2.2.2.2.2.2.2.1 t15_7.2.2.2.2.2.2.2.2.2.2.2.2.2.2).bind fun t15_8 =>
      (bif (!t15_8.1) then
       some ((50 : Int), (6 : Int))
      else
       (F_conf_Config_rules_7 t15_8.2.1 t15_8.2.2.1 t15_8.2.2.2.1 t15_8.2.2.2.2.1 t15_8.2.2.2.2.2.1 t15_8.2.2.2.2.2.2.1 t15_8.2.2.2.2.2.2.2.1 t15_8.2.2.2.2.2.2.2.2.1 t15_8.2.2.2.2.2.2.2.2.2.1 t15_8.2.2.2.2.2.2.2.2.2.2.1 t15_8.2.2.2.2.2.2.2.2.2.2.2.1 t15_8.2.2.2.2.2.2.2.2.2.2.2.2.1 t15_8.2.2.2.2.2.2.2.2.2.2.2.2.2.1 t15_8.2.2.2.2.2.2.2.2.2.2.2.2.2.2).bind fun t15_9 =>
       (bif (!t15_9.1) then
        some ((50 : Int), (7 : Int))
       else
        (F_conf_Config_rules_8 t15_9.2.1 t15_9.2.2.1 t15_9.2.2.2.1 t15_9.2.2.2.2.1 t15_9.2.2.2.2.2.1 t15_9.2.2.2.2.2.2.1 t15_9.2.2.2.2.2.2.2.1 t15_9.2.2.2.2.2.2.2.2.1 t15_9.2.2.2.2.2.2.2.2.2.1 t15_9.2.2.2.2.2.2.2.2.2.2.1 t15_9.2.2.2.2.2.2.2.2.2.2.2.1 t15_9.2.2.2.2.2.2.2.2.2.2.2.2.1 t15_9.2.2.2.2.2.2.2.2.2.2.2.2.2.1 t15_9.2.2.2.2.2.2.2.2.2.2.2.2.2.2).bind fun t15_10 =>
        (bif (!t15_10.1) then
         some ((50 : Int), (8 : Int))
        else
         (F_conf_Config_rules_9 t15_10.2.1 t15_10.2.2.1 t15_10.2.2.2.1 t15_10.2.2.2.2.1 t15_10.2.2.2.2.2.1 t15_10.2.2.2.2.2.2.1 t15_10.2.2.2.2.2.2.2.1 t15_10.2.2.2.2.2.2.2.2.1 t15_10.2.2.2.2.2.2.2.2.2.1 t15_10.2.2.2.2.2.2.2.2.2.2.1 t15_10.2.2.2.2.2.2.2.2.2.2.2.1 t15_10.2.2.2.2.2.2.2.2.2.2.2.2.1 t15_10.2.2.2.2.2.2.2.2.2.2.2.2.2.1 t15_10.2.2.2.2.2.2.2.2.2.2.2.2.2.2).bind fun t15_11 =>
         (bif (!t15_11.1) then
          some ((50 : Int), (9 : Int))
         else
          (F_conf_Config_rules_10 t15_11.2.1 t15_11.2.2.1 t15_11.2.2.2.1 t15_11.2.2.2.2.1 t15_11.2.2.2.2.2.1 t15_11.2.2.2.2.2.2.1 t15_11.2.2.2.2.2.2.2.1 t15_11.2.2.2.2.2.2.2.2.1 t15_11.2.2.2.2.2.2.2.2.2.1 t15_11.2.2.2.2.2.2.2.2.2.2.1 t15_11.2.2.2.2.2.2.2.2.2.2.2.1 t15_11.2.2.2.2.2.2.2.2.2.2.2.2.1 t15_11.2.2.2.2.2.2.2.2.2.2.2.2.2.1 t15_11.2.2.2.2.2.2.2.2.2.2.2.2.2.2).bind fun t15_12 =>
          (bif (!t15_12.1) then
           some ((50 : Int), (10 : Int))
          else
           (F_conf_Config_rules_11 t15_12.2.1 t15_12.2.2.1 t15_12.2.2.2.1 t15_12.2.2.2.2.1 t15_12.2.2.2.2.2.1 t15_12.2.2.2.2.2.2.1 t15_12.2.2.2.2.2.2.2.1 t15_12.2.2.2.2.2.2.2.2.1 t15_12.2.2.2.2.2.2.2.2.2.1 t15_12.2.2.2.2.2.2.2.2.2.2.1 t15_12.2.2.2.2.2.2.2.2.2.2.2.1 t15_12.2.2.2.2.2.2.2.2.2.2.2.2.1 t15_12.2.2.2.2.2.2.2.2.2.2.2.2.2.1 t15_12.2.2.2.2.2.2.2.2.2.2.2.2.2.2).bind fun t15_13 =>
           (bif (!t15_13.1) then
            some ((50 : Int), (11 : Int))
           else
            (F_conf_Config_rules_12 t15_13.2.1 t15_13.2.2.1 t15_13.2.2.2.1 t15_13.2.2.2.2.1 t15_13.2.2.2.2.2.1 t15_13.2.2.2.2.2.2.1 t15_13.2.2.2.2.2.2.2.1 t15_13.2.2.2.2.2.2.2.2.1 t15_13.2.2.2.2.2.2.2.2.2.1 t15_13.2.2.2.2.2.2.2.2.2.2.1 t15_13.2.2.2.2.2.2.2.2.2.2.2.1 t15_13.2.2.2.2.2.2.2.2.2.2.2.2.1 t15_13.2.2.2.2.2.2.2.2.2.2.2.2.2.1 t15_13.2.2.2.2.2.2.2.2.2.2.2.2.2.2).bind fun t15_14 =>
            (bif (!t15_14.1) then
             some ((50 : Int), (12 : Int))
            else
             some ((0 : Int), (0 : Int))))))))))))))
noncomputable def con_F_conf_Config_Check : Con := { f := 23, ps := [.dat (.agg Yt460)], boxes := [], ins := (.agg Yt460), nin := 1, outs := (.pair (.int .i64) (.int .i64)), rs := [dI, dI], nout := 2, F := fun x => F_conf_Config_Check x }
def hint_F_conf_Config_Check : Hint := (.mk .plain [H0, (.mk .plain [(.mk .plain [H0, (.mk .plain [(.mk (.unroll 13) [])])])])])
theorem run_F_conf_Config_Check : runE ⟨tdGet tys, [con_F_conf_Config_rules_1, con_F_conf_Config_rules_2, con_F_conf_Config_rules_3, con_F_conf_Config_rules_4, con_F_conf_Config_rules_5, con_F_conf_Config_rules_6, con_F_conf_Config_rules_7, con_F_conf_Config_rules_8, con_F_conf_Config_rules_9, con_F_conf_Config_rules_10, con_F_conf_Config_rules_11, con_F_conf_Config_rules_12], [con_F_conf_Config_rules], [], []⟩ con_F_conf_Config_Check Tryz.f23 hint_F_conf_Config_Check = con_F_conf_Config_Check.F := by
 funext x
 kernel_rfl
theorem ok_F_conf_Config_Check : ConOK Tryz.prog con_F_conf_Config_Check :=
 con_of_run (Γ := ⟨tdGet tys, [con_F_conf_Config_rules_1, con_F_conf_Config_rules_2, con_F_conf_Config_rules_3, con_F_conf_Config_rules_4, con_F_conf_Config_rules_5, con_F_conf_Config_rules_6, con_F_conf_Config_rules_7, con_F_conf_Config_rules_8, con_F_conf_Config_rules_9, con_F_conf_Config_rules_10, con_F_conf_Config_rules_11, con_F_conf_Config_rules_12], [con_F_conf_Config_rules], [], []⟩) ⟨fun T d h => tysB_ok tys tys_ok T d h, by simp [ok_F_conf_Config_rules_1, ok_F_conf_Config_rules_2, ok_F_conf_Config_rules_3, ok_F_conf_Config_rules_4, ok_F_conf_Config_rules_5, ok_F_conf_Config_rules_6, ok_F_conf_Config_rules_7, ok_F_conf_Config_rules_8, ok_F_conf_Config_rules_9, ok_F_conf_Config_rules_10, ok_F_conf_Config_rules_11, ok_F_conf_Config_rules_12], by simp [ok_F_conf_Config_rules], by simp [], ptrs_ok Tryz.prog [] (by kernel_rfl)⟩ (by kernel_rfl) Tryz.func23 rfl (by kernel_rfl) run_F_conf_Config_Check
noncomputable def F_grade_Check (l_1 : (List (Int × Int))) (length_2 : Int) : Option Int :=
 let t9_3 := ((l_1.length : Int) == (0 : Int))
 let t13_4 := (decide ((64 : Int) < (l_1.length : Int)))
 let t14_5 := (bif t9_3 then true else t13_4)
 chk none ((true && (decide ((0 : Int) < (l_1.length : Int)))) || !(!t14_5)) <|
 let e_6 : (Int × Int) := (l_1.getD (0 : Int).toNat ((0 : Int), (0 : Int)))
 let t21_7 := (bif t14_5 then true else (e_6.1 != (0 : Int)))
 (bif t21_7 then
  some (11 : Int)
 else
  Option.bind (α := Int ⊕ Unit) (
   loopO (X := Int ⊕ Unit) (fun (s_8 : Int) =>
    let t25_9 := (decide (s_8 < (l_1.length : Int)))
    (bif t25_9 then
     chk none ((decide ((0 : Int) ≤ s_8)) && (decide (s_8 < (l_1.length : Int)))) <|
     let t28_10 : (Int × Int) := (l_1.getD s_8.toNat ((0 : Int), (0 : Int)))
     let t31_11 := (decide (t28_10.2 < (-1048576 : Int)))
     let t35_12 := (decide ((1048576 : Int) < t28_10.2))
     let t36_13 := (bif t31_11 then true else t35_12)
     let t41_14 := (decide (length_2 ≤ t28_10.1))
     let t42_15 := (bif t36_13 then true else t41_14)
     let t45_16 := (decide ((0 : Int) < s_8))
     let t51_17 := (IntKind.wrap .i64 (s_8 - (1 : Int)))
     chk none (((decide ((0 : Int) ≤ t51_17)) && (decide (t51_17 < (l_1.length : Int)))) || !(t45_16 && !t42_15)) <|
     let e_18 : (Int × Int) := (l_1.getD t51_17.toNat ((0 : Int), (0 : Int)))
     let t55_19 := (decide (t28_10.1 ≤ e_18.1))
     let t56_20 := (bif t45_16 then t55_19 else false)
     let t57_21 := (bif t42_15 then true else t56_20)
     (bif t57_21 then
      some (.inr (.inl (11 : Int)))
     else
      let t58_22 := (IntKind.wrap .i64 (s_8 + (1 : Int)))
      some (.inl t58_22))
    else
     some (.inr (.inr ())))) (0 : Int)) fun z => match z with
  | .inl r_23 =>
   some r_23
  | .inr _ =>
   some (0 : Int))
noncomputable def con_F_grade_Check : Con := { f := 73, ps := [.dat (.slice (.agg (.pair (.int .i64) (.int .i64)))), dI], boxes := [], ins := (.pair (.slice (.agg (.pair (.int .i64) (.int .i64)))) (.int .i64)), nin := 2, outs := (.int .i64), rs := [dI], nout := 1, F := fun x => F_grade_Check x.1 x.2 }
def hint_F_grade_Check : Hint := (.mk .plain [H0, (.mk .plain [H0, (.mk .plain [(.mk .plain [H0, (.mk .plain [(.mk (.loop [⟨.slot 24, (.int .i64), none⟩] [(0, 30), (0, 36), (0, 42), (0, 39), (0, 45), (0, 48), (0, 54), (0, 51), (0, 57), (0, 5), (0, 26), (0, 29), (0, 35), (0, 32), (0, 38), (0, 41), (0, 47), (0, 44), (0, 50), (0, 53), (0, 56), (0, 4), (0, 28), (0, 25), (0, 31), (0, 34), (0, 40), (0, 37), (0, 43), (0, 46), (0, 52), (0, 49), (0, 55), (0, 6), (0, 27), (0, 33), (0, 58)] [(.ret, [⟨.slot 4, (.int .i64), none⟩]), (.exit 0, [])]) [])])])])])])
theorem run_F_grade_Check : runE ⟨tdGet tys, [], [], [], []⟩ con_F_grade_Check Tryz.f73 hint_F_grade_Check = con_F_grade_Check.F := by
 funext x
 kernel_rfl
theorem ok_F_grade_Check : ConOK Tryz.prog con_F_grade_Check :=
 con_of_run (Γ := ⟨tdGet tys, [], [], [], []⟩) ⟨fun T d h => tysB_ok tys tys_ok T d h, by simp [], by simp [], by simp [], ptrs_ok Tryz.prog [] (by kernel_rfl)⟩ (by kernel_rfl) Tryz.func73 rfl (by kernel_rfl) run_F_grade_Check
noncomputable def F_track_Track_segment (t_1 : Yd467) (s_2 : Yd1) : Option Bool :=
 let t9_3 := (decide (s_2.1 < (1 : Int)))
 let t13_4 := (decide ((1099511627776 : Int) < s_2.1))
 let t14_5 := (bif t9_3 then true else t13_4)
 (bif !t14_5 then F_grade_Check s_2.2.1 s_2.1 else some (0 : Int)).bind fun t20_6 =>
 let t22_7 := (bif t14_5 then true else (t20_6 != (0 : Int)))
 let t27_8 := (decide ((2 : Int) < (s_2.2.2.length : Int)))
 let t28_9 := (bif t22_7 then true else t27_8)
 (bif t28_9 then
  some false
 else
  Option.bind (α := Bool ⊕ Unit) (
   loopO (X := Bool ⊕ Unit) (fun (s_10 : Int) =>
    let t33_11 := (decide (s_10 < (s_2.2.2.length : Int)))
    (bif t33_11 then
     chk none ((decide ((0 : Int) ≤ s_10)) && (decide (s_10 < (s_2.2.2.length : Int)))) <|
     let t36_12 := (s_2.2.2.getD s_10.toNat (0 : Int))
     let t38_13 := (decide (t36_12 < (0 : Int)))
     let t44_14 := (decide ((t_1.1.length : Int) ≤ t36_12))
     let t45_15 := (bif t38_13 then true else t44_14)
     let t48_16 := (decide ((0 : Int) < s_10))
     let t54_17 := (IntKind.wrap .i64 (s_10 - (1 : Int)))
     chk none (((decide ((0 : Int) ≤ t54_17)) && (decide (t54_17 < (s_2.2.2.length : Int)))) || !(t48_16 && !t45_15)) <|
     let t56_18 := (s_2.2.2.getD t54_17.toNat (0 : Int))
     let t57_19 := (decide (t36_12 ≤ t56_18))
     let t58_20 := (bif t48_16 then t57_19 else false)
     let t59_21 := (bif t45_15 then true else t58_20)
     (bif t59_21 then
      some (.inr (.inl false))
     else
      let t60_22 := (IntKind.wrap .i64 (s_10 + (1 : Int)))
      some (.inl t60_22))
    else
     some (.inr (.inr ())))) (0 : Int)) fun z => match z with
  | .inl r_23 =>
   some r_23
  | .inr _ =>
   some true)
noncomputable def con_F_track_Track_segment : Con := { f := 43, ps := [.dat (.agg Yt467), .dat (.agg Yt1)], boxes := [], ins := Yt468, nin := 2, outs := .bool, rs := [.dat .bool], nout := 1, F := fun x => F_track_Track_segment x.1 x.2 }
def hint_F_track_Track_segment : Hint := (.mk .plain [H0, (.mk .plain [H0, (.mk .plain [(.mk .plain [H0, (.mk .plain [(.mk (.loop [⟨.slot 32, (.int .i64), none⟩] [(0, 36), (0, 42), (0, 4), (0, 39), (0, 45), (0, 48), (0, 54), (0, 51), (0, 57), (0, 5), (0, 34), (0, 40), (0, 37), (0, 43), (0, 46), (0, 52), (0, 49), (0, 55), (0, 35), (0, 58), (0, 38), (0, 6), (0, 41), (0, 47), (0, 33), (0, 44), (0, 50), (0, 53), (0, 59), (0, 56), (0, 60)] [(.ret, [⟨.slot 4, .bool, none⟩]), (.exit 0, [])]) [])])])])])])
theorem run_F_track_Track_segment : runE ⟨tdGet tys, [con_F_grade_Check], [], [], []⟩ con_F_track_Track_segment Tryz.f43 hint_F_track_Track_segment = con_F_track_Track_segment.F := by
 funext x
 kernel_rfl
theorem ok_F_track_Track_segment : ConOK Tryz.prog con_F_track_Track_segment :=
 con_of_run (Γ := ⟨tdGet tys, [con_F_grade_Check], [], [], []⟩) ⟨fun T d h => tysB_ok tys tys_ok T d h, by simp [ok_F_grade_Check], by simp [], by simp [], ptrs_ok Tryz.prog [] (by kernel_rfl)⟩ (by kernel_rfl) Tryz.func43 rfl (by kernel_rfl) run_F_track_Track_segment
noncomputable def F_track_Track_group (t_1 : Yd467) (i_2 : Int) (g_3 : Yd20) : Option Bool :=
 let t10_4 := (decide (g_3.1 < (1 : Int)))
 let t14_5 := (decide ((65535 : Int) < g_3.1))
 let t15_6 := (bif t10_4 then true else t14_5)
 let t18_7 := (decide ((0 : Int) < i_2))
 let t25_8 := (IntKind.wrap .i64 (i_2 - (1 : Int)))
 chk none (((decide ((0 : Int) ≤ t25_8)) && (decide (t25_8 < (t_1.2.length : Int)))) || !(t18_7 && !t15_6)) <|
 let e_9 : Yd20 := (t_1.2.getD t25_8.toNat ((0 : Int), ((0 : Int), ((0 : Int), ((0 : Int), (0 : Int))))))
 let t30_10 := (bif t18_7 then (decide (g_3.1 ≤ e_9.1)) else false)
 let t31_11 := (bif t15_6 then true else t30_10)
 let t35_12 := (decide (g_3.2.1 < (0 : Int)))
 let t36_13 := (bif t31_11 then true else t35_12)
 let t43_14 := (decide ((t_1.1.length : Int) ≤ g_3.2.1))
 let t44_15 := (bif t36_13 then true else t43_14)
 (bif t44_15 then
  some false
 else
  let t47_16 := (decide ((0 : Int) ≤ g_3.2.2.1))
  chk none (((decide ((0 : Int) ≤ g_3.2.1)) && (decide (g_3.2.1 < (t_1.1.length : Int)))) || !t47_16) <|
  let e_17 : Yd1 := (t_1.1.getD g_3.2.1.toNat ((0 : Int), ([], [])))
  let t58_18 := (decide (g_3.2.2.1 ≤ e_17.1))
  let t59_19 := (bif t47_16 then t58_18 else false)
  let t64_20 := (decide ((0 : Int) ≤ g_3.2.2.2.1))
  let t65_21 := (bif t59_19 then t64_20 else false)
  let t69_22 := (decide (g_3.2.2.2.1 ≤ (1048576 : Int)))
  let t70_23 := (bif t65_21 then t69_22 else false)
  let t74_24 := (decide ((0 : Int) ≤ g_3.2.2.2.2))
  let t75_25 := (bif t70_23 then t74_24 else false)
  let t79_26 := (decide (g_3.2.2.2.2 ≤ (16777216 : Int)))
  let t80_27 := (bif t75_25 then t79_26 else false)
  some t80_27)
noncomputable def con_F_track_Track_group : Con := { f := 44, ps := [.dat (.agg Yt467), dI, .dat (.agg Yt20)], boxes := [], ins := Yt470, nin := 3, outs := .bool, rs := [.dat .bool], nout := 1, F := fun x => F_track_Track_group x.1 x.2.1 x.2.2 }
def hint_F_track_Track_group : Hint := H0
theorem run_F_track_Track_group : runE ⟨tdGet tys, [], [], [], []⟩ con_F_track_Track_group Tryz.f44 hint_F_track_Track_group = con_F_track_Track_group.F := by
 funext x
 kernel_rfl
theorem ok_F_track_Track_group : ConOK Tryz.prog con_F_track_Track_group :=
 con_of_run (Γ := ⟨tdGet tys, [], [], [], []⟩) ⟨fun T d h => tysB_ok tys tys_ok T d h, by simp [], by simp [], by simp [], ptrs_ok Tryz.prog [] (by kernel_rfl)⟩ (by kernel_rfl) Tryz.func44 rfl (by kernel_rfl) run_F_track_Track_group
noncomputable def F_track_Track_Check (t_1 : Yd467) : Option (Int × Int) :=
 let t11_2 := ((t_1.1.length : Int) == (0 : Int))
 let t16_3 := (decide ((200 : Int) < (t_1.1.length : Int)))
 let t17_4 := (bif t11_2 then true else t16_3)
 let t22_5 := (decide ((400 : Int) < (t_1.2.length : Int)))
 let t23_6 := (bif t17_4 then true else t22_5)
 (bif t23_6 then
  some ((13 : Int), (0 : Int))
 else
  Option.bind (α := (Int × Int) ⊕ Unit) (
   loopO (X := (Int × Int) ⊕ Unit) (fun (s_7 : Int) =>
    let t28_8 := (decide (s_7 < (t_1.1.length : Int)))
    (bif t28_8 then
     chk none ((decide ((0 : Int) ≤ s_7)) && (decide (s_7 < (t_1.1.length : Int)))) <|
     let t31_9 : Yd1 := (t_1.1.getD s_7.toNat ((0 : Int), ([], [])))
     (F_track_Track_segment t_1 t31_9).bind fun t34_10 =>
     (bif (!t34_10) then
      some (.inr (.inl (s_7, (11 : Int))))
     else
      let t37_11 := (IntKind.wrap .i64 (s_7 + (1 : Int)))
      some (.inl t37_11))
    else
     some (.inr (.inr ())))) (0 : Int)) fun z => match z with
  | .inl r_12 =>
   let t3_13 := r_12.1
   let t2_14 := r_12.2
   some (t2_14, t3_13)
  | .inr _ =>
   Option.bind (α := (Int × Int) ⊕ Unit) (
    loopO (X := (Int × Int) ⊕ Unit) (fun (s_15 : Int) =>
     let t42_16 := (decide (s_15 < (t_1.2.length : Int)))
     (bif t42_16 then
      chk none ((decide ((0 : Int) ≤ s_15)) && (decide (s_15 < (t_1.2.length : Int)))) <|
      let t45_17 : Yd20 := (t_1.2.getD s_15.toNat ((0 : Int), ((0 : Int), ((0 : Int), ((0 : Int), (0 : Int))))))
      (F_track_Track_group t_1 s_15 t45_17).bind fun t49_18 =>
      (bif (!t49_18) then
       some (.inr (.inl ((16 : Int), s_15)))
      else
       let t52_19 := (IntKind.wrap .i64 (s_15 + (1 : Int)))
       some (.inl t52_19))
     else
      some (.inr (.inr ())))) (0 : Int)) fun z => match z with
   | .inl r_20 =>
    let t2_21 := r_20.1
    let t3_22 := r_20.2
    some (t2_21, t3_22)
   | .inr _ =>
    some ((0 : Int), (0 : Int)))
noncomputable def con_F_track_Track_Check : Con := { f := 24, ps := [.dat (.agg Yt467)], boxes := [], ins := (.agg Yt467), nin := 1, outs := (.pair (.int .i64) (.int .i64)), rs := [dI, dI], nout := 2, F := fun x => F_track_Track_Check x }
def hint_F_track_Track_Check : Hint := (.mk .plain [H0, (.mk .plain [H0, (.mk .plain [(.mk .plain [H0, (.mk .plain [(.mk (.loop [⟨.slot 27, (.int .i64), none⟩] [(0, 30), (0, 36), (0, 4), (0, 29), (0, 35), (0, 3), (0, 32), (0, 28), (0, 2), (0, 31), (0, 5), (0, 34), (0, 33), (0, 37)] [(.ret, [⟨.slot 3, (.int .i64), none⟩, ⟨.slot 2, (.int .i64), none⟩]), (.exit 0, [])]) [])])]), (.mk .plain [(.mk .plain [H0, (.mk .plain [(.mk (.loop [⟨.slot 41, (.int .i64), none⟩] [(0, 7), (0, 42), (0, 45), (0, 48), (0, 51), (0, 2), (0, 43), (0, 46), (0, 49), (0, 3), (0, 6), (0, 47), (0, 44), (0, 50), (0, 52)] [(.ret, [⟨.slot 2, (.int .i64), none⟩, ⟨.slot 3, (.int .i64), none⟩]), (.exit 2, [])]) [])])])])])])])
theorem run_F_track_Track_Check : runE ⟨tdGet tys, [con_F_track_Track_segment, con_F_track_Track_group], [], [], []⟩ con_F_track_Track_Check Tryz.f24 hint_F_track_Track_Check = con_F_track_Track_Check.F := by
 funext x
 kernel_rfl
theorem ok_F_track_Track_Check : ConOK Tryz.prog con_F_track_Track_Check :=
 con_of_run (Γ := ⟨tdGet tys, [con_F_track_Track_segment, con_F_track_Track_group], [], [], []⟩) ⟨fun T d h => tysB_ok tys tys_ok T d h, by simp [ok_F_track_Track_segment, ok_F_track_Track_group], by simp [], by simp [], ptrs_ok Tryz.prog [] (by kernel_rfl)⟩ (by kernel_rfl) Tryz.func24 rfl (by kernel_rfl) run_F_track_Track_Check
noncomputable def F_conf_Config_Reach (c_1 : Yd460) (g_2 : Yd20) : Option Int :=
 let t9_3 := (IntKind.wrap .i64 (g_2.2.2.2.1 + c_1.2.2.2.2.2.2.2.2.1))
 let t12_4 := (IntKind.wrap .i64 (t9_3 + c_1.2.2.2.2.2.2.1))
 some t12_4
noncomputable def con_F_conf_Config_Reach : Con := { f := 25, ps := [.dat (.agg Yt460), .dat (.agg Yt20)], boxes := [], ins := Yt471, nin := 2, outs := (.int .i64), rs := [dI], nout := 1, F := fun x => F_conf_Config_Reach x.1 x.2 }
def hint_F_conf_Config_Reach : Hint := H0
theorem run_F_conf_Config_Reach : runE ⟨tdGet tys, [], [], [], []⟩ con_F_conf_Config_Reach Tryz.f25 hint_F_conf_Config_Reach = con_F_conf_Config_Reach.F := by
 funext x
 kernel_rfl
theorem ok_F_conf_Config_Reach : ConOK Tryz.prog con_F_conf_Config_Reach :=
 con_of_run (Γ := ⟨tdGet tys, [], [], [], []⟩) ⟨fun T d h => tysB_ok tys tys_ok T d h, by simp [], by simp [], by simp [], ptrs_ok Tryz.prog [] (by kernel_rfl)⟩ (by kernel_rfl) Tryz.func25 rfl (by kernel_rfl) run_F_conf_Config_Reach
noncomputable def F_conf_Config_Fits (c_1 : Yd460) (t_2 : Yd467) : Option (Int × Int) :=
 (F_conf_Config_Check c_1).bind fun t16_3 =>
 (bif (t16_3.1 != (0 : Int)) then
  some (t16_3.1, (0 : Int))
 else
  (F_track_Track_Check t_2).bind fun t24_4 =>
  (bif (t24_4.1 != (0 : Int)) then
   some ((51 : Int), (0 : Int))
  else
   Option.bind (α := (Int × Int) ⊕ Unit) (
    loopO (X := (Int × Int) ⊕ Unit) (fun (s_5 : Int) =>
     let t33_6 := (decide (s_5 < (t_2.2.length : Int)))
     (bif t33_6 then
      chk none ((decide ((0 : Int) ≤ s_5)) && (decide (s_5 < (t_2.2.length : Int)))) <|
      let t36_7 : Yd20 := (t_2.2.getD s_5.toNat ((0 : Int), ((0 : Int), ((0 : Int), ((0 : Int), (0 : Int))))))
      chk none ((decide ((0 : Int) ≤ t36_7.2.1)) && (decide (t36_7.2.1 < (t_2.1.length : Int)))) <|
      let e_8 : Yd1 := (t_2.1.getD t36_7.2.1.toNat ((0 : Int), ([], [])))
      let t46_9 := (IntKind.wrap .i64 (e_8.1 - t36_7.2.2.1))
      (F_conf_Config_Reach c_1 t36_7).bind fun t49_10 =>
      let t53_11 := (decide (t36_7.2.2.1 < t49_10))
      let t57_12 := (decide (t46_9 < t49_10))
      let t58_13 := (bif t53_11 then true else t57_12)
      (bif t58_13 then
       some (.inr (.inl (s_5, (11 : Int))))
      else
       let t60_14 := (IntKind.wrap .i64 (s_5 + (1 : Int)))
       some (.inl t60_14))
     else
      some (.inr (.inr ())))) (0 : Int)) fun z => match z with
   | .inl r_15 =>
    let t5_16 := r_15.1
    let t4_17 := r_15.2
    some (t4_17, t5_16)
   | .inr _ =>
    some ((0 : Int), (0 : Int))))
noncomputable def con_F_conf_Config_Fits : Con := { f := 10, ps := [.dat (.agg Yt460), .dat (.agg Yt467)], boxes := [], ins := Yt472, nin := 2, outs := (.pair (.int .i64) (.int .i64)), rs := [dI, dI], nout := 2, F := fun x => F_conf_Config_Fits x.1 x.2 }
def hint_F_conf_Config_Fits : Hint := (.mk .plain [H0, (.mk .plain [H0, (.mk .plain [H0, (.mk .plain [(.mk .plain [H0, (.mk .plain [(.mk (.loop [⟨.slot 32, (.int .i64), none⟩] [(0, 36), (0, 42), (0, 39), (0, 45), (0, 48), (0, 54), (0, 51), (0, 57), (0, 5), (0, 11), (0, 35), (0, 38), (0, 41), (0, 47), (0, 44), (0, 50), (0, 53), (0, 59), (0, 56), (0, 4), (0, 10), (0, 13), (0, 34), (0, 40), (0, 37), (0, 43), (0, 46), (0, 52), (0, 49), (0, 55), (0, 58), (0, 12), (0, 33), (0, 60)] [(.ret, [⟨.slot 5, (.int .i64), none⟩, ⟨.slot 4, (.int .i64), none⟩]), (.exit 0, [])]) [])])])])])])])
theorem run_F_conf_Config_Fits : runE ⟨tdGet tys, [con_F_conf_Config_Check, con_F_track_Track_Check, con_F_conf_Config_Reach], [], [], []⟩ con_F_conf_Config_Fits Tryz.f10 hint_F_conf_Config_Fits = con_F_conf_Config_Fits.F := by
 funext x
 kernel_rfl
theorem ok_F_conf_Config_Fits : ConOK Tryz.prog con_F_conf_Config_Fits :=
 con_of_run (Γ := ⟨tdGet tys, [con_F_conf_Config_Check, con_F_track_Track_Check, con_F_conf_Config_Reach], [], [], []⟩) ⟨fun T d h => tysB_ok tys tys_ok T d h, by simp [ok_F_conf_Config_Check, ok_F_track_Track_Check, ok_F_conf_Config_Reach], by simp [], by simp [], ptrs_ok Tryz.prog [] (by kernel_rfl)⟩ (by kernel_rfl) Tryz.func10 rfl (by kernel_rfl) run_F_conf_Config_Fits
noncomputable def F_make_dice_to (n_1 : Int) (x_2 : Int) : Option (Int × Int) :=
 let t9_3 := (IntKind.wrap .u64 (x_2 * (6364136223846793005 : Int)))
 let t10_4 := (IntKind.wrap .u64 (t9_3 + (1442695040888963407 : Int)))
 let t13_5 := (decide (n_1 < (1 : Int)))
 (bif t13_5 then
  some ((0 : Int), t10_4)
 else
  let t18_6 := (IntKind.wrap .i64 (t10_4.fdiv (2 ^ 33)))
  chk none (!(n_1 == (0 : Int))) <|
  some ((t18_6.tmod n_1), t10_4))
noncomputable def con_F_make_dice_to : Con := { f := 12, ps := [.ref 0 0, dI], boxes := [[.dat (.int .u64)]], ins := (.pair (.int .i64) (.int .u64)), nin := 2, outs := (.pair (.int .i64) (.int .u64)), rs := [dI], nout := 2, F := fun x => F_make_dice_to x.1 x.2 }
def hint_F_make_dice_to : Hint := H0
theorem run_F_make_dice_to : runE ⟨tdGet tys, [], [], [], []⟩ con_F_make_dice_to Tryz.f12 hint_F_make_dice_to = con_F_make_dice_to.F := by
 funext x
 kernel_rfl
theorem ok_F_make_dice_to : ConOK Tryz.prog con_F_make_dice_to :=
 con_of_run (Γ := ⟨tdGet tys, [], [], [], []⟩) ⟨fun T d h => tysB_ok tys tys_ok T d h, by simp [], by simp [], by simp [], ptrs_ok Tryz.prog [] (by kernel_rfl)⟩ (by kernel_rfl) Tryz.func12 rfl (by kernel_rfl) run_F_make_dice_to
noncomputable def F_world_Start (t_1 : Yd467) (route_2 : (List Int)) (index_3 : Int) : Option Int :=
 chk none (true && (decide ((0 : Int) ≤ index_3)) && (decide (index_3 ≤ (route_2.length : Int)))) <|
 let t12_4 : (List Int) := ((route_2.take index_3.toNat).drop (0 : Int).toNat)
 Option.bind (
  loopO (X := Int) (fun (s_5 : (Int × Int)) =>
   let t7_6 := s_5.1
   let t14_7 := s_5.2
   let t15_8 := (decide (t14_7 < (t12_4.length : Int)))
   (bif t15_8 then
    chk none ((decide ((0 : Int) ≤ t14_7)) && (decide (t14_7 < (t12_4.length : Int)))) <|
    let t17_9 := (t12_4.getD t14_7.toNat (0 : Int))
    chk none ((decide ((0 : Int) ≤ t17_9)) && (decide (t17_9 < (t_1.1.length : Int)))) <|
    let e_10 : Yd1 := (t_1.1.getD t17_9.toNat ((0 : Int), ([], [])))
    let t25_11 := (IntKind.wrap .i64 (t7_6 + e_10.1))
    let t26_12 := (IntKind.wrap .i64 (t14_7 + (1 : Int)))
    some (.inl (t25_11, t26_12))
   else
    some (.inr t7_6))) ((0 : Int), (0 : Int))) fun r_13 =>
 some r_13
noncomputable def con_F_world_Start : Con := { f := 26, ps := [.dat (.agg Yt467), .dat (.slice (.int .i64)), dI], boxes := [], ins := Yt473, nin := 3, outs := (.int .i64), rs := [dI], nout := 1, F := fun x => F_world_Start x.1 x.2.1 x.2.2 }
def hint_F_world_Start : Hint := (.mk .plain [H0, (.mk .plain [H0, (.mk .plain [(.mk .plain [H0, (.mk .plain [(.mk (.loop [⟨.slot 7, (.int .i64), none⟩, ⟨.slot 14, (.int .i64), none⟩] [(0, 23), (0, 20), (0, 26), (0, 16), (0, 19), (0, 9), (0, 22), (0, 25), (0, 15), (0, 21), (0, 18), (0, 24), (0, 17)] [(.exit 0, [⟨.slot 7, (.int .i64), none⟩])]) [])])])])])])
theorem run_F_world_Start : runE ⟨tdGet tys, [], [], [], []⟩ con_F_world_Start Tryz.f26 hint_F_world_Start = con_F_world_Start.F := by
 funext x
 kernel_rfl
theorem ok_F_world_Start : ConOK Tryz.prog con_F_world_Start :=
 con_of_run (Γ := ⟨tdGet tys, [], [], [], []⟩) ⟨fun T d h => tysB_ok tys tys_ok T d h, by simp [], by simp [], by simp [], ptrs_ok Tryz.prog [] (by kernel_rfl)⟩ (by kernel_rfl) Tryz.func26 rfl (by kernel_rfl) run_F_world_Start
noncomputable def F_make_maker_way (x_1 : Int) (x_2 : Int) (x_3 : Int) (x_4 : Int) (x_5 : Int) (x_6 : Int) (x_7 : Int) (x_8 : Int) (x_9 : Int) (x_10 : Int) (x_11 : Int) (x_12 : Int) (x_13 : Int) (x_14 : Int) (x_15 : (List Yd1)) (x_16 : (List Yd20)) (x_17 : (List Int)) (x_18 : Int) (x_19 : Int) (x_20 : Int) (x_21 : Int) (x_22 : Int) (x_23 : Int) (x_24 : (List Yd19)) (x_25 : (List Yd12)) (x_26 : Int) (x_27 : Int) (x_28 : Int) (x_29 : Int) (x_30 : Int) (x_31 : Int) (x_32 : Int) (x_33 : Int) : Option Yd503 :=
 (F_make_dice_to (x_15.length : Int) x_33).bind fun t14_34 =>
 Option.bind (
  loopO (X := ((List Int) × Int)) (fun (s_35 : ((List Int) × Int)) =>
   let b0_36 : (List Int) := s_35.1
   let b1_37 := s_35.2
   let t25_38 := (decide ((b0_36.length : Int) < (60 : Int)))
   (bif t25_38 then
    let t42_39 := (IntKind.wrap .i64 ((b0_36.length : Int) - (1 : Int)))
    chk none ((decide ((0 : Int) ≤ t42_39)) && (decide (t42_39 < (b0_36.length : Int)))) <|
    let t44_40 := (b0_36.getD t42_39.toNat (0 : Int))
    chk none ((decide ((0 : Int) ≤ t44_40)) && (decide (t44_40 < (x_15.length : Int)))) <|
    let e_41 : Yd1 := (x_15.getD t44_40.toNat ((0 : Int), ([], [])))
    let t50_42 := ((e_41.2.2.length : Int) == (0 : Int))
    (bif t50_42 then
     some (.inr (b0_36, b1_37))
    else
     (F_make_dice_to (e_41.2.2.length : Int) b1_37).bind fun t64_43 =>
     chk none ((decide ((0 : Int) ≤ t64_43.1)) && (decide (t64_43.1 < (e_41.2.2.length : Int)))) <|
     let t66_44 := (e_41.2.2.getD t64_43.1.toNat (0 : Int))
     chk none (decide ((b0_36.length + ([t66_44] : List Int).length) * 8 ≤ 140737488355328)) <|
     let t68_45 : (List Int) := (b0_36 ++ ([t66_44] : List Int))
     some (.inl (t68_45, t64_43.2)))
   else
    some (.inr (b0_36, b1_37)))) (([t14_34.1] : List Int), t14_34.2)) fun r_46 =>
 let b0_47 : (List Int) := r_46.1
 let b1_48 := r_46.2
 (F_world_Start (x_15, x_16) b0_47 (b0_47.length : Int)).bind fun t88_49 =>
 let t100_50 := (IntKind.wrap .i64 (t88_49 + (1 : Int)))
 let t101_51 := (if (1073741824 : Int) < t100_50 then (1073741824 : Int) else t100_50)
 (F_make_dice_to t101_51 b1_48).bind fun t102_52 =>
 some (x_1, x_2, x_3, x_4, x_5, x_6, x_7, x_8, x_9, x_10, x_11, x_12, x_13, x_14, x_15, x_16, b0_47, t102_52.1, x_19, x_20, x_21, x_22, x_23, x_24, x_25, t88_49, t102_52.1, x_28, x_29, x_30, x_31, x_32, t102_52.2)
noncomputable def con_F_make_maker_way : OCon := { f := 11, ps := [.ref 0 0], boxes := [[.ref 1 0, oI, oI, oI, oI, oI, oI, oI, oI, oI, oI, oI, oI, oI, oI, .dat (.slice (.agg Yt1)), .dat (.slice (.agg Yt20)), .own 601700003 (.int .i64), oI, oI, oI, oI, oI, oI, .own 602400087 (.agg Yt19), .own 602500092 (.agg Yt12), oI, oI, oI, oI, oI, oI, oI], [.dat (.int .u64)]], ins := Yt503, nin := 33, outs := Yt503, rs := [], aft := [[.ref 1 0, oI, oI, oI, oI, oI, oI, oI, oI, oI, oI, oI, oI, oI, oI, .dat (.slice (.agg Yt1)), .dat (.slice (.agg Yt20)), .own 601700003 (.int .i64), oI, oI, oI, oI, oI, oI, .own 602400087 (.agg Yt19), .own 602500092 (.agg Yt12), oI, oI, oI, oI, oI, oI, oI], [.dat (.int .u64)]], nout := 33, F := fun x => let a := x.2.2.2.2.2.2.2.2; let b := a.2.2.2.2.2.2.2.2; let c := b.2.2.2.2.2.2.2.2; F_make_maker_way x.1 x.2.1 x.2.2.1 x.2.2.2.1 x.2.2.2.2.1 x.2.2.2.2.2.1 x.2.2.2.2.2.2.1 x.2.2.2.2.2.2.2.1 x.2.2.2.2.2.2.2.2.1 a.2.1 a.2.2.1 a.2.2.2.1 a.2.2.2.2.1 a.2.2.2.2.2.1 a.2.2.2.2.2.2.1 a.2.2.2.2.2.2.2.1 a.2.2.2.2.2.2.2.2.1 b.2.1 b.2.2.1 b.2.2.2.1 b.2.2.2.2.1 b.2.2.2.2.2.1 b.2.2.2.2.2.2.1 b.2.2.2.2.2.2.2.1 b.2.2.2.2.2.2.2.2.1 c.2.1 c.2.2.1 c.2.2.2.1 c.2.2.2.2.1 c.2.2.2.2.2.1 c.2.2.2.2.2.2.1 c.2.2.2.2.2.2.2.1 c.2.2.2.2.2.2.2.2 }
def hint_F_make_maker_way : Hint := (.mk .plain [H0, (.mk .plain [(.mk .plain [(.mk (.loop [⟨.cell 0 17, (.slice (.int .i64)), some 900000003⟩, ⟨.cell 1 0, (.int .u64), none⟩] [(0, 30), (0, 36), (0, 42), (0, 39), (0, 45), (0, 19), (0, 48), (0, 22), (0, 28), (0, 2), (0, 31), (0, 25), (0, 34), (0, 40), (0, 37), (0, 43), (0, 46), (0, 23), (0, 20), (0, 26), (0, 49), (0, 29), (0, 35), (0, 32), (0, 38), (0, 41), (0, 47), (0, 44), (0, 50), (0, 21), (0, 24), (0, 27), (0, 33), (0, 54), (0, 51), (0, 57), (0, 60), (0, 66), (0, 63), (0, 69), (0, 53), (0, 59), (0, 56), (0, 62), (0, 68), (0, 65), (0, 71), (0, 52), (0, 55), (0, 61), (0, 58), (0, 64), (0, 67), (0, 70), (0, 15)] [(.exit 0, [⟨.cell 0 17, (.slice (.int .i64)), some 900000003⟩, ⟨.cell 1 0, (.int .u64), none⟩])]) [])])])])
theorem run_F_make_maker_way : runO ⟨tdGet tys, [con_F_make_dice_to, con_F_world_Start], [], [], []⟩ con_F_make_maker_way Tryz.f11 hint_F_make_maker_way = con_F_make_maker_way.F := by
 funext x
 kernel_rfl
theorem ok_F_make_maker_way : OConOK Tryz.prog con_F_make_maker_way :=
 ocon_of_run (Γ := ⟨tdGet tys, [con_F_make_dice_to, con_F_world_Start], [], [], []⟩) ⟨fun T d h => tysB_ok tys tys_ok T d h, by simp [ok_F_make_dice_to, ok_F_world_Start], by simp [], by simp [], ptrs_ok Tryz.prog [] (by kernel_rfl)⟩ (by kernel_rfl) Tryz.func11 rfl (by kernel_rfl) rfl run_F_make_maker_way
noncomputable def F_make_dice_one (n_1 : Int) (x_2 : Int) : Option (Bool × Int) :=
 (F_make_dice_to n_1 x_2).bind fun t7_3 =>
 some ((t7_3.1 == (0 : Int)), t7_3.2)
noncomputable def con_F_make_dice_one : Con := { f := 28, ps := [.ref 0 0, dI], boxes := [[.dat (.int .u64)]], ins := (.pair (.int .i64) (.int .u64)), nin := 2, outs := (.pair .bool (.int .u64)), rs := [.dat .bool], nout := 2, F := fun x => F_make_dice_one x.1 x.2 }
def hint_F_make_dice_one : Hint := H0
theorem run_F_make_dice_one : runE ⟨tdGet tys, [con_F_make_dice_to], [], [], []⟩ con_F_make_dice_one Tryz.f28 hint_F_make_dice_one = con_F_make_dice_one.F := by
 funext x
 kernel_rfl
theorem ok_F_make_dice_one : ConOK Tryz.prog con_F_make_dice_one :=
 con_of_run (Γ := ⟨tdGet tys, [con_F_make_dice_to], [], [], []⟩) ⟨fun T d h => tysB_ok tys tys_ok T d h, by simp [ok_F_make_dice_to], by simp [], by simp [], ptrs_ok Tryz.prog [] (by kernel_rfl)⟩ (by kernel_rfl) Tryz.func28 rfl (by kernel_rfl) run_F_make_dice_one
noncomputable def F_make_maker_stops (x_1 : Int) (x_2 : Int) (x_3 : Int) (x_4 : Int) (x_5 : Int) (x_6 : Int) (x_7 : Int) (x_8 : Int) (x_9 : Int) (x_10 : Int) (x_11 : Int) (x_12 : Int) (x_13 : Int) (x_14 : Int) (x_15 : (List Yd1)) (x_16 : (List Yd20)) (x_17 : (List Int)) (x_18 : Int) (x_19 : Int) (x_20 : Int) (x_21 : Int) (x_22 : Int) (x_23 : Int) (x_24 : (List Yd19)) (x_25 : (List Yd12)) (x_26 : Int) (x_27 : Int) (x_28 : Int) (x_29 : Int) (x_30 : Int) (x_31 : Int) (x_32 : Int) (at_33 : Int) (v_34 : Int) : Option Bool :=
 let t15_35 := (IntKind.wrap .i64 (x_26 - at_33))
 let t18_36 := (decide (v_34 < (0 : Int)))
 Option.bind (
  (bif t18_36 then
   let t21_37 := (IntKind.wrap .i64 (0 - v_34))
   some (at_33, t21_37)
  else
   some (t15_35, v_34))) fun r_38 =>
 let left_39 := r_38.1
 let size_40 := r_38.2
 let t23_41 := (decide (at_33 < (0 : Int)))
 let t31_42 := (bif t23_41 then true else (decide (x_26 < at_33)))
 (bif t31_42 then
  some false
 else
  chk none (!(x_8 == (0 : Int))) <|
  let t38_43 := (IntKind.wrap .i64 (size_40.tdiv x_8))
  let t41_44 := (IntKind.wrap .i64 (t38_43 * size_40))
  let t49_45 := (IntKind.wrap .i64 (t38_43 + (1 : Int)))
  let t50_46 := (IntKind.wrap .i64 (t38_43 * t49_45))
  let t51_47 := (IntKind.wrap .i64 (t50_46.tdiv (2 : Int)))
  let t52_48 := (IntKind.wrap .i64 (x_8 * t51_47))
  let t53_49 := (IntKind.wrap .i64 (t41_44 - t52_48))
  let t55_50 := (decide (t53_49 ≤ left_39))
  some t55_50)
noncomputable def con_F_make_maker_stops : Con := { f := 45, ps := [.rp [.skip, dI, dI, dI, dI, dI, dI, dI, dI, dI, dI, dI, dI, dI, dI, .dat (.slice (.agg Yt1)), .dat (.slice (.agg Yt20)), .dat (.slice (.int .i64)), dI, dI, dI, dI, dI, dI, .dat (.slice (.agg Yt19)), .dat (.slice (.agg Yt12)), dI, dI, dI, dI, dI, dI, dI] 0, dI, dI], boxes := [], ins := Yt528, nin := 34, outs := .bool, rs := [.dat .bool], nout := 1, F := fun x => let a := x.2.2.2.2.2.2.2.2; let b := a.2.2.2.2.2.2.2.2; let c := b.2.2.2.2.2.2.2.2; let d := c.2.2.2.2.2.2.2.2; F_make_maker_stops x.1 x.2.1 x.2.2.1 x.2.2.2.1 x.2.2.2.2.1 x.2.2.2.2.2.1 x.2.2.2.2.2.2.1 x.2.2.2.2.2.2.2.1 x.2.2.2.2.2.2.2.2.1 a.2.1 a.2.2.1 a.2.2.2.1 a.2.2.2.2.1 a.2.2.2.2.2.1 a.2.2.2.2.2.2.1 a.2.2.2.2.2.2.2.1 a.2.2.2.2.2.2.2.2.1 b.2.1 b.2.2.1 b.2.2.2.1 b.2.2.2.2.1 b.2.2.2.2.2.1 b.2.2.2.2.2.2.1 b.2.2.2.2.2.2.2.1 b.2.2.2.2.2.2.2.2.1 c.2.1 c.2.2.1 c.2.2.2.1 c.2.2.2.2.1 c.2.2.2.2.2.1 c.2.2.2.2.2.2.1 c.2.2.2.2.2.2.2.1 c.2.2.2.2.2.2.2.2.1 d.2 }
def hint_F_make_maker_stops : Hint := (.mk .plain [H0, (.mk .plain [H0, (.mk .plain [(.mk .plain [H0, (.mk (.join [(0, 20), (0, 21), (0, 19)] [(.normal, [⟨.slot 7, (.int .i64), none⟩, ⟨.slot 8, (.int .i64), none⟩])]) [])])])])])
theorem run_F_make_maker_stops : runE ⟨tdGet tys, [], [], [], []⟩ con_F_make_maker_stops Tryz.f45 hint_F_make_maker_stops = con_F_make_maker_stops.F := by
 funext x
 kernel_rfl
theorem ok_F_make_maker_stops : ConOK Tryz.prog con_F_make_maker_stops :=
 con_of_run (Γ := ⟨tdGet tys, [], [], [], []⟩) ⟨fun T d h => tysB_ok tys tys_ok T d h, by simp [], by simp [], by simp [], ptrs_ok Tryz.prog [] (by kernel_rfl)⟩ (by kernel_rfl) Tryz.func45 rfl (by kernel_rfl) run_F_make_maker_stops
noncomputable def F_make_maker_speed (x_1 : Int) (x_2 : Int) (x_3 : Int) (x_4 : Int) (x_5 : Int) (x_6 : Int) (x_7 : Int) (x_8 : Int) (x_9 : Int) (x_10 : Int) (x_11 : Int) (x_12 : Int) (x_13 : Int) (x_14 : Int) (x_15 : (List Yd1)) (x_16 : (List Yd20)) (x_17 : (List Int)) (x_18 : Int) (x_19 : Int) (x_20 : Int) (x_21 : Int) (x_22 : Int) (x_23 : Int) (x_24 : (List Yd19)) (x_25 : (List Yd12)) (x_26 : Int) (x_27 : Int) (x_28 : Int) (x_29 : Int) (x_30 : Int) (x_31 : Int) (x_32 : Int) (x_33 : Int) : Option Yd529 :=
 (F_make_dice_one (20 : Int) x_33).bind fun t9_34 =>
 Option.bind (
  (bif t9_34.1 then
   let t20_35 := (IntKind.wrap .i64 ((2 : Int) * x_7))
   let t21_36 := (IntKind.wrap .i64 (t20_35 + (1 : Int)))
   (F_make_dice_to t21_36 t9_34.2).bind fun t22_37 =>
   let t28_38 := (IntKind.wrap .i64 (x_7.tdiv (2 : Int)))
   let t29_39 := (IntKind.wrap .i64 (t22_37.1 - t28_38))
   some (t29_39, t22_37.2)
  else
   some (x_29, t9_34.2))) fun r_40 =>
 let b0_41 := r_40.1
 let b1_42 := r_40.2
 (F_make_dice_one (20 : Int) b1_42).bind fun t36_43 =>
 Option.bind (
  (bif t36_43.1 then
   some (0 : Int)
  else
   some b0_41)) fun r_44 =>
 let t49_45 := (IntKind.wrap .i64 (0 - x_7))
 let t50_46 := (if t49_45 > r_44 then t49_45 else r_44)
 let t56_47 := (if x_7 < t50_46 then x_7 else t50_46)
 let t66_48 := (IntKind.wrap .i64 (t56_47 - x_28))
 let t72_49 := (IntKind.wrap .i64 (0 - x_8))
 let t73_50 := (if t72_49 > t66_48 then t72_49 else t66_48)
 let t79_51 := (if x_8 < t73_50 then x_8 else t73_50)
 let t80_52 := (IntKind.wrap .i64 (x_28 + t79_51))
 let t87_53 := (IntKind.wrap .i64 (x_27 + t80_52))
 (F_make_maker_stops x_1 x_2 x_3 x_4 x_5 x_6 x_7 x_8 x_9 x_10 x_11 x_12 x_13 x_14 x_15 x_16 x_17 x_18 x_19 x_20 x_21 x_22 x_23 x_24 x_25 x_26 x_27 x_28 r_44 x_30 x_31 x_32 t87_53 t80_52).bind fun t89_54 =>
 (bif t89_54 then
  some (t80_52, x_1, x_2, x_3, x_4, x_5, x_6, x_7, x_8, x_9, x_10, x_11, x_12, x_13, x_14, x_15, x_16, x_17, x_18, x_19, x_20, x_21, x_22, x_23, x_24, x_25, x_26, x_27, x_28, r_44, x_30, x_31, x_32, t36_43.2)
 else
  let t104_55 := (IntKind.wrap .i64 (0 - x_8))
  let t105_56 := (if t104_55 > x_28 then t104_55 else x_28)
  let t111_57 := (if x_8 < t105_56 then x_8 else t105_56)
  let t112_58 := (IntKind.wrap .i64 (x_28 - t111_57))
  some (t112_58, x_1, x_2, x_3, x_4, x_5, x_6, x_7, x_8, x_9, x_10, x_11, x_12, x_13, x_14, x_15, x_16, x_17, x_18, x_19, x_20, x_21, x_22, x_23, x_24, x_25, x_26, x_27, x_28, r_44, x_30, x_31, x_32, t36_43.2))
noncomputable def con_F_make_maker_speed : OCon := { f := 27, ps := [.ref 0 0], boxes := [[.ref 1 0, oI, oI, oI, oI, oI, oI, oI, oI, oI, oI, oI, oI, oI, oI, .dat (.slice (.agg Yt1)), .dat (.slice (.agg Yt20)), .own 601700003 (.int .i64), oI, oI, oI, oI, oI, oI, .own 602400087 (.agg Yt19), .own 602500092 (.agg Yt12), oI, oI, oI, oI, oI, oI, oI], [.dat (.int .u64)]], ins := Yt503, nin := 33, outs := Yt529, rs := [oI], aft := [[.ref 1 0, oI, oI, oI, oI, oI, oI, oI, oI, oI, oI, oI, oI, oI, oI, .dat (.slice (.agg Yt1)), .dat (.slice (.agg Yt20)), .own 601700003 (.int .i64), oI, oI, oI, oI, oI, oI, .own 602400087 (.agg Yt19), .own 602500092 (.agg Yt12), oI, oI, oI, oI, oI, oI, oI], [.dat (.int .u64)]], nout := 34, F := fun x => let a := x.2.2.2.2.2.2.2.2; let b := a.2.2.2.2.2.2.2.2; let c := b.2.2.2.2.2.2.2.2; F_make_maker_speed x.1 x.2.1 x.2.2.1 x.2.2.2.1 x.2.2.2.2.1 x.2.2.2.2.2.1 x.2.2.2.2.2.2.1 x.2.2.2.2.2.2.2.1 x.2.2.2.2.2.2.2.2.1 a.2.1 a.2.2.1 a.2.2.2.1 a.2.2.2.2.1 a.2.2.2.2.2.1 a.2.2.2.2.2.2.1 a.2.2.2.2.2.2.2.1 a.2.2.2.2.2.2.2.2.1 b.2.1 b.2.2.1 b.2.2.2.1 b.2.2.2.2.1 b.2.2.2.2.2.1 b.2.2.2.2.2.2.1 b.2.2.2.2.2.2.2.1 b.2.2.2.2.2.2.2.2.1 c.2.1 c.2.2.1 c.2.2.2.1 c.2.2.2.2.1 c.2.2.2.2.2.1 c.2.2.2.2.2.2.1 c.2.2.2.2.2.2.2.1 c.2.2.2.2.2.2.2.2 }
def hint_F_make_maker_speed : Hint := (.mk .plain [H0, (.mk .plain [(.mk .plain [H0, (.mk (.join [(0, 30), (0, 10), (0, 16), (0, 13), (0, 19), (0, 22), (0, 28), (0, 25), (0, 31), (0, 14), (0, 11), (0, 17), (0, 23), (0, 20), (0, 26), (0, 29), (0, 12), (0, 15), (0, 21), (0, 18), (0, 24), (0, 27)] [(.normal, [⟨.cell 0 29, (.int .i64), none⟩, ⟨.cell 1 0, (.int .u64), none⟩])]) [])]), (.mk .plain [(.mk .plain [H0, (.mk (.join [(0, 37), (0, 38), (0, 39)] [(.normal, [⟨.cell 0 29, (.int .i64), none⟩])]) [])])])])])
theorem run_F_make_maker_speed : runO ⟨tdGet tys, [con_F_make_dice_one, con_F_make_dice_to, con_F_make_maker_stops], [], [], []⟩ con_F_make_maker_speed Tryz.f27 hint_F_make_maker_speed = con_F_make_maker_speed.F := by
 funext x
 kernel_rfl
theorem ok_F_make_maker_speed : OConOK Tryz.prog con_F_make_maker_speed :=
 ocon_of_run (Γ := ⟨tdGet tys, [con_F_make_dice_one, con_F_make_dice_to, con_F_make_maker_stops], [], [], []⟩) ⟨fun T d h => tysB_ok tys tys_ok T d h, by simp [ok_F_make_dice_one, ok_F_make_dice_to, ok_F_make_maker_stops], by simp [], by simp [], ptrs_ok Tryz.prog [] (by kernel_rfl)⟩ (by kernel_rfl) Tryz.func27 rfl (by kernel_rfl) rfl run_F_make_maker_speed
noncomputable def F_ratio_Floor (a_1 : Int) (b_2 : Int) (c_3 : Int) : Option (Int × Int) :=
 (F_ratio_divide a_1 b_2 c_3 false).bind fun t11_4 =>
 some (t11_4.1, t11_4.2)
noncomputable def con_F_ratio_Floor : Con := { f := 90, ps := [dI, dI, dI], boxes := [], ins := (.pair (.int .i64) (.pair (.int .i64) (.int .i64))), nin := 3, outs := (.pair (.int .i64) (.int .i64)), rs := [dI, dI], nout := 2, F := fun x => F_ratio_Floor x.1 x.2.1 x.2.2 }
def hint_F_ratio_Floor : Hint := H0
theorem run_F_ratio_Floor : runE ⟨tdGet tys, [con_F_ratio_divide], [], [], []⟩ con_F_ratio_Floor Tryz.f90 hint_F_ratio_Floor = con_F_ratio_Floor.F := by
 funext x
 kernel_rfl
theorem ok_F_ratio_Floor : ConOK Tryz.prog con_F_ratio_Floor :=
 con_of_run (Γ := ⟨tdGet tys, [con_F_ratio_divide], [], [], []⟩) ⟨fun T d h => tysB_ok tys tys_ok T d h, by simp [ok_F_ratio_divide], by simp [], by simp [], ptrs_ok Tryz.prog [] (by kernel_rfl)⟩ (by kernel_rfl) Tryz.func90 rfl (by kernel_rfl) run_F_ratio_Floor
noncomputable def F_make_maker_count (x_1 : Int) (x_2 : Int) (x_3 : Int) (x_4 : Int) (x_5 : Int) (x_6 : Int) (x_7 : Int) (x_8 : Int) (x_9 : Int) (x_10 : Int) (x_11 : Int) (x_12 : Int) (x_13 : Int) (x_14 : Int) (x_15 : (List Yd1)) (x_16 : (List Yd20)) (x_17 : (List Int)) (x_18 : Int) (x_19 : Int) (x_20 : Int) (x_21 : Int) (x_22 : Int) (x_23 : Int) (x_24 : (List Yd19)) (x_25 : (List Yd12)) (x_26 : Int) (x_27 : Int) (x_28 : Int) (x_29 : Int) (x_30 : Int) (x_31 : Int) (x_32 : Int) (i_33 : Int) (turned_34 : Int) : Option Int :=
 chk none ((decide ((0 : Int) ≤ i_33)) && (decide (i_33 < (2 : Int)))) <|
 let l_35 : (List Int) := ([x_20, x_21] : List Int)
 let t17_36 := (l_35.getD i_33.toNat (0 : Int))
 (F_ratio_Floor turned_34 (1 : Int) t17_36).bind fun t18_37 =>
 some t18_37.1
noncomputable def con_F_make_maker_count : Con := { f := 82, ps := [.rp [.skip, dI, dI, dI, dI, dI, dI, dI, dI, dI, dI, dI, dI, dI, dI, .dat (.slice (.agg Yt1)), .dat (.slice (.agg Yt20)), .dat (.slice (.int .i64)), dI, dI, dI, dI, dI, dI, .dat (.slice (.agg Yt19)), .dat (.slice (.agg Yt12)), dI, dI, dI, dI, dI, dI, dI] 0, dI, dI], boxes := [], ins := Yt528, nin := 34, outs := (.int .i64), rs := [dI], nout := 1, F := fun x => let a := x.2.2.2.2.2.2.2.2; let b := a.2.2.2.2.2.2.2.2; let c := b.2.2.2.2.2.2.2.2; let d := c.2.2.2.2.2.2.2.2; F_make_maker_count x.1 x.2.1 x.2.2.1 x.2.2.2.1 x.2.2.2.2.1 x.2.2.2.2.2.1 x.2.2.2.2.2.2.1 x.2.2.2.2.2.2.2.1 x.2.2.2.2.2.2.2.2.1 a.2.1 a.2.2.1 a.2.2.2.1 a.2.2.2.2.1 a.2.2.2.2.2.1 a.2.2.2.2.2.2.1 a.2.2.2.2.2.2.2.1 a.2.2.2.2.2.2.2.2.1 b.2.1 b.2.2.1 b.2.2.2.1 b.2.2.2.2.1 b.2.2.2.2.2.1 b.2.2.2.2.2.2.1 b.2.2.2.2.2.2.2.1 b.2.2.2.2.2.2.2.2.1 c.2.1 c.2.2.1 c.2.2.2.1 c.2.2.2.2.1 c.2.2.2.2.2.1 c.2.2.2.2.2.2.1 c.2.2.2.2.2.2.2.1 c.2.2.2.2.2.2.2.2.1 d.2 }
def hint_F_make_maker_count : Hint := H0
theorem run_F_make_maker_count : runE ⟨tdGet tys, [con_F_ratio_Floor], [], [], []⟩ con_F_make_maker_count Tryz.f82 hint_F_make_maker_count = con_F_make_maker_count.F := by
 funext x
 kernel_rfl
theorem ok_F_make_maker_count : ConOK Tryz.prog con_F_make_maker_count :=
 con_of_run (Γ := ⟨tdGet tys, [con_F_ratio_Floor], [], [], []⟩) ⟨fun T d h => tysB_ok tys tys_ok T d h, by simp [ok_F_ratio_Floor], by simp [], by simp [], ptrs_ok Tryz.prog [] (by kernel_rfl)⟩ (by kernel_rfl) Tryz.func82 rfl (by kernel_rfl) run_F_make_maker_count
noncomputable def F_pulse_Delta (from_1 : Int) (to_2 : Int) : Option Int :=
 let t7_3 := (IntKind.wrap .u16 (to_2 - from_1))
 let t9_4 := (IntKind.wrap .i64 (IntKind.wrap .i16 t7_3))
 some t9_4
noncomputable def con_F_pulse_Delta : Con := { f := 84, ps := [.dat (.int .u16), .dat (.int .u16)], boxes := [], ins := (.pair (.int .u16) (.int .u16)), nin := 2, outs := (.int .i64), rs := [dI], nout := 1, F := fun x => F_pulse_Delta x.1 x.2 }
def hint_F_pulse_Delta : Hint := H0
theorem run_F_pulse_Delta : runE ⟨tdGet tys, [], [], [], []⟩ con_F_pulse_Delta Tryz.f84 hint_F_pulse_Delta = con_F_pulse_Delta.F := by
 funext x
 kernel_rfl
theorem ok_F_pulse_Delta : ConOK Tryz.prog con_F_pulse_Delta :=
 con_of_run (Γ := ⟨tdGet tys, [], [], [], []⟩) ⟨fun T d h => tysB_ok tys tys_ok T d h, by simp [], by simp [], by simp [], ptrs_ok Tryz.prog [] (by kernel_rfl)⟩ (by kernel_rfl) Tryz.func84 rfl (by kernel_rfl) run_F_pulse_Delta
noncomputable def F_conf_Config_Circ (c_1 : Yd460) : Option (Int × Int) :=
 let w_2 : (Int × Int) := (c_1.2.1, c_1.2.2.1)
 some w_2
noncomputable def con_F_conf_Config_Circ : Con := { f := 85, ps := [.dat (.agg Yt460)], boxes := [], ins := (.agg Yt460), nin := 1, outs := (.agg (.pair (.int .i64) (.int .i64))), rs := [.dat (.agg (.pair (.int .i64) (.int .i64)))], nout := 1, F := fun x => F_conf_Config_Circ x }
def hint_F_conf_Config_Circ : Hint := H0
theorem run_F_conf_Config_Circ : runE ⟨tdGet tys, [], [], [], []⟩ con_F_conf_Config_Circ Tryz.f85 hint_F_conf_Config_Circ = con_F_conf_Config_Circ.F := by
 funext x
 kernel_rfl
theorem ok_F_conf_Config_Circ : ConOK Tryz.prog con_F_conf_Config_Circ :=
 con_of_run (Γ := ⟨tdGet tys, [], [], [], []⟩) ⟨fun T d h => tysB_ok tys tys_ok T d h, by simp [], by simp [], by simp [], ptrs_ok Tryz.prog [] (by kernel_rfl)⟩ (by kernel_rfl) Tryz.func85 rfl (by kernel_rfl) run_F_conf_Config_Circ
noncomputable def F_span_Span_Right (s_1 : (Int × Int)) : Option Bool :=
 some (decide (s_1.1 ≤ s_1.2))
noncomputable def con_F_span_Span_Right : Con := { f := 100, ps := [.dat (.agg (.pair (.int .i64) (.int .i64)))], boxes := [], ins := (.agg (.pair (.int .i64) (.int .i64))), nin := 1, outs := .bool, rs := [.dat .bool], nout := 1, F := fun x => F_span_Span_Right x }
def hint_F_span_Span_Right : Hint := H0
theorem run_F_span_Span_Right : runE ⟨tdGet tys, [], [], [], []⟩ con_F_span_Span_Right Tryz.f100 hint_F_span_Span_Right = con_F_span_Span_Right.F := by
 funext x
 kernel_rfl
theorem ok_F_span_Span_Right : ConOK Tryz.prog con_F_span_Span_Right :=
 con_of_run (Γ := ⟨tdGet tys, [], [], [], []⟩) ⟨fun T d h => tysB_ok tys tys_ok T d h, by simp [], by simp [], by simp [], ptrs_ok Tryz.prog [] (by kernel_rfl)⟩ (by kernel_rfl) Tryz.func100 rfl (by kernel_rfl) run_F_span_Span_Right
noncomputable def F_span_Span_Times (s_1 : (Int × Int)) (k_2 : Int) (by_3 : Int) : Option ((Int × Int) × Int) :=
 (F_span_Span_Right s_1).bind fun t14_4 =>
 let t18_5 := (decide (by_3 < (1 : Int)))
 let t19_6 := (bif (!t14_4) then true else t18_5)
 (bif t19_6 then
  let w_7 : (Int × Int) := ((0 : Int), (0 : Int))
  some (w_7, (10 : Int))
 else
  let t26_8 := (decide (k_2 < (0 : Int)))
  Option.bind (
   (bif t26_8 then
    some (s_1.2, s_1.1)
   else
    some (s_1.1, s_1.2))) fun r_9 =>
  let lo_10 := r_9.1
  let hi_11 := r_9.2
  (F_ratio_Floor k_2 lo_10 by_3).bind fun t33_12 =>
  (bif (t33_12.2 != (0 : Int)) then
   let w_13 : (Int × Int) := ((0 : Int), (0 : Int))
   some (w_13, t33_12.2)
  else
   (F_ratio_Ceil k_2 hi_11 by_3).bind fun t44_14 =>
   (bif (t44_14.2 != (0 : Int)) then
    let w_15 : (Int × Int) := ((0 : Int), (0 : Int))
    some (w_15, t44_14.2)
   else
    let w_16 : (Int × Int) := (t33_12.1, t44_14.1)
    some (w_16, (0 : Int)))))
noncomputable def con_F_span_Span_Times : Con := { f := 91, ps := [.dat (.agg (.pair (.int .i64) (.int .i64))), dI, dI], boxes := [], ins := Yt530, nin := 3, outs := (.pair (.agg (.pair (.int .i64) (.int .i64))) (.int .i64)), rs := [.dat (.agg (.pair (.int .i64) (.int .i64))), dI], nout := 2, F := fun x => F_span_Span_Times x.1 x.2.1 x.2.2 }
def hint_F_span_Span_Times : Hint := (.mk .plain [H0, (.mk .plain [H0, (.mk .plain [H0, (.mk .plain [(.mk .plain [H0, (.mk (.join [(0, 27), (0, 28)] [(.normal, [⟨.slot 8, (.int .i64), none⟩, ⟨.slot 9, (.int .i64), none⟩])]) [])])])])])])
theorem run_F_span_Span_Times : runE ⟨tdGet tys, [con_F_span_Span_Right, con_F_ratio_Floor, con_F_ratio_Ceil], [], [], []⟩ con_F_span_Span_Times Tryz.f91 hint_F_span_Span_Times = con_F_span_Span_Times.F := by
 funext x
 kernel_rfl
theorem ok_F_span_Span_Times : ConOK Tryz.prog con_F_span_Span_Times :=
 con_of_run (Γ := ⟨tdGet tys, [con_F_span_Span_Right, con_F_ratio_Floor, con_F_ratio_Ceil], [], [], []⟩) ⟨fun T d h => tysB_ok tys tys_ok T d h, by simp [ok_F_span_Span_Right, ok_F_ratio_Floor, ok_F_ratio_Ceil], by simp [], by simp [], ptrs_ok Tryz.prog [] (by kernel_rfl)⟩ (by kernel_rfl) Tryz.func91 rfl (by kernel_rfl) run_F_span_Span_Times
noncomputable def F_span_Span_Hull (s_1 : (Int × Int)) (t_2 : (Int × Int)) : Option (Int × Int) :=
 (F_span_Span_Right s_1).bind fun t7_3 =>
 (bif (!t7_3) then
  some t_2
 else
  (F_span_Span_Right t_2).bind fun t12_4 =>
  (bif (!t12_4) then
   some s_1
  else
   let t19_5 := (if t_2.1 < s_1.1 then t_2.1 else s_1.1)
   let t24_6 := (if t_2.2 > s_1.2 then t_2.2 else s_1.2)
   let w_7 : (Int × Int) := (t19_5, t24_6)
   some w_7))
noncomputable def con_F_span_Span_Hull : Con := { f := 92, ps := [.dat (.agg (.pair (.int .i64) (.int .i64))), .dat (.agg (.pair (.int .i64) (.int .i64)))], boxes := [], ins := Yt531, nin := 2, outs := (.agg (.pair (.int .i64) (.int .i64))), rs := [.dat (.agg (.pair (.int .i64) (.int .i64)))], nout := 1, F := fun x => F_span_Span_Hull x.1 x.2 }
def hint_F_span_Span_Hull : Hint := H0
theorem run_F_span_Span_Hull : runE ⟨tdGet tys, [con_F_span_Span_Right], [], [], []⟩ con_F_span_Span_Hull Tryz.f92 hint_F_span_Span_Hull = con_F_span_Span_Hull.F := by
 funext x
 kernel_rfl
theorem ok_F_span_Span_Hull : ConOK Tryz.prog con_F_span_Span_Hull :=
 con_of_run (Γ := ⟨tdGet tys, [con_F_span_Span_Right], [], [], []⟩) ⟨fun T d h => tysB_ok tys tys_ok T d h, by simp [ok_F_span_Span_Right], by simp [], by simp [], ptrs_ok Tryz.prog [] (by kernel_rfl)⟩ (by kernel_rfl) Tryz.func92 rfl (by kernel_rfl) run_F_span_Span_Hull
noncomputable def F_sense_Tacho (d_1 : Int) (circ_2 : (Int × Int)) (pulses_3 : Int) : Option ((Int × Int) × Int) :=
 let t12_4 := (decide (d_1 < (-32768 : Int)))
 let t15_5 := (decide ((32767 : Int) < d_1))
 let t16_6 := (bif t12_4 then true else t15_5)
 (bif t16_6 then
  let w_7 : (Int × Int) := ((0 : Int), (0 : Int))
  some (w_7, (10 : Int))
 else
  let t21_8 := (IntKind.wrap .i64 (d_1 - (1 : Int)))
  (F_span_Span_Times circ_2 t21_8 pulses_3).bind fun t23_9 =>
  (bif (t23_9.2 != (0 : Int)) then
   let w_10 : (Int × Int) := ((0 : Int), (0 : Int))
   some (w_10, t23_9.2)
  else
   let t33_11 := (IntKind.wrap .i64 (d_1 + (1 : Int)))
   (F_span_Span_Times circ_2 t33_11 pulses_3).bind fun t35_12 =>
   (bif (t35_12.2 != (0 : Int)) then
    let w_13 : (Int × Int) := ((0 : Int), (0 : Int))
    some (w_13, t35_12.2)
   else
    (F_span_Span_Hull t23_9.1 t35_12.1).bind fun t44_14 =>
    some (t44_14, (0 : Int)))))
noncomputable def con_F_sense_Tacho : Con := { f := 83, ps := [dI, .dat (.agg (.pair (.int .i64) (.int .i64))), dI], boxes := [], ins := Yt532, nin := 3, outs := (.pair (.agg (.pair (.int .i64) (.int .i64))) (.int .i64)), rs := [.dat (.agg (.pair (.int .i64) (.int .i64))), dI], nout := 2, F := fun x => F_sense_Tacho x.1 x.2.1 x.2.2 }
def hint_F_sense_Tacho : Hint := H0
theorem run_F_sense_Tacho : runE ⟨tdGet tys, [con_F_span_Span_Times, con_F_span_Span_Hull], [], [], []⟩ con_F_sense_Tacho Tryz.f83 hint_F_sense_Tacho = con_F_sense_Tacho.F := by
 funext x
 kernel_rfl
theorem ok_F_sense_Tacho : ConOK Tryz.prog con_F_sense_Tacho :=
 con_of_run (Γ := ⟨tdGet tys, [con_F_span_Span_Times, con_F_span_Span_Hull], [], [], []⟩) ⟨fun T d h => tysB_ok tys tys_ok T d h, by simp [ok_F_span_Span_Times, ok_F_span_Span_Hull], by simp [], by simp [], ptrs_ok Tryz.prog [] (by kernel_rfl)⟩ (by kernel_rfl) Tryz.func83 rfl (by kernel_rfl) run_F_sense_Tacho
noncomputable def F_make_maker_tacho (x_1 : Int) (x_2 : Int) (x_3 : Int) (x_4 : Int) (x_5 : Int) (x_6 : Int) (x_7 : Int) (x_8 : Int) (x_9 : Int) (x_10 : Int) (x_11 : Int) (x_12 : Int) (x_13 : Int) (x_14 : Int) (x_15 : (List Yd1)) (x_16 : (List Yd20)) (x_17 : (List Int)) (x_18 : Int) (x_19 : Int) (x_20 : Int) (x_21 : Int) (x_22 : Int) (x_23 : Int) (x_24 : (List Yd19)) (x_25 : (List Yd12)) (x_26 : Int) (x_27 : Int) (x_28 : Int) (x_29 : Int) (x_30 : Int) (x_31 : Int) (x_32 : Int) (i_33 : Int) (more_34 : Int) : Option (Int × Int) :=
 chk none ((decide ((0 : Int) ≤ i_33)) && (decide (i_33 < (2 : Int)))) <|
 let l_35 : (List Int) := ([x_30, x_31] : List Int)
 let t18_36 := (l_35.getD i_33.toNat (0 : Int))
 (F_make_maker_count x_1 x_2 x_3 x_4 x_5 x_6 x_7 x_8 x_9 x_10 x_11 x_12 x_13 x_14 x_15 x_16 x_17 x_18 x_19 x_20 x_21 x_22 x_23 x_24 x_25 x_26 x_27 x_28 x_29 x_30 x_31 x_32 i_33 t18_36).bind fun t19_37 =>
 chk none ((decide ((0 : Int) ≤ i_33)) && (decide (i_33 < (2 : Int)))) <|
 let l_38 : (List Int) := ([x_30, x_31] : List Int)
 let t27_39 := (l_38.getD i_33.toNat (0 : Int))
 let t29_40 := (IntKind.wrap .i64 (t27_39 + more_34))
 (F_make_maker_count x_1 x_2 x_3 x_4 x_5 x_6 x_7 x_8 x_9 x_10 x_11 x_12 x_13 x_14 x_15 x_16 x_17 x_18 x_19 x_20 x_21 x_22 x_23 x_24 x_25 x_26 x_27 x_28 x_29 x_30 x_31 x_32 i_33 t29_40).bind fun t30_41 =>
 let t33_42 := (IntKind.wrap .u16 t19_37)
 let t35_43 := (IntKind.wrap .u16 t30_41)
 (F_pulse_Delta t33_42 t35_43).bind fun t36_44 =>
 let t40_45 : Yd460 := (x_1, (x_2, (x_3, (x_4, (x_5, (x_6, (x_7, (x_8, (x_9, (x_10, (x_11, (x_12, (x_13, x_14)))))))))))))
 (F_conf_Config_Circ t40_45).bind fun t41_46 =>
 (F_sense_Tacho t36_44 t41_46 x_1).bind fun t47_47 =>
 some t47_47.1
noncomputable def con_F_make_maker_tacho : Con := { f := 75, ps := [.rp [.skip, dI, dI, dI, dI, dI, dI, dI, dI, dI, dI, dI, dI, dI, dI, .dat (.slice (.agg Yt1)), .dat (.slice (.agg Yt20)), .dat (.slice (.int .i64)), dI, dI, dI, dI, dI, dI, .dat (.slice (.agg Yt19)), .dat (.slice (.agg Yt12)), dI, dI, dI, dI, dI, dI, dI] 0, dI, dI], boxes := [], ins := Yt528, nin := 34, outs := (.agg (.pair (.int .i64) (.int .i64))), rs := [.dat (.agg (.pair (.int .i64) (.int .i64)))], nout := 1, F := fun x => let a := x.2.2.2.2.2.2.2.2; let b := a.2.2.2.2.2.2.2.2; let c := b.2.2.2.2.2.2.2.2; let d := c.2.2.2.2.2.2.2.2; F_make_maker_tacho x.1 x.2.1 x.2.2.1 x.2.2.2.1 x.2.2.2.2.1 x.2.2.2.2.2.1 x.2.2.2.2.2.2.1 x.2.2.2.2.2.2.2.1 x.2.2.2.2.2.2.2.2.1 a.2.1 a.2.2.1 a.2.2.2.1 a.2.2.2.2.1 a.2.2.2.2.2.1 a.2.2.2.2.2.2.1 a.2.2.2.2.2.2.2.1 a.2.2.2.2.2.2.2.2.1 b.2.1 b.2.2.1 b.2.2.2.1 b.2.2.2.2.1 b.2.2.2.2.2.1 b.2.2.2.2.2.2.1 b.2.2.2.2.2.2.2.1 b.2.2.2.2.2.2.2.2.1 c.2.1 c.2.2.1 c.2.2.2.1 c.2.2.2.2.1 c.2.2.2.2.2.1 c.2.2.2.2.2.2.1 c.2.2.2.2.2.2.2.1 c.2.2.2.2.2.2.2.2.1 d.2 }
def hint_F_make_maker_tacho : Hint := H0
theorem run_F_make_maker_tacho : runE ⟨tdGet tys, [con_F_make_maker_count, con_F_pulse_Delta, con_F_conf_Config_Circ, con_F_sense_Tacho], [], [], []⟩ con_F_make_maker_tacho Tryz.f75 hint_F_make_maker_tacho = con_F_make_maker_tacho.F := by
 funext x
 kernel_rfl
theorem ok_F_make_maker_tacho : ConOK Tryz.prog con_F_make_maker_tacho :=
 con_of_run (Γ := ⟨tdGet tys, [con_F_make_maker_count, con_F_pulse_Delta, con_F_conf_Config_Circ, con_F_sense_Tacho], [], [], []⟩) ⟨fun T d h => tysB_ok tys tys_ok T d h, by simp [ok_F_make_maker_count, ok_F_pulse_Delta, ok_F_conf_Config_Circ, ok_F_sense_Tacho], by simp [], by simp [], ptrs_ok Tryz.prog [] (by kernel_rfl)⟩ (by kernel_rfl) Tryz.func75 rfl (by kernel_rfl) run_F_make_maker_tacho
noncomputable def F_conf_Config_Error (c_1 : Yd460) (r_2 : Int) : Option Int :=
 let t10_3 := (IntKind.wrap .i64 (0 - r_2))
 let t11_4 := (if t10_3 > r_2 then t10_3 else r_2)
 (F_ratio_Floor t11_4 c_1.2.2.2.2.1 (1048576 : Int)).bind fun t14_5 =>
 let t20_6 := (IntKind.wrap .i64 (c_1.2.2.2.1 + t14_5.1))
 some t20_6
noncomputable def con_F_conf_Config_Error : Con := { f := 87, ps := [.dat (.agg Yt460), dI], boxes := [], ins := Yt533, nin := 2, outs := (.int .i64), rs := [dI], nout := 1, F := fun x => F_conf_Config_Error x.1 x.2 }
def hint_F_conf_Config_Error : Hint := H0
theorem run_F_conf_Config_Error : runE ⟨tdGet tys, [con_F_ratio_Floor], [], [], []⟩ con_F_conf_Config_Error Tryz.f87 hint_F_conf_Config_Error = con_F_conf_Config_Error.F := by
 funext x
 kernel_rfl
theorem ok_F_conf_Config_Error : ConOK Tryz.prog con_F_conf_Config_Error :=
 con_of_run (Γ := ⟨tdGet tys, [con_F_ratio_Floor], [], [], []⟩) ⟨fun T d h => tysB_ok tys tys_ok T d h, by simp [ok_F_ratio_Floor], by simp [], by simp [], ptrs_ok Tryz.prog [] (by kernel_rfl)⟩ (by kernel_rfl) Tryz.func87 rfl (by kernel_rfl) run_F_conf_Config_Error
noncomputable def F_span_At (x_1 : Int) : Option (Int × Int) :=
 let w_2 : (Int × Int) := (x_1, x_1)
 some w_2
noncomputable def con_F_span_At : Con := { f := 93, ps := [dI], boxes := [], ins := (.int .i64), nin := 1, outs := (.agg (.pair (.int .i64) (.int .i64))), rs := [.dat (.agg (.pair (.int .i64) (.int .i64)))], nout := 1, F := fun x => F_span_At x }
def hint_F_span_At : Hint := H0
theorem run_F_span_At : runE ⟨tdGet tys, [], [], [], []⟩ con_F_span_At Tryz.f93 hint_F_span_At = con_F_span_At.F := by
 funext x
 kernel_rfl
theorem ok_F_span_At : ConOK Tryz.prog con_F_span_At :=
 con_of_run (Γ := ⟨tdGet tys, [], [], [], []⟩) ⟨fun T d h => tysB_ok tys tys_ok T d h, by simp [], by simp [], by simp [], ptrs_ok Tryz.prog [] (by kernel_rfl)⟩ (by kernel_rfl) Tryz.func93 rfl (by kernel_rfl) run_F_span_At
noncomputable def F_num_Sub (a_1 : Int) (b_2 : Int) : Option (Int × Bool) :=
 let t9_3 := (IntKind.wrap .i64 (a_1 - b_2))
 let t11_4 := (decide ((0 : Int) ≤ a_1))
 let t13_5 := (decide ((0 : Int) ≤ b_2))
 let t17_6 := (decide ((0 : Int) ≤ t9_3))
 let t19_7 := (decide ((0 : Int) ≤ a_1))
 let t21_8 := (bif (!(t11_4 == t13_5)) then (!(t17_6 == t19_7)) else false)
 (bif t21_8 then
  some ((0 : Int), false)
 else
  some (t9_3, true))
noncomputable def con_F_num_Sub : Con := { f := 101, ps := [dI, dI], boxes := [], ins := (.pair (.int .i64) (.int .i64)), nin := 2, outs := (.pair (.int .i64) .bool), rs := [dI, .dat .bool], nout := 2, F := fun x => F_num_Sub x.1 x.2 }
def hint_F_num_Sub : Hint := H0
theorem run_F_num_Sub : runE ⟨tdGet tys, [], [], [], []⟩ con_F_num_Sub Tryz.f101 hint_F_num_Sub = con_F_num_Sub.F := by
 funext x
 kernel_rfl
theorem ok_F_num_Sub : ConOK Tryz.prog con_F_num_Sub :=
 con_of_run (Γ := ⟨tdGet tys, [], [], [], []⟩) ⟨fun T d h => tysB_ok tys tys_ok T d h, by simp [], by simp [], by simp [], ptrs_ok Tryz.prog [] (by kernel_rfl)⟩ (by kernel_rfl) Tryz.func101 rfl (by kernel_rfl) run_F_num_Sub
noncomputable def F_num_Add (a_1 : Int) (b_2 : Int) : Option (Int × Bool) :=
 let t9_3 := (IntKind.wrap .i64 (a_1 + b_2))
 let t11_4 := (decide ((0 : Int) ≤ a_1))
 let t13_5 := (decide ((0 : Int) ≤ b_2))
 let t17_6 := (decide ((0 : Int) ≤ t9_3))
 let t19_7 := (decide ((0 : Int) ≤ a_1))
 let t21_8 := (bif (t11_4 == t13_5) then (!(t17_6 == t19_7)) else false)
 (bif t21_8 then
  some ((0 : Int), false)
 else
  some (t9_3, true))
noncomputable def con_F_num_Add : Con := { f := 102, ps := [dI, dI], boxes := [], ins := (.pair (.int .i64) (.int .i64)), nin := 2, outs := (.pair (.int .i64) .bool), rs := [dI, .dat .bool], nout := 2, F := fun x => F_num_Add x.1 x.2 }
def hint_F_num_Add : Hint := H0
theorem run_F_num_Add : runE ⟨tdGet tys, [], [], [], []⟩ con_F_num_Add Tryz.f102 hint_F_num_Add = con_F_num_Add.F := by
 funext x
 kernel_rfl
theorem ok_F_num_Add : ConOK Tryz.prog con_F_num_Add :=
 con_of_run (Γ := ⟨tdGet tys, [], [], [], []⟩) ⟨fun T d h => tysB_ok tys tys_ok T d h, by simp [], by simp [], by simp [], ptrs_ok Tryz.prog [] (by kernel_rfl)⟩ (by kernel_rfl) Tryz.func102 rfl (by kernel_rfl) run_F_num_Add
noncomputable def F_span_both (lo_1 : Int) (a_2 : Bool) (hi_3 : Int) (b_4 : Bool) : Option ((Int × Int) × Bool) :=
 let t15_5 := (bif (!a_2) then true else (!b_4))
 let t20_6 := (bif t15_5 then true else (decide (hi_3 < lo_1)))
 (bif t20_6 then
  let w_7 : (Int × Int) := ((0 : Int), (0 : Int))
  some (w_7, false)
 else
  let w_8 : (Int × Int) := (lo_1, hi_3)
  some (w_8, true))
noncomputable def con_F_span_both : Con := { f := 89, ps := [dI, .dat .bool, dI, .dat .bool], boxes := [], ins := Yt534, nin := 4, outs := (.pair (.agg (.pair (.int .i64) (.int .i64))) .bool), rs := [.dat (.agg (.pair (.int .i64) (.int .i64))), .dat .bool], nout := 2, F := fun x => F_span_both x.1 x.2.1 x.2.2.1 x.2.2.2 }
def hint_F_span_both : Hint := H0
theorem run_F_span_both : runE ⟨tdGet tys, [], [], [], []⟩ con_F_span_both Tryz.f89 hint_F_span_both = con_F_span_both.F := by
 funext x
 kernel_rfl
theorem ok_F_span_both : ConOK Tryz.prog con_F_span_both :=
 con_of_run (Γ := ⟨tdGet tys, [], [], [], []⟩) ⟨fun T d h => tysB_ok tys tys_ok T d h, by simp [], by simp [], by simp [], ptrs_ok Tryz.prog [] (by kernel_rfl)⟩ (by kernel_rfl) Tryz.func89 rfl (by kernel_rfl) run_F_span_both
noncomputable def F_span_Span_Grow (s_1 : (Int × Int)) (far_2 : Int) : Option ((Int × Int) × Bool) :=
 (F_span_Span_Right s_1).bind fun t11_3 =>
 (bif (!t11_3) then
  let w_4 : (Int × Int) := ((0 : Int), (0 : Int))
  some (w_4, false)
 else
  (F_num_Sub s_1.1 far_2).bind fun t18_5 =>
  (F_num_Add s_1.2 far_2).bind fun t25_6 =>
  (F_span_both t18_5.1 t18_5.2 t25_6.1 t25_6.2).bind fun t32_7 =>
  some (t32_7.1, t32_7.2))
noncomputable def con_F_span_Span_Grow : Con := { f := 94, ps := [.dat (.agg (.pair (.int .i64) (.int .i64))), dI], boxes := [], ins := (.pair (.agg (.pair (.int .i64) (.int .i64))) (.int .i64)), nin := 2, outs := (.pair (.agg (.pair (.int .i64) (.int .i64))) .bool), rs := [.dat (.agg (.pair (.int .i64) (.int .i64))), .dat .bool], nout := 2, F := fun x => F_span_Span_Grow x.1 x.2 }
def hint_F_span_Span_Grow : Hint := H0
theorem run_F_span_Span_Grow : runE ⟨tdGet tys, [con_F_span_Span_Right, con_F_num_Sub, con_F_num_Add, con_F_span_both], [], [], []⟩ con_F_span_Span_Grow Tryz.f94 hint_F_span_Span_Grow = con_F_span_Span_Grow.F := by
 funext x
 kernel_rfl
theorem ok_F_span_Span_Grow : ConOK Tryz.prog con_F_span_Span_Grow :=
 con_of_run (Γ := ⟨tdGet tys, [con_F_span_Span_Right, con_F_num_Sub, con_F_num_Add, con_F_span_both], [], [], []⟩) ⟨fun T d h => tysB_ok tys tys_ok T d h, by simp [ok_F_span_Span_Right, ok_F_num_Sub, ok_F_num_Add, ok_F_span_both], by simp [], by simp [], ptrs_ok Tryz.prog [] (by kernel_rfl)⟩ (by kernel_rfl) Tryz.func94 rfl (by kernel_rfl) run_F_span_Span_Grow
noncomputable def F_span_Around (x_1 : Int) (far_2 : Int) : Option ((Int × Int) × Bool) :=
 (F_span_At x_1).bind fun t8_3 =>
 (F_span_Span_Grow t8_3 far_2).bind fun t11_4 =>
 some (t11_4.1, t11_4.2)
noncomputable def con_F_span_Around : Con := { f := 86, ps := [dI, dI], boxes := [], ins := (.pair (.int .i64) (.int .i64)), nin := 2, outs := (.pair (.agg (.pair (.int .i64) (.int .i64))) .bool), rs := [.dat (.agg (.pair (.int .i64) (.int .i64))), .dat .bool], nout := 2, F := fun x => F_span_Around x.1 x.2 }
def hint_F_span_Around : Hint := H0
theorem run_F_span_Around : runE ⟨tdGet tys, [con_F_span_At, con_F_span_Span_Grow], [], [], []⟩ con_F_span_Around Tryz.f86 hint_F_span_Around = con_F_span_Around.F := by
 funext x
 kernel_rfl
theorem ok_F_span_Around : ConOK Tryz.prog con_F_span_Around :=
 con_of_run (Γ := ⟨tdGet tys, [con_F_span_At, con_F_span_Span_Grow], [], [], []⟩) ⟨fun T d h => tysB_ok tys tys_ok T d h, by simp [ok_F_span_At, ok_F_span_Span_Grow], by simp [], by simp [], ptrs_ok Tryz.prog [] (by kernel_rfl)⟩ (by kernel_rfl) Tryz.func86 rfl (by kernel_rfl) run_F_span_Around
noncomputable def F_sense_Radar (c_1 : Yd460) (r_2 : Int) : Option (Int × Int) :=
 (F_conf_Config_Error c_1 r_2).bind fun t11_3 =>
 (F_span_Around r_2 t11_3).bind fun t12_4 =>
 some t12_4.1
noncomputable def con_F_sense_Radar : Con := { f := 76, ps := [.dat (.agg Yt460), dI], boxes := [], ins := Yt533, nin := 2, outs := (.agg (.pair (.int .i64) (.int .i64))), rs := [.dat (.agg (.pair (.int .i64) (.int .i64)))], nout := 1, F := fun x => F_sense_Radar x.1 x.2 }
def hint_F_sense_Radar : Hint := H0
theorem run_F_sense_Radar : runE ⟨tdGet tys, [con_F_conf_Config_Error, con_F_span_Around], [], [], []⟩ con_F_sense_Radar Tryz.f76 hint_F_sense_Radar = con_F_sense_Radar.F := by
 funext x
 kernel_rfl
theorem ok_F_sense_Radar : ConOK Tryz.prog con_F_sense_Radar :=
 con_of_run (Γ := ⟨tdGet tys, [con_F_conf_Config_Error, con_F_span_Around], [], [], []⟩) ⟨fun T d h => tysB_ok tys tys_ok T d h, by simp [ok_F_conf_Config_Error, ok_F_span_Around], by simp [], by simp [], ptrs_ok Tryz.prog [] (by kernel_rfl)⟩ (by kernel_rfl) Tryz.func76 rfl (by kernel_rfl) run_F_sense_Radar
noncomputable def F_span_Span_Meet (s_1 : (Int × Int)) (t_2 : (Int × Int)) : Option ((Int × Int) × Bool) :=
 let t10_3 := (if t_2.1 > s_1.1 then t_2.1 else s_1.1)
 let t15_4 := (if t_2.2 < s_1.2 then t_2.2 else s_1.2)
 (F_span_both t10_3 true t15_4 true).bind fun t16_5 =>
 some (t16_5.1, t16_5.2)
noncomputable def con_F_span_Span_Meet : Con := { f := 81, ps := [.dat (.agg (.pair (.int .i64) (.int .i64))), .dat (.agg (.pair (.int .i64) (.int .i64)))], boxes := [], ins := Yt531, nin := 2, outs := (.pair (.agg (.pair (.int .i64) (.int .i64))) .bool), rs := [.dat (.agg (.pair (.int .i64) (.int .i64))), .dat .bool], nout := 2, F := fun x => F_span_Span_Meet x.1 x.2 }
def hint_F_span_Span_Meet : Hint := H0
theorem run_F_span_Span_Meet : runE ⟨tdGet tys, [con_F_span_both], [], [], []⟩ con_F_span_Span_Meet Tryz.f81 hint_F_span_Span_Meet = con_F_span_Span_Meet.F := by
 funext x
 kernel_rfl
theorem ok_F_span_Span_Meet : ConOK Tryz.prog con_F_span_Span_Meet :=
 con_of_run (Γ := ⟨tdGet tys, [con_F_span_both], [], [], []⟩) ⟨fun T d h => tysB_ok tys tys_ok T d h, by simp [ok_F_span_both], by simp [], by simp [], ptrs_ok Tryz.prog [] (by kernel_rfl)⟩ (by kernel_rfl) Tryz.func81 rfl (by kernel_rfl) run_F_span_Span_Meet
noncomputable def F_vote_Common (l_1 : (List (Int × Int))) : Option ((Int × Int) × Bool) :=
 let t10_2 := ((l_1.length : Int) == (0 : Int))
 (bif t10_2 then
  let w_3 : (Int × Int) := ((0 : Int), (0 : Int))
  some (w_3, false)
 else
  chk none (true && (decide ((0 : Int) < (l_1.length : Int)))) <|
  let t14_4 : (Int × Int) := (l_1.getD (0 : Int).toNat ((0 : Int), (0 : Int)))
  Option.bind (α := (Int × (Int × Bool)) ⊕ Yd12) (
   loopO (X := (Int × (Int × Bool)) ⊕ Yd12) (fun (s_5 : Yd20) =>
    let b1_6 := s_5.1
    let b0_7 := s_5.2.1
    let b0_8 := s_5.2.2.1
    let b1_9 := s_5.2.2.2.1
    let t17_10 := s_5.2.2.2.2
    let t18_11 := (decide (t17_10 < (l_1.length : Int)))
    (bif t18_11 then
     chk none ((decide ((0 : Int) ≤ t17_10)) && (decide (t17_10 < (l_1.length : Int)))) <|
     let t20_12 : (Int × Int) := (l_1.getD t17_10.toNat ((0 : Int), (0 : Int)))
     (F_span_Span_Meet (b1_9, b1_6) t20_12).bind fun t24_13 =>
     (bif (!t24_13.2) then
      let w_14 : (Int × Int) := ((0 : Int), (0 : Int))
      some (.inr (.inl (w_14.1, w_14.2, false)))
     else
      let t30_15 := (IntKind.wrap .i64 (t17_10 + (1 : Int)))
      some (.inl (t24_13.1.2, b0_7, b0_8, t24_13.1.1, t30_15)))
    else
     some (.inr (.inr (b1_6, b0_7, b0_8, b1_9))))) (t14_4.2, (0 : Int), (0 : Int), t14_4.1, (0 : Int))) fun z => match z with
  | .inl r_16 =>
   let b0_17 := r_16.1
   let b0_18 := r_16.2.1
   let t3_19 := r_16.2.2
   some ((b0_17, b0_18), t3_19)
  | .inr r_20 =>
   let b1_21 := r_20.1
   let b0_22 := r_20.2.1
   let b0_23 := r_20.2.2.1
   let b1_24 := r_20.2.2.2
   let w_25 : (Int × Int) := (b1_24, b1_21)
   some (w_25, true))
noncomputable def con_F_vote_Common : Con := { f := 74, ps := [.dat (.slice (.agg (.pair (.int .i64) (.int .i64))))], boxes := [], ins := (.slice (.agg (.pair (.int .i64) (.int .i64)))), nin := 1, outs := (.pair (.agg (.pair (.int .i64) (.int .i64))) .bool), rs := [.dat (.agg (.pair (.int .i64) (.int .i64))), .dat .bool], nout := 2, F := fun x => F_vote_Common x }
def hint_F_vote_Common : Hint := (.mk .plain [H0, (.mk .plain [H0, (.mk .plain [H0, (.mk .plain [(.mk .plain [H0, (.mk .plain [(.mk (.loop [⟨.cell 1 1, (.int .i64), none⟩, ⟨.cell 0 0, (.int .i64), none⟩, ⟨.cell 0 1, (.int .i64), none⟩, ⟨.cell 1 0, (.int .i64), none⟩, ⟨.slot 17, (.int .i64), none⟩] [(0, 7), (0, 19), (0, 22), (0, 28), (0, 25), (0, 23), (0, 20), (0, 26), (0, 29), (0, 3), (0, 6), (0, 21), (0, 18), (0, 24), (0, 27), (0, 30)] [(.ret, [⟨.cell 0 0, (.int .i64), none⟩, ⟨.cell 0 1, (.int .i64), none⟩, ⟨.slot 3, .bool, none⟩]), (.exit 0, [⟨.cell 1 1, (.int .i64), none⟩, ⟨.cell 0 0, (.int .i64), none⟩, ⟨.cell 0 1, (.int .i64), none⟩, ⟨.cell 1 0, (.int .i64), none⟩])]) [])])])])])])])
theorem run_F_vote_Common : runE ⟨tdGet tys, [con_F_span_Span_Meet], [], [], []⟩ con_F_vote_Common Tryz.f74 hint_F_vote_Common = con_F_vote_Common.F := by
 funext x
 kernel_rfl
theorem ok_F_vote_Common : ConOK Tryz.prog con_F_vote_Common :=
 con_of_run (Γ := ⟨tdGet tys, [con_F_span_Span_Meet], [], [], []⟩) ⟨fun T d h => tysB_ok tys tys_ok T d h, by simp [ok_F_span_Span_Meet], by simp [], by simp [], ptrs_ok Tryz.prog [] (by kernel_rfl)⟩ (by kernel_rfl) Tryz.func74 rfl (by kernel_rfl) run_F_vote_Common
noncomputable def F_make_maker_shows (x_1 : Int) (x_2 : Int) (x_3 : Int) (x_4 : Int) (x_5 : Int) (x_6 : Int) (x_7 : Int) (x_8 : Int) (x_9 : Int) (x_10 : Int) (x_11 : Int) (x_12 : Int) (x_13 : Int) (x_14 : Int) (x_15 : (List Yd1)) (x_16 : (List Yd20)) (x_17 : (List Int)) (x_18 : Int) (x_19 : Int) (x_20 : Int) (x_21 : Int) (x_22 : Int) (x_23 : Int) (x_24 : (List Yd19)) (x_25 : (List Yd12)) (x_26 : Int) (x_27 : Int) (x_28 : Int) (x_29 : Int) (x_30 : Int) (x_31 : Int) (x_32 : Int) (y_33 : Yd19) : Option Bool :=
 let t15_34 := (IntKind.wrap .i64 (x_1 * y_33.1))
 let t22_35 := (IntKind.wrap .i64 (t15_34 + y_33.2.1.1))
 (F_make_maker_tacho x_1 x_2 x_3 x_4 x_5 x_6 x_7 x_8 x_9 x_10 x_11 x_12 x_13 x_14 x_15 x_16 x_17 x_18 x_19 x_20 x_21 x_22 x_23 x_24 x_25 x_26 x_27 x_28 x_29 x_30 x_31 x_32 (0 : Int) t22_35).bind fun t23_36 =>
 let t29_37 := (IntKind.wrap .i64 (t15_34 + y_33.2.1.2))
 (F_make_maker_tacho x_1 x_2 x_3 x_4 x_5 x_6 x_7 x_8 x_9 x_10 x_11 x_12 x_13 x_14 x_15 x_16 x_17 x_18 x_19 x_20 x_21 x_22 x_23 x_24 x_25 x_26 x_27 x_28 x_29 x_30 x_31 x_32 (1 : Int) t29_37).bind fun t30_38 =>
 let t34_39 : Yd460 := (x_1, (x_2, (x_3, (x_4, (x_5, (x_6, (x_7, (x_8, (x_9, (x_10, (x_11, (x_12, (x_13, x_14)))))))))))))
 let t39_40 := (IntKind.wrap .i64 (y_33.1 + y_33.2.2.1))
 (F_sense_Radar t34_39 t39_40).bind fun t40_41 =>
 let t41_42 : (List (Int × Int)) := ([t23_36, t30_38, t40_41] : List (Int × Int))
 (F_vote_Common t41_42).bind fun t42_43 =>
 some (!t42_43.2)
noncomputable def con_F_make_maker_shows : Con := { f := 46, ps := [.rp [.skip, dI, dI, dI, dI, dI, dI, dI, dI, dI, dI, dI, dI, dI, dI, .dat (.slice (.agg Yt1)), .dat (.slice (.agg Yt20)), .dat (.slice (.int .i64)), dI, dI, dI, dI, dI, dI, .dat (.slice (.agg Yt19)), .dat (.slice (.agg Yt12)), dI, dI, dI, dI, dI, dI, dI] 0, .dat (.agg Yt19)], boxes := [], ins := Yt566, nin := 33, outs := .bool, rs := [.dat .bool], nout := 1, F := fun x => let a := x.2.2.2.2.2.2.2.2; let b := a.2.2.2.2.2.2.2.2; let c := b.2.2.2.2.2.2.2.2; F_make_maker_shows x.1 x.2.1 x.2.2.1 x.2.2.2.1 x.2.2.2.2.1 x.2.2.2.2.2.1 x.2.2.2.2.2.2.1 x.2.2.2.2.2.2.2.1 x.2.2.2.2.2.2.2.2.1 a.2.1 a.2.2.1 a.2.2.2.1 a.2.2.2.2.1 a.2.2.2.2.2.1 a.2.2.2.2.2.2.1 a.2.2.2.2.2.2.2.1 a.2.2.2.2.2.2.2.2.1 b.2.1 b.2.2.1 b.2.2.2.1 b.2.2.2.2.1 b.2.2.2.2.2.1 b.2.2.2.2.2.2.1 b.2.2.2.2.2.2.2.1 b.2.2.2.2.2.2.2.2.1 c.2.1 c.2.2.1 c.2.2.2.1 c.2.2.2.2.1 c.2.2.2.2.2.1 c.2.2.2.2.2.2.1 c.2.2.2.2.2.2.2.1 c.2.2.2.2.2.2.2.2 }
def hint_F_make_maker_shows : Hint := H0
theorem run_F_make_maker_shows : runE ⟨tdGet tys, [con_F_make_maker_tacho, con_F_sense_Radar, con_F_vote_Common], [], [], []⟩ con_F_make_maker_shows Tryz.f46 hint_F_make_maker_shows = con_F_make_maker_shows.F := by
 funext x
 kernel_rfl
theorem ok_F_make_maker_shows : ConOK Tryz.prog con_F_make_maker_shows :=
 con_of_run (Γ := ⟨tdGet tys, [con_F_make_maker_tacho, con_F_sense_Radar, con_F_vote_Common], [], [], []⟩) ⟨fun T d h => tysB_ok tys tys_ok T d h, by simp [ok_F_make_maker_tacho, ok_F_sense_Radar, ok_F_vote_Common], by simp [], by simp [], ptrs_ok Tryz.prog [] (by kernel_rfl)⟩ (by kernel_rfl) Tryz.func46 rfl (by kernel_rfl) run_F_make_maker_shows
noncomputable def F_make_maker_fault (y_1 : Yd19) (x_2 : Int) (x_3 : Int) (x_4 : Int) (x_5 : Int) (x_6 : Int) (x_7 : Int) (x_8 : Int) (x_9 : Int) (x_10 : Int) (x_11 : Int) (x_12 : Int) (x_13 : Int) (x_14 : Int) (x_15 : Int) (x_16 : (List Yd1)) (x_17 : (List Yd20)) (x_18 : (List Int)) (x_19 : Int) (x_20 : Int) (x_21 : Int) (x_22 : Int) (x_23 : Int) (x_24 : Int) (x_25 : (List Yd19)) (x_26 : (List Yd12)) (x_27 : Int) (x_28 : Int) (x_29 : Int) (x_30 : Int) (x_31 : Int) (x_32 : Int) (x_33 : Int) (x_34 : Int) : Option Yd567 :=
 (F_make_dice_to (24 : Int) x_34).bind fun t13_35 =>
 (F_make_dice_to (300 : Int) t13_35.2).bind fun t23_36 =>
 let t24_37 := (IntKind.wrap .i64 ((1 : Int) + t23_36.1))
 let t25_38 := (IntKind.wrap .i64 (x_4 * t24_37))
 let t50_39 := (decide ((0 : Int) < x_33))
 let t53_40 := (decide ((3 : Int) < t13_35.1))
 let t54_41 := (bif t50_39 then true else t53_40)
 (bif t54_41 then
  let t60_42 := (IntKind.wrap .i64 (x_33 - (1 : Int)))
  let t61_43 := (if (0 : Int) > t60_42 then (0 : Int) else t60_42)
  some (y_1, x_2, x_3, x_4, x_5, x_6, x_7, x_8, x_9, x_10, x_11, x_12, x_13, x_14, x_15, x_16, x_17, x_18, x_19, x_20, x_21, x_22, x_23, x_24, x_25, x_26, x_27, x_28, x_29, x_30, x_31, x_32, t61_43, t23_36.2)
 else
  (bif (t13_35.1 == (0 : Int)) then
   (F_make_dice_to (4 : Int) t23_36.2).bind fun t72_44 =>
   chk none ((decide ((0 : Int) ≤ t72_44.1)) && (decide (t72_44.1 < (4 : Int)))) <|
   let t78_45 : Yd19 := (y_1.1, (y_1.2.1, (y_1.2.2.1, (y_1.2.2.2.1, (((bif (t72_44.1 == (0 : Int)) then true else y_1.2.2.2.2.1.1), ((bif (t72_44.1 == (1 : Int)) then true else y_1.2.2.2.2.1.2.1), ((bif (t72_44.1 == (2 : Int)) then true else y_1.2.2.2.2.1.2.2.1), (bif (t72_44.1 == (3 : Int)) then true else y_1.2.2.2.2.1.2.2.2)))), y_1.2.2.2.2.2)))))
   some (t78_45, x_2, x_3, x_4, x_5, x_6, x_7, x_8, x_9, x_10, x_11, x_12, x_13, x_14, x_15, x_16, x_17, x_18, x_19, x_20, x_21, x_22, x_23, x_24, x_25, x_26, x_27, x_28, x_29, x_30, x_31, x_32, (2 : Int), t72_44.2)
  else
   Option.bind (
    (bif (t13_35.1 == (1 : Int)) then
     (F_make_dice_to (2 : Int) t23_36.2).bind fun t86_46 =>
     chk none ((decide ((0 : Int) ≤ t86_46.1)) && (decide (t86_46.1 < (2 : Int)))) <|
     some (y_1.2.2.2.1, (bif (t86_46.1 == (0 : Int)) then t25_38 else y_1.2.1.1), y_1.2.2.2.2.1.2.2.1, y_1.2.2.2.2.2.2, (bif (t86_46.1 == (1 : Int)) then t25_38 else y_1.2.1.2), y_1.2.2.2.2.1.1, y_1.2.2.2.2.1.2.2.2, t86_46.2, y_1.1, y_1.2.2.1, y_1.2.2.2.2.2.1, y_1.2.2.2.2.1.2.1)
    else
     Option.bind (
      (bif (t13_35.1 == (2 : Int)) then
       (F_make_dice_to (2 : Int) t23_36.2).bind fun t97_47 =>
       let t99_48 := (IntKind.wrap .i64 (0 - t25_38))
       chk none ((decide ((0 : Int) ≤ t97_47.1)) && (decide (t97_47.1 < (2 : Int)))) <|
       some (y_1.2.2.2.1, (bif (t97_47.1 == (0 : Int)) then t99_48 else y_1.2.1.1), y_1.2.2.2.2.1.2.2.1, y_1.2.2.2.2.2.2, (bif (t97_47.1 == (1 : Int)) then t99_48 else y_1.2.1.2), y_1.2.2.2.2.1.1, y_1.2.2.2.2.1.2.2.2, t97_47.2, y_1.1, y_1.2.2.1, y_1.2.2.2.2.2.1, y_1.2.2.2.2.1.2.1)
      else
       let t35_49 := (IntKind.wrap .i64 (x_8 + (1 : Int)))
       (F_make_dice_to t35_49 t23_36.2).bind fun t36_50 =>
       let t37_51 := (IntKind.wrap .i64 ((2 : Int) * t36_50.1))
       let t43_52 := (IntKind.wrap .i64 (t37_51 - x_8))
       some (y_1.2.2.2.1, y_1.2.1.1, y_1.2.2.2.2.1.2.2.1, y_1.2.2.2.2.2.2, y_1.2.1.2, y_1.2.2.2.2.1.1, y_1.2.2.2.2.1.2.2.2, t36_50.2, y_1.1, t43_52, y_1.2.2.2.2.2.1, y_1.2.2.2.2.1.2.1))) fun r_53 =>
     let b2_54 := r_53.1
     let b2_55 := r_53.2.1
     let b2_56 := r_53.2.2.1
     let b2_57 := r_53.2.2.2.1
     let b2_58 := r_53.2.2.2.2.1
     let b2_59 := r_53.2.2.2.2.2.1
     let b2_60 := r_53.2.2.2.2.2.2.1
     let b1_61 := r_53.2.2.2.2.2.2.2.1
     let b2_62 := r_53.2.2.2.2.2.2.2.2.1
     let b2_63 := r_53.2.2.2.2.2.2.2.2.2.1
     let b2_64 : (List (List Int)) := r_53.2.2.2.2.2.2.2.2.2.2.1
     let b2_65 := r_53.2.2.2.2.2.2.2.2.2.2.2
     some (b2_54, b2_55, b2_56, b2_57, b2_58, b2_59, b2_60, b1_61, b2_62, b2_63, b2_64, b2_65))) fun r_66 =>
   let b2_67 := r_66.1
   let b2_68 := r_66.2.1
   let b2_69 := r_66.2.2.1
   let b2_70 := r_66.2.2.2.1
   let b2_71 := r_66.2.2.2.2.1
   let b2_72 := r_66.2.2.2.2.2.1
   let b2_73 := r_66.2.2.2.2.2.2.1
   let b1_74 := r_66.2.2.2.2.2.2.2.1
   let b2_75 := r_66.2.2.2.2.2.2.2.2.1
   let b2_76 := r_66.2.2.2.2.2.2.2.2.2.1
   let b2_77 : (List (List Int)) := r_66.2.2.2.2.2.2.2.2.2.2.1
   let b2_78 := r_66.2.2.2.2.2.2.2.2.2.2.2
   let t103_79 : Yd19 := (b2_75, ((b2_68, b2_71), (b2_76, (b2_67, ((b2_72, (b2_78, (b2_69, b2_73))), (b2_77, b2_70))))))
   (F_make_maker_shows x_2 x_3 x_4 x_5 x_6 x_7 x_8 x_9 x_10 x_11 x_12 x_13 x_14 x_15 x_16 x_17 x_18 x_19 x_20 x_21 x_22 x_23 x_24 x_25 x_26 x_27 x_28 x_29 x_30 x_31 x_32 x_33 t103_79).bind fun t104_80 =>
   (bif (!t104_80) then
    some (y_1, x_2, x_3, x_4, x_5, x_6, x_7, x_8, x_9, x_10, x_11, x_12, x_13, x_14, x_15, x_16, x_17, x_18, x_19, x_20, x_21, x_22, x_23, x_24, x_25, x_26, x_27, x_28, x_29, x_30, x_31, x_32, x_33, b1_74)
   else
    let t107_81 : Yd19 := (b2_75, ((b2_68, b2_71), (b2_76, (b2_67, ((b2_72, (b2_78, (b2_69, b2_73))), (b2_77, b2_70))))))
    some (t107_81, x_2, x_3, x_4, x_5, x_6, x_7, x_8, x_9, x_10, x_11, x_12, x_13, x_14, x_15, x_16, x_17, x_18, x_19, x_20, x_21, x_22, x_23, x_24, x_25, x_26, x_27, x_28, x_29, x_30, x_31, x_32, x_33, b1_74))))
noncomputable def con_F_make_maker_fault : OCon := { f := 29, ps := [.ref 0 0, .dat (.agg Yt19)], boxes := [[.ref 1 0, oI, oI, oI, oI, oI, oI, oI, oI, oI, oI, oI, oI, oI, oI, .dat (.slice (.agg Yt1)), .dat (.slice (.agg Yt20)), .own 601700003 (.int .i64), oI, oI, oI, oI, oI, oI, .own 602400087 (.agg Yt19), .own 602500092 (.agg Yt12), oI, oI, oI, oI, oI, oI, oI], [.dat (.int .u64)]], ins := Yt567, nin := 34, outs := Yt567, rs := [.dat (.agg Yt19)], aft := [[.ref 1 0, oI, oI, oI, oI, oI, oI, oI, oI, oI, oI, oI, oI, oI, oI, .dat (.slice (.agg Yt1)), .dat (.slice (.agg Yt20)), .own 601700003 (.int .i64), oI, oI, oI, oI, oI, oI, .own 602400087 (.agg Yt19), .own 602500092 (.agg Yt12), oI, oI, oI, oI, oI, oI, oI], [.dat (.int .u64)]], nout := 34, F := fun x => let a := x.2.2.2.2.2.2.2.2; let b := a.2.2.2.2.2.2.2.2; let c := b.2.2.2.2.2.2.2.2; let d := c.2.2.2.2.2.2.2.2; F_make_maker_fault x.1 x.2.1 x.2.2.1 x.2.2.2.1 x.2.2.2.2.1 x.2.2.2.2.2.1 x.2.2.2.2.2.2.1 x.2.2.2.2.2.2.2.1 x.2.2.2.2.2.2.2.2.1 a.2.1 a.2.2.1 a.2.2.2.1 a.2.2.2.2.1 a.2.2.2.2.2.1 a.2.2.2.2.2.2.1 a.2.2.2.2.2.2.2.1 a.2.2.2.2.2.2.2.2.1 b.2.1 b.2.2.1 b.2.2.2.1 b.2.2.2.2.1 b.2.2.2.2.2.1 b.2.2.2.2.2.2.1 b.2.2.2.2.2.2.2.1 b.2.2.2.2.2.2.2.2.1 c.2.1 c.2.2.1 c.2.2.2.1 c.2.2.2.2.1 c.2.2.2.2.2.1 c.2.2.2.2.2.2.1 c.2.2.2.2.2.2.2.1 c.2.2.2.2.2.2.2.2.1 d.2 }
def hint_F_make_maker_fault : Hint := (.mk .plain [H0, (.mk .plain [H0, (.mk .plain [H0, (.mk .plain [H0, (.mk .plain [(.mk .plain [(.mk .plain [H0, (.mk .plain [H0, (.mk .plain [H0, (.mk .plain [H0, (.mk .plain [H0, (.mk (.join [(0, 83), (0, 86), (0, 89), (0, 87), (0, 84), (0, 85), (0, 82), (0, 88), (0, 91), (0, 97), (0, 30), (0, 36), (0, 94), (0, 100), (0, 42), (0, 39), (0, 26), (0, 90), (0, 29), (0, 35), (0, 93), (0, 99), (0, 32), (0, 38), (0, 96), (0, 41), (0, 44), (0, 28), (0, 92), (0, 31), (0, 95), (0, 34), (0, 40), (0, 98), (0, 37), (0, 43), (0, 101), (0, 27), (0, 33)] [(.normal, [⟨.cell 2 4, (.int .i64), none⟩, ⟨.cell 2 1, (.int .i64), none⟩, ⟨.cell 2 7, .bool, none⟩, ⟨.cell 2 10, .bool, none⟩, ⟨.cell 2 2, (.int .i64), none⟩, ⟨.cell 2 5, .bool, none⟩, ⟨.cell 2 8, .bool, none⟩, ⟨.cell 1 0, (.int .u64), none⟩, ⟨.cell 2 0, (.int .i64), none⟩, ⟨.cell 2 3, (.int .i64), none⟩, ⟨.cell 2 9, (.slice (.slice (.int .u8))), none⟩, ⟨.cell 2 6, .bool, none⟩])]) [H0, (.mk .plain [H0, (.mk (.join [(0, 97), (0, 94), (0, 100), (0, 95), (0, 98), (0, 101), (0, 93), (0, 99), (0, 96), (0, 30), (0, 36), (0, 42), (0, 39), (0, 28), (0, 31), (0, 34), (0, 40), (0, 37), (0, 43), (0, 26), (0, 29), (0, 35), (0, 32), (0, 38), (0, 41), (0, 44), (0, 27), (0, 33)] [(.normal, [⟨.cell 2 4, (.int .i64), none⟩, ⟨.cell 2 1, (.int .i64), none⟩, ⟨.cell 2 7, .bool, none⟩, ⟨.cell 2 10, .bool, none⟩, ⟨.cell 2 2, (.int .i64), none⟩, ⟨.cell 2 5, .bool, none⟩, ⟨.cell 2 8, .bool, none⟩, ⟨.cell 1 0, (.int .u64), none⟩, ⟨.cell 2 0, (.int .i64), none⟩, ⟨.cell 2 3, (.int .i64), none⟩, ⟨.cell 2 9, (.slice (.slice (.int .u8))), none⟩, ⟨.cell 2 6, .bool, none⟩])]) [])])])])])])])])])])])])])])
theorem run_F_make_maker_fault : runO ⟨tdGet tys, [con_F_make_dice_to, con_F_make_maker_shows], [], [], []⟩ con_F_make_maker_fault Tryz.f29 hint_F_make_maker_fault = con_F_make_maker_fault.F := by
 funext x
 kernel_rfl
theorem ok_F_make_maker_fault : OConOK Tryz.prog con_F_make_maker_fault :=
 ocon_of_run (Γ := ⟨tdGet tys, [con_F_make_dice_to, con_F_make_maker_shows], [], [], []⟩) ⟨fun T d h => tysB_ok tys tys_ok T d h, by simp [ok_F_make_dice_to, ok_F_make_maker_shows], by simp [], by simp [], ptrs_ok Tryz.prog [] (by kernel_rfl)⟩ (by kernel_rfl) Tryz.func29 rfl (by kernel_rfl) rfl run_F_make_maker_fault
noncomputable def F_make_maker_read (k_1 : Int) (to_2 : Int) (x_3 : Int) (x_4 : Int) (x_5 : Int) (x_6 : Int) (x_7 : Int) (x_8 : Int) (x_9 : Int) (x_10 : Int) (x_11 : Int) (x_12 : Int) (x_13 : Int) (x_14 : Int) (x_15 : Int) (x_16 : Int) (x_17 : (List Yd1)) (x_18 : (List Yd20)) (x_19 : (List Int)) (x_20 : Int) (x_21 : Int) (x_22 : Int) (x_23 : Int) (x_24 : Int) (x_25 : Int) (x_26 : (List Yd19)) (x_27 : (List Yd12)) (x_28 : Int) (x_29 : Int) (x_30 : Int) (x_31 : Int) (x_32 : Int) (x_33 : Int) (x_34 : Int) (x_35 : Int) : Option Yd503 :=
 Option.bind (
  loopO (X := Yd13) (fun (s_36 : Yd569) =>
   let b1_37 := s_36.1
   let b0_38 : (List Yd12) := s_36.2.1
   let t18_39 := s_36.2.2.1
   let start_40 := s_36.2.2.2
   let t19_41 := (decide (t18_39 < (x_19.length : Int)))
   (bif t19_41 then
    chk none ((decide ((0 : Int) ≤ t18_39)) && (decide (t18_39 < (x_19.length : Int)))) <|
    let t22_42 := (x_19.getD t18_39.toNat (0 : Int))
    Option.bind (α := Yd13 ⊕ Yd13) (
     loopO (X := Yd13 ⊕ Yd13) (fun (s_43 : Yd570) =>
      let b1_44 := s_43.1
      let b0_45 : (List Yd12) := s_43.2.1
      let t29_46 := s_43.2.2
      let t30_47 := (decide (t29_46 < (x_18.length : Int)))
      (bif t30_47 then
       chk none ((decide ((0 : Int) ≤ t29_46)) && (decide (t29_46 < (x_18.length : Int)))) <|
       let t32_48 : Yd20 := (x_18.getD t29_46.toNat ((0 : Int), ((0 : Int), ((0 : Int), ((0 : Int), (0 : Int))))))
       let t36_49 := (IntKind.wrap .i64 (start_40 + t32_48.2.2.1))
       Option.bind (
        let t48_50 := (if to_2 < x_29 then to_2 else x_29)
        let t49_51 := (decide (t48_50 < t36_49))
        let t50_52 := (bif (t32_48.2.1 == t22_42) then t49_51 else false)
        let t58_53 := (if to_2 > x_29 then to_2 else x_29)
        let t59_54 := (decide (t36_49 ≤ t58_53))
        let t60_55 := (bif t50_52 then t59_54 else false)
        (bif t60_55 then
         (F_make_dice_one (5 : Int) b1_44).bind fun t66_56 =>
         let t68_57 := (bif t60_55 then (!t66_56.1) else false)
         some (t68_57, t66_56.2)
        else
         let t68_58 := (bif t60_55 then true else false)
         some (t68_58, b1_44))) fun r_59 =>
       let t68_60 := r_59.1
       let b1_61 := r_59.2
       (bif t68_60 then
        let t80_62 : Yd12 := (k_1, (t18_39, (t32_48.1, t36_49)))
        chk none (decide ((b0_45.length + ([t80_62] : List Yd12).length) * 32 ≤ 140737488355328)) <|
        let t82_63 : (List Yd12) := (b0_45 ++ ([t80_62] : List Yd12))
        some (.inr (.inl (b1_61, t82_63)))
       else
        let t86_64 := (IntKind.wrap .i64 (t29_46 + (1 : Int)))
        some (.inl (b1_61, b0_45, t86_64)))
      else
       some (.inr (.inr (b1_44, b0_45))))) (b1_37, b0_38, (0 : Int))) fun z => match z with
    | .inl r_65 =>
     let b1_66 := r_65.1
     let b0_67 : (List Yd12) := r_65.2
     some (.inr (b1_66, b0_67))
    | .inr r_68 =>
     let b1_69 := r_68.1
     let b0_70 : (List Yd12) := r_68.2
     chk none ((decide ((0 : Int) ≤ t22_42)) && (decide (t22_42 < (x_17.length : Int)))) <|
     let e_71 : Yd1 := (x_17.getD t22_42.toNat ((0 : Int), ([], [])))
     let t97_72 := (IntKind.wrap .i64 (start_40 + e_71.1))
     let t98_73 := (IntKind.wrap .i64 (t18_39 + (1 : Int)))
     some (.inl (b1_69, b0_70, t98_73, t97_72))
   else
    some (.inr (b1_37, b0_38)))) (x_35, x_27, (0 : Int), (0 : Int))) fun r_74 =>
 let b1_75 := r_74.1
 let b0_76 : (List Yd12) := r_74.2
 some (x_3, x_4, x_5, x_6, x_7, x_8, x_9, x_10, x_11, x_12, x_13, x_14, x_15, x_16, x_17, x_18, x_19, x_20, x_21, x_22, x_23, x_24, x_25, x_26, b0_76, x_28, x_29, x_30, x_31, x_32, x_33, x_34, b1_75)
noncomputable def con_F_make_maker_read : OCon := { f := 30, ps := [.ref 0 0, oI, oI], boxes := [[.ref 1 0, oI, oI, oI, oI, oI, oI, oI, oI, oI, oI, oI, oI, oI, oI, .dat (.slice (.agg Yt1)), .dat (.slice (.agg Yt20)), .own 601700003 (.int .i64), oI, oI, oI, oI, oI, oI, .own 602400087 (.agg Yt19), .own 602500092 (.agg Yt12), oI, oI, oI, oI, oI, oI, oI], [.dat (.int .u64)]], ins := Yt571, nin := 35, outs := Yt503, rs := [], aft := [[.ref 1 0, oI, oI, oI, oI, oI, oI, oI, oI, oI, oI, oI, oI, oI, oI, .dat (.slice (.agg Yt1)), .dat (.slice (.agg Yt20)), .own 601700003 (.int .i64), oI, oI, oI, oI, oI, oI, .own 602400087 (.agg Yt19), .own 602500092 (.agg Yt12), oI, oI, oI, oI, oI, oI, oI], [.dat (.int .u64)]], nout := 33, F := fun x => let a := x.2.2.2.2.2.2.2.2; let b := a.2.2.2.2.2.2.2.2; let c := b.2.2.2.2.2.2.2.2; let d := c.2.2.2.2.2.2.2.2; F_make_maker_read x.1 x.2.1 x.2.2.1 x.2.2.2.1 x.2.2.2.2.1 x.2.2.2.2.2.1 x.2.2.2.2.2.2.1 x.2.2.2.2.2.2.2.1 x.2.2.2.2.2.2.2.2.1 a.2.1 a.2.2.1 a.2.2.2.1 a.2.2.2.2.1 a.2.2.2.2.2.1 a.2.2.2.2.2.2.1 a.2.2.2.2.2.2.2.1 a.2.2.2.2.2.2.2.2.1 b.2.1 b.2.2.1 b.2.2.2.1 b.2.2.2.2.1 b.2.2.2.2.2.1 b.2.2.2.2.2.2.1 b.2.2.2.2.2.2.2.1 b.2.2.2.2.2.2.2.2.1 c.2.1 c.2.2.1 c.2.2.2.1 c.2.2.2.2.1 c.2.2.2.2.2.1 c.2.2.2.2.2.2.1 c.2.2.2.2.2.2.2.1 c.2.2.2.2.2.2.2.2.1 d.2.1 d.2.2 }
def hint_F_make_maker_read : Hint := (.mk .plain [(.mk .plain [H0, (.mk .plain [H0, (.mk .plain [H0, (.mk .plain [(.mk (.loop [⟨.cell 1 0, (.int .u64), none⟩, ⟨.cell 0 25, (.slice (.agg Yt12)), some 602500092⟩, ⟨.slot 18, (.int .i64), none⟩, ⟨.slot 6, (.int .i64), none⟩] [(0, 36), (0, 45), (0, 54), (0, 51), (0, 60), (0, 69), (0, 11), (0, 78), (0, 23), (0, 75), (0, 20), (0, 84), (0, 29), (0, 38), (0, 47), (0, 44), (0, 53), (0, 62), (0, 7), (0, 71), (0, 80), (0, 77), (0, 22), (0, 86), (0, 31), (0, 40), (0, 37), (0, 46), (0, 55), (0, 64), (0, 73), (0, 70), (0, 79), (0, 24), (0, 33), (0, 30), (0, 42), (0, 39), (0, 48), (0, 57), (0, 66), (0, 63), (0, 8), (0, 72), (0, 81), (0, 26), (0, 35), (0, 32), (0, 41), (0, 50), (0, 59), (0, 56), (0, 68), (0, 65), (0, 10), (0, 74), (0, 19), (0, 83), (0, 28), (0, 25), (0, 34), (0, 43), (0, 52), (0, 49), (0, 61), (0, 58), (0, 67), (0, 76), (0, 21), (0, 85), (0, 82), (0, 27), (0, 91), (0, 87), (0, 93), (0, 95), (0, 88), (0, 97), (0, 94), (0, 90), (0, 96), (0, 92), (0, 89), (0, 98)] [(.exit 0, [⟨.cell 1 0, (.int .u64), none⟩, ⟨.cell 0 25, (.slice (.agg Yt12)), some 602500092⟩])]) [(.mk .plain [H0, (.mk .plain [H0, (.mk .plain [(.mk .plain [(.mk .plain [H0, (.mk .plain [(.mk .plain [H0, (.mk .plain [(.mk (.loop [⟨.cell 1 0, (.int .u64), none⟩, ⟨.cell 0 25, (.slice (.agg Yt12)), some 602500092⟩, ⟨.slot 29, (.int .i64), none⟩] [(0, 36), (0, 45), (0, 54), (0, 51), (0, 60), (0, 69), (0, 78), (0, 11), (0, 75), (0, 84), (0, 38), (0, 47), (0, 44), (0, 53), (0, 62), (0, 71), (0, 80), (0, 77), (0, 31), (0, 40), (0, 37), (0, 46), (0, 55), (0, 64), (0, 73), (0, 70), (0, 79), (0, 33), (0, 30), (0, 42), (0, 39), (0, 48), (0, 57), (0, 66), (0, 63), (0, 72), (0, 81), (0, 35), (0, 32), (0, 41), (0, 50), (0, 59), (0, 56), (0, 68), (0, 65), (0, 10), (0, 74), (0, 83), (0, 34), (0, 43), (0, 52), (0, 49), (0, 61), (0, 58), (0, 67), (0, 76), (0, 85), (0, 82), (0, 86)] [(.exit 0, [⟨.cell 1 0, (.int .u64), none⟩, ⟨.cell 0 25, (.slice (.agg Yt12)), some 602500092⟩]), (.exit 2, [⟨.cell 1 0, (.int .u64), none⟩, ⟨.cell 0 25, (.slice (.agg Yt12)), some 602500092⟩])]) [(.mk .plain [H0, (.mk .plain [H0, (.mk .plain [(.mk .plain [(.mk .plain [H0, (.mk .plain [H0, (.mk .plain [(.mk (.join [(0, 42), (0, 39), (0, 45), (0, 48), (0, 54), (0, 51), (0, 57), (0, 60), (0, 66), (0, 63), (0, 38), (0, 41), (0, 47), (0, 44), (0, 50), (0, 53), (0, 59), (0, 56), (0, 62), (0, 65), (0, 40), (0, 37), (0, 43), (0, 46), (0, 52), (0, 49), (0, 55), (0, 61), (0, 58), (0, 64), (0, 67)] [(.normal, [⟨.slot 68, .bool, none⟩, ⟨.cell 1 0, (.int .u64), none⟩])]) [])])])])])])])])])])])])])])])])])])])])])])])
theorem run_F_make_maker_read : runO ⟨tdGet tys, [con_F_make_dice_one], [], [], []⟩ con_F_make_maker_read Tryz.f30 hint_F_make_maker_read = con_F_make_maker_read.F := by
 funext x
 kernel_rfl
theorem ok_F_make_maker_read : OConOK Tryz.prog con_F_make_maker_read :=
 ocon_of_run (Γ := ⟨tdGet tys, [con_F_make_dice_one], [], [], []⟩) ⟨fun T d h => tysB_ok tys tys_ok T d h, by simp [ok_F_make_dice_one], by simp [], by simp [], ptrs_ok Tryz.prog [] (by kernel_rfl)⟩ (by kernel_rfl) Tryz.func30 rfl (by kernel_rfl) rfl run_F_make_maker_read
noncomputable def F_make_maker_tick (k_1 : Int) (x_2 : Int) (x_3 : Int) (x_4 : Int) (x_5 : Int) (x_6 : Int) (x_7 : Int) (x_8 : Int) (x_9 : Int) (x_10 : Int) (x_11 : Int) (x_12 : Int) (x_13 : Int) (x_14 : Int) (x_15 : Int) (x_16 : (List Yd1)) (x_17 : (List Yd20)) (x_18 : (List Int)) (x_19 : Int) (x_20 : Int) (x_21 : Int) (x_22 : Int) (x_23 : Int) (x_24 : Int) (x_25 : (List Yd19)) (x_26 : (List Yd12)) (x_27 : Int) (x_28 : Int) (x_29 : Int) (x_30 : Int) (x_31 : Int) (x_32 : Int) (x_33 : Int) (x_34 : Int) : Option Yd503 :=
 (F_make_maker_speed x_2 x_3 x_4 x_5 x_6 x_7 x_8 x_9 x_10 x_11 x_12 x_13 x_14 x_15 x_16 x_17 x_18 x_19 x_20 x_21 x_22 x_23 x_24 x_25 x_26 x_27 x_28 x_29 x_30 x_31 x_32 x_33 x_34).bind fun t8_35 =>
 let t19_36 := (IntKind.wrap .i64 ((2 : Int) * t8_35.2.2.2.2.2.2.1))
 let t20_37 := (IntKind.wrap .i64 (t19_36 + (1 : Int)))
 (F_make_dice_to t20_37 t8_35.2.2.2.2.2.2.2.2.2.2.2.2.2.2.2.2.2.2.2.2.2.2.2.2.2.2.2.2.2.2.2.2.2).bind fun t21_38 =>
 let t27_39 := (IntKind.wrap .i64 (t21_38.1 - t8_35.2.2.2.2.2.2.1))
 let t37_40 := (IntKind.wrap .i64 ((2 : Int) * t8_35.2.2.2.2.1))
 let t38_41 := (IntKind.wrap .i64 (t37_40 + (1 : Int)))
 (F_make_dice_to t38_41 t21_38.2).bind fun t39_42 =>
 let t45_43 := (IntKind.wrap .i64 (t39_42.1 - t8_35.2.2.2.2.1))
 (bif !(t8_35.1 != (0 : Int)) then
  (F_make_dice_one (2 : Int) t39_42.2).bind fun t53_44 =>
  let t54_45 := (bif (t8_35.1 != (0 : Int)) then true else t53_44.1)
  let t57_46 := (decide ((0 : Int) < k_1))
  Option.bind (
   (bif t57_46 then
    let t59_47 : Yd19 := (t8_35.1, (((0 : Int), (0 : Int)), (t45_43, (t27_39, ((false, (false, (false, false))), ([], t54_45))))))
    (F_make_maker_fault t59_47 t8_35.2.1 t8_35.2.2.1 t8_35.2.2.2.1 t8_35.2.2.2.2.1 t8_35.2.2.2.2.2.1 t8_35.2.2.2.2.2.2.1 t8_35.2.2.2.2.2.2.2.1 t8_35.2.2.2.2.2.2.2.2.1 t8_35.2.2.2.2.2.2.2.2.2.1 t8_35.2.2.2.2.2.2.2.2.2.2.1 t8_35.2.2.2.2.2.2.2.2.2.2.2.1 t8_35.2.2.2.2.2.2.2.2.2.2.2.2.1 t8_35.2.2.2.2.2.2.2.2.2.2.2.2.2.1 t8_35.2.2.2.2.2.2.2.2.2.2.2.2.2.2.1 t8_35.2.2.2.2.2.2.2.2.2.2.2.2.2.2.2.1 t8_35.2.2.2.2.2.2.2.2.2.2.2.2.2.2.2.2.1 t8_35.2.2.2.2.2.2.2.2.2.2.2.2.2.2.2.2.2.1 t8_35.2.2.2.2.2.2.2.2.2.2.2.2.2.2.2.2.2.2.1 t8_35.2.2.2.2.2.2.2.2.2.2.2.2.2.2.2.2.2.2.2.1 t8_35.2.2.2.2.2.2.2.2.2.2.2.2.2.2.2.2.2.2.2.2.1 t8_35.2.2.2.2.2.2.2.2.2.2.2.2.2.2.2.2.2.2.2.2.2.1 t8_35.2.2.2.2.2.2.2.2.2.2.2.2.2.2.2.2.2.2.2.2.2.2.1 t8_35.2.2.2.2.2.2.2.2.2.2.2.2.2.2.2.2.2.2.2.2.2.2.2.1 t8_35.2.2.2.2.2.2.2.2.2.2.2.2.2.2.2.2.2.2.2.2.2.2.2.2.1 t8_35.2.2.2.2.2.2.2.2.2.2.2.2.2.2.2.2.2.2.2.2.2.2.2.2.2.1 t8_35.2.2.2.2.2.2.2.2.2.2.2.2.2.2.2.2.2.2.2.2.2.2.2.2.2.2.1 t8_35.2.2.2.2.2.2.2.2.2.2.2.2.2.2.2.2.2.2.2.2.2.2.2.2.2.2.2.1 t8_35.2.2.2.2.2.2.2.2.2.2.2.2.2.2.2.2.2.2.2.2.2.2.2.2.2.2.2.2.1 t8_35.2.2.2.2.2.2.2.2.2.2.2.2.2.2.2.2.2.2.2.2.2.2.2.2.2.2.2.2.2.1 t8_35.2.2.2.2.2.2.2.2.2.2.2.2.2.2.2.2.2.2.2.2.2.2.2.2.2.2.2.2.2.2.1 t8_35.2.2.2.2.2.2.2.2.2.2.2.2.2.2.2.2.2.2.2.2.2.2.2.2.2.2.2.2.2.2.2.1 t8_35.2.2.2.2.2.2.2.2.2.2.2.2.2.2.2.2.2.2.2.2.2.2.2.2.2.2.2.2.2.2.2.2.1 t53_44.2).bind fun t60_48 =>
    some (t60_48.2.2.2.2.2.2.2.2.2.2.2.2.2.2.2.2.2.2.2.2.2.2.2.2.2.2.2.2.1, t60_48.2.2.2.2.2.2.2.2.2.2.2.2.2.2.2.2.2.2.2.2.2.2.2.2.2.2.2.2.2.2.2.1, t60_48.1.2.2.2.1, t60_48.1.2.1.1, t60_48.1.2.2.2.2.1.2.2.1, t60_48.1.2.2.2.2.2.2, t60_48.2.2.2.2.2.2.1, t60_48.2.2.2.1, t60_48.2.2.2.2.2.2.2.2.2.1, t60_48.2.2.2.2.2.2.2.2.2.2.2.2.1, t60_48.2.2.2.2.2.2.2.2.2.2.2.2.2.2.2.2.2.2.1, t60_48.2.2.2.2.2.2.2.2.2.2.2.2.2.2.2.1, t60_48.2.2.2.2.2.2.2.2.2.2.2.2.2.2.2.2.2.2.2.2.2.1, t60_48.2.2.2.2.2.2.2.2.2.2.2.2.2.2.2.2.2.2.2.2.2.2.2.2.1, t60_48.2.2.2.2.2.2.2.2.2.2.2.2.2.2.2.2.2.2.2.2.2.2.2.2.2.2.2.2.2.2.1, t60_48.2.2.2.2.2.2.2.2.2.2.2.2.2.2.2.2.2.2.2.2.2.2.2.2.2.2.2.1, t60_48.1.1, t60_48.1.2.2.1, t60_48.1.2.2.2.2.2.1, t60_48.1.2.2.2.2.1.2.1, t60_48.2.2.1, t60_48.2.2.2.2.2.1, t60_48.2.2.2.2.2.2.2.2.2.2.2.1, t60_48.2.2.2.2.2.2.2.2.1, t60_48.2.2.2.2.2.2.2.2.2.2.2.2.2.2.1, t60_48.2.2.2.2.2.2.2.2.2.2.2.2.2.2.2.2.2.2.2.2.1, t60_48.2.2.2.2.2.2.2.2.2.2.2.2.2.2.2.2.2.1, t60_48.2.2.2.2.2.2.2.2.2.2.2.2.2.2.2.2.2.2.2.2.2.2.2.1, t60_48.2.2.2.2.2.2.2.2.2.2.2.2.2.2.2.2.2.2.2.2.2.2.2.2.2.2.1, t60_48.2.2.2.2.2.2.2.2.2.2.2.2.2.2.2.2.2.2.2.2.2.2.2.2.2.2.2.2.2.2.2.2.1, t60_48.2.2.2.2.2.2.2.2.2.2.2.2.2.2.2.2.2.2.2.2.2.2.2.2.2.2.2.2.2.1, t60_48.1.2.1.2, t60_48.1.2.2.2.2.1.1, t60_48.1.2.2.2.2.1.2.2.2, t60_48.2.1, t60_48.2.2.2.2.2.2.2.2.2.2.2.2.2.2.2.2.2.2.2.2.2.2.2.2.2.2.2.2.2.2.2.2.2, t60_48.2.2.2.2.1, t60_48.2.2.2.2.2.2.2.1, t60_48.2.2.2.2.2.2.2.2.2.2.2.2.2.1, t60_48.2.2.2.2.2.2.2.2.2.2.1, t60_48.2.2.2.2.2.2.2.2.2.2.2.2.2.2.2.2.1, t60_48.2.2.2.2.2.2.2.2.2.2.2.2.2.2.2.2.2.2.2.1, t60_48.2.2.2.2.2.2.2.2.2.2.2.2.2.2.2.2.2.2.2.2.2.2.2.2.2.1, t60_48.2.2.2.2.2.2.2.2.2.2.2.2.2.2.2.2.2.2.2.2.2.2.1)
   else
    some (t8_35.2.2.2.2.2.2.2.2.2.2.2.2.2.2.2.2.2.2.2.2.2.2.2.2.2.2.2.2.1, t8_35.2.2.2.2.2.2.2.2.2.2.2.2.2.2.2.2.2.2.2.2.2.2.2.2.2.2.2.2.2.2.2.1, t27_39, (0 : Int), false, t54_45, t8_35.2.2.2.2.2.2.1, t8_35.2.2.2.1, t8_35.2.2.2.2.2.2.2.2.2.1, t8_35.2.2.2.2.2.2.2.2.2.2.2.2.1, t8_35.2.2.2.2.2.2.2.2.2.2.2.2.2.2.2.2.2.2.1, t8_35.2.2.2.2.2.2.2.2.2.2.2.2.2.2.2.1, t8_35.2.2.2.2.2.2.2.2.2.2.2.2.2.2.2.2.2.2.2.2.2.1, t8_35.2.2.2.2.2.2.2.2.2.2.2.2.2.2.2.2.2.2.2.2.2.2.2.2.1, t8_35.2.2.2.2.2.2.2.2.2.2.2.2.2.2.2.2.2.2.2.2.2.2.2.2.2.2.2.2.2.2.1, t8_35.2.2.2.2.2.2.2.2.2.2.2.2.2.2.2.2.2.2.2.2.2.2.2.2.2.2.2.1, t8_35.1, t45_43, [], false, t8_35.2.2.1, t8_35.2.2.2.2.2.1, t8_35.2.2.2.2.2.2.2.2.2.2.2.1, t8_35.2.2.2.2.2.2.2.2.1, t8_35.2.2.2.2.2.2.2.2.2.2.2.2.2.2.1, t8_35.2.2.2.2.2.2.2.2.2.2.2.2.2.2.2.2.2.2.2.2.1, t8_35.2.2.2.2.2.2.2.2.2.2.2.2.2.2.2.2.2.1, t8_35.2.2.2.2.2.2.2.2.2.2.2.2.2.2.2.2.2.2.2.2.2.2.2.1, t8_35.2.2.2.2.2.2.2.2.2.2.2.2.2.2.2.2.2.2.2.2.2.2.2.2.2.2.1, t8_35.2.2.2.2.2.2.2.2.2.2.2.2.2.2.2.2.2.2.2.2.2.2.2.2.2.2.2.2.2.2.2.2.1, t8_35.2.2.2.2.2.2.2.2.2.2.2.2.2.2.2.2.2.2.2.2.2.2.2.2.2.2.2.2.2.1, (0 : Int), false, false, t8_35.2.1, t53_44.2, t8_35.2.2.2.2.1, t8_35.2.2.2.2.2.2.2.1, t8_35.2.2.2.2.2.2.2.2.2.2.2.2.2.1, t8_35.2.2.2.2.2.2.2.2.2.2.1, t8_35.2.2.2.2.2.2.2.2.2.2.2.2.2.2.2.2.1, t8_35.2.2.2.2.2.2.2.2.2.2.2.2.2.2.2.2.2.2.2.1, t8_35.2.2.2.2.2.2.2.2.2.2.2.2.2.2.2.2.2.2.2.2.2.2.2.2.2.1, t8_35.2.2.2.2.2.2.2.2.2.2.2.2.2.2.2.2.2.2.2.2.2.2.1))) fun r_49 =>
  let b0_50 := r_49.1
  let b0_51 := r_49.2.1
  let b2_52 := r_49.2.2.1
  let b2_53 := r_49.2.2.2.1
  let b2_54 := r_49.2.2.2.2.1
  let b2_55 := r_49.2.2.2.2.2.1
  let b0_56 := r_49.2.2.2.2.2.2.1
  let b0_57 := r_49.2.2.2.2.2.2.2.1
  let b0_58 := r_49.2.2.2.2.2.2.2.2.1
  let b0_59 := r_49.2.2.2.2.2.2.2.2.2.1
  let b0_60 := r_49.2.2.2.2.2.2.2.2.2.2.1
  let b0_61 : (List Yd1) := r_49.2.2.2.2.2.2.2.2.2.2.2.1
  let b0_62 := r_49.2.2.2.2.2.2.2.2.2.2.2.2.1
  let b0_63 : (List Yd19) := r_49.2.2.2.2.2.2.2.2.2.2.2.2.2.1
  let b0_64 := r_49.2.2.2.2.2.2.2.2.2.2.2.2.2.2.1
  let b0_65 := r_49.2.2.2.2.2.2.2.2.2.2.2.2.2.2.2.1
  let b2_66 := r_49.2.2.2.2.2.2.2.2.2.2.2.2.2.2.2.2.1
  let b2_67 := r_49.2.2.2.2.2.2.2.2.2.2.2.2.2.2.2.2.2.1
  let b2_68 : (List (List Int)) := r_49.2.2.2.2.2.2.2.2.2.2.2.2.2.2.2.2.2.2.1
  let b2_69 := r_49.2.2.2.2.2.2.2.2.2.2.2.2.2.2.2.2.2.2.2.1
  let b0_70 := r_49.2.2.2.2.2.2.2.2.2.2.2.2.2.2.2.2.2.2.2.2.1
  let b0_71 := r_49.2.2.2.2.2.2.2.2.2.2.2.2.2.2.2.2.2.2.2.2.2.1
  let b0_72 := r_49.2.2.2.2.2.2.2.2.2.2.2.2.2.2.2.2.2.2.2.2.2.2.1
  let b0_73 := r_49.2.2.2.2.2.2.2.2.2.2.2.2.2.2.2.2.2.2.2.2.2.2.2.1
  let b0_74 := r_49.2.2.2.2.2.2.2.2.2.2.2.2.2.2.2.2.2.2.2.2.2.2.2.2.1
  let b0_75 := r_49.2.2.2.2.2.2.2.2.2.2.2.2.2.2.2.2.2.2.2.2.2.2.2.2.2.1
  let b0_76 : (List Int) := r_49.2.2.2.2.2.2.2.2.2.2.2.2.2.2.2.2.2.2.2.2.2.2.2.2.2.2.1
  let b0_77 := r_49.2.2.2.2.2.2.2.2.2.2.2.2.2.2.2.2.2.2.2.2.2.2.2.2.2.2.2.1
  let b0_78 := r_49.2.2.2.2.2.2.2.2.2.2.2.2.2.2.2.2.2.2.2.2.2.2.2.2.2.2.2.2.1
  let b0_79 := r_49.2.2.2.2.2.2.2.2.2.2.2.2.2.2.2.2.2.2.2.2.2.2.2.2.2.2.2.2.2.1
  let b0_80 := r_49.2.2.2.2.2.2.2.2.2.2.2.2.2.2.2.2.2.2.2.2.2.2.2.2.2.2.2.2.2.2.1
  let b2_81 := r_49.2.2.2.2.2.2.2.2.2.2.2.2.2.2.2.2.2.2.2.2.2.2.2.2.2.2.2.2.2.2.2.1
  let b2_82 := r_49.2.2.2.2.2.2.2.2.2.2.2.2.2.2.2.2.2.2.2.2.2.2.2.2.2.2.2.2.2.2.2.2.1
  let b2_83 := r_49.2.2.2.2.2.2.2.2.2.2.2.2.2.2.2.2.2.2.2.2.2.2.2.2.2.2.2.2.2.2.2.2.2.1
  let b0_84 := r_49.2.2.2.2.2.2.2.2.2.2.2.2.2.2.2.2.2.2.2.2.2.2.2.2.2.2.2.2.2.2.2.2.2.2.1
  let b1_85 := r_49.2.2.2.2.2.2.2.2.2.2.2.2.2.2.2.2.2.2.2.2.2.2.2.2.2.2.2.2.2.2.2.2.2.2.2.1
  let b0_86 := r_49.2.2.2.2.2.2.2.2.2.2.2.2.2.2.2.2.2.2.2.2.2.2.2.2.2.2.2.2.2.2.2.2.2.2.2.2.1
  let b0_87 := r_49.2.2.2.2.2.2.2.2.2.2.2.2.2.2.2.2.2.2.2.2.2.2.2.2.2.2.2.2.2.2.2.2.2.2.2.2.2.1
  let b0_88 := r_49.2.2.2.2.2.2.2.2.2.2.2.2.2.2.2.2.2.2.2.2.2.2.2.2.2.2.2.2.2.2.2.2.2.2.2.2.2.2.1
  let b0_89 := r_49.2.2.2.2.2.2.2.2.2.2.2.2.2.2.2.2.2.2.2.2.2.2.2.2.2.2.2.2.2.2.2.2.2.2.2.2.2.2.2.1
  let b0_90 : (List Yd20) := r_49.2.2.2.2.2.2.2.2.2.2.2.2.2.2.2.2.2.2.2.2.2.2.2.2.2.2.2.2.2.2.2.2.2.2.2.2.2.2.2.2.1
  let b0_91 := r_49.2.2.2.2.2.2.2.2.2.2.2.2.2.2.2.2.2.2.2.2.2.2.2.2.2.2.2.2.2.2.2.2.2.2.2.2.2.2.2.2.2.1
  let b0_92 : (List Yd12) := r_49.2.2.2.2.2.2.2.2.2.2.2.2.2.2.2.2.2.2.2.2.2.2.2.2.2.2.2.2.2.2.2.2.2.2.2.2.2.2.2.2.2.2.1
  let b0_93 := r_49.2.2.2.2.2.2.2.2.2.2.2.2.2.2.2.2.2.2.2.2.2.2.2.2.2.2.2.2.2.2.2.2.2.2.2.2.2.2.2.2.2.2.2
  let t68_94 := (IntKind.wrap .i64 (b0_65 + t8_35.1))
  (F_make_maker_read k_1 t68_94 b0_84 b0_70 b0_57 b0_86 b0_71 b0_56 b0_87 b0_73 b0_58 b0_89 b0_72 b0_59 b0_88 b0_74 b0_61 b0_90 b0_76 b0_60 b0_91 b0_75 b0_62 b0_93 b0_77 b0_63 b0_92 b0_78 b0_65 b0_50 b0_80 b0_64 b0_51 b0_79 b1_85).bind fun t69_95 =>
  let t78_96 := t69_95.2.2.2.2.2.2.2.2.2.2.2.2.2.2.2.2.2.2.2.2.2.2.2.2.2.2.2.2.2.1
  let t85_97 := (IntKind.wrap .i64 (t69_95.1 * t8_35.1))
  let t90_98 := (IntKind.wrap .i64 (t85_97 + b2_53))
  let t91_99 := (IntKind.wrap .i64 (t78_96 + t90_98))
  let t78_100 := t69_95.2.2.2.2.2.2.2.2.2.2.2.2.2.2.2.2.2.2.2.2.2.2.2.2.2.2.2.2.2.2.1
  let t85_101 := (IntKind.wrap .i64 (t69_95.1 * t8_35.1))
  let t90_102 := (IntKind.wrap .i64 (t85_101 + b2_81))
  let t91_103 := (IntKind.wrap .i64 (t78_100 + t90_102))
  let t101_104 := t69_95.2.2.2.2.2.2.2.2.2.2.2.2.2.2.2.2.2.2.2.2.2.2.2.2.2.2.1
  let t103_105 := (IntKind.wrap .i64 (t101_104 + t8_35.1))
  let t115_106 : Yd19 := (b2_66, ((b2_53, b2_81), (b2_67, (b2_52, ((b2_82, (b2_69, (b2_54, b2_83))), (b2_68, b2_55))))))
  chk none (decide ((t69_95.2.2.2.2.2.2.2.2.2.2.2.2.2.2.2.2.2.2.2.2.2.2.2.1.length + ([t115_106] : List Yd19).length) * 80 ≤ 140737488355328)) <|
  let t117_107 : (List Yd19) := (t69_95.2.2.2.2.2.2.2.2.2.2.2.2.2.2.2.2.2.2.2.2.2.2.2.1 ++ ([t115_106] : List Yd19))
  some (t69_95.1, t69_95.2.1, t69_95.2.2.1, t69_95.2.2.2.1, t69_95.2.2.2.2.1, t69_95.2.2.2.2.2.1, t69_95.2.2.2.2.2.2.1, t69_95.2.2.2.2.2.2.2.1, t69_95.2.2.2.2.2.2.2.2.1, t69_95.2.2.2.2.2.2.2.2.2.1, t69_95.2.2.2.2.2.2.2.2.2.2.1, t69_95.2.2.2.2.2.2.2.2.2.2.2.1, t69_95.2.2.2.2.2.2.2.2.2.2.2.2.1, t69_95.2.2.2.2.2.2.2.2.2.2.2.2.2.1, t69_95.2.2.2.2.2.2.2.2.2.2.2.2.2.2.1, t69_95.2.2.2.2.2.2.2.2.2.2.2.2.2.2.2.1, t69_95.2.2.2.2.2.2.2.2.2.2.2.2.2.2.2.2.1, t69_95.2.2.2.2.2.2.2.2.2.2.2.2.2.2.2.2.2.1, t69_95.2.2.2.2.2.2.2.2.2.2.2.2.2.2.2.2.2.2.1, t69_95.2.2.2.2.2.2.2.2.2.2.2.2.2.2.2.2.2.2.2.1, t69_95.2.2.2.2.2.2.2.2.2.2.2.2.2.2.2.2.2.2.2.2.1, t69_95.2.2.2.2.2.2.2.2.2.2.2.2.2.2.2.2.2.2.2.2.2.1, t69_95.2.2.2.2.2.2.2.2.2.2.2.2.2.2.2.2.2.2.2.2.2.2.1, t117_107, t69_95.2.2.2.2.2.2.2.2.2.2.2.2.2.2.2.2.2.2.2.2.2.2.2.2.1, t69_95.2.2.2.2.2.2.2.2.2.2.2.2.2.2.2.2.2.2.2.2.2.2.2.2.2.1, t103_105, t8_35.1, t69_95.2.2.2.2.2.2.2.2.2.2.2.2.2.2.2.2.2.2.2.2.2.2.2.2.2.2.2.2.1, t91_99, t91_103, t69_95.2.2.2.2.2.2.2.2.2.2.2.2.2.2.2.2.2.2.2.2.2.2.2.2.2.2.2.2.2.2.2.1, t69_95.2.2.2.2.2.2.2.2.2.2.2.2.2.2.2.2.2.2.2.2.2.2.2.2.2.2.2.2.2.2.2.2)
 else
  let t54_108 := (bif (t8_35.1 != (0 : Int)) then true else false)
  let t57_109 := (decide ((0 : Int) < k_1))
  Option.bind (
   (bif t57_109 then
    let t59_110 : Yd19 := (t8_35.1, (((0 : Int), (0 : Int)), (t45_43, (t27_39, ((false, (false, (false, false))), ([], t54_108))))))
    (F_make_maker_fault t59_110 t8_35.2.1 t8_35.2.2.1 t8_35.2.2.2.1 t8_35.2.2.2.2.1 t8_35.2.2.2.2.2.1 t8_35.2.2.2.2.2.2.1 t8_35.2.2.2.2.2.2.2.1 t8_35.2.2.2.2.2.2.2.2.1 t8_35.2.2.2.2.2.2.2.2.2.1 t8_35.2.2.2.2.2.2.2.2.2.2.1 t8_35.2.2.2.2.2.2.2.2.2.2.2.1 t8_35.2.2.2.2.2.2.2.2.2.2.2.2.1 t8_35.2.2.2.2.2.2.2.2.2.2.2.2.2.1 t8_35.2.2.2.2.2.2.2.2.2.2.2.2.2.2.1 t8_35.2.2.2.2.2.2.2.2.2.2.2.2.2.2.2.1 t8_35.2.2.2.2.2.2.2.2.2.2.2.2.2.2.2.2.1 t8_35.2.2.2.2.2.2.2.2.2.2.2.2.2.2.2.2.2.1 t8_35.2.2.2.2.2.2.2.2.2.2.2.2.2.2.2.2.2.2.1 t8_35.2.2.2.2.2.2.2.2.2.2.2.2.2.2.2.2.2.2.2.1 t8_35.2.2.2.2.2.2.2.2.2.2.2.2.2.2.2.2.2.2.2.2.1 t8_35.2.2.2.2.2.2.2.2.2.2.2.2.2.2.2.2.2.2.2.2.2.1 t8_35.2.2.2.2.2.2.2.2.2.2.2.2.2.2.2.2.2.2.2.2.2.2.1 t8_35.2.2.2.2.2.2.2.2.2.2.2.2.2.2.2.2.2.2.2.2.2.2.2.1 t8_35.2.2.2.2.2.2.2.2.2.2.2.2.2.2.2.2.2.2.2.2.2.2.2.2.1 t8_35.2.2.2.2.2.2.2.2.2.2.2.2.2.2.2.2.2.2.2.2.2.2.2.2.2.1 t8_35.2.2.2.2.2.2.2.2.2.2.2.2.2.2.2.2.2.2.2.2.2.2.2.2.2.2.1 t8_35.2.2.2.2.2.2.2.2.2.2.2.2.2.2.2.2.2.2.2.2.2.2.2.2.2.2.2.1 t8_35.2.2.2.2.2.2.2.2.2.2.2.2.2.2.2.2.2.2.2.2.2.2.2.2.2.2.2.2.1 t8_35.2.2.2.2.2.2.2.2.2.2.2.2.2.2.2.2.2.2.2.2.2.2.2.2.2.2.2.2.2.1 t8_35.2.2.2.2.2.2.2.2.2.2.2.2.2.2.2.2.2.2.2.2.2.2.2.2.2.2.2.2.2.2.1 t8_35.2.2.2.2.2.2.2.2.2.2.2.2.2.2.2.2.2.2.2.2.2.2.2.2.2.2.2.2.2.2.2.1 t8_35.2.2.2.2.2.2.2.2.2.2.2.2.2.2.2.2.2.2.2.2.2.2.2.2.2.2.2.2.2.2.2.2.1 t39_42.2).bind fun t60_111 =>
    some (t60_111.2.2.2.2.2.2.2.2.2.2.2.2.2.2.2.2.2.2.2.2.2.2.2.2.2.2.2.2.1, t60_111.2.2.2.2.2.2.2.2.2.2.2.2.2.2.2.2.2.2.2.2.2.2.2.2.2.2.2.2.2.2.2.1, t60_111.1.2.2.2.1, t60_111.1.2.1.1, t60_111.1.2.2.2.2.1.2.2.1, t60_111.1.2.2.2.2.2.2, t60_111.2.2.2.2.2.2.1, t60_111.2.2.2.1, t60_111.2.2.2.2.2.2.2.2.2.1, t60_111.2.2.2.2.2.2.2.2.2.2.2.2.1, t60_111.2.2.2.2.2.2.2.2.2.2.2.2.2.2.2.2.2.2.1, t60_111.2.2.2.2.2.2.2.2.2.2.2.2.2.2.2.1, t60_111.2.2.2.2.2.2.2.2.2.2.2.2.2.2.2.2.2.2.2.2.2.1, t60_111.2.2.2.2.2.2.2.2.2.2.2.2.2.2.2.2.2.2.2.2.2.2.2.2.1, t60_111.2.2.2.2.2.2.2.2.2.2.2.2.2.2.2.2.2.2.2.2.2.2.2.2.2.2.2.2.2.2.1, t60_111.2.2.2.2.2.2.2.2.2.2.2.2.2.2.2.2.2.2.2.2.2.2.2.2.2.2.2.1, t60_111.1.1, t60_111.1.2.2.1, t60_111.1.2.2.2.2.2.1, t60_111.1.2.2.2.2.1.2.1, t60_111.2.2.1, t60_111.2.2.2.2.2.1, t60_111.2.2.2.2.2.2.2.2.2.2.2.1, t60_111.2.2.2.2.2.2.2.2.1, t60_111.2.2.2.2.2.2.2.2.2.2.2.2.2.2.1, t60_111.2.2.2.2.2.2.2.2.2.2.2.2.2.2.2.2.2.2.2.2.1, t60_111.2.2.2.2.2.2.2.2.2.2.2.2.2.2.2.2.2.1, t60_111.2.2.2.2.2.2.2.2.2.2.2.2.2.2.2.2.2.2.2.2.2.2.2.1, t60_111.2.2.2.2.2.2.2.2.2.2.2.2.2.2.2.2.2.2.2.2.2.2.2.2.2.2.1, t60_111.2.2.2.2.2.2.2.2.2.2.2.2.2.2.2.2.2.2.2.2.2.2.2.2.2.2.2.2.2.2.2.2.1, t60_111.2.2.2.2.2.2.2.2.2.2.2.2.2.2.2.2.2.2.2.2.2.2.2.2.2.2.2.2.2.1, t60_111.1.2.1.2, t60_111.1.2.2.2.2.1.1, t60_111.1.2.2.2.2.1.2.2.2, t60_111.2.1, t60_111.2.2.2.2.2.2.2.2.2.2.2.2.2.2.2.2.2.2.2.2.2.2.2.2.2.2.2.2.2.2.2.2.2, t60_111.2.2.2.2.1, t60_111.2.2.2.2.2.2.2.1, t60_111.2.2.2.2.2.2.2.2.2.2.2.2.2.1, t60_111.2.2.2.2.2.2.2.2.2.2.1, t60_111.2.2.2.2.2.2.2.2.2.2.2.2.2.2.2.2.1, t60_111.2.2.2.2.2.2.2.2.2.2.2.2.2.2.2.2.2.2.2.1, t60_111.2.2.2.2.2.2.2.2.2.2.2.2.2.2.2.2.2.2.2.2.2.2.2.2.2.1, t60_111.2.2.2.2.2.2.2.2.2.2.2.2.2.2.2.2.2.2.2.2.2.2.1)
   else
    some (t8_35.2.2.2.2.2.2.2.2.2.2.2.2.2.2.2.2.2.2.2.2.2.2.2.2.2.2.2.2.1, t8_35.2.2.2.2.2.2.2.2.2.2.2.2.2.2.2.2.2.2.2.2.2.2.2.2.2.2.2.2.2.2.2.1, t27_39, (0 : Int), false, t54_108, t8_35.2.2.2.2.2.2.1, t8_35.2.2.2.1, t8_35.2.2.2.2.2.2.2.2.2.1, t8_35.2.2.2.2.2.2.2.2.2.2.2.2.1, t8_35.2.2.2.2.2.2.2.2.2.2.2.2.2.2.2.2.2.2.1, t8_35.2.2.2.2.2.2.2.2.2.2.2.2.2.2.2.1, t8_35.2.2.2.2.2.2.2.2.2.2.2.2.2.2.2.2.2.2.2.2.2.1, t8_35.2.2.2.2.2.2.2.2.2.2.2.2.2.2.2.2.2.2.2.2.2.2.2.2.1, t8_35.2.2.2.2.2.2.2.2.2.2.2.2.2.2.2.2.2.2.2.2.2.2.2.2.2.2.2.2.2.2.1, t8_35.2.2.2.2.2.2.2.2.2.2.2.2.2.2.2.2.2.2.2.2.2.2.2.2.2.2.2.1, t8_35.1, t45_43, [], false, t8_35.2.2.1, t8_35.2.2.2.2.2.1, t8_35.2.2.2.2.2.2.2.2.2.2.2.1, t8_35.2.2.2.2.2.2.2.2.1, t8_35.2.2.2.2.2.2.2.2.2.2.2.2.2.2.1, t8_35.2.2.2.2.2.2.2.2.2.2.2.2.2.2.2.2.2.2.2.2.1, t8_35.2.2.2.2.2.2.2.2.2.2.2.2.2.2.2.2.2.1, t8_35.2.2.2.2.2.2.2.2.2.2.2.2.2.2.2.2.2.2.2.2.2.2.2.1, t8_35.2.2.2.2.2.2.2.2.2.2.2.2.2.2.2.2.2.2.2.2.2.2.2.2.2.2.1, t8_35.2.2.2.2.2.2.2.2.2.2.2.2.2.2.2.2.2.2.2.2.2.2.2.2.2.2.2.2.2.2.2.2.1, t8_35.2.2.2.2.2.2.2.2.2.2.2.2.2.2.2.2.2.2.2.2.2.2.2.2.2.2.2.2.2.1, (0 : Int), false, false, t8_35.2.1, t39_42.2, t8_35.2.2.2.2.1, t8_35.2.2.2.2.2.2.2.1, t8_35.2.2.2.2.2.2.2.2.2.2.2.2.2.1, t8_35.2.2.2.2.2.2.2.2.2.2.1, t8_35.2.2.2.2.2.2.2.2.2.2.2.2.2.2.2.2.1, t8_35.2.2.2.2.2.2.2.2.2.2.2.2.2.2.2.2.2.2.2.1, t8_35.2.2.2.2.2.2.2.2.2.2.2.2.2.2.2.2.2.2.2.2.2.2.2.2.2.1, t8_35.2.2.2.2.2.2.2.2.2.2.2.2.2.2.2.2.2.2.2.2.2.2.1))) fun r_112 =>
  let b0_113 := r_112.1
  let b0_114 := r_112.2.1
  let b2_115 := r_112.2.2.1
  let b2_116 := r_112.2.2.2.1
  let b2_117 := r_112.2.2.2.2.1
  let b2_118 := r_112.2.2.2.2.2.1
  let b0_119 := r_112.2.2.2.2.2.2.1
  let b0_120 := r_112.2.2.2.2.2.2.2.1
  let b0_121 := r_112.2.2.2.2.2.2.2.2.1
  let b0_122 := r_112.2.2.2.2.2.2.2.2.2.1
  let b0_123 := r_112.2.2.2.2.2.2.2.2.2.2.1
  let b0_124 : (List Yd1) := r_112.2.2.2.2.2.2.2.2.2.2.2.1
  let b0_125 := r_112.2.2.2.2.2.2.2.2.2.2.2.2.1
  let b0_126 : (List Yd19) := r_112.2.2.2.2.2.2.2.2.2.2.2.2.2.1
  let b0_127 := r_112.2.2.2.2.2.2.2.2.2.2.2.2.2.2.1
  let b0_128 := r_112.2.2.2.2.2.2.2.2.2.2.2.2.2.2.2.1
  let b2_129 := r_112.2.2.2.2.2.2.2.2.2.2.2.2.2.2.2.2.1
  let b2_130 := r_112.2.2.2.2.2.2.2.2.2.2.2.2.2.2.2.2.2.1
  let b2_131 : (List (List Int)) := r_112.2.2.2.2.2.2.2.2.2.2.2.2.2.2.2.2.2.2.1
  let b2_132 := r_112.2.2.2.2.2.2.2.2.2.2.2.2.2.2.2.2.2.2.2.1
  let b0_133 := r_112.2.2.2.2.2.2.2.2.2.2.2.2.2.2.2.2.2.2.2.2.1
  let b0_134 := r_112.2.2.2.2.2.2.2.2.2.2.2.2.2.2.2.2.2.2.2.2.2.1
  let b0_135 := r_112.2.2.2.2.2.2.2.2.2.2.2.2.2.2.2.2.2.2.2.2.2.2.1
  let b0_136 := r_112.2.2.2.2.2.2.2.2.2.2.2.2.2.2.2.2.2.2.2.2.2.2.2.1
  let b0_137 := r_112.2.2.2.2.2.2.2.2.2.2.2.2.2.2.2.2.2.2.2.2.2.2.2.2.1
  let b0_138 := r_112.2.2.2.2.2.2.2.2.2.2.2.2.2.2.2.2.2.2.2.2.2.2.2.2.2.1
  let b0_139 : (List Int) := r_112.2.2.2.2.2.2.2.2.2.2.2.2.2.2.2.2.2.2.2.2.2.2.2.2.2.2.1
  let b0_140 := r_112.2.2.2.2.2.2.2.2.2.2.2.2.2.2.2.2.2.2.2.2.2.2.2.2.2.2.2.1
  let b0_141 := r_112.2.2.2.2.2.2.2.2.2.2.2.2.2.2.2.2.2.2.2.2.2.2.2.2.2.2.2.2.1
  let b0_142 := r_112.2.2.2.2.2.2.2.2.2.2.2.2.2.2.2.2.2.2.2.2.2.2.2.2.2.2.2.2.2.1
  let b0_143 := r_112.2.2.2.2.2.2.2.2.2.2.2.2.2.2.2.2.2.2.2.2.2.2.2.2.2.2.2.2.2.2.1
  let b2_144 := r_112.2.2.2.2.2.2.2.2.2.2.2.2.2.2.2.2.2.2.2.2.2.2.2.2.2.2.2.2.2.2.2.1
  let b2_145 := r_112.2.2.2.2.2.2.2.2.2.2.2.2.2.2.2.2.2.2.2.2.2.2.2.2.2.2.2.2.2.2.2.2.1
  let b2_146 := r_112.2.2.2.2.2.2.2.2.2.2.2.2.2.2.2.2.2.2.2.2.2.2.2.2.2.2.2.2.2.2.2.2.2.1
  let b0_147 := r_112.2.2.2.2.2.2.2.2.2.2.2.2.2.2.2.2.2.2.2.2.2.2.2.2.2.2.2.2.2.2.2.2.2.2.1
  let b1_148 := r_112.2.2.2.2.2.2.2.2.2.2.2.2.2.2.2.2.2.2.2.2.2.2.2.2.2.2.2.2.2.2.2.2.2.2.2.1
  let b0_149 := r_112.2.2.2.2.2.2.2.2.2.2.2.2.2.2.2.2.2.2.2.2.2.2.2.2.2.2.2.2.2.2.2.2.2.2.2.2.1
  let b0_150 := r_112.2.2.2.2.2.2.2.2.2.2.2.2.2.2.2.2.2.2.2.2.2.2.2.2.2.2.2.2.2.2.2.2.2.2.2.2.2.1
  let b0_151 := r_112.2.2.2.2.2.2.2.2.2.2.2.2.2.2.2.2.2.2.2.2.2.2.2.2.2.2.2.2.2.2.2.2.2.2.2.2.2.2.1
  let b0_152 := r_112.2.2.2.2.2.2.2.2.2.2.2.2.2.2.2.2.2.2.2.2.2.2.2.2.2.2.2.2.2.2.2.2.2.2.2.2.2.2.2.1
  let b0_153 : (List Yd20) := r_112.2.2.2.2.2.2.2.2.2.2.2.2.2.2.2.2.2.2.2.2.2.2.2.2.2.2.2.2.2.2.2.2.2.2.2.2.2.2.2.2.1
  let b0_154 := r_112.2.2.2.2.2.2.2.2.2.2.2.2.2.2.2.2.2.2.2.2.2.2.2.2.2.2.2.2.2.2.2.2.2.2.2.2.2.2.2.2.2.1
  let b0_155 : (List Yd12) := r_112.2.2.2.2.2.2.2.2.2.2.2.2.2.2.2.2.2.2.2.2.2.2.2.2.2.2.2.2.2.2.2.2.2.2.2.2.2.2.2.2.2.2.1
  let b0_156 := r_112.2.2.2.2.2.2.2.2.2.2.2.2.2.2.2.2.2.2.2.2.2.2.2.2.2.2.2.2.2.2.2.2.2.2.2.2.2.2.2.2.2.2.2
  let t68_157 := (IntKind.wrap .i64 (b0_128 + t8_35.1))
  (F_make_maker_read k_1 t68_157 b0_147 b0_133 b0_120 b0_149 b0_134 b0_119 b0_150 b0_136 b0_121 b0_152 b0_135 b0_122 b0_151 b0_137 b0_124 b0_153 b0_139 b0_123 b0_154 b0_138 b0_125 b0_156 b0_140 b0_126 b0_155 b0_141 b0_128 b0_113 b0_143 b0_127 b0_114 b0_142 b1_148).bind fun t69_158 =>
  let t78_159 := t69_158.2.2.2.2.2.2.2.2.2.2.2.2.2.2.2.2.2.2.2.2.2.2.2.2.2.2.2.2.2.1
  let t85_160 := (IntKind.wrap .i64 (t69_158.1 * t8_35.1))
  let t90_161 := (IntKind.wrap .i64 (t85_160 + b2_116))
  let t91_162 := (IntKind.wrap .i64 (t78_159 + t90_161))
  let t78_163 := t69_158.2.2.2.2.2.2.2.2.2.2.2.2.2.2.2.2.2.2.2.2.2.2.2.2.2.2.2.2.2.2.1
  let t85_164 := (IntKind.wrap .i64 (t69_158.1 * t8_35.1))
  let t90_165 := (IntKind.wrap .i64 (t85_164 + b2_144))
  let t91_166 := (IntKind.wrap .i64 (t78_163 + t90_165))
  let t101_167 := t69_158.2.2.2.2.2.2.2.2.2.2.2.2.2.2.2.2.2.2.2.2.2.2.2.2.2.2.1
  let t103_168 := (IntKind.wrap .i64 (t101_167 + t8_35.1))
  let t115_169 : Yd19 := (b2_129, ((b2_116, b2_144), (b2_130, (b2_115, ((b2_145, (b2_132, (b2_117, b2_146))), (b2_131, b2_118))))))
  chk none (decide ((t69_158.2.2.2.2.2.2.2.2.2.2.2.2.2.2.2.2.2.2.2.2.2.2.2.1.length + ([t115_169] : List Yd19).length) * 80 ≤ 140737488355328)) <|
  let t117_170 : (List Yd19) := (t69_158.2.2.2.2.2.2.2.2.2.2.2.2.2.2.2.2.2.2.2.2.2.2.2.1 ++ ([t115_169] : List Yd19))
  some (t69_158.1, t69_158.2.1, t69_158.2.2.1, t69_158.2.2.2.1, t69_158.2.2.2.2.1, t69_158.2.2.2.2.2.1, t69_158.2.2.2.2.2.2.1, t69_158.2.2.2.2.2.2.2.1, t69_158.2.2.2.2.2.2.2.2.1, t69_158.2.2.2.2.2.2.2.2.2.1, t69_158.2.2.2.2.2.2.2.2.2.2.1, t69_158.2.2.2.2.2.2.2.2.2.2.2.1, t69_158.2.2.2.2.2.2.2.2.2.2.2.2.1, t69_158.2.2.2.2.2.2.2.2.2.2.2.2.2.1, t69_158.2.2.2.2.2.2.2.2.2.2.2.2.2.2.1, t69_158.2.2.2.2.2.2.2.2.2.2.2.2.2.2.2.1, t69_158.2.2.2.2.2.2.2.2.2.2.2.2.2.2.2.2.1, t69_158.2.2.2.2.2.2.2.2.2.2.2.2.2.2.2.2.2.1, t69_158.2.2.2.2.2.2.2.2.2.2.2.2.2.2.2.2.2.2.1, t69_158.2.2.2.2.2.2.2.2.2.2.2.2.2.2.2.2.2.2.2.1, t69_158.2.2.2.2.2.2.2.2.2.2.2.2.2.2.2.2.2.2.2.2.1, t69_158.2.2.2.2.2.2.2.2.2.2.2.2.2.2.2.2.2.2.2.2.2.1, t69_158.2.2.2.2.2.2.2.2.2.2.2.2.2.2.2.2.2.2.2.2.2.2.1, t117_170, t69_158.2.2.2.2.2.2.2.2.2.2.2.2.2.2.2.2.2.2.2.2.2.2.2.2.1, t69_158.2.2.2.2.2.2.2.2.2.2.2.2.2.2.2.2.2.2.2.2.2.2.2.2.2.1, t103_168, t8_35.1, t69_158.2.2.2.2.2.2.2.2.2.2.2.2.2.2.2.2.2.2.2.2.2.2.2.2.2.2.2.2.1, t91_162, t91_166, t69_158.2.2.2.2.2.2.2.2.2.2.2.2.2.2.2.2.2.2.2.2.2.2.2.2.2.2.2.2.2.2.2.1, t69_158.2.2.2.2.2.2.2.2.2.2.2.2.2.2.2.2.2.2.2.2.2.2.2.2.2.2.2.2.2.2.2.2))
noncomputable def con_F_make_maker_tick : OCon := { f := 13, ps := [.ref 0 0, oI], boxes := [[.ref 1 0, oI, oI, oI, oI, oI, oI, oI, oI, oI, oI, oI, oI, oI, oI, .dat (.slice (.agg Yt1)), .dat (.slice (.agg Yt20)), .own 601700003 (.int .i64), oI, oI, oI, oI, oI, oI, .own 602400087 (.agg Yt19), .own 602500092 (.agg Yt12), oI, oI, oI, oI, oI, oI, oI], [.dat (.int .u64)]], ins := Yt529, nin := 34, outs := Yt503, rs := [], aft := [[.ref 1 0, oI, oI, oI, oI, oI, oI, oI, oI, oI, oI, oI, oI, oI, oI, .dat (.slice (.agg Yt1)), .dat (.slice (.agg Yt20)), .own 601700003 (.int .i64), oI, oI, oI, oI, oI, oI, .own 602400087 (.agg Yt19), .own 602500092 (.agg Yt12), oI, oI, oI, oI, oI, oI, oI], [.dat (.int .u64)]], nout := 33, F := fun x => let a := x.2.2.2.2.2.2.2.2; let b := a.2.2.2.2.2.2.2.2; let c := b.2.2.2.2.2.2.2.2; let d := c.2.2.2.2.2.2.2.2; F_make_maker_tick x.1 x.2.1 x.2.2.1 x.2.2.2.1 x.2.2.2.2.1 x.2.2.2.2.2.1 x.2.2.2.2.2.2.1 x.2.2.2.2.2.2.2.1 x.2.2.2.2.2.2.2.2.1 a.2.1 a.2.2.1 a.2.2.2.1 a.2.2.2.2.1 a.2.2.2.2.2.1 a.2.2.2.2.2.2.1 a.2.2.2.2.2.2.2.1 a.2.2.2.2.2.2.2.2.1 b.2.1 b.2.2.1 b.2.2.2.1 b.2.2.2.2.1 b.2.2.2.2.2.1 b.2.2.2.2.2.2.1 b.2.2.2.2.2.2.2.1 b.2.2.2.2.2.2.2.2.1 c.2.1 c.2.2.1 c.2.2.2.1 c.2.2.2.2.1 c.2.2.2.2.2.1 c.2.2.2.2.2.2.1 c.2.2.2.2.2.2.2.1 c.2.2.2.2.2.2.2.2.1 d.2 }
def hint_F_make_maker_tick : Hint := (.mk .plain [H0, (.mk .plain [H0, (.mk .plain [(.mk .plain [H0, (.mk (.join [(0, 60), (0, 59), (0, 58)] [(.normal, [⟨.cell 0 28, (.int .i64), none⟩, ⟨.cell 0 31, (.int .i64), none⟩, ⟨.cell 2 4, (.int .i64), none⟩, ⟨.cell 2 1, (.int .i64), none⟩, ⟨.cell 2 7, .bool, none⟩, ⟨.cell 2 10, .bool, none⟩, ⟨.cell 0 6, (.int .i64), none⟩, ⟨.cell 0 3, (.int .i64), none⟩, ⟨.cell 0 9, (.int .i64), none⟩, ⟨.cell 0 12, (.int .i64), none⟩, ⟨.cell 0 18, (.int .i64), none⟩, ⟨.cell 0 15, (.slice (.agg Yt1)), none⟩, ⟨.cell 0 21, (.int .i64), none⟩, ⟨.cell 0 24, (.slice (.agg Yt19)), some 602400087⟩, ⟨.cell 0 30, (.int .i64), none⟩, ⟨.cell 0 27, (.int .i64), none⟩, ⟨.cell 2 0, (.int .i64), none⟩, ⟨.cell 2 3, (.int .i64), none⟩, ⟨.cell 2 9, (.slice (.slice (.int .u8))), none⟩, ⟨.cell 2 6, .bool, none⟩, ⟨.cell 0 2, (.int .i64), none⟩, ⟨.cell 0 5, (.int .i64), none⟩, ⟨.cell 0 11, (.int .i64), none⟩, ⟨.cell 0 8, (.int .i64), none⟩, ⟨.cell 0 14, (.int .i64), none⟩, ⟨.cell 0 20, (.int .i64), none⟩, ⟨.cell 0 17, (.slice (.int .i64)), some 601700003⟩, ⟨.cell 0 23, (.int .i64), none⟩, ⟨.cell 0 26, (.int .i64), none⟩, ⟨.cell 0 32, (.int .i64), none⟩, ⟨.cell 0 29, (.int .i64), none⟩, ⟨.cell 2 2, (.int .i64), none⟩, ⟨.cell 2 5, .bool, none⟩, ⟨.cell 2 8, .bool, none⟩, ⟨.cell 0 1, (.int .i64), none⟩, ⟨.cell 1 0, (.int .u64), none⟩, ⟨.cell 0 4, (.int .i64), none⟩, ⟨.cell 0 7, (.int .i64), none⟩, ⟨.cell 0 13, (.int .i64), none⟩, ⟨.cell 0 10, (.int .i64), none⟩, ⟨.cell 0 16, (.slice (.agg Yt20)), none⟩, ⟨.cell 0 19, (.int .i64), none⟩, ⟨.cell 0 25, (.slice (.agg Yt12)), some 602500092⟩, ⟨.cell 0 22, (.int .i64), none⟩])]) [])]), (.mk .plain [H0, (.mk .plain [(.mk .plain [H0, (.mk .plain [(.mk (.unroll 3) [])])])])])])])])
theorem run_F_make_maker_tick : runO ⟨tdGet tys, [con_F_make_dice_to, con_F_make_dice_one], [], [con_F_make_maker_speed, con_F_make_maker_fault, con_F_make_maker_read], []⟩ con_F_make_maker_tick Tryz.f13 hint_F_make_maker_tick = con_F_make_maker_tick.F := by
 funext x
 kernel_rfl
theorem ok_F_make_maker_tick : OConOK Tryz.prog con_F_make_maker_tick :=
 ocon_of_run (Γ := ⟨tdGet tys, [con_F_make_dice_to, con_F_make_dice_one], [], [con_F_make_maker_speed, con_F_make_maker_fault, con_F_make_maker_read], []⟩) ⟨fun T d h => tysB_ok tys tys_ok T d h, by simp [ok_F_make_dice_to, ok_F_make_dice_one], by simp [], by simp [ok_F_make_maker_speed, ok_F_make_maker_fault, ok_F_make_maker_read], ptrs_ok Tryz.prog [] (by kernel_rfl)⟩ (by kernel_rfl) Tryz.func13 rfl (by kernel_rfl) rfl run_F_make_maker_tick
noncomputable def F_make_Make (c_1 : Yd460) (t_2 : Yd467) (seed_3 : Int) (n_4 : Int) : Option Yd578 :=
 (F_conf_Config_Fits c_1 t_2).bind fun t19_5 =>
 let t26_6 := (decide (n_4 < (0 : Int)))
 let t27_7 := (bif (t19_5.1 != (0 : Int)) then true else t26_6)
 let t30_8 := (decide ((4096 : Int) < n_4))
 let t31_9 := (bif t27_7 then true else t30_8)
 (bif t31_9 then
  some (([], ((0 : Int), ((0 : Int), (((0 : Int), (0 : Int)), (((0 : Int), (0 : Int)), ([], [])))))), false)
 else
  (F_make_maker_way c_1.1 c_1.2.1 c_1.2.2.1 c_1.2.2.2.1 c_1.2.2.2.2.1 c_1.2.2.2.2.2.1 c_1.2.2.2.2.2.2.1 c_1.2.2.2.2.2.2.2.1 c_1.2.2.2.2.2.2.2.2.1 c_1.2.2.2.2.2.2.2.2.2.1 c_1.2.2.2.2.2.2.2.2.2.2.1 c_1.2.2.2.2.2.2.2.2.2.2.2.1 c_1.2.2.2.2.2.2.2.2.2.2.2.2.1 c_1.2.2.2.2.2.2.2.2.2.2.2.2.2 t_2.1 t_2.2 [] (0 : Int) (0 : Int) (0 : Int) (0 : Int) (0 : Int) (0 : Int) [] [] (0 : Int) (0 : Int) (0 : Int) (0 : Int) (0 : Int) (0 : Int) (0 : Int) seed_3).bind fun t39_10 =>
  let t55_11 := (IntKind.wrap .i64 (c_1.2.2.1 - c_1.2.1))
  let t56_12 := (IntKind.wrap .i64 (t55_11 + (1 : Int)))
  (F_make_dice_to t56_12 t39_10.2.2.2.2.2.2.2.2.2.2.2.2.2.2.2.2.2.2.2.2.2.2.2.2.2.2.2.2.2.2.2.2).bind fun t57_13 =>
  let t58_14 := (IntKind.wrap .i64 (c_1.2.1 + t57_13.1))
  (F_make_dice_to t58_14 t57_13.2).bind fun t76_15 =>
  let t55_16 := (IntKind.wrap .i64 (c_1.2.2.1 - c_1.2.1))
  let t56_17 := (IntKind.wrap .i64 (t55_16 + (1 : Int)))
  (F_make_dice_to t56_17 t76_15.2).bind fun t57_18 =>
  let t58_19 := (IntKind.wrap .i64 (c_1.2.1 + t57_18.1))
  (F_make_dice_to t58_19 t57_18.2).bind fun t76_20 =>
  Option.bind (
   loopO (X := Yd91) (fun (s_21 : Yd599) =>
    let b3_22 := s_21.1
    let b4_23 := s_21.2.1
    let b4_24 := s_21.2.2.1
    let b4_25 := s_21.2.2.2.1
    let b4_26 := s_21.2.2.2.2.1
    let b4_27 := s_21.2.2.2.2.2.1
    let b4_28 : (List Yd20) := s_21.2.2.2.2.2.2.1
    let b4_29 := s_21.2.2.2.2.2.2.2.1
    let b4_30 : (List Yd12) := s_21.2.2.2.2.2.2.2.2.1
    let b4_31 := s_21.2.2.2.2.2.2.2.2.2.1
    let b4_32 := s_21.2.2.2.2.2.2.2.2.2.2.1
    let b4_33 := s_21.2.2.2.2.2.2.2.2.2.2.2.1
    let b4_34 := s_21.2.2.2.2.2.2.2.2.2.2.2.2.1
    let b4_35 := s_21.2.2.2.2.2.2.2.2.2.2.2.2.2.1
    let b4_36 := s_21.2.2.2.2.2.2.2.2.2.2.2.2.2.2.1
    let b4_37 := s_21.2.2.2.2.2.2.2.2.2.2.2.2.2.2.2.1
    let b4_38 := s_21.2.2.2.2.2.2.2.2.2.2.2.2.2.2.2.2.1
    let b4_39 : (List Yd1) := s_21.2.2.2.2.2.2.2.2.2.2.2.2.2.2.2.2.2.1
    let b4_40 := s_21.2.2.2.2.2.2.2.2.2.2.2.2.2.2.2.2.2.2.1
    let b4_41 : (List Yd19) := s_21.2.2.2.2.2.2.2.2.2.2.2.2.2.2.2.2.2.2.2.1
    let b4_42 := s_21.2.2.2.2.2.2.2.2.2.2.2.2.2.2.2.2.2.2.2.2.1
    let b4_43 := s_21.2.2.2.2.2.2.2.2.2.2.2.2.2.2.2.2.2.2.2.2.2.1
    let t95_44 := s_21.2.2.2.2.2.2.2.2.2.2.2.2.2.2.2.2.2.2.2.2.2.2.1
    let b4_45 := s_21.2.2.2.2.2.2.2.2.2.2.2.2.2.2.2.2.2.2.2.2.2.2.2.1
    let b4_46 := s_21.2.2.2.2.2.2.2.2.2.2.2.2.2.2.2.2.2.2.2.2.2.2.2.2.1
    let b4_47 := s_21.2.2.2.2.2.2.2.2.2.2.2.2.2.2.2.2.2.2.2.2.2.2.2.2.2.1
    let b4_48 := s_21.2.2.2.2.2.2.2.2.2.2.2.2.2.2.2.2.2.2.2.2.2.2.2.2.2.2.1
    let b4_49 := s_21.2.2.2.2.2.2.2.2.2.2.2.2.2.2.2.2.2.2.2.2.2.2.2.2.2.2.2.1
    let b4_50 : (List Int) := s_21.2.2.2.2.2.2.2.2.2.2.2.2.2.2.2.2.2.2.2.2.2.2.2.2.2.2.2.2.1
    let b4_51 := s_21.2.2.2.2.2.2.2.2.2.2.2.2.2.2.2.2.2.2.2.2.2.2.2.2.2.2.2.2.2.1
    let b4_52 := s_21.2.2.2.2.2.2.2.2.2.2.2.2.2.2.2.2.2.2.2.2.2.2.2.2.2.2.2.2.2.2.1
    let b4_53 := s_21.2.2.2.2.2.2.2.2.2.2.2.2.2.2.2.2.2.2.2.2.2.2.2.2.2.2.2.2.2.2.2.1
    let b4_54 := s_21.2.2.2.2.2.2.2.2.2.2.2.2.2.2.2.2.2.2.2.2.2.2.2.2.2.2.2.2.2.2.2.2.1
    let b4_55 := s_21.2.2.2.2.2.2.2.2.2.2.2.2.2.2.2.2.2.2.2.2.2.2.2.2.2.2.2.2.2.2.2.2.2
    (bif (decide (t95_44 < n_4)) then
     (F_make_maker_tick t95_44 b4_24 b4_45 b4_35 b4_23 b4_46 b4_34 b4_25 b4_48 b4_36 b4_27 b4_47 b4_37 b4_26 b4_49 b4_39 b4_28 b4_50 b4_38 b4_29 b4_52 b4_40 b4_31 b4_51 b4_41 b4_30 b4_53 b4_43 b4_32 b4_55 b4_42 b4_33 b4_54 b3_22).bind fun t100_56 =>
     let t101_57 := (IntKind.wrap .i64 (t95_44 + (1 : Int)))
     some (.inl (t100_56.2.2.2.2.2.2.2.2.2.2.2.2.2.2.2.2.2.2.2.2.2.2.2.2.2.2.2.2.2.2.2.2, t100_56.2.2.2.1, t100_56.1, t100_56.2.2.2.2.2.2.1, t100_56.2.2.2.2.2.2.2.2.2.2.2.2.1, t100_56.2.2.2.2.2.2.2.2.2.1, t100_56.2.2.2.2.2.2.2.2.2.2.2.2.2.2.2.1, t100_56.2.2.2.2.2.2.2.2.2.2.2.2.2.2.2.2.2.2.1, t100_56.2.2.2.2.2.2.2.2.2.2.2.2.2.2.2.2.2.2.2.2.2.2.2.2.1, t100_56.2.2.2.2.2.2.2.2.2.2.2.2.2.2.2.2.2.2.2.2.2.1, t100_56.2.2.2.2.2.2.2.2.2.2.2.2.2.2.2.2.2.2.2.2.2.2.2.2.2.2.2.1, t100_56.2.2.2.2.2.2.2.2.2.2.2.2.2.2.2.2.2.2.2.2.2.2.2.2.2.2.2.2.2.2.1, t100_56.2.2.2.2.2.1, t100_56.2.2.1, t100_56.2.2.2.2.2.2.2.2.1, t100_56.2.2.2.2.2.2.2.2.2.2.2.1, t100_56.2.2.2.2.2.2.2.2.2.2.2.2.2.2.2.2.2.1, t100_56.2.2.2.2.2.2.2.2.2.2.2.2.2.2.1, t100_56.2.2.2.2.2.2.2.2.2.2.2.2.2.2.2.2.2.2.2.2.1, t100_56.2.2.2.2.2.2.2.2.2.2.2.2.2.2.2.2.2.2.2.2.2.2.2.1, t100_56.2.2.2.2.2.2.2.2.2.2.2.2.2.2.2.2.2.2.2.2.2.2.2.2.2.2.2.2.2.1, t100_56.2.2.2.2.2.2.2.2.2.2.2.2.2.2.2.2.2.2.2.2.2.2.2.2.2.2.1, t101_57, t100_56.2.1, t100_56.2.2.2.2.1, t100_56.2.2.2.2.2.2.2.2.2.2.1, t100_56.2.2.2.2.2.2.2.1, t100_56.2.2.2.2.2.2.2.2.2.2.2.2.2.1, t100_56.2.2.2.2.2.2.2.2.2.2.2.2.2.2.2.2.1, t100_56.2.2.2.2.2.2.2.2.2.2.2.2.2.2.2.2.2.2.2.2.2.2.1, t100_56.2.2.2.2.2.2.2.2.2.2.2.2.2.2.2.2.2.2.2.1, t100_56.2.2.2.2.2.2.2.2.2.2.2.2.2.2.2.2.2.2.2.2.2.2.2.2.2.1, t100_56.2.2.2.2.2.2.2.2.2.2.2.2.2.2.2.2.2.2.2.2.2.2.2.2.2.2.2.2.2.2.2.1, t100_56.2.2.2.2.2.2.2.2.2.2.2.2.2.2.2.2.2.2.2.2.2.2.2.2.2.2.2.2.1))
    else
     some (.inr (b3_22, b4_23, b4_24, b4_25, b4_26, b4_27, b4_28, b4_29, b4_30, b4_31, b4_32, b4_33, b4_34, b4_35, b4_36, b4_37, b4_38, b4_39, b4_40, b4_41, b4_42, b4_43, b4_45, b4_46, b4_47, b4_48, b4_49, b4_50, b4_51, b4_52, b4_53, b4_54, b4_55)))) (t76_20.2, t39_10.2.2.2.1, t39_10.1, t39_10.2.2.2.2.2.2.1, t39_10.2.2.2.2.2.2.2.2.2.2.2.2.1, t39_10.2.2.2.2.2.2.2.2.2.1, t39_10.2.2.2.2.2.2.2.2.2.2.2.2.2.2.2.1, t39_10.2.2.2.2.2.2.2.2.2.2.2.2.2.2.2.2.2.2.1, t39_10.2.2.2.2.2.2.2.2.2.2.2.2.2.2.2.2.2.2.2.2.2.2.2.2.1, t76_15.1, t39_10.2.2.2.2.2.2.2.2.2.2.2.2.2.2.2.2.2.2.2.2.2.2.2.2.2.2.2.1, t76_20.1, t39_10.2.2.2.2.2.1, t39_10.2.2.1, t39_10.2.2.2.2.2.2.2.2.1, t39_10.2.2.2.2.2.2.2.2.2.2.2.1, t39_10.2.2.2.2.2.2.2.2.2.2.2.2.2.2.2.2.2.1, t39_10.2.2.2.2.2.2.2.2.2.2.2.2.2.2.1, t58_19, t39_10.2.2.2.2.2.2.2.2.2.2.2.2.2.2.2.2.2.2.2.2.2.2.2.1, t76_15.1, t39_10.2.2.2.2.2.2.2.2.2.2.2.2.2.2.2.2.2.2.2.2.2.2.2.2.2.2.1, (0 : Int), t39_10.2.1, t39_10.2.2.2.2.1, t39_10.2.2.2.2.2.2.2.2.2.2.1, t39_10.2.2.2.2.2.2.2.1, t39_10.2.2.2.2.2.2.2.2.2.2.2.2.2.1, t39_10.2.2.2.2.2.2.2.2.2.2.2.2.2.2.2.2.1, t76_20.1, t58_14, t39_10.2.2.2.2.2.2.2.2.2.2.2.2.2.2.2.2.2.2.2.2.2.2.2.2.2.1, t39_10.2.2.2.2.2.2.2.2.2.2.2.2.2.2.2.2.2.2.2.2.2.2.2.2.2.2.2.2.2.2.2.1, t39_10.2.2.2.2.2.2.2.2.2.2.2.2.2.2.2.2.2.2.2.2.2.2.2.2.2.2.2.2.1)) fun r_58 =>
  let b3_59 := r_58.1
  let b4_60 := r_58.2.1
  let b4_61 := r_58.2.2.1
  let b4_62 := r_58.2.2.2.1
  let b4_63 := r_58.2.2.2.2.1
  let b4_64 := r_58.2.2.2.2.2.1
  let b4_65 : (List Yd20) := r_58.2.2.2.2.2.2.1
  let b4_66 := r_58.2.2.2.2.2.2.2.1
  let b4_67 : (List Yd12) := r_58.2.2.2.2.2.2.2.2.1
  let b4_68 := r_58.2.2.2.2.2.2.2.2.2.1
  let b4_69 := r_58.2.2.2.2.2.2.2.2.2.2.1
  let b4_70 := r_58.2.2.2.2.2.2.2.2.2.2.2.1
  let b4_71 := r_58.2.2.2.2.2.2.2.2.2.2.2.2.1
  let b4_72 := r_58.2.2.2.2.2.2.2.2.2.2.2.2.2.1
  let b4_73 := r_58.2.2.2.2.2.2.2.2.2.2.2.2.2.2.1
  let b4_74 := r_58.2.2.2.2.2.2.2.2.2.2.2.2.2.2.2.1
  let b4_75 := r_58.2.2.2.2.2.2.2.2.2.2.2.2.2.2.2.2.1
  let b4_76 : (List Yd1) := r_58.2.2.2.2.2.2.2.2.2.2.2.2.2.2.2.2.2.1
  let b4_77 := r_58.2.2.2.2.2.2.2.2.2.2.2.2.2.2.2.2.2.2.1
  let b4_78 : (List Yd19) := r_58.2.2.2.2.2.2.2.2.2.2.2.2.2.2.2.2.2.2.2.1
  let b4_79 := r_58.2.2.2.2.2.2.2.2.2.2.2.2.2.2.2.2.2.2.2.2.1
  let b4_80 := r_58.2.2.2.2.2.2.2.2.2.2.2.2.2.2.2.2.2.2.2.2.2.1
  let b4_81 := r_58.2.2.2.2.2.2.2.2.2.2.2.2.2.2.2.2.2.2.2.2.2.2.1
  let b4_82 := r_58.2.2.2.2.2.2.2.2.2.2.2.2.2.2.2.2.2.2.2.2.2.2.2.1
  let b4_83 := r_58.2.2.2.2.2.2.2.2.2.2.2.2.2.2.2.2.2.2.2.2.2.2.2.2.1
  let b4_84 := r_58.2.2.2.2.2.2.2.2.2.2.2.2.2.2.2.2.2.2.2.2.2.2.2.2.2.1
  let b4_85 := r_58.2.2.2.2.2.2.2.2.2.2.2.2.2.2.2.2.2.2.2.2.2.2.2.2.2.2.1
  let b4_86 : (List Int) := r_58.2.2.2.2.2.2.2.2.2.2.2.2.2.2.2.2.2.2.2.2.2.2.2.2.2.2.2.1
  let b4_87 := r_58.2.2.2.2.2.2.2.2.2.2.2.2.2.2.2.2.2.2.2.2.2.2.2.2.2.2.2.2.1
  let b4_88 := r_58.2.2.2.2.2.2.2.2.2.2.2.2.2.2.2.2.2.2.2.2.2.2.2.2.2.2.2.2.2.1
  let b4_89 := r_58.2.2.2.2.2.2.2.2.2.2.2.2.2.2.2.2.2.2.2.2.2.2.2.2.2.2.2.2.2.2.1
  let b4_90 := r_58.2.2.2.2.2.2.2.2.2.2.2.2.2.2.2.2.2.2.2.2.2.2.2.2.2.2.2.2.2.2.2.1
  let b4_91 := r_58.2.2.2.2.2.2.2.2.2.2.2.2.2.2.2.2.2.2.2.2.2.2.2.2.2.2.2.2.2.2.2.2
  let t105_92 : Yd577 := (b4_86, (b4_75, (b4_66, ((b4_88, b4_77), ((b4_68, b4_87), (b4_78, b4_67))))))
  some (t105_92, true))
noncomputable def con_F_make_Make : Con := { f := 5, ps := [.dat (.agg Yt460), .dat (.agg Yt467), .dat (.int .u64), dI], boxes := [], ins := Yt601, nin := 4, outs := Yt578, rs := [.dat (.agg Yt577), .dat .bool], nout := 2, F := fun x => F_make_Make x.1 x.2.1 x.2.2.1 x.2.2.2 }
def hint_F_make_Make : Hint := (.mk .plain [H0, (.mk .plain [H0, (.mk .plain [H0, (.mk .plain [H0, (.mk .plain [H0, (.mk .plain [(.mk .plain [H0, (.mk .plain [(.mk (.unroll 3) [])])]), (.mk .plain [(.mk .plain [H0, (.mk .plain [(.mk (.loop [⟨.cell 3 0, (.int .u64), none⟩, ⟨.cell 4 4, (.int .i64), none⟩, ⟨.cell 4 1, (.int .i64), none⟩, ⟨.cell 4 7, (.int .i64), none⟩, ⟨.cell 4 13, (.int .i64), none⟩, ⟨.cell 4 10, (.int .i64), none⟩, ⟨.cell 4 16, (.slice (.agg Yt20)), none⟩, ⟨.cell 4 19, (.int .i64), none⟩, ⟨.cell 4 25, (.slice (.agg Yt12)), some 4602500092⟩, ⟨.cell 4 22, (.int .i64), none⟩, ⟨.cell 4 28, (.int .i64), none⟩, ⟨.cell 4 31, (.int .i64), none⟩, ⟨.cell 4 6, (.int .i64), none⟩, ⟨.cell 4 3, (.int .i64), none⟩, ⟨.cell 4 9, (.int .i64), none⟩, ⟨.cell 4 12, (.int .i64), none⟩, ⟨.cell 4 18, (.int .i64), none⟩, ⟨.cell 4 15, (.slice (.agg Yt1)), none⟩, ⟨.cell 4 21, (.int .i64), none⟩, ⟨.cell 4 24, (.slice (.agg Yt19)), some 4602400087⟩, ⟨.cell 4 30, (.int .i64), none⟩, ⟨.cell 4 27, (.int .i64), none⟩, ⟨.slot 95, (.int .i64), none⟩, ⟨.cell 4 2, (.int .i64), none⟩, ⟨.cell 4 5, (.int .i64), none⟩, ⟨.cell 4 11, (.int .i64), none⟩, ⟨.cell 4 8, (.int .i64), none⟩, ⟨.cell 4 14, (.int .i64), none⟩, ⟨.cell 4 17, (.slice (.int .i64)), some 4601700003⟩, ⟨.cell 4 23, (.int .i64), none⟩, ⟨.cell 4 20, (.int .i64), none⟩, ⟨.cell 4 26, (.int .i64), none⟩, ⟨.cell 4 32, (.int .i64), none⟩, ⟨.cell 4 29, (.int .i64), none⟩] [(0, 97), (0, 100), (0, 99), (0, 96), (0, 98), (0, 101), (0, 15)] [(.exit 2, [⟨.cell 3 0, (.int .u64), none⟩, ⟨.cell 4 4, (.int .i64), none⟩, ⟨.cell 4 1, (.int .i64), none⟩, ⟨.cell 4 7, (.int .i64), none⟩, ⟨.cell 4 13, (.int .i64), none⟩, ⟨.cell 4 10, (.int .i64), none⟩, ⟨.cell 4 16, (.slice (.agg Yt20)), none⟩, ⟨.cell 4 19, (.int .i64), none⟩, ⟨.cell 4 25, (.slice (.agg Yt12)), some 4602500092⟩, ⟨.cell 4 22, (.int .i64), none⟩, ⟨.cell 4 28, (.int .i64), none⟩, ⟨.cell 4 31, (.int .i64), none⟩, ⟨.cell 4 6, (.int .i64), none⟩, ⟨.cell 4 3, (.int .i64), none⟩, ⟨.cell 4 9, (.int .i64), none⟩, ⟨.cell 4 12, (.int .i64), none⟩, ⟨.cell 4 18, (.int .i64), none⟩, ⟨.cell 4 15, (.slice (.agg Yt1)), none⟩, ⟨.cell 4 21, (.int .i64), none⟩, ⟨.cell 4 24, (.slice (.agg Yt19)), some 4602400087⟩, ⟨.cell 4 30, (.int .i64), none⟩, ⟨.cell 4 27, (.int .i64), none⟩, ⟨.cell 4 2, (.int .i64), none⟩, ⟨.cell 4 5, (.int .i64), none⟩, ⟨.cell 4 11, (.int .i64), none⟩, ⟨.cell 4 8, (.int .i64), none⟩, ⟨.cell 4 14, (.int .i64), none⟩, ⟨.cell 4 17, (.slice (.int .i64)), some 4601700003⟩, ⟨.cell 4 23, (.int .i64), none⟩, ⟨.cell 4 20, (.int .i64), none⟩, ⟨.cell 4 26, (.int .i64), none⟩, ⟨.cell 4 32, (.int .i64), none⟩, ⟨.cell 4 29, (.int .i64), none⟩])]) [])])])])])])])])])])
theorem run_F_make_Make : runE ⟨tdGet tys, [con_F_conf_Config_Fits, con_F_make_dice_to], [], [con_F_make_maker_way, con_F_make_maker_tick], []⟩ con_F_make_Make Tryz.f5 hint_F_make_Make = con_F_make_Make.F := by
 funext x
 kernel_rfl
theorem ok_F_make_Make : ConOK Tryz.prog con_F_make_Make :=
 con_of_run (Γ := ⟨tdGet tys, [con_F_conf_Config_Fits, con_F_make_dice_to], [], [con_F_make_maker_way, con_F_make_maker_tick], []⟩) ⟨fun T d h => tysB_ok tys tys_ok T d h, by simp [ok_F_conf_Config_Fits, ok_F_make_dice_to], by simp [], by simp [ok_F_make_maker_way, ok_F_make_maker_tick], ptrs_ok Tryz.prog [] (by kernel_rfl)⟩ (by kernel_rfl) Tryz.func5 rfl (by kernel_rfl) run_F_make_Make
noncomputable def F_law29_anchor (_ : Unit) : Option Bool :=
 let t7_1 : Yd460 := ((1024 : Int), ((131072 : Int), ((131072 : Int), ((0 : Int), ((0 : Int), ((0 : Int), ((1000 : Int), ((100 : Int), ((0 : Int), ((1 : Int), ((128 : Int), ((0 : Int), ((5 : Int), (2 : Int))))))))))))))
 let t9_2 : (List (Int × Int)) := ([((0 : Int), (0 : Int))] : List (Int × Int))
 let t11_3 : (List Yd1) := ([((9000 : Int), (t9_2, []))] : List Yd1)
 (F_make_Make t7_1 (t11_3, []) (5 : Int) (3 : Int)).bind fun t16_4 =>
 let t20_5 : Yd460 := ((0 : Int), ((0 : Int), ((0 : Int), ((0 : Int), ((0 : Int), ((0 : Int), ((0 : Int), ((0 : Int), ((0 : Int), ((0 : Int), ((0 : Int), ((0 : Int), ((0 : Int), (0 : Int))))))))))))))
 (F_make_Make t20_5 (t11_3, []) (5 : Int) (3 : Int)).bind fun t22_6 =>
 let t29_7 := (bif t16_4.2 then (!t22_6.2) else false)
 let t33_8 := (t16_4.1.2.2.2.2.2.1.length : Int)
 let t35_9 := (bif t29_7 then (t33_8 == (3 : Int)) else false)
 let t40_10 := (decide ((0 : Int) < (t16_4.1.1.length : Int)))
 let t41_11 := (bif t35_9 then t40_10 else false)
 some t41_11
noncomputable def con_F_law29_anchor : Con := { f := 4, ps := [], boxes := [], ins := .unit, nin := 0, outs := .bool, rs := [.dat .bool], nout := 1, F := fun x => F_law29_anchor () }
def hint_F_law29_anchor : Hint := H0
theorem run_F_law29_anchor : runE ⟨tdGet tys, [con_F_make_Make], [], [], []⟩ con_F_law29_anchor Tryz.f4 hint_F_law29_anchor = con_F_law29_anchor.F := by
 funext x
 kernel_rfl
theorem ok_F_law29_anchor : ConOK Tryz.prog con_F_law29_anchor :=
 con_of_run (Γ := ⟨tdGet tys, [con_F_make_Make], [], [], []⟩) ⟨fun T d h => tysB_ok tys tys_ok T d h, by simp [ok_F_make_Make], by simp [], by simp [], ptrs_ok Tryz.prog [] (by kernel_rfl)⟩ (by kernel_rfl) Tryz.func4 rfl (by kernel_rfl) run_F_law29_anchor
noncomputable def F_law29_refs (t_1 : Yd467) : Option Yd467 :=
 Option.bind (
  loopO (X := (List Yd1)) (fun (s_2 : Yd602) =>
   let t14_3 := s_2.1
   let b2_4 : (List Yd1) := s_2.2
   let t15_5 := (decide (t14_3 < (t_1.1.length : Int)))
   (bif t15_5 then
    chk none ((decide ((0 : Int) ≤ t14_3)) && (decide (t14_3 < (t_1.1.length : Int)))) <|
    let t17_6 : Yd1 := (t_1.1.getD t14_3.toNat ((0 : Int), ([], [])))
    Option.bind (
     loopO (X := (List (Int × Int))) (fun (s_7 : ((List (Int × Int)) × Int)) =>
      let b4_8 : (List (Int × Int)) := s_7.1
      let t26_9 := s_7.2
      let t27_10 := (decide (t26_9 < (t17_6.2.1.length : Int)))
      (bif t27_10 then
       chk none ((decide ((0 : Int) ≤ t26_9)) && (decide (t26_9 < (t17_6.2.1.length : Int)))) <|
       let t29_11 : (Int × Int) := (t17_6.2.1.getD t26_9.toNat ((0 : Int), (0 : Int)))
       let t37_12 : (List (Int × Int)) := ([t29_11] : List (Int × Int))
       chk none (decide ((b4_8.length + t37_12.length) * 16 ≤ 140737488355328)) <|
       let t38_13 : (List (Int × Int)) := (b4_8 ++ t37_12)
       let t40_14 := (IntKind.wrap .i64 (t26_9 + (1 : Int)))
       some (.inl (t38_13, t40_14))
      else
       some (.inr b4_8))) ([], (0 : Int))) fun r_15 =>
    let t43_16 : Yd1 := (t17_6.1, (r_15, t17_6.2.2))
    chk none (decide ((b2_4.length + ([t43_16] : List Yd1).length) * 56 ≤ 140737488355328)) <|
    let t45_17 : (List Yd1) := (b2_4 ++ ([t43_16] : List Yd1))
    let t47_18 := (IntKind.wrap .i64 (t14_3 + (1 : Int)))
    some (.inl (t47_18, t45_17))
   else
    some (.inr b2_4))) ((0 : Int), [])) fun r_19 =>
 Option.bind (
  loopO (X := (List Yd20)) (fun (s_20 : Yd603) =>
   let b2_21 : (List Yd20) := s_20.1
   let t51_22 := s_20.2
   let t52_23 := (decide (t51_22 < (t_1.2.length : Int)))
   (bif t52_23 then
    chk none ((decide ((0 : Int) ≤ t51_22)) && (decide (t51_22 < (t_1.2.length : Int)))) <|
    let t54_24 : Yd20 := (t_1.2.getD t51_22.toNat ((0 : Int), ((0 : Int), ((0 : Int), ((0 : Int), (0 : Int))))))
    chk none (decide ((b2_21.length + ([t54_24] : List Yd20).length) * 40 ≤ 140737488355328)) <|
    let t59_25 : (List Yd20) := (b2_21 ++ ([t54_24] : List Yd20))
    let t61_26 := (IntKind.wrap .i64 (t51_22 + (1 : Int)))
    some (.inl (t59_25, t61_26))
   else
    some (.inr b2_21))) ([], (0 : Int))) fun r_27 =>
 let w_28 : Yd467 := (r_19, r_27)
 some w_28
noncomputable def con_F_law29_refs : Con := { f := 7, ps := [.dat (.agg Yt467)], boxes := [], ins := (.agg Yt467), nin := 1, outs := (.agg Yt467), rs := [.dat (.agg Yt467)], nout := 1, F := fun x => F_law29_refs x }
def hint_F_law29_refs : Hint := (.mk .plain [H0, (.mk .plain [H0, (.mk .plain [(.mk .plain [H0, (.mk .plain [(.mk (.loop [⟨.slot 14, (.int .i64), none⟩, ⟨.cell 2 0, (.slice (.agg Yt1)), some 4500074⟩] [(0, 30), (0, 36), (0, 42), (0, 39), (0, 45), (0, 5), (0, 8), (0, 17), (0, 23), (0, 20), (0, 26), (0, 29), (0, 35), (0, 32), (0, 38), (0, 41), (0, 47), (0, 44), (0, 16), (0, 19), (0, 22), (0, 28), (0, 25), (0, 31), (0, 34), (0, 40), (0, 37), (0, 43), (0, 46), (0, 6), (0, 15), (0, 21), (0, 18), (0, 24), (0, 27), (0, 33)] [(.exit 0, [⟨.cell 2 0, (.slice (.agg Yt1)), some 4500074⟩])]) [(.mk .plain [H0, (.mk .plain [H0, (.mk .plain [(.mk .plain [(.mk .plain [H0, (.mk .plain [H0, (.mk .plain [(.mk .plain [H0, (.mk .plain [(.mk (.loop [⟨.cell 4 1, (.slice (.agg (.pair (.int .i64) (.int .i64)))), some 3800075⟩, ⟨.slot 26, (.int .i64), none⟩] [(0, 30), (0, 36), (0, 39), (0, 28), (0, 31), (0, 34), (0, 40), (0, 8), (0, 37), (0, 29), (0, 35), (0, 32), (0, 38), (0, 27), (0, 33)] [(.exit 2, [⟨.cell 4 1, (.slice (.agg (.pair (.int .i64) (.int .i64)))), some 3800075⟩])]) [])])])])])])])])])])])])]), (.mk .plain [(.mk .plain [H0, (.mk .plain [(.mk (.loop [⟨.cell 2 1, (.slice (.agg Yt20)), some 5900071⟩, ⟨.slot 51, (.int .i64), none⟩] [(0, 10), (0, 54), (0, 57), (0, 60), (0, 52), (0, 55), (0, 61), (0, 58), (0, 53), (0, 59), (0, 56)] [(.exit 4, [⟨.cell 2 1, (.slice (.agg Yt20)), some 5900071⟩])]) [])])])])])])])
theorem run_F_law29_refs : runE ⟨tdGet tys, [], [], [], []⟩ con_F_law29_refs Tryz.f7 hint_F_law29_refs = con_F_law29_refs.F := by
 funext x
 kernel_rfl
theorem ok_F_law29_refs : ConOK Tryz.prog con_F_law29_refs :=
 con_of_run (Γ := ⟨tdGet tys, [], [], [], []⟩) ⟨fun T d h => tysB_ok tys tys_ok T d h, by simp [], by simp [], by simp [], ptrs_ok Tryz.prog [] (by kernel_rfl)⟩ (by kernel_rfl) Tryz.func7 rfl (by kernel_rfl) run_F_law29_refs
end Go.Proofs.YtlkcanjbgaeceaaGreat
