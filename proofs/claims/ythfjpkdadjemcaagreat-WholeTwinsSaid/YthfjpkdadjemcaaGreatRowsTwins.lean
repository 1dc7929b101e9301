/- The given rows of some laws, proved: for every input the call returns true, and the arguments read as they did. Conditions: none. -/
import Derived.Test.YthfjpkdadjemcaaGreatTCD
import Derived.Test.YthfjpkdadjemcaaGreatRU
import Derived.Test.YthfjpkdadjemcaaGreatEngLink
import Derived.Test.YthfjpkdadjemcaaGreatRows
set_option linter.unusedSimpArgs false
set_option linter.unusedVariables false
namespace Go.Proofs.YthfjpkdadjemcaaGreat
open Go.ChangeShapes Go.WideShapes Go.ChangeAt Go.RowKit
open _root_.List renaming append_nil → Fb9
theorem Ed7:ownKnob Tryz.prog.godebug=none:=by kernel_rfl
theorem Ed8:laidOutB Tryz.prog=true:=by kernel_rfl
theorem Ed9 (x:Ty.den (.pair (.agg (.pair tI (.pair tI (.pair tI (.pair tI (.pair tI (.pair tI (.pair tI (.pair tI (.pair tI (.pair tI (.pair tI (.pair tI (.pair tI tI)))))))))))))) (.pair (.agg (.pair (.slice (.agg (.pair tI (.pair (.slice (.agg (.pair tI tI))) (.slice tI))))) (.slice (.agg (.pair tI (.pair tI (.pair tI (.pair tI tI)))))))) (.slice (.agg (.pair (.agg (.pair (.int .u16) (.int .u16))) (.pair (.int .i32) (.pair (.int .i32) (.pair (.int .u16) (.pair (.agg (.pair .bool (.pair .bool (.pair .bool (.pair .bool .bool))))) .bool))))))))))(h:Fits (.pair (.agg (.pair tI (.pair tI (.pair tI (.pair tI (.pair tI (.pair tI (.pair tI (.pair tI (.pair tI (.pair tI (.pair tI (.pair tI (.pair tI tI)))))))))))))) (.pair (.agg (.pair (.slice (.agg (.pair tI (.pair (.slice (.agg (.pair tI tI))) (.slice tI))))) (.slice (.agg (.pair tI (.pair tI (.pair tI (.pair tI tI)))))))) (.slice (.agg (.pair (.agg (.pair (.int .u16) (.int .u16))) (.pair (.int .i32) (.pair (.int .i32) (.pair (.int .u16) (.pair (.agg (.pair .bool (.pair .bool (.pair .bool (.pair .bool .bool))))) .bool))))))))) x):BD4 x.1 x.2.1 x.2.2=some true:=Ed3 x.1 x.2.1 x.2.2 (Ed5 h.2.1) (Ed4 h.2.1) (Ed6 h.2.2)
set_option maxRecDepth 100000 in
theorem Ee0 (os:Os)(started:os.Started)(H:Type)(enc:TypeId×Value→H):
  ReturnsInHanded {} Tryz.checked os 6 .any (Rows.wholeTwinsSpec.pre6 enc Tryz.prog Tryz.f6 Rows.wholeTwinsRow.domain false) (Rows.wholeTwinsSpec.post enc Tryz.prog Tryz.f6 false true false false):=by
 refine returnsInHanded_of_change_sized (C:=Tryz.checked) Ed7 started (by kernel_rfl) Tryz.func6
  (ChangeSpec.witness6 (enc:=enc) (C:=Tryz.checked) false ⟨#[],#[.agg #[.int .i64 0,.int .i64 0,.int .i64 0,.int .i64 0,.int .i64 0,.int .i64 0,.int .i64 0,.int .i64 0,.int .i64 0,.int .i64 0,.int .i64 0,.int .i64 0,.int .i64 0,.int .i64 0],.agg #[.slice none 0 0,.slice none 0 0],.slice none 0 0],[]⟩ 8 (by kernel_rfl) (by kernel_rfl) (by kernel_rfl) (by kernel_rfl)) ?_
 intro W base args ds gs before hval0 hW hcnd hsz0 _;have hval:∀(j:Nat) t v,Tryz.f6.params[j]? = some t→args[j]? = some v→Value.okWide Tryz.prog W .any base t v:=hval0;have hW':=hW;obtain⟨p,q,hA0,hV,rfl,hfz,hnd⟩:=hW;have hA:DataW.TrodAll enc Tryz.prog W 0 (fun _=>true) true Tryz.f6.params.toList args.toList ds p:=hA0
 rw[Tryz.params6] at hA hval;obtain⟨rfl,rfl⟩:=trodVars_none hV;simp only[Fb9] at hW';have hsz:∀n∈DataW.weightsEach Tryz.prog [23,27,51] ds,n≤reachBytes:=by have h0:=hsz0;rw[Tryz.params6,Fb9] at h0;exact fun n hn=>by simpa using List.all_eq_true.1 h0 n hn
 have hB:Ae4 Tryz.prog [23,27,51] (.pair (.agg (.pair tI (.pair tI (.pair tI (.pair tI (.pair tI (.pair tI (.pair tI (.pair tI (.pair tI (.pair tI (.pair tI (.pair tI (.pair tI tI)))))))))))))) (.pair (.agg (.pair (.slice (.agg (.pair tI (.pair (.slice (.agg (.pair tI tI))) (.slice tI))))) (.slice (.agg (.pair tI (.pair tI (.pair tI (.pair tI tI)))))))) (.slice (.agg (.pair (.agg (.pair (.int .u16) (.int .u16))) (.pair (.int .i32) (.pair (.int .i32) (.pair (.int .u16) (.pair (.agg (.pair .bool (.pair .bool (.pair .bool (.pair .bool .bool))))) .bool)))))))))=true:=by kernel_rfl
 obtain⟨x,hx,hf⟩:=CG3 [23,27,51] (.pair (.agg (.pair tI (.pair tI (.pair tI (.pair tI (.pair tI (.pair tI (.pair tI (.pair tI (.pair tI (.pair tI (.pair tI (.pair tI (.pair tI tI)))))))))))))) (.pair (.agg (.pair (.slice (.agg (.pair tI (.pair (.slice (.agg (.pair tI tI))) (.slice tI))))) (.slice (.agg (.pair tI (.pair tI (.pair tI (.pair tI tI)))))))) (.slice (.agg (.pair (.agg (.pair (.int .u16) (.int .u16))) (.pair (.int .i32) (.pair (.int .i32) (.pair (.int .u16) (.pair (.agg (.pair .bool (.pair .bool (.pair .bool (.pair .bool .bool))))) .bool))))))))) args.toList ds p hB hA hsz (fun j t v h1 h2=>hval j t v (by simpa using h1) (by simpa using h2))
 have hlt:∀y∈p,y.block<W.heap.size:=fun y hy=>hW'.lt y hy
 have hstay:∀{W':World},Below W.heap.size W W'→∀(sp:Nat→Bool),(∀y∈p,sp y.block=true)→DataW.TrodAll enc Tryz.prog W' 0 sp true Tryz.f6.params.toList args.toList ds p:=
  fun hb sp hsp=>CG6 Ed8 hb _ _ _ _ (by kernel_rfl) hA0 hlt hsp
 obtain⟨d0,d1,d2,rfl⟩:=EQ2 hA;refine (EP7 Ea6 rfl (x:=x) (Ed9 x hf) rfl W args hx).mono fun e W' ⟨he,hb⟩=> ?_
 subst he;exact⟨_,rfl,EP8 (pa:=p) (pv:=[]) hW' (fun _ _ _=>trodAll_mk1 (shut_bool Tryz.underlying4 _)) (fun sp hsp=>hstay hb sp hsp) (fun _ _=>rfl) (Fb9 _).symm
  hb (ok_one (by kernel_rfl) rfl (okWide_bool_mk Tryz.underlying4 _))⟩
theorem wholeTwins_holds:Rows.WholeTwinsSaid:=
 OpenClaim.holds_of_wide 6 Tryz.f6 rfl rfl rfl rfl rfl rfl rfl ⟨rfl,rfl,rfl,rfl,rfl⟩ rfl rfl rfl rfl rfl (by kernel_rfl) Tryz.func6 (by kernel_rfl)
  (of_decide_eq_true (by kernel_rfl)) (by unfold Func.isWrapper;first | (rw[if_pos (by decide +kernel)];kernel_rfl) | (rw[if_neg (by decide +kernel)];exact⟨rfl,rfl⟩))
  (fun os started H enc _=>Ee0 os started H enc)
end Go.Proofs.YthfjpkdadjemcaaGreat
