/- The given rows of some laws, proved: for every input the call returns true, and the arguments read as they did. Conditions: none. -/
import Derived.Test.YthfjpkdadjemcaaGreatTopR
import Derived.Test.YthfjpkdadjemcaaGreatEngLink
import Derived.Test.YthfjpkdadjemcaaGreatRows
set_option linter.unusedSimpArgs false
set_option linter.unusedVariables false
namespace Go.Proofs.YthfjpkdadjemcaaGreat
open Go.ChangeShapes Go.WideShapes Go.ChangeAt Go.RowKit
theorem EU4:ownKnob Tryz.prog.godebug=none:=by kernel_rfl
theorem EU5:laidOutB Tryz.prog=true:=by kernel_rfl
theorem EU6 (x:Ty.den (.pair (.agg (.pair (.int .i64) (.pair (.int .i64) (.pair (.int .i64) (.pair (.int .i64) (.pair (.int .i64) (.pair (.int .i64) (.pair (.int .i64) (.pair (.int .i64) (.pair (.int .i64) (.pair (.int .i64) (.pair (.int .i64) (.pair (.int .i64) (.pair (.int .i64) (.int .i64))))))))))))))) (.pair (.agg (.pair (.slice (.agg (.pair (.int .i64) (.pair (.slice (.agg (.pair (.int .i64) (.int .i64)))) (.slice (.int .i64)))))) (.slice (.agg (.pair (.int .i64) (.pair (.int .i64) (.pair (.int .i64) (.pair (.int .i64) (.int .i64))))))))) (.pair (.slice (.agg (.pair (.slice (.slice (.int .u8))) .bool))) (.int .i64)))))(h:Fits (.pair (.agg (.pair (.int .i64) (.pair (.int .i64) (.pair (.int .i64) (.pair (.int .i64) (.pair (.int .i64) (.pair (.int .i64) (.pair (.int .i64) (.pair (.int .i64) (.pair (.int .i64) (.pair (.int .i64) (.pair (.int .i64) (.pair (.int .i64) (.pair (.int .i64) (.int .i64))))))))))))))) (.pair (.agg (.pair (.slice (.agg (.pair (.int .i64) (.pair (.slice (.agg (.pair (.int .i64) (.int .i64)))) (.slice (.int .i64)))))) (.slice (.agg (.pair (.int .i64) (.pair (.int .i64) (.pair (.int .i64) (.pair (.int .i64) (.int .i64))))))))) (.pair (.slice (.agg (.pair (.slice (.slice (.int .u8))) .bool))) (.int .i64)))) x):Au5 x.1 x.2.1 x.2.2.1 x.2.2.2=some true:=ET9 x.1 x.2.1 x.2.2.1 x.2.2.2 (EU1 h.2.1) (EU0 h.2.1) (EU3 h.2.2.1)
set_option maxRecDepth 100000 in
theorem EU7 (os:Os)(started:os.Started)(H:Type)(enc:TypeId×Value→H):
  ReturnsInHanded {} Tryz.checked os 7 .any (Rows.wholeCutSpec.pre6 enc Tryz.prog Tryz.f7 Rows.wholeCutRow.domain false) (Rows.wholeCutSpec.post enc Tryz.prog Tryz.f7 false true false false):=by
 refine returnsInHanded_of_change_sized (C:=Tryz.checked) EU4 started (by kernel_rfl) Tryz.func7
  (ChangeSpec.witness6 (enc:=enc) (C:=Tryz.checked) false ⟨#[],#[.agg #[.int .i64 0,.int .i64 0,.int .i64 0,.int .i64 0,.int .i64 0,.int .i64 0,.int .i64 0,.int .i64 0,.int .i64 0,.int .i64 0,.int .i64 0,.int .i64 0,.int .i64 0,.int .i64 0],.agg #[.slice none 0 0,.slice none 0 0],.slice none 0 0,.int .i64 0],[]⟩ 8 (by kernel_rfl) (by kernel_rfl) (by kernel_rfl) (by kernel_rfl)) ?_
 intro W base args ds gs before hval0 hW hcnd hsz0 _;have hval:∀(j:Nat) t v,Tryz.f7.params[j]? = some t→args[j]? = some v→Value.okWide Tryz.prog W .any base t v:=hval0;have hW':=hW;obtain⟨p,q,hA0,hV,rfl,hfz,hnd⟩:=hW;have hA:DataW.TrodAll enc Tryz.prog W 0 (fun _=>true) true Tryz.f7.params.toList args.toList ds p:=hA0
 rw[Tryz.params7] at hA hval;obtain⟨rfl,rfl⟩:=trodVars_none hV;simp only[List.append_nil] at hW';have hsz:∀n∈DataW.weightsEach Tryz.prog [23,27,28,3] ds,n≤reachBytes:=by have h0:=hsz0;rw[Tryz.params7,List.append_nil] at h0;exact fun n hn=>by simpa using List.all_eq_true.1 h0 n hn
 have hB:AY9 Tryz.prog [23,27,28,3] (.pair (.agg (.pair (.int .i64) (.pair (.int .i64) (.pair (.int .i64) (.pair (.int .i64) (.pair (.int .i64) (.pair (.int .i64) (.pair (.int .i64) (.pair (.int .i64) (.pair (.int .i64) (.pair (.int .i64) (.pair (.int .i64) (.pair (.int .i64) (.pair (.int .i64) (.int .i64))))))))))))))) (.pair (.agg (.pair (.slice (.agg (.pair (.int .i64) (.pair (.slice (.agg (.pair (.int .i64) (.int .i64)))) (.slice (.int .i64)))))) (.slice (.agg (.pair (.int .i64) (.pair (.int .i64) (.pair (.int .i64) (.pair (.int .i64) (.int .i64))))))))) (.pair (.slice (.agg (.pair (.slice (.slice (.int .u8))) .bool))) (.int .i64))))=true:=by kernel_rfl
 obtain⟨x,hx,hf⟩:=Bu9 [23,27,28,3] (.pair (.agg (.pair (.int .i64) (.pair (.int .i64) (.pair (.int .i64) (.pair (.int .i64) (.pair (.int .i64) (.pair (.int .i64) (.pair (.int .i64) (.pair (.int .i64) (.pair (.int .i64) (.pair (.int .i64) (.pair (.int .i64) (.pair (.int .i64) (.pair (.int .i64) (.int .i64))))))))))))))) (.pair (.agg (.pair (.slice (.agg (.pair (.int .i64) (.pair (.slice (.agg (.pair (.int .i64) (.int .i64)))) (.slice (.int .i64)))))) (.slice (.agg (.pair (.int .i64) (.pair (.int .i64) (.pair (.int .i64) (.pair (.int .i64) (.int .i64))))))))) (.pair (.slice (.agg (.pair (.slice (.slice (.int .u8))) .bool))) (.int .i64)))) args.toList ds p hB hA hsz (fun j t v h1 h2=>hval j t v (by simpa using h1) (by simpa using h2))
 have hlt:∀y∈p,y.block<W.heap.size:=fun y hy=>hW'.lt y hy
 have hstay:∀{W':World},Below W.heap.size W W'→∀(sp:Nat→Bool),(∀y∈p,sp y.block=true)→DataW.TrodAll enc Tryz.prog W' 0 sp true Tryz.f7.params.toList args.toList ds p:=
  fun hb sp hsp=>Bv2 EU5 hb _ _ _ _ (by kernel_rfl) hA0 hlt hsp
 obtain⟨d0,d1,d2,d3,rfl⟩:=EE3 hA;refine (ED8 Du0 rfl (x:=x) (EU6 x hf) rfl W args hx).mono fun e W' ⟨he,hb⟩=> ?_
 subst he;exact⟨_,rfl,ED9 (pa:=p) (pv:=[]) hW' (fun _ _ _=>trodAll_mk1 (shut_bool Tryz.underlying4 _)) (fun sp hsp=>hstay hb sp hsp) (fun _ _=>rfl) (List.append_nil _).symm
  hb (ok_one (by kernel_rfl) rfl (okWide_bool_mk Tryz.underlying4 _))⟩
theorem wholeCut_holds:Rows.WholeCutSaid:=
 OpenClaim.holds_of_wide 7 Tryz.f7 rfl rfl rfl rfl rfl rfl rfl ⟨rfl,rfl,rfl,rfl,rfl⟩ rfl rfl rfl rfl rfl (by kernel_rfl) Tryz.func7 (by kernel_rfl)
  (of_decide_eq_true (by kernel_rfl)) (by unfold Func.isWrapper;first | (rw[if_pos (by decide +kernel)];kernel_rfl) | (rw[if_neg (by decide +kernel)];exact⟨rfl,rfl⟩))
  (fun os started H enc _=>EU7 os started H enc)
end Go.Proofs.YthfjpkdadjemcaaGreat
