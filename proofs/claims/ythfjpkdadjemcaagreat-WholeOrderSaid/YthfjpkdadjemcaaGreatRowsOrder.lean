/- The given rows of some laws, proved: for every input the call returns true, and the arguments read as they did. Conditions: none. -/
import Derived.Test.YthfjpkdadjemcaaGreatTopO
import Derived.Test.YthfjpkdadjemcaaGreatTopU
import Derived.Test.YthfjpkdadjemcaaGreatEngLink
import Derived.Test.YthfjpkdadjemcaaGreatRows
set_option linter.unusedSimpArgs false
set_option linter.unusedVariables false
namespace Go.Proofs.YthfjpkdadjemcaaGreat
open Go.ChangeShapes Go.WideShapes Go.ChangeAt Go.RowKit
theorem Ek4:ownKnob Tryz.prog.godebug=none:=by kernel_rfl
theorem Ek5:laidOutB Tryz.prog=true:=by kernel_rfl
theorem Ek6 (x:Ty.den (.pair (.agg (.pair (.int .i64) (.pair (.int .i64) (.pair (.int .i64) (.pair (.int .i64) (.pair (.int .i64) (.pair (.int .i64) (.pair (.int .i64) (.pair (.int .i64) (.pair (.int .i64) (.pair (.int .i64) (.pair (.int .i64) (.pair (.int .i64) (.pair (.int .i64) (.int .i64))))))))))))))) (.pair (.agg (.pair (.slice (.agg (.pair (.int .i64) (.pair (.slice (.agg (.pair (.int .i64) (.int .i64)))) (.slice (.int .i64)))))) (.slice (.agg (.pair (.int .i64) (.pair (.int .i64) (.pair (.int .i64) (.pair (.int .i64) (.int .i64))))))))) (.slice (.agg (.pair (.slice (.slice (.int .u8))) .bool))))))(h:Fits (.pair (.agg (.pair (.int .i64) (.pair (.int .i64) (.pair (.int .i64) (.pair (.int .i64) (.pair (.int .i64) (.pair (.int .i64) (.pair (.int .i64) (.pair (.int .i64) (.pair (.int .i64) (.pair (.int .i64) (.pair (.int .i64) (.pair (.int .i64) (.pair (.int .i64) (.int .i64))))))))))))))) (.pair (.agg (.pair (.slice (.agg (.pair (.int .i64) (.pair (.slice (.agg (.pair (.int .i64) (.int .i64)))) (.slice (.int .i64)))))) (.slice (.agg (.pair (.int .i64) (.pair (.int .i64) (.pair (.int .i64) (.pair (.int .i64) (.int .i64))))))))) (.slice (.agg (.pair (.slice (.slice (.int .u8))) .bool))))) x):BA4 x.1 x.2.1 x.2.2=some true:=Ek3 x.1 x.2.1 x.2.2 (BV7 h.2.1) (BV6 h.2.1) (CJ8 h.2.2)
set_option maxRecDepth 100000 in
theorem Ek7 (os:Os)(started:os.Started)(H:Type)(enc:TypeId×Value→H):
  ReturnsInHanded {} Tryz.checked os 4 .any (Rows.wholeOrderSpec.pre6 enc Tryz.prog Tryz.f4 Rows.wholeOrderRow.domain false) (Rows.wholeOrderSpec.post enc Tryz.prog Tryz.f4 false true false false):=by
 refine returnsInHanded_of_change_sized (C:=Tryz.checked) Ek4 started (by kernel_rfl) Tryz.func4
  (ChangeSpec.witness6 (enc:=enc) (C:=Tryz.checked) false ⟨#[],#[.agg #[.int .i64 0,.int .i64 0,.int .i64 0,.int .i64 0,.int .i64 0,.int .i64 0,.int .i64 0,.int .i64 0,.int .i64 0,.int .i64 0,.int .i64 0,.int .i64 0,.int .i64 0,.int .i64 0],.agg #[.slice none 0 0,.slice none 0 0],.slice none 0 0],[]⟩ 8 (by kernel_rfl) (by kernel_rfl) (by kernel_rfl) (by kernel_rfl)) ?_
 intro W base args ds gs before hval0 hW hcnd hsz0 _;have hval:∀(j:Nat) t v,Tryz.f4.params[j]? = some t→args[j]? = some v→Value.okWide Tryz.prog W .any base t v:=hval0;have hW':=hW;obtain⟨p,q,hA0,hV,rfl,hfz,hnd⟩:=hW;have hA:DataW.TrodAll enc Tryz.prog W 0 (fun _=>true) true Tryz.f4.params.toList args.toList ds p:=hA0
 rw[Tryz.params4] at hA hval;obtain⟨rfl,rfl⟩:=trodVars_none hV;simp only[List.append_nil] at hW';have hsz:∀n∈DataW.weightsEach Tryz.prog [23,27,28] ds,n≤reachBytes:=by have h0:=hsz0;rw[Tryz.params4,List.append_nil] at h0;exact fun n hn=>by simpa using List.all_eq_true.1 h0 n hn
 have hB:AN6 Tryz.prog [23,27,28] (.pair (.agg (.pair (.int .i64) (.pair (.int .i64) (.pair (.int .i64) (.pair (.int .i64) (.pair (.int .i64) (.pair (.int .i64) (.pair (.int .i64) (.pair (.int .i64) (.pair (.int .i64) (.pair (.int .i64) (.pair (.int .i64) (.pair (.int .i64) (.pair (.int .i64) (.int .i64))))))))))))))) (.pair (.agg (.pair (.slice (.agg (.pair (.int .i64) (.pair (.slice (.agg (.pair (.int .i64) (.int .i64)))) (.slice (.int .i64)))))) (.slice (.agg (.pair (.int .i64) (.pair (.int .i64) (.pair (.int .i64) (.pair (.int .i64) (.int .i64))))))))) (.slice (.agg (.pair (.slice (.slice (.int .u8))) .bool)))))=true:=by kernel_rfl
 obtain⟨x,hx,hf⟩:=BB5 [23,27,28] (.pair (.agg (.pair (.int .i64) (.pair (.int .i64) (.pair (.int .i64) (.pair (.int .i64) (.pair (.int .i64) (.pair (.int .i64) (.pair (.int .i64) (.pair (.int .i64) (.pair (.int .i64) (.pair (.int .i64) (.pair (.int .i64) (.pair (.int .i64) (.pair (.int .i64) (.int .i64))))))))))))))) (.pair (.agg (.pair (.slice (.agg (.pair (.int .i64) (.pair (.slice (.agg (.pair (.int .i64) (.int .i64)))) (.slice (.int .i64)))))) (.slice (.agg (.pair (.int .i64) (.pair (.int .i64) (.pair (.int .i64) (.pair (.int .i64) (.int .i64))))))))) (.slice (.agg (.pair (.slice (.slice (.int .u8))) .bool))))) args.toList ds p hB hA hsz (fun j t v h1 h2=>hval j t v (by simpa using h1) (by simpa using h2))
 have hlt:∀y∈p,y.block<W.heap.size:=fun y hy=>hW'.lt y hy
 have hstay:∀{W':World},Below W.heap.size W W'→∀(sp:Nat→Bool),(∀y∈p,sp y.block=true)→DataW.TrodAll enc Tryz.prog W' 0 sp true Tryz.f4.params.toList args.toList ds p:=
  fun hb sp hsp=>BB7 Ek5 hb _ _ _ _ (by kernel_rfl) hA0 hlt hsp
 obtain⟨d0,d1,d2,rfl⟩:=EP8 hA;refine (BS7 EF3 rfl (x:=x) (Ek6 x hf) rfl W args hx).mono fun e W' ⟨he,hb⟩=> ?_
 subst he;exact⟨_,rfl,BS8 (pa:=p) (pv:=[]) hW' (fun _ _ _=>trodAll_mk1 (shut_bool Tryz.underlying4 _)) (fun sp hsp=>hstay hb sp hsp) (fun _ _=>rfl) (List.append_nil _).symm
  hb (ok_one (by kernel_rfl) rfl (okWide_bool_mk Tryz.underlying4 _))⟩
theorem wholeOrder_holds:Rows.WholeOrderSaid:=
 OpenClaim.holds_of_wide 4 Tryz.f4 rfl rfl rfl rfl rfl rfl rfl ⟨rfl,rfl,rfl,rfl,rfl⟩ rfl rfl rfl rfl rfl (by kernel_rfl) Tryz.func4 (by kernel_rfl)
  (of_decide_eq_true (by kernel_rfl)) (by unfold Func.isWrapper;first | (rw[if_pos (by decide +kernel)];kernel_rfl) | (rw[if_neg (by decide +kernel)];exact⟨rfl,rfl⟩))
  (fun os started H enc _=>Ek7 os started H enc)
end Go.Proofs.YthfjpkdadjemcaaGreat
