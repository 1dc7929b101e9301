/- The given rows of some laws, proved: for every input the call returns true, and the arguments read as they did. Conditions: none. -/
import Derived.Test.YthfjpkdadjemcaaGreatTopP
import Derived.Test.YthfjpkdadjemcaaGreatTopU
import Derived.Test.YthfjpkdadjemcaaGreatEngLink
import Derived.Test.YthfjpkdadjemcaaGreatRows
set_option linter.unusedSimpArgs false
set_option linter.unusedVariables false
namespace Go.Proofs.YthfjpkdadjemcaaGreat
open Go.ChangeShapes Go.WideShapes Go.ChangeAt Go.RowKit
theorem Ei3:ownKnob Tryz.prog.godebug=none:=by kernel_rfl
theorem Ei4:laidOutB Tryz.prog=true:=by kernel_rfl
theorem Ei5 (x:Ty.den (.pair (.agg (.pair (.int .i64) (.pair (.int .i64) (.pair (.int .i64) (.pair (.int .i64) (.pair (.int .i64) (.pair (.int .i64) (.pair (.int .i64) (.pair (.int .i64) (.pair (.int .i64) (.pair (.int .i64) (.pair (.int .i64) (.pair (.int .i64) (.pair (.int .i64) (.int .i64))))))))))))))) (.pair (.agg (.pair (.slice (.agg (.pair (.int .i64) (.pair (.slice (.agg (.pair (.int .i64) (.int .i64)))) (.slice (.int .i64)))))) (.slice (.agg (.pair (.int .i64) (.pair (.int .i64) (.pair (.int .i64) (.pair (.int .i64) (.int .i64))))))))) (.pair (.slice (.agg (.pair (.slice (.slice (.int .u8))) .bool))) (.pair (.int .i64) (.pair (.int .i64) (.int .i64)))))))(h:Fits (.pair (.agg (.pair (.int .i64) (.pair (.int .i64) (.pair (.int .i64) (.pair (.int .i64) (.pair (.int .i64) (.pair (.int .i64) (.pair (.int .i64) (.pair (.int .i64) (.pair (.int .i64) (.pair (.int .i64) (.pair (.int .i64) (.pair (.int .i64) (.pair (.int .i64) (.int .i64))))))))))))))) (.pair (.agg (.pair (.slice (.agg (.pair (.int .i64) (.pair (.slice (.agg (.pair (.int .i64) (.int .i64)))) (.slice (.int .i64)))))) (.slice (.agg (.pair (.int .i64) (.pair (.int .i64) (.pair (.int .i64) (.pair (.int .i64) (.int .i64))))))))) (.pair (.slice (.agg (.pair (.slice (.slice (.int .u8))) .bool))) (.pair (.int .i64) (.pair (.int .i64) (.int .i64)))))) x):BA5 x.1 x.2.1 x.2.2.1 x.2.2.2.1 x.2.2.2.2.1 x.2.2.2.2.2=some true:=Ei2 x.1 x.2.1 x.2.2.1 x.2.2.2.1 x.2.2.2.2.1 x.2.2.2.2.2 (AN7 h.2.2.2.2.1) (BV7 h.2.1) (BV6 h.2.1) (CJ8 h.2.2.1)
set_option maxRecDepth 100000 in
theorem Ei6 (os:Os)(started:os.Started)(H:Type)(enc:TypeId×Value→H):
  ReturnsInHanded {} Tryz.checked os 3 .any (Rows.wholeStaleSpec.pre6 enc Tryz.prog Tryz.f3 Rows.wholeStaleRow.domain false) (Rows.wholeStaleSpec.post enc Tryz.prog Tryz.f3 false true false false):=by
 refine returnsInHanded_of_change_sized (C:=Tryz.checked) Ei3 started (by kernel_rfl) Tryz.func3
  (ChangeSpec.witness6 (enc:=enc) (C:=Tryz.checked) false ⟨#[],#[.agg #[.int .i64 0,.int .i64 0,.int .i64 0,.int .i64 0,.int .i64 0,.int .i64 0,.int .i64 0,.int .i64 0,.int .i64 0,.int .i64 0,.int .i64 0,.int .i64 0,.int .i64 0,.int .i64 0],.agg #[.slice none 0 0,.slice none 0 0],.slice none 0 0,.int .i64 0,.int .i64 0,.int .i64 0],[]⟩ 8 (by kernel_rfl) (by kernel_rfl) (by kernel_rfl) (by kernel_rfl)) ?_
 intro W base args ds gs before hval0 hW hcnd hsz0 _;have hval:∀(j:Nat) t v,Tryz.f3.params[j]? = some t→args[j]? = some v→Value.okWide Tryz.prog W .any base t v:=hval0;have hW':=hW;obtain⟨p,q,hA0,hV,rfl,hfz,hnd⟩:=hW;have hA:DataW.TrodAll enc Tryz.prog W 0 (fun _=>true) true Tryz.f3.params.toList args.toList ds p:=hA0
 rw[Tryz.params3] at hA hval;obtain⟨rfl,rfl⟩:=trodVars_none hV;simp only[List.append_nil] at hW';have hsz:∀n∈DataW.weightsEach Tryz.prog [23,27,28,3,2,3] ds,n≤reachBytes:=by have h0:=hsz0;rw[Tryz.params3,List.append_nil] at h0;exact fun n hn=>by simpa using List.all_eq_true.1 h0 n hn
 have hB:AN6 Tryz.prog [23,27,28,3,2,3] (.pair (.agg (.pair (.int .i64) (.pair (.int .i64) (.pair (.int .i64) (.pair (.int .i64) (.pair (.int .i64) (.pair (.int .i64) (.pair (.int .i64) (.pair (.int .i64) (.pair (.int .i64) (.pair (.int .i64) (.pair (.int .i64) (.pair (.int .i64) (.pair (.int .i64) (.int .i64))))))))))))))) (.pair (.agg (.pair (.slice (.agg (.pair (.int .i64) (.pair (.slice (.agg (.pair (.int .i64) (.int .i64)))) (.slice (.int .i64)))))) (.slice (.agg (.pair (.int .i64) (.pair (.int .i64) (.pair (.int .i64) (.pair (.int .i64) (.int .i64))))))))) (.pair (.slice (.agg (.pair (.slice (.slice (.int .u8))) .bool))) (.pair (.int .i64) (.pair (.int .i64) (.int .i64))))))=true:=by kernel_rfl
 obtain⟨x,hx,hf⟩:=BB5 [23,27,28,3,2,3] (.pair (.agg (.pair (.int .i64) (.pair (.int .i64) (.pair (.int .i64) (.pair (.int .i64) (.pair (.int .i64) (.pair (.int .i64) (.pair (.int .i64) (.pair (.int .i64) (.pair (.int .i64) (.pair (.int .i64) (.pair (.int .i64) (.pair (.int .i64) (.pair (.int .i64) (.int .i64))))))))))))))) (.pair (.agg (.pair (.slice (.agg (.pair (.int .i64) (.pair (.slice (.agg (.pair (.int .i64) (.int .i64)))) (.slice (.int .i64)))))) (.slice (.agg (.pair (.int .i64) (.pair (.int .i64) (.pair (.int .i64) (.pair (.int .i64) (.int .i64))))))))) (.pair (.slice (.agg (.pair (.slice (.slice (.int .u8))) .bool))) (.pair (.int .i64) (.pair (.int .i64) (.int .i64)))))) args.toList ds p hB hA hsz (fun j t v h1 h2=>hval j t v (by simpa using h1) (by simpa using h2))
 have hlt:∀y∈p,y.block<W.heap.size:=fun y hy=>hW'.lt y hy
 have hstay:∀{W':World},Below W.heap.size W W'→∀(sp:Nat→Bool),(∀y∈p,sp y.block=true)→DataW.TrodAll enc Tryz.prog W' 0 sp true Tryz.f3.params.toList args.toList ds p:=
  fun hb sp hsp=>BB7 Ei4 hb _ _ _ _ (by kernel_rfl) hA0 hlt hsp
 obtain⟨d0,d1,d2,d3,d4,d5,rfl⟩:=EQ0 hA;refine (BS7 EF5 rfl (x:=x) (Ei5 x hf) rfl W args hx).mono fun e W' ⟨he,hb⟩=> ?_
 subst he;exact⟨_,rfl,BS8 (pa:=p) (pv:=[]) hW' (fun _ _ _=>trodAll_mk1 (shut_bool Tryz.underlying4 _)) (fun sp hsp=>hstay hb sp hsp) (fun _ _=>rfl) (List.append_nil _).symm
  hb (ok_one (by kernel_rfl) rfl (okWide_bool_mk Tryz.underlying4 _))⟩
theorem wholeStale_holds:Rows.WholeStaleSaid:=
 OpenClaim.holds_of_wide 3 Tryz.f3 rfl rfl rfl rfl rfl rfl rfl ⟨rfl,rfl,rfl,rfl,rfl⟩ rfl rfl rfl rfl rfl (by kernel_rfl) Tryz.func3 (by kernel_rfl)
  (of_decide_eq_true (by kernel_rfl)) (by unfold Func.isWrapper;first | (rw[if_pos (by decide +kernel)];kernel_rfl) | (rw[if_neg (by decide +kernel)];exact⟨rfl,rfl⟩))
  (fun os started H enc _=>Ei6 os started H enc)
end Go.Proofs.YthfjpkdadjemcaaGreat
