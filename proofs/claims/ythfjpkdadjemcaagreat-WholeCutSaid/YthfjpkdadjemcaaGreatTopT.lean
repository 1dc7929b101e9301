/- What always has an answer. -/
import Derived.Test.YthfjpkdadjemcaaGreatFnsF3
import Derived.Test.YthfjpkdadjemcaaGreatLoopF
set_option linter.unusedSimpArgs false
set_option linter.unusedVariables false
namespace Go.Proofs.YthfjpkdadjemcaaGreat
open Go Go.RowKit
def Wp {α:Type}(a:Option α)(Q:α→Prop):Prop:=∃y,a=some y∧Q y
def Tot {α:Type}(a:Option α):Prop:=∃y,a=some y
section
variable {α β S X:Type}
theorem Wp.some {y:α}{Q:α→Prop}(h:Q y):Wp (some y) Q:=⟨y,rfl,h⟩
theorem Wp.bnd {a:Option α}{f:α→Option β}{Q:α→Prop}{R:β→Prop}(h:Wp a Q)(h2:∀x,Q x→Wp (f x) R):Wp (Option.bind a f) R:=by obtain⟨y,rfl,hy⟩:=h;exact h2 y hy
theorem Wp.chk {c:Bool}{a:Option α}{Q:α→Prop}(hc:c=true)(h:Wp a Q):Wp (chk none c a) Q:=by subst hc;exact h
theorem Wp.cnd {c:Bool}{a b:Option α}{Q:α→Prop}(h:c=true→Wp a Q)(h2:c=false→Wp b Q):Wp (cond c a b) Q:=by
 cases c
 ·exact h2 rfl
 ·exact h rfl
theorem Wp.mono {a:Option α}{Q R:α→Prop}(h:Wp a Q)(h2:∀x,Q x→R x):Wp a R:=by obtain⟨y,h3,hy⟩:=h;exact⟨y,h3,h2 y hy⟩
theorem Wp.loop {f:S→Option (S ⊕ X)}{Q:X→Prop}(I:S→Prop)(μ:S→Nat)(h:∀s,I s→Wp (f s) fun z=>match z with | .inl s'=>I s'∧μ s'<μ s | .inr x=>Q x){s:S}(hs:I s):Wp (LP.lp f s) Q:=by
 obtain⟨x,h1,h2⟩:=Du1 I μ Q (fun s hI=>by
  obtain⟨z,h1,h2⟩:=h s hI;cases z with
  |inl s'=>exact .inr ⟨s',h1,h2⟩
  |inr x=>exact .inl ⟨x,h1,h2⟩) s hs
 exact⟨x,h1,h2⟩
theorem Tot.some {y:α}:Tot (some y):=⟨y,rfl⟩
theorem Tot.bnd {a:Option α}{f:α→Option β}(h:Tot a)(h2:∀x,Tot (f x)):Tot (Option.bind a f):=by obtain⟨y,rfl⟩:=h;exact h2 y
theorem Tot.chk {c:Bool}{a:Option α}(hc:c=true)(h:Tot a):Tot (chk none c a):=by subst hc;exact h
theorem Tot.cnd {c:Bool}{a b:Option α}(h:Tot a)(h2:Tot b):Tot (cond c a b):=by
 cases c
 ·exact h2
 ·exact h
theorem Tot.wp {a:Option α}(h:Tot a):Wp a fun y=>a=Option.some y:=by obtain⟨y,hy⟩:=h;exact⟨y,hy,hy⟩
theorem Wp.tot {a:Option α}{Q:α→Prop}(h:Wp a Q):Tot a:=by obtain⟨y,hy,_⟩:=h;exact⟨y,hy⟩
theorem Tot.loop {f:S→Option (S ⊕ X)}(I:S→Prop)(μ:S→Nat)(h:∀s,I s→Wp (f s) fun z=>match z with | .inl s'=>I s'∧μ s'<μ s | .inr x=>True){s:S}(hs:I s):Tot (LP.lp f s):=(Wp.loop (Q:=fun _=>True) I μ h hs).tot
end
theorem B6 (n:Int):decide ((0:Int)≤IntKind.wrap .u64 n)=true:=by exact decide_eq_true (BP9 .u64 n).1
theorem Bs8 (i:Int)(h0:0≤i)(h1:i≤1000):IntKind.wrap .i64 (i-1)=i-1:=by rw[IntKind.wrap_i64];omega
theorem l6 (s_1:(Int×Int)):Tot (S0 s_1):=by
 unfold S0
 repeat' (first | (intro _) | (with_reducible (first | exact Tot.some | refine Tot.bnd ?_ ?_ | refine Tot.cnd ?_ ?_ | refine Tot.chk ?_ ?_)) | exact B6 _ | (cases ‹_ ⊕ _›))
theorem Du2 (a_1:Int):Tot (AW3 a_1):=by
 unfold AW3
 repeat' (first | (intro _) | (with_reducible (first | exact Tot.some | refine Tot.bnd ?_ ?_ | refine Tot.cnd ?_ ?_ | refine Tot.chk ?_ ?_)) | exact B6 _ | (cases ‹_ ⊕ _›))
theorem AR2 (a_1 b_2:Int):Tot (AW4 a_1 b_2):=by
 unfold AW4
 repeat' (first | (intro _) | (with_reducible (first | exact Tot.some | refine Tot.bnd ?_ ?_ | refine Tot.cnd ?_ ?_ | refine Tot.chk ?_ ?_)) | exact B6 _ | (cases ‹_ ⊕ _›))
theorem Bs9 (x_1:(Int×Int))(n_2:Int):Tot (Ac8 x_1 n_2):=by
 unfold Ac8
 repeat' (first | (intro _) | (with_reducible (first | exact Tot.some | refine Tot.bnd ?_ ?_ | refine Tot.cnd ?_ ?_ | refine Tot.chk ?_ ?_)) | exact B6 _ | (cases ‹_ ⊕ _›))
theorem Du3 (x_1:(Int×Int))(n_2:Int):Tot (Aq9 x_1 n_2):=by
 unfold Aq9
 repeat' (first | (intro _) | (with_reducible (first | exact Tot.some | refine Tot.bnd ?_ ?_ | refine Tot.cnd ?_ ?_ | refine Tot.chk ?_ ?_)) | exact B6 _ | (cases ‹_ ⊕ _›))
theorem AJ0 (x_1 y_2:(Int×Int)):Tot (AN2 x_1 y_2):=by
 unfold AN2
 repeat' (first | (intro _) | (with_reducible (first | exact Tot.some | refine Tot.bnd ?_ ?_ | refine Tot.cnd ?_ ?_ | refine Tot.chk ?_ ?_)) | exact B6 _ | (cases ‹_ ⊕ _›))
theorem Du4 (x_1 y_2:(Int×Int)):Tot (Ar1 x_1 y_2):=by
 unfold Ar1
 repeat' (first | (intro _) | (with_reducible (first | exact Tot.some | exact AJ0 .. | refine Tot.bnd ?_ ?_ | refine Tot.cnd ?_ ?_ | refine Tot.chk ?_ ?_)) | exact B6 _ | (cases ‹_ ⊕ _›))
theorem Du5 (x:Int×Int)(d:Int):Tot (AN3 x d):=by
 unfold AN3;refine Tot.cnd Tot.some (Tot.bnd ?_ fun _=>Tot.some)
 refine Tot.loop (fun s => -1≤s.2.2.2.2∧s.2.2.2.2≤127) (fun s=>(s.2.2.2.2+1).toNat) ?_ (by decide)
 rintro⟨a,b,c,d',i⟩ ⟨h0,h1⟩
 refine Wp.cnd (fun hc=> ?_) fun _=>Wp.some trivial
 have hi:0≤i:=by simpa using hc
 have hw:=Bs8 i hi (by have:i≤127:=h1;omega)
 refine Wp.bnd (Bs9 _ _).wp fun _ _=>Wp.bnd (Du3 _ _).wp fun _ _=>Wp.bnd (Bs9 _ _).wp fun _ _=>Wp.bnd (AJ0 _ _).wp fun _ _=>Wp.bnd (Q:=fun _=>True) ?_ fun _ _=>Wp.some ?_
 ·refine Wp.cnd (fun _=>Wp.bnd (Du4 _ _).wp fun _ _=>Wp.some trivial) fun _=>Wp.some trivial
 ·simp only[hw]
  exact⟨⟨by omega,by have:i≤127:=h1;omega⟩,by omega⟩
theorem Du6 (x_1 y_2:(Int×Int)):Tot (Ar2 x_1 y_2):=by
 unfold Ar2
 repeat' (first | (intro _) | (with_reducible (first | exact Tot.some | refine Tot.bnd ?_ ?_ | refine Tot.cnd ?_ ?_ | refine Tot.chk ?_ ?_)) | exact B6 _ | (cases ‹_ ⊕ _›))
theorem Du7 (x_1:(Int×Int))(below_2:Bool):Tot (Ar3 x_1 below_2):=by
 unfold Ar3
 repeat' (first | (intro _) | (with_reducible (first | exact Tot.some | exact AJ0 .. | refine Tot.bnd ?_ ?_ | refine Tot.cnd ?_ ?_ | refine Tot.chk ?_ ?_)) | exact B6 _ | (cases ‹_ ⊕ _›))
theorem Bt0 (a_1 b_2 c_3:Int)(up_4:Bool):Tot (AG3 a_1 b_2 c_3 up_4):=by
 unfold AG3
 repeat' (first | (intro _) | (with_reducible (first | exact Tot.some | exact Du2 .. | exact AR2 .. | exact Du5 .. | exact Du6 .. | exact Du7 .. | refine Tot.bnd ?_ ?_ | refine Tot.cnd ?_ ?_ | refine Tot.chk ?_ ?_)) | exact B6 _ | (cases ‹_ ⊕ _›))
theorem BK3 (a_1 b_2 c_3:Int):Tot (AC2 a_1 b_2 c_3):=by
 unfold AC2
 repeat' (first | (intro _) | (with_reducible (first | exact Tot.some | exact Bt0 .. | refine Tot.bnd ?_ ?_ | refine Tot.cnd ?_ ?_ | refine Tot.chk ?_ ?_)) | exact B6 _ | (cases ‹_ ⊕ _›))
theorem BK4 (a_1 b_2 c_3:Int):Tot (AC7 a_1 b_2 c_3):=by
 unfold AC7
 repeat' (first | (intro _) | (with_reducible (first | exact Tot.some | exact Bt0 .. | refine Tot.bnd ?_ ?_ | refine Tot.cnd ?_ ?_ | refine Tot.chk ?_ ?_)) | exact B6 _ | (cases ‹_ ⊕ _›))
theorem AJ1 (x_1:Int):Tot (u9 x_1):=by
 unfold u9
 repeat' (first | (intro _) | (with_reducible (first | exact Tot.some | refine Tot.bnd ?_ ?_ | refine Tot.cnd ?_ ?_ | refine Tot.chk ?_ ?_)) | exact B6 _ | (cases ‹_ ⊕ _›))
theorem AR3 (s_1 t_2:(Int×Int)):Tot (AG5 s_1 t_2):=by
 unfold AG5
 repeat' (first | (intro _) | (with_reducible (first | exact Tot.some | exact l6 .. | refine Tot.bnd ?_ ?_ | refine Tot.cnd ?_ ?_ | refine Tot.chk ?_ ?_)) | exact B6 _ | (cases ‹_ ⊕ _›))
theorem Bt1 (c_1:C8):Tot (AN7 c_1):=by
 unfold AN7
 repeat' (first | (intro _) | (with_reducible (first | exact Tot.some | refine Tot.bnd ?_ ?_ | refine Tot.cnd ?_ ?_ | refine Tot.chk ?_ ?_)) | exact B6 _ | (cases ‹_ ⊕ _›))
theorem Bt2 (c_1:C8):Tot (AW7 c_1):=by
 unfold AW7
 repeat' (first | (intro _) | (with_reducible (first | exact Tot.some | refine Tot.bnd ?_ ?_ | refine Tot.cnd ?_ ?_ | refine Tot.chk ?_ ?_)) | exact B6 _ | (cases ‹_ ⊕ _›))
theorem Au6 (a_1 b_2:Int):Tot (AC6 a_1 b_2):=by
 unfold AC6
 repeat' (first | (intro _) | (with_reducible (first | exact Tot.some | refine Tot.bnd ?_ ?_ | refine Tot.cnd ?_ ?_ | refine Tot.chk ?_ ?_)) | exact B6 _ | (cases ‹_ ⊕ _›))
theorem Bt3 (n_1:Int)(ok_2 below_3:Bool):Tot (Ae0 n_1 ok_2 below_3):=by
 unfold Ae0
 repeat' (first | (intro _) | (with_reducible (first | exact Tot.some | refine Tot.bnd ?_ ?_ | refine Tot.cnd ?_ ?_ | refine Tot.chk ?_ ?_)) | exact B6 _ | (cases ‹_ ⊕ _›))
theorem AY1 (a_1 b_2:Int):Tot (Ae1 a_1 b_2):=by
 unfold Ae1
 repeat' (first | (intro _) | (with_reducible (first | exact Tot.some | exact Au6 .. | exact Bt3 .. | refine Tot.bnd ?_ ?_ | refine Tot.cnd ?_ ?_ | refine Tot.chk ?_ ?_)) | exact B6 _ | (cases ‹_ ⊕ _›))
theorem Au7 (a_1 b_2:Int):Tot (AI1 a_1 b_2):=by
 unfold AI1
 repeat' (first | (intro _) | (with_reducible (first | exact Tot.some | refine Tot.bnd ?_ ?_ | refine Tot.cnd ?_ ?_ | refine Tot.chk ?_ ?_)) | exact B6 _ | (cases ‹_ ⊕ _›))
theorem Ag7 (a_1 b_2:Int):Tot (Au4 a_1 b_2):=by
 unfold Au4
 repeat' (first | (intro _) | (with_reducible (first | exact Tot.some | exact Au7 .. | exact Bt3 .. | refine Tot.bnd ?_ ?_ | refine Tot.cnd ?_ ?_ | refine Tot.chk ?_ ?_)) | exact B6 _ | (cases ‹_ ⊕ _›))
theorem Du8 (a_1:Int):Tot (At9 a_1):=by
 unfold At9
 repeat' (first | (intro _) | (with_reducible (first | exact Tot.some | exact Au7 .. | refine Tot.bnd ?_ ?_ | refine Tot.cnd ?_ ?_ | refine Tot.chk ?_ ?_)) | exact B6 _ | (cases ‹_ ⊕ _›))
theorem Du9 (a_1:Int):Tot (Af2 a_1):=by
 unfold Af2
 repeat' (first | (intro _) | (with_reducible (first | exact Tot.some | exact Du8 .. | refine Tot.bnd ?_ ?_ | refine Tot.cnd ?_ ?_ | refine Tot.chk ?_ ?_)) | exact B6 _ | (cases ‹_ ⊕ _›))
theorem Dv0 (a_1 b_2:Int):Tot (At7 a_1 b_2):=by
 unfold At7
 repeat' (first | (intro _) | (with_reducible (first | exact Tot.some | refine Tot.bnd ?_ ?_ | refine Tot.cnd ?_ ?_ | refine Tot.chk ?_ ?_)) | exact B6 _ | (cases ‹_ ⊕ _›))
theorem Ag8 (x_1 lo_2 hi_3:Int):Tot (Au0 x_1 lo_2 hi_3):=by
 unfold Au0
 repeat' (first | (intro _) | (with_reducible (first | exact Tot.some | refine Tot.bnd ?_ ?_ | refine Tot.cnd ?_ ?_ | refine Tot.chk ?_ ?_)) | exact B6 _ | (cases ‹_ ⊕ _›))
theorem Au8 (lo_1:Int)(a_2:Bool)(hi_3:Int)(b_4:Bool):Tot (AO8 lo_1 a_2 hi_3 b_4):=by
 unfold AO8
 repeat' (first | (intro _) | (with_reducible (first | exact Tot.some | refine Tot.bnd ?_ ?_ | refine Tot.cnd ?_ ?_ | refine Tot.chk ?_ ?_)) | exact B6 _ | (cases ‹_ ⊕ _›))
theorem BK5 (s_1:(Int×Int))(far_2:Int):Tot (AX6 s_1 far_2):=by
 unfold AX6
 repeat' (first | (intro _) | (with_reducible (first | exact Tot.some | exact l6 .. | exact Au7 .. | exact Au6 .. | exact Au8 .. | refine Tot.bnd ?_ ?_ | refine Tot.cnd ?_ ?_ | refine Tot.chk ?_ ?_)) | exact B6 _ | (cases ‹_ ⊕ _›))
theorem AY2 (x_1 far_2:Int):Tot (Ae5 x_1 far_2):=by
 unfold Ae5
 repeat' (first | (intro _) | (with_reducible (first | exact Tot.some | exact AJ1 .. | exact BK5 .. | refine Tot.bnd ?_ ?_ | refine Tot.cnd ?_ ?_ | refine Tot.chk ?_ ?_)) | exact B6 _ | (cases ‹_ ⊕ _›))
theorem X8 (s_1 t_2:(Int×Int)):Tot (l5 s_1 t_2):=by
 unfold l5
 repeat' (first | (intro _) | (with_reducible (first | exact Tot.some | exact Au8 .. | refine Tot.bnd ?_ ?_ | refine Tot.cnd ?_ ?_ | refine Tot.chk ?_ ?_)) | exact B6 _ | (cases ‹_ ⊕ _›))
theorem AD1 (s_1 t_2:(Int×Int)):Tot (AC9 s_1 t_2):=by
 unfold AC9
 repeat' (first | (intro _) | (with_reducible (first | exact Tot.some | exact l6 .. | exact Au6 .. | exact Au8 .. | refine Tot.bnd ?_ ?_ | refine Tot.cnd ?_ ?_ | refine Tot.chk ?_ ?_)) | exact B6 _ | (cases ‹_ ⊕ _›))
theorem AR4 (s_1 t_2:(Int×Int)):Tot (AP4 s_1 t_2):=by
 unfold AP4
 repeat' (first | (intro _) | (with_reducible (first | exact Tot.some | exact l6 .. | exact Au7 .. | exact Au8 .. | refine Tot.bnd ?_ ?_ | refine Tot.cnd ?_ ?_ | refine Tot.chk ?_ ?_)) | exact B6 _ | (cases ‹_ ⊕ _›))
theorem AY3 (s_1 t_2:(Int×Int)):Tot (Af3 s_1 t_2):=by
 unfold Af3
 repeat' (first | (intro _) | (with_reducible (first | exact Tot.some | exact l6 .. | refine Tot.bnd ?_ ?_ | refine Tot.cnd ?_ ?_ | refine Tot.chk ?_ ?_)) | exact B6 _ | (cases ‹_ ⊕ _›))
theorem AD2 (s_1:(Int×Int)):Tot (AA0 s_1):=by
 unfold AA0
 repeat' (first | (intro _) | (with_reducible (first | exact Tot.some | exact Dv0 .. | refine Tot.bnd ?_ ?_ | refine Tot.cnd ?_ ?_ | refine Tot.chk ?_ ?_)) | exact B6 _ | (cases ‹_ ⊕ _›))
theorem Dv1 (s_1:(Int×Int))(k_2 by_3:Int):Tot (AH9 s_1 k_2 by_3):=by
 unfold AH9
 repeat' (first | (intro _) | (with_reducible (first | exact Tot.some | exact l6 .. | exact BK4 .. | exact BK3 .. | refine Tot.bnd ?_ ?_ | refine Tot.cnd ?_ ?_ | refine Tot.chk ?_ ?_)) | exact B6 _ | (cases ‹_ ⊕ _›))
theorem Dv2 (d_1:Int)(circ_2:(Int×Int))(pulses_3:Int):Tot (AI0 d_1 circ_2 pulses_3):=by
 unfold AI0
 repeat' (first | (intro _) | (with_reducible (first | exact Tot.some | exact Dv1 .. | exact AR3 .. | refine Tot.bnd ?_ ?_ | refine Tot.cnd ?_ ?_ | refine Tot.chk ?_ ?_)) | exact B6 _ | (cases ‹_ ⊕ _›))
theorem Dv3 (from_1 to_2:Int):Tot (At0 from_1 to_2):=by
 unfold At0
 repeat' (first | (intro _) | (with_reducible (first | exact Tot.some | refine Tot.bnd ?_ ?_ | refine Tot.cnd ?_ ?_ | refine Tot.chk ?_ ?_)) | exact B6 _ | (cases ‹_ ⊕ _›))
theorem Dv4 (c_1:(Bool×(Int×Int)))(count_2:Int)(has_3:Bool):Tot (Ae2 c_1 count_2 has_3):=by
 unfold Ae2
 repeat' (first | (intro _) | (with_reducible (first | exact Tot.some | exact Dv3 .. | exact AY1 .. | refine Tot.bnd ?_ ?_ | refine Tot.cnd ?_ ?_ | refine Tot.chk ?_ ?_)) | exact B6 _ | (cases ‹_ ⊕ _›))
theorem Dv5 (c_1:C8)(r_2:Int):Tot (AO7 c_1 r_2):=by
 unfold AO7
 repeat' (first | (intro _) | (with_reducible (first | exact Tot.some | exact BK4 .. | refine Tot.bnd ?_ ?_ | refine Tot.cnd ?_ ?_ | refine Tot.chk ?_ ?_)) | exact B6 _ | (cases ‹_ ⊕ _›))
theorem Dv6 (c_1:C8)(r_2:Int):Tot (AI2 c_1 r_2):=by
 unfold AI2
 repeat' (first | (intro _) | (with_reducible (first | exact Tot.some | exact Dv5 .. | exact AY2 .. | refine Tot.bnd ?_ ?_ | refine Tot.cnd ?_ ?_ | refine Tot.chk ?_ ?_)) | exact B6 _ | (cases ‹_ ⊕ _›))
theorem Dv7 (c_1:C8)(speed_2:(Int×Int)):Tot (Ae6 c_1 speed_2):=by
 unfold Ae6
 repeat' (first | (intro _) | (with_reducible (first | exact Tot.some | exact BK5 .. | exact Bt2 .. | exact X8 .. | refine Tot.bnd ?_ ?_ | refine Tot.cnd ?_ ?_ | refine Tot.chk ?_ ?_)) | exact B6 _ | (cases ‹_ ⊕ _›))
theorem Dv8 (c_1:C8)(m_2:Int)(grades_3:(Int×Int)):Tot (Ae7 c_1 m_2 grades_3):=by
 unfold Ae7
 repeat' (first | (intro _) | (with_reducible (first | exact Tot.some | exact AJ1 .. | exact AR4 .. | exact BK5 .. | refine Tot.bnd ?_ ?_ | refine Tot.cnd ?_ ?_ | refine Tot.chk ?_ ?_)) | exact B6 _ | (cases ‹_ ⊕ _›))
theorem Dv9 (speed_1 accel_2:(Int×Int)):Tot (Ae9 speed_1 accel_2):=by
 unfold Ae9
 repeat' (first | (intro _) | (with_reducible (first | exact Tot.some | exact AD1 .. | refine Tot.bnd ?_ ?_ | refine Tot.cnd ?_ ?_ | refine Tot.chk ?_ ?_)) | exact B6 _ | (cases ‹_ ⊕ _›))
theorem Dw0 (way_1:(Int×Int))(pulses_2 n_3:Int):Tot (AQ5 way_1 pulses_2 n_3):=by
 unfold AQ5
 repeat' (first | (intro _) | (with_reducible (first | exact Tot.some | exact l6 .. | exact BK4 .. | exact BK3 .. | refine Tot.bnd ?_ ?_ | refine Tot.cnd ?_ ?_ | refine Tot.chk ?_ ?_)) | exact B6 _ | (cases ‹_ ⊕ _›))
theorem AY4 (circ_1 way_2:(Int×Int))(pulses_3 n_4:Int):Tot (AA1 circ_1 way_2 pulses_3 n_4):=by
 unfold AA1
 repeat' (first | (intro _) | (with_reducible (first | exact Tot.some | exact AR4 .. | exact Dw0 .. | exact X8 .. | refine Tot.bnd ?_ ?_ | refine Tot.cnd ?_ ?_ | refine Tot.chk ?_ ?_)) | exact B6 _ | (cases ‹_ ⊕ _›))
theorem Dw1 (n_1 most_2:Int)(more_3:Bool):Tot (Af8 n_1 most_2 more_3):=by
 unfold Af8
 repeat' (first | (intro _) | (with_reducible (first | exact Tot.some | refine Tot.bnd ?_ ?_ | refine Tot.cnd ?_ ?_ | refine Tot.chk ?_ ?_)) | exact B6 _ | (cases ‹_ ⊕ _›))
theorem Dw2 (w_1:(Int×(Int×Bool)))(c_2:C8)(fit_3:Int)(conflict_4 over_5 accepted_6:Bool):Tot (Af9 w_1 c_2 fit_3 conflict_4 over_5 accepted_6):=by
 unfold Af9
 repeat' (first | (intro _) | (with_reducible (first | exact Tot.some | exact Dw1 .. | refine Tot.bnd ?_ ?_ | refine Tot.cnd ?_ ?_ | refine Tot.chk ?_ ?_)) | exact B6 _ | (cases ‹_ ⊕ _›))
theorem Dw3 (w_1:(Int×(Int×Bool)))(on_2:Bool)(fit_3:Int)(conflict_4:Bool):Tot (Ag2 w_1 on_2 fit_3 conflict_4):=by
 unfold Ag2
 repeat' (first | (intro _) | (with_reducible (first | exact Tot.some | refine Tot.bnd ?_ ?_ | refine Tot.cnd ?_ ?_ | refine Tot.chk ?_ ?_)) | exact B6 _ | (cases ‹_ ⊕ _›))
theorem Dw4 (c_1:C8)(speed_2:(Int×Int)):Tot (Au3 c_1 speed_2):=by
 unfold Au3
 repeat' (first | (intro _) | (with_reducible (first | exact Tot.some | exact AY3 .. | refine Tot.bnd ?_ ?_ | refine Tot.cnd ?_ ?_ | refine Tot.chk ?_ ?_)) | exact B6 _ | (cases ‹_ ⊕ _›))
theorem Dw5 (s_1:(Int×Bool))(c_2:C8)(speed_3:(Int×Int))(fit_4:Int):Tot (Ag0 s_1 c_2 speed_3 fit_4):=by
 unfold Ag0
 repeat' (first | (intro _) | (with_reducible (first | exact Tot.some | exact Dw4 .. | refine Tot.bnd ?_ ?_ | refine Tot.cnd ?_ ?_ | refine Tot.chk ?_ ?_)) | exact B6 _ | (cases ‹_ ⊕ _›))
theorem Dw6 (r_1:AF6)(c_2:C8)(still_3 command_4:Bool)(speed_5:(Int×Int)):Tot (Ag1 r_1 c_2 still_3 command_4 speed_5):=by
 unfold Ag1
 repeat' (first | (intro _) | (with_reducible (first | exact Tot.some | exact AD1 .. | refine Tot.bnd ?_ ?_ | refine Tot.cnd ?_ ?_ | refine Tot.chk ?_ ?_)) | exact B6 _ | (cases ‹_ ⊕ _›))
theorem Dw7 (pos_1 speed_2:(Int×Int)):Tot (Af6 pos_1 speed_2):=by
 unfold Af6
 repeat' (first | (intro _) | (with_reducible (first | exact Tot.some | exact AD1 .. | refine Tot.bnd ?_ ?_ | refine Tot.cnd ?_ ?_ | refine Tot.chk ?_ ?_)) | exact B6 _ | (cases ‹_ ⊕ _›))
theorem Ag9 (c_1:C8)(g_2:Yd3):Tot (Au2 c_1 g_2):=by
 unfold Au2
 repeat' (first | (intro _) | (with_reducible (first | exact Tot.some | refine Tot.bnd ?_ ?_ | refine Tot.cnd ?_ ?_ | refine Tot.chk ?_ ?_)) | exact B6 _ | (cases ‹_ ⊕ _›))
theorem Ah0 (wheel_1 train_2:(Int×Int)):Tot (At8 wheel_1 train_2):=by
 unfold At8
 repeat' (first | (intro _) | (with_reducible (first | exact Tot.some | exact AD2 .. | refine Tot.bnd ?_ ?_ | refine Tot.cnd ?_ ?_ | refine Tot.chk ?_ ?_)) | exact B6 _ | (cases ‹_ ⊕ _›))
theorem Au9 (s_1:(Int×Int))(x_2 x_3 x_4:Int)(x_5 x_6:Bool)(x_7 x_8:Int):Tot (Af0 s_1 x_2 x_3 x_4 x_5 x_6 x_7 x_8):=by
 unfold Af0
 repeat' (first | (intro _) | (with_reducible (first | exact Tot.some | exact X8 .. | refine Tot.bnd ?_ ?_ | refine Tot.cnd ?_ ?_ | refine Tot.chk ?_ ?_)) | exact B6 _ | (cases ‹_ ⊕ _›))
theorem Dw8 (x_1:Int):Tot (Af4 x_1):=by
 unfold Af4
 repeat' (first | (intro _) | (with_reducible (first | exact Tot.some | refine Tot.bnd ?_ ?_ | refine Tot.cnd ?_ ?_ | refine Tot.chk ?_ ?_)) | exact B6 _ | (cases ‹_ ⊕ _›))
theorem Dw9 (x_1 y_2:Int):Tot (Au1 x_1 y_2):=by
 unfold Au1
 repeat' (first | (intro _) | (with_reducible (first | exact Tot.some | exact Dw8 .. | refine Tot.bnd ?_ ?_ | refine Tot.cnd ?_ ?_ | refine Tot.chk ?_ ?_)) | exact B6 _ | (cases ‹_ ⊕ _›))
theorem AY5 (g_1:Yd3)(id_2:Int):Tot (Af5 g_1 id_2):=by
 unfold Af5
 repeat' (first | (intro _) | (with_reducible (first | exact Tot.some | exact Dw9 .. | refine Tot.bnd ?_ ?_ | refine Tot.cnd ?_ ?_ | refine Tot.chk ?_ ?_)) | exact B6 _ | (cases ‹_ ⊕ _›))
theorem Dx0 (c_1:C8):Tot (Ap7 c_1):=by
 unfold Ap7
 repeat' (first | (intro _) | (with_reducible (first | exact Tot.some | refine Tot.bnd ?_ ?_ | refine Tot.cnd ?_ ?_ | refine Tot.chk ?_ ?_)) | exact B6 _ | (cases ‹_ ⊕ _›))
theorem AA2 (x_1 lo_2 hi_3:Int):Tot (P0 x_1 lo_2 hi_3):=by
 unfold P0
 repeat' (first | (intro _) | (with_reducible (first | exact Tot.some | refine Tot.bnd ?_ ?_ | refine Tot.cnd ?_ ?_ | refine Tot.chk ?_ ?_)) | exact B6 _ | (cases ‹_ ⊕ _›))
theorem Dx1 (x_1 x_2 x_3 x_4 x_5 x_6 x_7 x_8 x_9 x_10 x_11 x_12 x_13 x_14:Int):Tot (Ap9 x_1 x_2 x_3 x_4 x_5 x_6 x_7 x_8 x_9 x_10 x_11 x_12 x_13 x_14):=by
 unfold Ap9
 repeat' (first | (intro _) | (with_reducible (first | exact Tot.some | exact AA2 .. | refine Tot.bnd ?_ ?_ | refine Tot.cnd ?_ ?_ | refine Tot.chk ?_ ?_)) | exact B6 _ | (cases ‹_ ⊕ _›))
theorem Dx2 (x_1 x_2 x_3 x_4 x_5 x_6 x_7 x_8 x_9 x_10 x_11 x_12 x_13 x_14:Int):Tot (Aq0 x_1 x_2 x_3 x_4 x_5 x_6 x_7 x_8 x_9 x_10 x_11 x_12 x_13 x_14):=by
 unfold Aq0
 repeat' (first | (intro _) | (with_reducible (first | exact Tot.some | exact AA2 .. | refine Tot.bnd ?_ ?_ | refine Tot.cnd ?_ ?_ | refine Tot.chk ?_ ?_)) | exact B6 _ | (cases ‹_ ⊕ _›))
theorem Dx3 (x_1 x_2 x_3 x_4 x_5 x_6 x_7 x_8 x_9 x_10 x_11 x_12 x_13 x_14:Int):Tot (Aq1 x_1 x_2 x_3 x_4 x_5 x_6 x_7 x_8 x_9 x_10 x_11 x_12 x_13 x_14):=by
 unfold Aq1
 repeat' (first | (intro _) | (with_reducible (first | exact Tot.some | refine Tot.bnd ?_ ?_ | refine Tot.cnd ?_ ?_ | refine Tot.chk ?_ ?_)) | exact B6 _ | (cases ‹_ ⊕ _›))
theorem Dx4 (x_1 x_2 x_3 x_4 x_5 x_6 x_7 x_8 x_9 x_10 x_11 x_12 x_13 x_14:Int):Tot (Aq2 x_1 x_2 x_3 x_4 x_5 x_6 x_7 x_8 x_9 x_10 x_11 x_12 x_13 x_14):=by
 unfold Aq2
 repeat' (first | (intro _) | (with_reducible (first | exact Tot.some | exact AA2 .. | refine Tot.bnd ?_ ?_ | refine Tot.cnd ?_ ?_ | refine Tot.chk ?_ ?_)) | exact B6 _ | (cases ‹_ ⊕ _›))
theorem Dx5 (x_1 x_2 x_3 x_4 x_5 x_6 x_7 x_8 x_9 x_10 x_11 x_12 x_13 x_14:Int):Tot (Aq3 x_1 x_2 x_3 x_4 x_5 x_6 x_7 x_8 x_9 x_10 x_11 x_12 x_13 x_14):=by
 unfold Aq3
 repeat' (first | (intro _) | (with_reducible (first | exact Tot.some | exact AA2 .. | refine Tot.bnd ?_ ?_ | refine Tot.cnd ?_ ?_ | refine Tot.chk ?_ ?_)) | exact B6 _ | (cases ‹_ ⊕ _›))
theorem Dx6 (x_1 x_2 x_3 x_4 x_5 x_6 x_7 x_8 x_9 x_10 x_11 x_12 x_13 x_14:Int):Tot (Aq4 x_1 x_2 x_3 x_4 x_5 x_6 x_7 x_8 x_9 x_10 x_11 x_12 x_13 x_14):=by
 unfold Aq4
 repeat' (first | (intro _) | (with_reducible (first | exact Tot.some | exact AA2 .. | refine Tot.bnd ?_ ?_ | refine Tot.cnd ?_ ?_ | refine Tot.chk ?_ ?_)) | exact B6 _ | (cases ‹_ ⊕ _›))
theorem Dx7 (x_1 x_2 x_3 x_4 x_5 x_6 x_7 x_8 x_9 x_10 x_11 x_12 x_13 x_14:Int):Tot (Aq5 x_1 x_2 x_3 x_4 x_5 x_6 x_7 x_8 x_9 x_10 x_11 x_12 x_13 x_14):=by
 unfold Aq5
 repeat' (first | (intro _) | (with_reducible (first | exact Tot.some | refine Tot.bnd ?_ ?_ | refine Tot.cnd ?_ ?_ | refine Tot.chk ?_ ?_)) | exact B6 _ | (cases ‹_ ⊕ _›))
theorem Dx8 (x_1 x_2 x_3 x_4 x_5 x_6 x_7 x_8 x_9 x_10 x_11 x_12 x_13 x_14:Int):Tot (Aq6 x_1 x_2 x_3 x_4 x_5 x_6 x_7 x_8 x_9 x_10 x_11 x_12 x_13 x_14):=by
 unfold Aq6
 repeat' (first | (intro _) | (with_reducible (first | exact Tot.some | exact AA2 .. | refine Tot.bnd ?_ ?_ | refine Tot.cnd ?_ ?_ | refine Tot.chk ?_ ?_)) | exact B6 _ | (cases ‹_ ⊕ _›))
theorem Dx9 (x_1 x_2 x_3 x_4 x_5 x_6 x_7 x_8 x_9 x_10 x_11 x_12 x_13 x_14:Int):Tot (Aq7 x_1 x_2 x_3 x_4 x_5 x_6 x_7 x_8 x_9 x_10 x_11 x_12 x_13 x_14):=by
 unfold Aq7
 repeat' (first | (intro _) | (with_reducible (first | exact Tot.some | exact AA2 .. | refine Tot.bnd ?_ ?_ | refine Tot.cnd ?_ ?_ | refine Tot.chk ?_ ?_)) | exact B6 _ | (cases ‹_ ⊕ _›))
theorem Dy0 (c_1:C8):Tot (AN4 c_1):=by
 unfold AN4
 repeat' (first | (intro _) | (with_reducible (first | exact Tot.some | exact BK3 .. | refine Tot.bnd ?_ ?_ | refine Tot.cnd ?_ ?_ | refine Tot.chk ?_ ?_)) | exact B6 _ | (cases ‹_ ⊕ _›))
theorem Dy1 (x_1 x_2 x_3 x_4 x_5 x_6 x_7 x_8 x_9 x_10 x_11 x_12 x_13 x_14:Int):Tot (AN5 x_1 x_2 x_3 x_4 x_5 x_6 x_7 x_8 x_9 x_10 x_11 x_12 x_13 x_14):=by
 unfold AN5
 repeat' (first | (intro _) | (with_reducible (first | exact Tot.some | exact Dy0 .. | exact AA2 .. | refine Tot.bnd ?_ ?_ | refine Tot.cnd ?_ ?_ | refine Tot.chk ?_ ?_)) | exact B6 _ | (cases ‹_ ⊕ _›))
theorem Dy2 (x_1 x_2 x_3 x_4 x_5 x_6 x_7 x_8 x_9 x_10 x_11 x_12 x_13 x_14:Int):Tot (Ar5 x_1 x_2 x_3 x_4 x_5 x_6 x_7 x_8 x_9 x_10 x_11 x_12 x_13 x_14):=by
 unfold Ar5
 repeat' (first | (intro _) | (with_reducible (first | exact Tot.some | exact AA2 .. | refine Tot.bnd ?_ ?_ | refine Tot.cnd ?_ ?_ | refine Tot.chk ?_ ?_)) | exact B6 _ | (cases ‹_ ⊕ _›))
theorem Dy3 (x_1 x_2 x_3 x_4 x_5 x_6 x_7 x_8 x_9 x_10 x_11 x_12 x_13 x_14:Int):Tot (Ar6 x_1 x_2 x_3 x_4 x_5 x_6 x_7 x_8 x_9 x_10 x_11 x_12 x_13 x_14):=by
 unfold Ar6
 repeat' (first | (intro _) | (with_reducible (first | exact Tot.some | exact AA2 .. | refine Tot.bnd ?_ ?_ | refine Tot.cnd ?_ ?_ | refine Tot.chk ?_ ?_)) | exact B6 _ | (cases ‹_ ⊕ _›))
theorem Dy4 (c:Int×(Int×(Int×(Int×(Int×(Int×(Int×(Int×(Int×(Int×(Int×(Int×(Int×Int))))))))))))):Tot (AN6 c):=by unfold AN6;exact Tot.bnd (Dx0 _) fun _=>Tot.bnd (Dx1 ..) fun _=>Tot.cnd Tot.some (Tot.bnd (Dx2 ..) fun _=>Tot.cnd Tot.some (Tot.bnd (Dx3 ..) fun _=>Tot.cnd Tot.some (Tot.bnd (Dx4 ..) fun _=>Tot.cnd Tot.some (Tot.bnd (Dx5 ..) fun _=>Tot.cnd Tot.some (Tot.bnd (Dx6 ..) fun _=>Tot.cnd Tot.some (Tot.bnd (Dx7 ..) fun _=>Tot.cnd Tot.some (Tot.bnd (Dx8 ..) fun _=>Tot.cnd Tot.some (Tot.bnd (Dx9 ..) fun _=>Tot.cnd Tot.some (Tot.bnd (Dy1 ..) fun _=>Tot.cnd Tot.some (Tot.bnd (Dy2 ..) fun _=>Tot.cnd Tot.some (Tot.bnd (Dy3 ..) fun _=>Tot.cnd Tot.some (Tot.some))))))))))))
theorem Dy5 (c_1:C8)(g_2:Yd3):Tot (Ar7 c_1 g_2):=by
 unfold Ar7
 repeat' (first | (intro _) | (with_reducible (first | exact Tot.some | refine Tot.bnd ?_ ?_ | refine Tot.cnd ?_ ?_ | refine Tot.chk ?_ ?_)) | exact B6 _ | (cases ‹_ ⊕ _›))
end Go.Proofs.YthfjpkdadjemcaaGreat
