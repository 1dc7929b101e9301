/- What always has an answer. -/
import Derived.Test.YthfjpkdadjemcaaGreatFnsF3
import Derived.Test.YthfjpkdadjemcaaGreatLoopF
set_option linter.unusedSimpArgs false
set_option linter.unusedVariables false
namespace Go.Proofs.YthfjpkdadjemcaaGreat
open Go Go.RowKit
def Wp {α:Type}(a:Option α)(Q:α→Prop):Prop:=∃y,a=some y∧Q y
def Tot {α:Type}(a:Option α):Prop:=∃y,a=some y
section
variable {α β S X:Type}
theorem Wp.some {y:α}{Q:α→Prop}(h:Q y):Wp (some y) Q:=⟨y,rfl,h⟩
theorem Wp.bnd {a:Option α}{f:α→Option β}{Q:α→Prop}{R:β→Prop}(h:Wp a Q)(h2:∀x,Q x→Wp (f x) R):Wp (Option.bind a f) R:=by obtain⟨y,rfl,hy⟩:=h;exact h2 y hy
theorem Wp.chk {c:Bool}{a:Option α}{Q:α→Prop}(hc:c=true)(h:Wp a Q):Wp (chk none c a) Q:=by subst hc;exact h
theorem Wp.cnd {c:Bool}{a b:Option α}{Q:α→Prop}(h:c=true→Wp a Q)(h2:c=false→Wp b Q):Wp (cond c a b) Q:=by
 cases c
 ·exact h2 rfl
 ·exact h rfl
theorem Wp.mono {a:Option α}{Q R:α→Prop}(h:Wp a Q)(h2:∀x,Q x→R x):Wp a R:=by obtain⟨y,h3,hy⟩:=h;exact⟨y,h3,h2 y hy⟩
theorem Wp.loop {f:S→Option (S ⊕ X)}{Q:X→Prop}(I:S→Prop)(μ:S→Nat)(h:∀s,I s→Wp (f s) fun z=>match z with | .inl s'=>I s'∧μ s'<μ s | .inr x=>Q x){s:S}(hs:I s):Wp (LP.lp f s) Q:=by
 obtain⟨x,h1,h2⟩:=EF6 I μ Q (fun s hI=>by
  obtain⟨z,h1,h2⟩:=h s hI;cases z with
  |inl s'=>exact .inr ⟨s',h1,h2⟩
  |inr x=>exact .inl ⟨x,h1,h2⟩) s hs
 exact⟨x,h1,h2⟩
theorem Tot.some {y:α}:Tot (some y):=⟨y,rfl⟩
theorem Tot.bnd {a:Option α}{f:α→Option β}(h:Tot a)(h2:∀x,Tot (f x)):Tot (Option.bind a f):=by obtain⟨y,rfl⟩:=h;exact h2 y
theorem Tot.chk {c:Bool}{a:Option α}(hc:c=true)(h:Tot a):Tot (chk none c a):=by subst hc;exact h
theorem Tot.cnd {c:Bool}{a b:Option α}(h:Tot a)(h2:Tot b):Tot (cond c a b):=by
 cases c
 ·exact h2
 ·exact h
theorem Tot.wp {a:Option α}(h:Tot a):Wp a fun y=>a=Option.some y:=by obtain⟨y,hy⟩:=h;exact⟨y,hy,hy⟩
theorem Wp.tot {a:Option α}{Q:α→Prop}(h:Wp a Q):Tot a:=by obtain⟨y,hy,_⟩:=h;exact⟨y,hy⟩
theorem Tot.loop {f:S→Option (S ⊕ X)}(I:S→Prop)(μ:S→Nat)(h:∀s,I s→Wp (f s) fun z=>match z with | .inl s'=>I s'∧μ s'<μ s | .inr x=>True){s:S}(hs:I s):Tot (LP.lp f s):=(Wp.loop (Q:=fun _=>True) I μ h hs).tot
end
theorem B5 (n:Int):decide ((0:Int)≤IntKind.wrap .u64 n)=true:=by exact decide_eq_true (BY6 .u64 n).1
theorem CB1 (i:Int)(h0:0≤i)(h1:i≤1000):IntKind.wrap .i64 (i-1)=i-1:=by rw[IntKind.wrap_i64];omega
theorem AB0 (s_1:(Int×Int)):Tot (T8 s_1):=by
 unfold T8
 repeat' (first | (intro _) | (with_reducible (first | exact Tot.some | refine Tot.bnd ?_ ?_ | refine Tot.cnd ?_ ?_ | refine Tot.chk ?_ ?_)) | exact B5 _ | (cases ‹_ ⊕ _›))
theorem EF7 (a_1:Int):Tot (Ab0 a_1):=by
 unfold Ab0
 repeat' (first | (intro _) | (with_reducible (first | exact Tot.some | refine Tot.bnd ?_ ?_ | refine Tot.cnd ?_ ?_ | refine Tot.chk ?_ ?_)) | exact B5 _ | (cases ‹_ ⊕ _›))
theorem AV7 (a_1 b_2:Int):Tot (Ab1 a_1 b_2):=by
 unfold Ab1
 repeat' (first | (intro _) | (with_reducible (first | exact Tot.some | refine Tot.bnd ?_ ?_ | refine Tot.cnd ?_ ?_ | refine Tot.chk ?_ ?_)) | exact B5 _ | (cases ‹_ ⊕ _›))
theorem CB2 (x_1:(Int×Int))(n_2:Int):Tot (Aj0 x_1 n_2):=by
 unfold Aj0
 repeat' (first | (intro _) | (with_reducible (first | exact Tot.some | refine Tot.bnd ?_ ?_ | refine Tot.cnd ?_ ?_ | refine Tot.chk ?_ ?_)) | exact B5 _ | (cases ‹_ ⊕ _›))
theorem EF8 (x_1:(Int×Int))(n_2:Int):Tot (Aw5 x_1 n_2):=by
 unfold Aw5
 repeat' (first | (intro _) | (with_reducible (first | exact Tot.some | refine Tot.bnd ?_ ?_ | refine Tot.cnd ?_ ?_ | refine Tot.chk ?_ ?_)) | exact B5 _ | (cases ‹_ ⊕ _›))
theorem AN4 (x_1 y_2:(Int×Int)):Tot (AR8 x_1 y_2):=by
 unfold AR8
 repeat' (first | (intro _) | (with_reducible (first | exact Tot.some | refine Tot.bnd ?_ ?_ | refine Tot.cnd ?_ ?_ | refine Tot.chk ?_ ?_)) | exact B5 _ | (cases ‹_ ⊕ _›))
theorem EF9 (x_1 y_2:(Int×Int)):Tot (Aw7 x_1 y_2):=by
 unfold Aw7
 repeat' (first | (intro _) | (with_reducible (first | exact Tot.some | exact AN4 .. | refine Tot.bnd ?_ ?_ | refine Tot.cnd ?_ ?_ | refine Tot.chk ?_ ?_)) | exact B5 _ | (cases ‹_ ⊕ _›))
theorem EG0 (x:Int×Int)(d:Int):Tot (AR9 x d):=by
 unfold AR9;refine Tot.cnd Tot.some (Tot.bnd ?_ fun _=>Tot.some)
 refine Tot.loop (fun s => -1≤s.2.2.2.2∧s.2.2.2.2≤127) (fun s=>(s.2.2.2.2+1).toNat) ?_ (by decide)
 rintro⟨a,b,c,d',i⟩ ⟨h0,h1⟩
 refine Wp.cnd (fun hc=> ?_) fun _=>Wp.some trivial
 have hi:0≤i:=by simpa using hc
 have hw:=CB1 i hi (by have:i≤127:=h1;omega)
 refine Wp.bnd (CB2 _ _).wp fun _ _=>Wp.bnd (EF8 _ _).wp fun _ _=>Wp.bnd (CB2 _ _).wp fun _ _=>Wp.bnd (AN4 _ _).wp fun _ _=>Wp.bnd (Q:=fun _=>True) ?_ fun _ _=>Wp.some ?_
 ·refine Wp.cnd (fun _=>Wp.bnd (EF9 _ _).wp fun _ _=>Wp.some trivial) fun _=>Wp.some trivial
 ·simp only[hw]
  exact⟨⟨by omega,by have:i≤127:=h1;omega⟩,by omega⟩
theorem EG1 (x_1 y_2:(Int×Int)):Tot (Aw8 x_1 y_2):=by
 unfold Aw8
 repeat' (first | (intro _) | (with_reducible (first | exact Tot.some | refine Tot.bnd ?_ ?_ | refine Tot.cnd ?_ ?_ | refine Tot.chk ?_ ?_)) | exact B5 _ | (cases ‹_ ⊕ _›))
theorem EG2 (x_1:(Int×Int))(below_2:Bool):Tot (Aw9 x_1 below_2):=by
 unfold Aw9
 repeat' (first | (intro _) | (with_reducible (first | exact Tot.some | exact AN4 .. | refine Tot.bnd ?_ ?_ | refine Tot.cnd ?_ ?_ | refine Tot.chk ?_ ?_)) | exact B5 _ | (cases ‹_ ⊕ _›))
theorem CB3 (a_1 b_2 c_3:Int)(up_4:Bool):Tot (AK8 a_1 b_2 c_3 up_4):=by
 unfold AK8
 repeat' (first | (intro _) | (with_reducible (first | exact Tot.some | exact EF7 .. | exact AV7 .. | exact EG0 .. | exact EG1 .. | exact EG2 .. | refine Tot.bnd ?_ ?_ | refine Tot.cnd ?_ ?_ | refine Tot.chk ?_ ?_)) | exact B5 _ | (cases ‹_ ⊕ _›))
theorem BR9 (a_1 b_2 c_3:Int):Tot (AG0 a_1 b_2 c_3):=by
 unfold AG0
 repeat' (first | (intro _) | (with_reducible (first | exact Tot.some | exact CB3 .. | refine Tot.bnd ?_ ?_ | refine Tot.cnd ?_ ?_ | refine Tot.chk ?_ ?_)) | exact B5 _ | (cases ‹_ ⊕ _›))
theorem BS0 (a_1 b_2 c_3:Int):Tot (AG8 a_1 b_2 c_3):=by
 unfold AG8
 repeat' (first | (intro _) | (with_reducible (first | exact Tot.some | exact CB3 .. | refine Tot.bnd ?_ ?_ | refine Tot.cnd ?_ ?_ | refine Tot.chk ?_ ?_)) | exact B5 _ | (cases ‹_ ⊕ _›))
theorem AN5 (x_1:Int):Tot (AD0 x_1):=by
 unfold AD0
 repeat' (first | (intro _) | (with_reducible (first | exact Tot.some | refine Tot.bnd ?_ ?_ | refine Tot.cnd ?_ ?_ | refine Tot.chk ?_ ?_)) | exact B5 _ | (cases ‹_ ⊕ _›))
theorem AV8 (s_1 t_2:(Int×Int)):Tot (AL0 s_1 t_2):=by
 unfold AL0
 repeat' (first | (intro _) | (with_reducible (first | exact Tot.some | exact AB0 .. | refine Tot.bnd ?_ ?_ | refine Tot.cnd ?_ ?_ | refine Tot.chk ?_ ?_)) | exact B5 _ | (cases ‹_ ⊕ _›))
theorem CB4 (c_1:C8):Tot (AS3 c_1):=by
 unfold AS3
 repeat' (first | (intro _) | (with_reducible (first | exact Tot.some | refine Tot.bnd ?_ ?_ | refine Tot.cnd ?_ ?_ | refine Tot.chk ?_ ?_)) | exact B5 _ | (cases ‹_ ⊕ _›))
theorem CB5 (c_1:C8):Tot (Ab4 c_1):=by
 unfold Ab4
 repeat' (first | (intro _) | (with_reducible (first | exact Tot.some | refine Tot.bnd ?_ ?_ | refine Tot.cnd ?_ ?_ | refine Tot.chk ?_ ?_)) | exact B5 _ | (cases ‹_ ⊕ _›))
theorem BA6 (a_1 b_2:Int):Tot (AG6 a_1 b_2):=by
 unfold AG6
 repeat' (first | (intro _) | (with_reducible (first | exact Tot.some | refine Tot.bnd ?_ ?_ | refine Tot.cnd ?_ ?_ | refine Tot.chk ?_ ?_)) | exact B5 _ | (cases ‹_ ⊕ _›))
theorem CB6 (n_1:Int)(ok_2 below_3:Bool):Tot (Ak2 n_1 ok_2 below_3):=by
 unfold Ak2
 repeat' (first | (intro _) | (with_reducible (first | exact Tot.some | refine Tot.bnd ?_ ?_ | refine Tot.cnd ?_ ?_ | refine Tot.chk ?_ ?_)) | exact B5 _ | (cases ‹_ ⊕ _›))
theorem Ad3 (a_1 b_2:Int):Tot (Ac3 a_1 b_2):=by
 unfold Ac3
 repeat' (first | (intro _) | (with_reducible (first | exact Tot.some | exact BA6 .. | exact CB6 .. | refine Tot.bnd ?_ ?_ | refine Tot.cnd ?_ ?_ | refine Tot.chk ?_ ?_)) | exact B5 _ | (cases ‹_ ⊕ _›))
theorem BA7 (a_1 b_2:Int):Tot (AM6 a_1 b_2):=by
 unfold AM6
 repeat' (first | (intro _) | (with_reducible (first | exact Tot.some | refine Tot.bnd ?_ ?_ | refine Tot.cnd ?_ ?_ | refine Tot.chk ?_ ?_)) | exact B5 _ | (cases ‹_ ⊕ _›))
theorem Am2 (a_1 b_2:Int):Tot (Az9 a_1 b_2):=by
 unfold Az9
 repeat' (first | (intro _) | (with_reducible (first | exact Tot.some | exact BA7 .. | exact CB6 .. | refine Tot.bnd ?_ ?_ | refine Tot.cnd ?_ ?_ | refine Tot.chk ?_ ?_)) | exact B5 _ | (cases ‹_ ⊕ _›))
theorem EG3 (a_1:Int):Tot (Az4 a_1):=by
 unfold Az4
 repeat' (first | (intro _) | (with_reducible (first | exact Tot.some | exact BA7 .. | refine Tot.bnd ?_ ?_ | refine Tot.cnd ?_ ?_ | refine Tot.chk ?_ ?_)) | exact B5 _ | (cases ‹_ ⊕ _›))
theorem EG4 (a_1:Int):Tot (Al1 a_1):=by
 unfold Al1
 repeat' (first | (intro _) | (with_reducible (first | exact Tot.some | exact EG3 .. | refine Tot.bnd ?_ ?_ | refine Tot.cnd ?_ ?_ | refine Tot.chk ?_ ?_)) | exact B5 _ | (cases ‹_ ⊕ _›))
theorem EG5 (a_1 b_2:Int):Tot (Az2 a_1 b_2):=by
 unfold Az2
 repeat' (first | (intro _) | (with_reducible (first | exact Tot.some | refine Tot.bnd ?_ ?_ | refine Tot.cnd ?_ ?_ | refine Tot.chk ?_ ?_)) | exact B5 _ | (cases ‹_ ⊕ _›))
theorem Am3 (x_1 lo_2 hi_3:Int):Tot (Az5 x_1 lo_2 hi_3):=by
 unfold Az5
 repeat' (first | (intro _) | (with_reducible (first | exact Tot.some | refine Tot.bnd ?_ ?_ | refine Tot.cnd ?_ ?_ | refine Tot.chk ?_ ?_)) | exact B5 _ | (cases ‹_ ⊕ _›))
theorem BA8 (lo_1:Int)(a_2:Bool)(hi_3:Int)(b_4:Bool):Tot (AT4 lo_1 a_2 hi_3 b_4):=by
 unfold AT4
 repeat' (first | (intro _) | (with_reducible (first | exact Tot.some | refine Tot.bnd ?_ ?_ | refine Tot.cnd ?_ ?_ | refine Tot.chk ?_ ?_)) | exact B5 _ | (cases ‹_ ⊕ _›))
theorem BS1 (s_1:(Int×Int))(far_2:Int):Tot (Ac4 s_1 far_2):=by
 unfold Ac4
 repeat' (first | (intro _) | (with_reducible (first | exact Tot.some | exact AB0 .. | exact BA7 .. | exact BA6 .. | exact BA8 .. | refine Tot.bnd ?_ ?_ | refine Tot.cnd ?_ ?_ | refine Tot.chk ?_ ?_)) | exact B5 _ | (cases ‹_ ⊕ _›))
theorem Ad4 (x_1 far_2:Int):Tot (Ak5 x_1 far_2):=by
 unfold Ak5
 repeat' (first | (intro _) | (with_reducible (first | exact Tot.some | exact AN5 .. | exact BS1 .. | refine Tot.bnd ?_ ?_ | refine Tot.cnd ?_ ?_ | refine Tot.chk ?_ ?_)) | exact B5 _ | (cases ‹_ ⊕ _›))
theorem p7 (s_1 t_2:(Int×Int)):Tot (AA9 s_1 t_2):=by
 unfold AA9
 repeat' (first | (intro _) | (with_reducible (first | exact Tot.some | exact BA8 .. | refine Tot.bnd ?_ ?_ | refine Tot.cnd ?_ ?_ | refine Tot.chk ?_ ?_)) | exact B5 _ | (cases ‹_ ⊕ _›))
theorem AH4 (s_1 t_2:(Int×Int)):Tot (AH1 s_1 t_2):=by
 unfold AH1
 repeat' (first | (intro _) | (with_reducible (first | exact Tot.some | exact AB0 .. | exact BA6 .. | exact BA8 .. | refine Tot.bnd ?_ ?_ | refine Tot.cnd ?_ ?_ | refine Tot.chk ?_ ?_)) | exact B5 _ | (cases ‹_ ⊕ _›))
theorem AV9 (s_1 t_2:(Int×Int)):Tot (AU0 s_1 t_2):=by
 unfold AU0
 repeat' (first | (intro _) | (with_reducible (first | exact Tot.some | exact AB0 .. | exact BA7 .. | exact BA8 .. | refine Tot.bnd ?_ ?_ | refine Tot.cnd ?_ ?_ | refine Tot.chk ?_ ?_)) | exact B5 _ | (cases ‹_ ⊕ _›))
theorem Ad5 (s_1 t_2:(Int×Int)):Tot (Al2 s_1 t_2):=by
 unfold Al2
 repeat' (first | (intro _) | (with_reducible (first | exact Tot.some | exact AB0 .. | refine Tot.bnd ?_ ?_ | refine Tot.cnd ?_ ?_ | refine Tot.chk ?_ ?_)) | exact B5 _ | (cases ‹_ ⊕ _›))
theorem AH5 (s_1:(Int×Int)):Tot (AD5 s_1):=by
 unfold AD5
 repeat' (first | (intro _) | (with_reducible (first | exact Tot.some | exact EG5 .. | refine Tot.bnd ?_ ?_ | refine Tot.cnd ?_ ?_ | refine Tot.chk ?_ ?_)) | exact B5 _ | (cases ‹_ ⊕ _›))
theorem EG6 (s_1:(Int×Int))(k_2 by_3:Int):Tot (AM5 s_1 k_2 by_3):=by
 unfold AM5
 repeat' (first | (intro _) | (with_reducible (first | exact Tot.some | exact AB0 .. | exact BS0 .. | exact BR9 .. | refine Tot.bnd ?_ ?_ | refine Tot.cnd ?_ ?_ | refine Tot.chk ?_ ?_)) | exact B5 _ | (cases ‹_ ⊕ _›))
theorem EG7 (d_1:Int)(circ_2:(Int×Int))(pulses_3:Int):Tot (AG9 d_1 circ_2 pulses_3):=by
 unfold AG9
 repeat' (first | (intro _) | (with_reducible (first | exact Tot.some | exact EG6 .. | exact AV8 .. | refine Tot.bnd ?_ ?_ | refine Tot.cnd ?_ ?_ | refine Tot.chk ?_ ?_)) | exact B5 _ | (cases ‹_ ⊕ _›))
theorem EG8 (from_1 to_2:Int):Tot (AM4 from_1 to_2):=by
 unfold AM4
 repeat' (first | (intro _) | (with_reducible (first | exact Tot.some | refine Tot.bnd ?_ ?_ | refine Tot.cnd ?_ ?_ | refine Tot.chk ?_ ?_)) | exact B5 _ | (cases ‹_ ⊕ _›))
theorem EG9 (c_1:(Bool×(Int×Int)))(count_2:Int)(has_3:Bool):Tot (AG7 c_1 count_2 has_3):=by
 unfold AG7
 repeat' (first | (intro _) | (with_reducible (first | exact Tot.some | exact EG8 .. | exact Ad3 .. | refine Tot.bnd ?_ ?_ | refine Tot.cnd ?_ ?_ | refine Tot.chk ?_ ?_)) | exact B5 _ | (cases ‹_ ⊕ _›))
theorem EH0 (c_1:C8)(r_2:Int):Tot (AT3 c_1 r_2):=by
 unfold AT3
 repeat' (first | (intro _) | (with_reducible (first | exact Tot.some | exact BS0 .. | refine Tot.bnd ?_ ?_ | refine Tot.cnd ?_ ?_ | refine Tot.chk ?_ ?_)) | exact B5 _ | (cases ‹_ ⊕ _›))
theorem EH1 (c_1:C8)(r_2:Int):Tot (AM7 c_1 r_2):=by
 unfold AM7
 repeat' (first | (intro _) | (with_reducible (first | exact Tot.some | exact EH0 .. | exact Ad4 .. | refine Tot.bnd ?_ ?_ | refine Tot.cnd ?_ ?_ | refine Tot.chk ?_ ?_)) | exact B5 _ | (cases ‹_ ⊕ _›))
theorem EH2 (c_1:C8)(speed_2:(Int×Int)):Tot (Ac5 c_1 speed_2):=by
 unfold Ac5
 repeat' (first | (intro _) | (with_reducible (first | exact Tot.some | exact BS1 .. | exact CB5 .. | exact p7 .. | refine Tot.bnd ?_ ?_ | refine Tot.cnd ?_ ?_ | refine Tot.chk ?_ ?_)) | exact B5 _ | (cases ‹_ ⊕ _›))
theorem EH3 (c_1:C8)(m_2:Int)(grades_3:(Int×Int)):Tot (Ak6 c_1 m_2 grades_3):=by
 unfold Ak6
 repeat' (first | (intro _) | (with_reducible (first | exact Tot.some | exact AN5 .. | exact AV9 .. | exact BS1 .. | refine Tot.bnd ?_ ?_ | refine Tot.cnd ?_ ?_ | refine Tot.chk ?_ ?_)) | exact B5 _ | (cases ‹_ ⊕ _›))
theorem EH4 (speed_1 accel_2:(Int×Int)):Tot (Ak8 speed_1 accel_2):=by
 unfold Ak8
 repeat' (first | (intro _) | (with_reducible (first | exact Tot.some | exact AH4 .. | refine Tot.bnd ?_ ?_ | refine Tot.cnd ?_ ?_ | refine Tot.chk ?_ ?_)) | exact B5 _ | (cases ‹_ ⊕ _›))
theorem EH5 (way_1:(Int×Int))(pulses_2 n_3:Int):Tot (AV0 way_1 pulses_2 n_3):=by
 unfold AV0
 repeat' (first | (intro _) | (with_reducible (first | exact Tot.some | exact AB0 .. | exact BS0 .. | exact BR9 .. | refine Tot.bnd ?_ ?_ | refine Tot.cnd ?_ ?_ | refine Tot.chk ?_ ?_)) | exact B5 _ | (cases ‹_ ⊕ _›))
theorem Ad6 (circ_1 way_2:(Int×Int))(pulses_3 n_4:Int):Tot (AD6 circ_1 way_2 pulses_3 n_4):=by
 unfold AD6
 repeat' (first | (intro _) | (with_reducible (first | exact Tot.some | exact AV9 .. | exact EH5 .. | exact p7 .. | refine Tot.bnd ?_ ?_ | refine Tot.cnd ?_ ?_ | refine Tot.chk ?_ ?_)) | exact B5 _ | (cases ‹_ ⊕ _›))
theorem EH6 (n_1 most_2:Int)(more_3:Bool):Tot (Al7 n_1 most_2 more_3):=by
 unfold Al7
 repeat' (first | (intro _) | (with_reducible (first | exact Tot.some | refine Tot.bnd ?_ ?_ | refine Tot.cnd ?_ ?_ | refine Tot.chk ?_ ?_)) | exact B5 _ | (cases ‹_ ⊕ _›))
theorem EH7 (w_1:(Int×(Int×Bool)))(c_2:C8)(fit_3:Int)(conflict_4 over_5 accepted_6:Bool):Tot (Ac8 w_1 c_2 fit_3 conflict_4 over_5 accepted_6):=by
 unfold Ac8
 repeat' (first | (intro _) | (with_reducible (first | exact Tot.some | exact EH6 .. | refine Tot.bnd ?_ ?_ | refine Tot.cnd ?_ ?_ | refine Tot.chk ?_ ?_)) | exact B5 _ | (cases ‹_ ⊕ _›))
theorem EH8 (w_1:(Int×(Int×Bool)))(on_2:Bool)(fit_3:Int)(conflict_4:Bool):Tot (Al8 w_1 on_2 fit_3 conflict_4):=by
 unfold Al8
 repeat' (first | (intro _) | (with_reducible (first | exact Tot.some | refine Tot.bnd ?_ ?_ | refine Tot.cnd ?_ ?_ | refine Tot.chk ?_ ?_)) | exact B5 _ | (cases ‹_ ⊕ _›))
theorem EH9 (c_1:C8)(speed_2:(Int×Int)):Tot (Az8 c_1 speed_2):=by
 unfold Az8
 repeat' (first | (intro _) | (with_reducible (first | exact Tot.some | exact Ad5 .. | refine Tot.bnd ?_ ?_ | refine Tot.cnd ?_ ?_ | refine Tot.chk ?_ ?_)) | exact B5 _ | (cases ‹_ ⊕ _›))
theorem EI0 (s_1:(Int×Bool))(c_2:C8)(speed_3:(Int×Int))(fit_4:Int):Tot (Ac9 s_1 c_2 speed_3 fit_4):=by
 unfold Ac9
 repeat' (first | (intro _) | (with_reducible (first | exact Tot.some | exact EH9 .. | refine Tot.bnd ?_ ?_ | refine Tot.cnd ?_ ?_ | refine Tot.chk ?_ ?_)) | exact B5 _ | (cases ‹_ ⊕ _›))
theorem EI1 (r_1:AK1)(c_2:C8)(still_3 command_4:Bool)(speed_5:(Int×Int)):Tot (Ad0 r_1 c_2 still_3 command_4 speed_5):=by
 unfold Ad0
 repeat' (first | (intro _) | (with_reducible (first | exact Tot.some | exact AH4 .. | refine Tot.bnd ?_ ?_ | refine Tot.cnd ?_ ?_ | refine Tot.chk ?_ ?_)) | exact B5 _ | (cases ‹_ ⊕ _›))
theorem EI2 (pos_1 speed_2:(Int×Int)):Tot (Al5 pos_1 speed_2):=by
 unfold Al5
 repeat' (first | (intro _) | (with_reducible (first | exact Tot.some | exact AH4 .. | refine Tot.bnd ?_ ?_ | refine Tot.cnd ?_ ?_ | refine Tot.chk ?_ ?_)) | exact B5 _ | (cases ‹_ ⊕ _›))
theorem Am4 (c_1:C8)(g_2:Yd3):Tot (Az7 c_1 g_2):=by
 unfold Az7
 repeat' (first | (intro _) | (with_reducible (first | exact Tot.some | refine Tot.bnd ?_ ?_ | refine Tot.cnd ?_ ?_ | refine Tot.chk ?_ ?_)) | exact B5 _ | (cases ‹_ ⊕ _›))
theorem Am5 (wheel_1 train_2:(Int×Int)):Tot (Az3 wheel_1 train_2):=by
 unfold Az3
 repeat' (first | (intro _) | (with_reducible (first | exact Tot.some | exact AH5 .. | refine Tot.bnd ?_ ?_ | refine Tot.cnd ?_ ?_ | refine Tot.chk ?_ ?_)) | exact B5 _ | (cases ‹_ ⊕ _›))
theorem BA9 (s_1:(Int×Int))(x_2 x_3 x_4:Int)(x_5 x_6:Bool)(x_7 x_8:Int):Tot (Ak9 s_1 x_2 x_3 x_4 x_5 x_6 x_7 x_8):=by
 unfold Ak9
 repeat' (first | (intro _) | (with_reducible (first | exact Tot.some | exact p7 .. | refine Tot.bnd ?_ ?_ | refine Tot.cnd ?_ ?_ | refine Tot.chk ?_ ?_)) | exact B5 _ | (cases ‹_ ⊕ _›))
theorem EI3 (x_1:Int):Tot (Al3 x_1):=by
 unfold Al3
 repeat' (first | (intro _) | (with_reducible (first | exact Tot.some | refine Tot.bnd ?_ ?_ | refine Tot.cnd ?_ ?_ | refine Tot.chk ?_ ?_)) | exact B5 _ | (cases ‹_ ⊕ _›))
theorem EI4 (x_1 y_2:Int):Tot (Az6 x_1 y_2):=by
 unfold Az6
 repeat' (first | (intro _) | (with_reducible (first | exact Tot.some | exact EI3 .. | refine Tot.bnd ?_ ?_ | refine Tot.cnd ?_ ?_ | refine Tot.chk ?_ ?_)) | exact B5 _ | (cases ‹_ ⊕ _›))
theorem Ad7 (g_1:Yd3)(id_2:Int):Tot (Al4 g_1 id_2):=by
 unfold Al4
 repeat' (first | (intro _) | (with_reducible (first | exact Tot.some | exact EI4 .. | refine Tot.bnd ?_ ?_ | refine Tot.cnd ?_ ?_ | refine Tot.chk ?_ ?_)) | exact B5 _ | (cases ‹_ ⊕ _›))
theorem EI5 (c_1:C8):Tot (Av3 c_1):=by
 unfold Av3
 repeat' (first | (intro _) | (with_reducible (first | exact Tot.some | refine Tot.bnd ?_ ?_ | refine Tot.cnd ?_ ?_ | refine Tot.chk ?_ ?_)) | exact B5 _ | (cases ‹_ ⊕ _›))
theorem AD7 (x_1 lo_2 hi_3:Int):Tot (Q4 x_1 lo_2 hi_3):=by
 unfold Q4
 repeat' (first | (intro _) | (with_reducible (first | exact Tot.some | refine Tot.bnd ?_ ?_ | refine Tot.cnd ?_ ?_ | refine Tot.chk ?_ ?_)) | exact B5 _ | (cases ‹_ ⊕ _›))
theorem EI6 (x_1 x_2 x_3 x_4 x_5 x_6 x_7 x_8 x_9 x_10 x_11 x_12 x_13 x_14:Int):Tot (Av5 x_1 x_2 x_3 x_4 x_5 x_6 x_7 x_8 x_9 x_10 x_11 x_12 x_13 x_14):=by
 unfold Av5
 repeat' (first | (intro _) | (with_reducible (first | exact Tot.some | exact AD7 .. | refine Tot.bnd ?_ ?_ | refine Tot.cnd ?_ ?_ | refine Tot.chk ?_ ?_)) | exact B5 _ | (cases ‹_ ⊕ _›))
theorem EI7 (x_1 x_2 x_3 x_4 x_5 x_6 x_7 x_8 x_9 x_10 x_11 x_12 x_13 x_14:Int):Tot (Av6 x_1 x_2 x_3 x_4 x_5 x_6 x_7 x_8 x_9 x_10 x_11 x_12 x_13 x_14):=by
 unfold Av6
 repeat' (first | (intro _) | (with_reducible (first | exact Tot.some | exact AD7 .. | refine Tot.bnd ?_ ?_ | refine Tot.cnd ?_ ?_ | refine Tot.chk ?_ ?_)) | exact B5 _ | (cases ‹_ ⊕ _›))
theorem EI8 (x_1 x_2 x_3 x_4 x_5 x_6 x_7 x_8 x_9 x_10 x_11 x_12 x_13 x_14:Int):Tot (Av7 x_1 x_2 x_3 x_4 x_5 x_6 x_7 x_8 x_9 x_10 x_11 x_12 x_13 x_14):=by
 unfold Av7
 repeat' (first | (intro _) | (with_reducible (first | exact Tot.some | refine Tot.bnd ?_ ?_ | refine Tot.cnd ?_ ?_ | refine Tot.chk ?_ ?_)) | exact B5 _ | (cases ‹_ ⊕ _›))
theorem EI9 (x_1 x_2 x_3 x_4 x_5 x_6 x_7 x_8 x_9 x_10 x_11 x_12 x_13 x_14:Int):Tot (Av8 x_1 x_2 x_3 x_4 x_5 x_6 x_7 x_8 x_9 x_10 x_11 x_12 x_13 x_14):=by
 unfold Av8
 repeat' (first | (intro _) | (with_reducible (first | exact Tot.some | exact AD7 .. | refine Tot.bnd ?_ ?_ | refine Tot.cnd ?_ ?_ | refine Tot.chk ?_ ?_)) | exact B5 _ | (cases ‹_ ⊕ _›))
theorem EJ0 (x_1 x_2 x_3 x_4 x_5 x_6 x_7 x_8 x_9 x_10 x_11 x_12 x_13 x_14:Int):Tot (Av9 x_1 x_2 x_3 x_4 x_5 x_6 x_7 x_8 x_9 x_10 x_11 x_12 x_13 x_14):=by
 unfold Av9
 repeat' (first | (intro _) | (with_reducible (first | exact Tot.some | exact AD7 .. | refine Tot.bnd ?_ ?_ | refine Tot.cnd ?_ ?_ | refine Tot.chk ?_ ?_)) | exact B5 _ | (cases ‹_ ⊕ _›))
theorem EJ1 (x_1 x_2 x_3 x_4 x_5 x_6 x_7 x_8 x_9 x_10 x_11 x_12 x_13 x_14:Int):Tot (Aw0 x_1 x_2 x_3 x_4 x_5 x_6 x_7 x_8 x_9 x_10 x_11 x_12 x_13 x_14):=by
 unfold Aw0
 repeat' (first | (intro _) | (with_reducible (first | exact Tot.some | exact AD7 .. | refine Tot.bnd ?_ ?_ | refine Tot.cnd ?_ ?_ | refine Tot.chk ?_ ?_)) | exact B5 _ | (cases ‹_ ⊕ _›))
theorem EJ2 (x_1 x_2 x_3 x_4 x_5 x_6 x_7 x_8 x_9 x_10 x_11 x_12 x_13 x_14:Int):Tot (Aw1 x_1 x_2 x_3 x_4 x_5 x_6 x_7 x_8 x_9 x_10 x_11 x_12 x_13 x_14):=by
 unfold Aw1
 repeat' (first | (intro _) | (with_reducible (first | exact Tot.some | refine Tot.bnd ?_ ?_ | refine Tot.cnd ?_ ?_ | refine Tot.chk ?_ ?_)) | exact B5 _ | (cases ‹_ ⊕ _›))
theorem EJ3 (x_1 x_2 x_3 x_4 x_5 x_6 x_7 x_8 x_9 x_10 x_11 x_12 x_13 x_14:Int):Tot (Aw2 x_1 x_2 x_3 x_4 x_5 x_6 x_7 x_8 x_9 x_10 x_11 x_12 x_13 x_14):=by
 unfold Aw2
 repeat' (first | (intro _) | (with_reducible (first | exact Tot.some | exact AD7 .. | refine Tot.bnd ?_ ?_ | refine Tot.cnd ?_ ?_ | refine Tot.chk ?_ ?_)) | exact B5 _ | (cases ‹_ ⊕ _›))
theorem EJ4 (x_1 x_2 x_3 x_4 x_5 x_6 x_7 x_8 x_9 x_10 x_11 x_12 x_13 x_14:Int):Tot (Aw3 x_1 x_2 x_3 x_4 x_5 x_6 x_7 x_8 x_9 x_10 x_11 x_12 x_13 x_14):=by
 unfold Aw3
 repeat' (first | (intro _) | (with_reducible (first | exact Tot.some | exact AD7 .. | refine Tot.bnd ?_ ?_ | refine Tot.cnd ?_ ?_ | refine Tot.chk ?_ ?_)) | exact B5 _ | (cases ‹_ ⊕ _›))
theorem EJ5 (c_1:C8):Tot (AS0 c_1):=by
 unfold AS0
 repeat' (first | (intro _) | (with_reducible (first | exact Tot.some | exact BR9 .. | refine Tot.bnd ?_ ?_ | refine Tot.cnd ?_ ?_ | refine Tot.chk ?_ ?_)) | exact B5 _ | (cases ‹_ ⊕ _›))
theorem EJ6 (x_1 x_2 x_3 x_4 x_5 x_6 x_7 x_8 x_9 x_10 x_11 x_12 x_13 x_14:Int):Tot (AS1 x_1 x_2 x_3 x_4 x_5 x_6 x_7 x_8 x_9 x_10 x_11 x_12 x_13 x_14):=by
 unfold AS1
 repeat' (first | (intro _) | (with_reducible (first | exact Tot.some | exact EJ5 .. | exact AD7 .. | refine Tot.bnd ?_ ?_ | refine Tot.cnd ?_ ?_ | refine Tot.chk ?_ ?_)) | exact B5 _ | (cases ‹_ ⊕ _›))
theorem EJ7 (x_1 x_2 x_3 x_4 x_5 x_6 x_7 x_8 x_9 x_10 x_11 x_12 x_13 x_14:Int):Tot (Ax1 x_1 x_2 x_3 x_4 x_5 x_6 x_7 x_8 x_9 x_10 x_11 x_12 x_13 x_14):=by
 unfold Ax1
 repeat' (first | (intro _) | (with_reducible (first | exact Tot.some | exact AD7 .. | refine Tot.bnd ?_ ?_ | refine Tot.cnd ?_ ?_ | refine Tot.chk ?_ ?_)) | exact B5 _ | (cases ‹_ ⊕ _›))
theorem EJ8 (x_1 x_2 x_3 x_4 x_5 x_6 x_7 x_8 x_9 x_10 x_11 x_12 x_13 x_14:Int):Tot (Ax2 x_1 x_2 x_3 x_4 x_5 x_6 x_7 x_8 x_9 x_10 x_11 x_12 x_13 x_14):=by
 unfold Ax2
 repeat' (first | (intro _) | (with_reducible (first | exact Tot.some | exact AD7 .. | refine Tot.bnd ?_ ?_ | refine Tot.cnd ?_ ?_ | refine Tot.chk ?_ ?_)) | exact B5 _ | (cases ‹_ ⊕ _›))
theorem EJ9 (c:Int×(Int×(Int×(Int×(Int×(Int×(Int×(Int×(Int×(Int×(Int×(Int×(Int×Int))))))))))))):Tot (AS2 c):=by unfold AS2;exact Tot.bnd (EI5 _) fun _=>Tot.bnd (EI6 ..) fun _=>Tot.cnd Tot.some (Tot.bnd (EI7 ..) fun _=>Tot.cnd Tot.some (Tot.bnd (EI8 ..) fun _=>Tot.cnd Tot.some (Tot.bnd (EI9 ..) fun _=>Tot.cnd Tot.some (Tot.bnd (EJ0 ..) fun _=>Tot.cnd Tot.some (Tot.bnd (EJ1 ..) fun _=>Tot.cnd Tot.some (Tot.bnd (EJ2 ..) fun _=>Tot.cnd Tot.some (Tot.bnd (EJ3 ..) fun _=>Tot.cnd Tot.some (Tot.bnd (EJ4 ..) fun _=>Tot.cnd Tot.some (Tot.bnd (EJ6 ..) fun _=>Tot.cnd Tot.some (Tot.bnd (EJ7 ..) fun _=>Tot.cnd Tot.some (Tot.bnd (EJ8 ..) fun _=>Tot.cnd Tot.some (Tot.some))))))))))))
theorem EK0 (c_1:C8)(g_2:Yd3):Tot (Ax3 c_1 g_2):=by
 unfold Ax3
 repeat' (first | (intro _) | (with_reducible (first | exact Tot.some | refine Tot.bnd ?_ ?_ | refine Tot.cnd ?_ ?_ | refine Tot.chk ?_ ?_)) | exact B5 _ | (cases ‹_ ⊕ _›))
end Go.Proofs.YthfjpkdadjemcaaGreat
