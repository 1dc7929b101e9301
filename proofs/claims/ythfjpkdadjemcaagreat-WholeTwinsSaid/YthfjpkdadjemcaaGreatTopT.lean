/- What always has an answer. -/
import Derived.Test.YthfjpkdadjemcaaGreatFnsF3
import Derived.Test.YthfjpkdadjemcaaGreatLoopF
set_option linter.unusedSimpArgs false
set_option linter.unusedVariables false
namespace Go.Proofs.YthfjpkdadjemcaaGreat
open Go Go.RowKit
def Wp {α:Type}(a:Option α)(Q:α→Prop):Prop:=∃y,a=some y∧Q y
def Tot {α:Type}(a:Option α):Prop:=∃y,a=some y
section
variable {α β S X:Type}
theorem Wp.some {y:α}{Q:α→Prop}(h:Q y):Wp (some y) Q:=⟨y,rfl,h⟩
theorem Wp.bnd {a:Option α}{f:α→Option β}{Q:α→Prop}{R:β→Prop}(h:Wp a Q)(h2:∀x,Q x→Wp (f x) R):Wp (Option.bind a f) R:=by obtain⟨y,rfl,hy⟩:=h;exact h2 y hy
theorem Wp.chk {c:Bool}{a:Option α}{Q:α→Prop}(hc:c=true)(h:Wp a Q):Wp (chk none c a) Q:=by subst hc;exact h
theorem Wp.cnd {c:Bool}{a b:Option α}{Q:α→Prop}(h:c=true→Wp a Q)(h2:c=false→Wp b Q):Wp (cond c a b) Q:=by
 cases c
 ·exact h2 rfl
 ·exact h rfl
theorem Wp.mono {a:Option α}{Q R:α→Prop}(h:Wp a Q)(h2:∀x,Q x→R x):Wp a R:=by obtain⟨y,h3,hy⟩:=h;exact⟨y,h3,h2 y hy⟩
theorem Wp.loop {f:S→Option (S ⊕ X)}{Q:X→Prop}(I:S→Prop)(μ:S→Nat)(h:∀s,I s→Wp (f s) fun z=>match z with | .inl s'=>I s'∧μ s'<μ s | .inr x=>Q x){s:S}(hs:I s):Wp (LP.lp f s) Q:=by
 obtain⟨x,h1,h2⟩:=EH7 I μ Q (fun s hI=>by
  obtain⟨z,h1,h2⟩:=h s hI;cases z with
  |inl s'=>exact .inr ⟨s',h1,h2⟩
  |inr x=>exact .inl ⟨x,h1,h2⟩) s hs
 exact⟨x,h1,h2⟩
theorem Tot.some {y:α}:Tot (some y):=⟨y,rfl⟩
theorem Tot.bnd {a:Option α}{f:α→Option β}(h:Tot a)(h2:∀x,Tot (f x)):Tot (Option.bind a f):=by obtain⟨y,rfl⟩:=h;exact h2 y
theorem Tot.chk {c:Bool}{a:Option α}(hc:c=true)(h:Tot a):Tot (chk none c a):=by subst hc;exact h
theorem Tot.cnd {c:Bool}{a b:Option α}(h:Tot a)(h2:Tot b):Tot (cond c a b):=by
 cases c
 ·exact h2
 ·exact h
theorem Tot.wp {a:Option α}(h:Tot a):Wp a fun y=>a=Option.some y:=by obtain⟨y,hy⟩:=h;exact⟨y,hy,hy⟩
theorem Wp.tot {a:Option α}{Q:α→Prop}(h:Wp a Q):Tot a:=by obtain⟨y,hy,_⟩:=h;exact⟨y,hy⟩
theorem Tot.loop {f:S→Option (S ⊕ X)}(I:S→Prop)(μ:S→Nat)(h:∀s,I s→Wp (f s) fun z=>match z with | .inl s'=>I s'∧μ s'<μ s | .inr x=>True){s:S}(hs:I s):Tot (LP.lp f s):=(Wp.loop (Q:=fun _=>True) I μ h hs).tot
end
theorem CA8 (n:Int):decide ((0:Int)≤IntKind.wrap .u64 n)=true:=by exact decide_eq_true (BY0 .u64 n).1
theorem CA9 (i:Int)(h0:0≤i)(h1:i≤1000):IntKind.wrap .i64 (i-1)=i-1:=by rw[IntKind.wrap_i64];omega
class A7 {α:Type} (a:Option α):Prop where
 h:Tot a
theorem Tot.auto {α:Type}{a:Option α}(h:Tot a:=by repeat' (first | (intro _) | (with_reducible (first | exact Tot.some | exact A7.h | refine Tot.bnd ?_ ?_ | refine Tot.cnd ?_ ?_ | refine Tot.chk ?_ ?_)) | exact CA8 _ | (cases ‹_ ⊕ _›))):Tot a:=h
theorem EH8:∀a0,Tot (Q7 a0):=by
 intros
 unfold Q7;exact Tot.auto
instance:∀a0,A7 (Q7 a0):=fun a0=>⟨EH8 a0⟩
theorem EH9:∀a0,Tot (AT2 a0):=by
 intros
 unfold AT2;exact Tot.auto
instance:∀a0,A7 (AT2 a0):=fun a0=>⟨EH9 a0⟩
theorem BQ8:∀a0 a1,Tot (AT3 a0 a1):=by
 intros
 unfold AT3;exact Tot.auto
instance:∀a0 a1,A7 (AT3 a0 a1):=fun a0 a1=>⟨BQ8 a0 a1⟩
theorem BQ9:∀a0 a1,Tot (Aa9 a0 a1):=by
 intros
 unfold Aa9;exact Tot.auto
instance:∀a0 a1,A7 (Aa9 a0 a1):=fun a0 a1=>⟨BQ9 a0 a1⟩
theorem CB0:∀a0 a1,Tot (Ak9 a0 a1):=by
 intros
 unfold Ak9;exact Tot.auto
instance:∀a0 a1,A7 (Ak9 a0 a1):=fun a0 a1=>⟨CB0 a0 a1⟩
theorem BR0:∀a0 a1,Tot (AL6 a0 a1):=by
 intros
 unfold AL6;exact Tot.auto
instance:∀a0 a1,A7 (AL6 a0 a1):=fun a0 a1=>⟨BR0 a0 a1⟩
theorem CB1:∀a0 a1,Tot (Al1 a0 a1):=by
 intros
 unfold Al1;exact Tot.auto
instance:∀a0 a1,A7 (Al1 a0 a1):=fun a0 a1=>⟨CB1 a0 a1⟩
theorem EI0 (x:Int×Int)(d:Int):Tot (AL7 x d):=by
 unfold AL7;refine Tot.cnd Tot.some (Tot.bnd ?_ fun _=>Tot.some)
 refine Tot.loop (fun s => -1≤s.2.2.2.2∧s.2.2.2.2≤127) (fun s=>(s.2.2.2.2+1).toNat) ?_ (by decide)
 rintro⟨a,b,c,d',i⟩ ⟨h0,h1⟩
 refine Wp.cnd (fun hc=> ?_) fun _=>Wp.some trivial
 have hi:0≤i:=by simpa using hc
 have hw:=CA9 i hi (by have:i≤127:=h1;omega)
 refine Wp.bnd (BQ9 _ _).wp fun _ _=>Wp.bnd (CB0 _ _).wp fun _ _=>Wp.bnd (BQ9 _ _).wp fun _ _=>Wp.bnd (BR0 _ _).wp fun _ _=>Wp.bnd (Q:=fun _=>True) ?_ fun _ _=>Wp.some ?_
 ·refine Wp.cnd (fun _=>Wp.bnd (CB1 _ _).wp fun _ _=>Wp.some trivial) fun _=>Wp.some trivial
 ·simp only[hw]
  exact⟨⟨by omega,by have:i≤127:=h1;omega⟩,by omega⟩
instance:∀a b,A7 (AL7 a b):=fun a b=>⟨EI0 a b⟩
theorem EI1:∀a0 a1,Tot (Al2 a0 a1):=by
 intros
 unfold Al2;exact Tot.auto
instance:∀a0 a1,A7 (Al2 a0 a1):=fun a0 a1=>⟨EI1 a0 a1⟩
theorem EI2:∀a0 a1,Tot (Al3 a0 a1):=by
 intros
 unfold Al3;exact Tot.auto
instance:∀a0 a1,A7 (Al3 a0 a1):=fun a0 a1=>⟨EI2 a0 a1⟩
theorem EI3:∀a0 a1 a2 a3,Tot (AG3 a0 a1 a2 a3):=by
 intros
 unfold AG3;exact Tot.auto
instance:∀a0 a1 a2 a3,A7 (AG3 a0 a1 a2 a3):=fun a0 a1 a2 a3=>⟨EI3 a0 a1 a2 a3⟩
theorem EI4:∀a0 a1 a2,Tot (AC8 a0 a1 a2):=by
 intros
 unfold AC8;exact Tot.auto
instance:∀a0 a1 a2,A7 (AC8 a0 a1 a2):=fun a0 a1 a2=>⟨EI4 a0 a1 a2⟩
theorem EI5:∀a0 a1 a2,Tot (AD3 a0 a1 a2):=by
 intros
 unfold AD3;exact Tot.auto
instance:∀a0 a1 a2,A7 (AD3 a0 a1 a2):=fun a0 a1 a2=>⟨EI5 a0 a1 a2⟩
theorem BR1:∀a0,Tot (AA5 a0):=by
 intros
 unfold AA5;exact Tot.auto
instance:∀a0,A7 (AA5 a0):=fun a0=>⟨BR1 a0⟩
theorem BR2:∀a0 a1,Tot (X7 a0 a1):=by
 intros
 unfold X7;exact Tot.auto
instance:∀a0 a1,A7 (X7 a0 a1):=fun a0 a1=>⟨BR2 a0 a1⟩
theorem BR3:∀a0,Tot (AM4 a0):=by
 intros
 unfold AM4;exact Tot.auto
instance:∀a0,A7 (AM4 a0):=fun a0=>⟨BR3 a0⟩
theorem CB2:∀a0,Tot (AT5 a0):=by
 intros
 unfold AT5;exact Tot.auto
instance:∀a0,A7 (AT5 a0):=fun a0=>⟨CB2 a0⟩
theorem CB3:∀a0 a1,Tot (AD2 a0 a1):=by
 intros
 unfold AD2;exact Tot.auto
instance:∀a0 a1,A7 (AD2 a0 a1):=fun a0 a1=>⟨CB3 a0 a1⟩
theorem EI6:∀a0 a1 a2,Tot (Ac0 a0 a1 a2):=by
 intros
 unfold Ac0;exact Tot.auto
instance:∀a0 a1 a2,A7 (Ac0 a0 a1 a2):=fun a0 a1 a2=>⟨EI6 a0 a1 a2⟩
theorem CB4:∀a0 a1,Tot (Ac1 a0 a1):=by
 intros
 unfold Ac1;exact Tot.auto
instance:∀a0 a1,A7 (Ac1 a0 a1):=fun a0 a1=>⟨CB4 a0 a1⟩
theorem EI7:∀a0 a1,Tot (AH1 a0 a1):=by
 intros
 unfold AH1;exact Tot.auto
instance:∀a0 a1,A7 (AH1 a0 a1):=fun a0 a1=>⟨EI7 a0 a1⟩
theorem CB5:∀a0 a1,Tot (An9 a0 a1):=by
 intros
 unfold An9;exact Tot.auto
instance:∀a0 a1,A7 (An9 a0 a1):=fun a0 a1=>⟨CB5 a0 a1⟩
theorem EI8:∀a0,Tot (An3 a0):=by
 intros
 unfold An3;exact Tot.auto
instance:∀a0,A7 (An3 a0):=fun a0=>⟨EI8 a0⟩
theorem CB6:∀a0,Tot (Ac8 a0):=by
 intros
 unfold Ac8;exact Tot.auto
instance:∀a0,A7 (Ac8 a0):=fun a0=>⟨CB6 a0⟩
theorem EI9:∀a0 a1,Tot (An0 a0 a1):=by
 intros
 unfold An0;exact Tot.auto
instance:∀a0 a1,A7 (An0 a0 a1):=fun a0 a1=>⟨EI9 a0 a1⟩
theorem CB7:∀a0 a1 a2,Tot (An4 a0 a1 a2):=by
 intros
 unfold An4;exact Tot.auto
instance:∀a0 a1 a2,A7 (An4 a0 a1 a2):=fun a0 a1 a2=>⟨CB7 a0 a1 a2⟩
theorem EJ0:∀a0 a1 a2 a3,Tot (AH2 a0 a1 a2 a3):=by
 intros
 unfold AH2;exact Tot.auto
instance:∀a0 a1 a2 a3,A7 (AH2 a0 a1 a2 a3):=fun a0 a1 a2 a3=>⟨EJ0 a0 a1 a2 a3⟩
theorem EJ1:∀a0 a1,Tot (AU5 a0 a1):=by
 intros
 unfold AU5;exact Tot.auto
instance:∀a0 a1,A7 (AU5 a0 a1):=fun a0 a1=>⟨EJ1 a0 a1⟩
theorem CB8:∀a0 a1,Tot (Ac3 a0 a1):=by
 intros
 unfold Ac3;exact Tot.auto
instance:∀a0 a1,A7 (Ac3 a0 a1):=fun a0 a1=>⟨CB8 a0 a1⟩
theorem Ad8:∀a0 a1,Tot (R0 a0 a1):=by
 intros
 unfold R0;exact Tot.auto
instance:∀a0 a1,A7 (R0 a0 a1):=fun a0 a1=>⟨Ad8 a0 a1⟩
theorem BR4:∀a0 a1,Tot (AD5 a0 a1):=by
 intros
 unfold AD5;exact Tot.auto
instance:∀a0 a1,A7 (AD5 a0 a1):=fun a0 a1=>⟨BR4 a0 a1⟩
theorem CB9:∀a0 a1,Tot (AN8 a0 a1):=by
 intros
 unfold AN8;exact Tot.auto
instance:∀a0 a1,A7 (AN8 a0 a1):=fun a0 a1=>⟨CB9 a0 a1⟩
theorem CC0:∀a0 a1,Tot (Ac9 a0 a1):=by
 intros
 unfold Ac9;exact Tot.auto
instance:∀a0 a1,A7 (Ac9 a0 a1):=fun a0 a1=>⟨CC0 a0 a1⟩
theorem Ao3:∀a0,Tot (AA7 a0):=by
 intros
 unfold AA7;exact Tot.auto
instance:∀a0,A7 (AA7 a0):=fun a0=>⟨Ao3 a0⟩
theorem EJ2:∀a0 a1 a2,Tot (AG9 a0 a1 a2):=by
 intros
 unfold AG9;exact Tot.auto
instance:∀a0 a1 a2,A7 (AG9 a0 a1 a2):=fun a0 a1 a2=>⟨EJ2 a0 a1 a2⟩
theorem CC1:∀a0 a1 a2,Tot (AH0 a0 a1 a2):=by
 intros
 unfold AH0;exact Tot.auto
instance:∀a0 a1 a2,A7 (AH0 a0 a1 a2):=fun a0 a1 a2=>⟨CC1 a0 a1 a2⟩
theorem EJ3:∀a0 a1,Tot (Am5 a0 a1):=by
 intros
 unfold Am5;exact Tot.auto
instance:∀a0 a1,A7 (Am5 a0 a1):=fun a0 a1=>⟨EJ3 a0 a1⟩
theorem CC2:∀a0 a1 a2,Tot (Ac2 a0 a1 a2):=by
 intros
 unfold Ac2;exact Tot.auto
instance:∀a0 a1 a2,A7 (Ac2 a0 a1 a2):=fun a0 a1 a2=>⟨CC2 a0 a1 a2⟩
theorem EJ4:∀a0 a1,Tot (AN6 a0 a1):=by
 intros
 unfold AN6;exact Tot.auto
instance:∀a0 a1,A7 (AN6 a0 a1):=fun a0 a1=>⟨EJ4 a0 a1⟩
theorem CC3:∀a0 a1,Tot (AH3 a0 a1):=by
 intros
 unfold AH3;exact Tot.auto
instance:∀a0 a1,A7 (AH3 a0 a1):=fun a0 a1=>⟨CC3 a0 a1⟩
theorem CC4:∀a0 a1,Tot (Ac4 a0 a1):=by
 intros
 unfold Ac4;exact Tot.auto
instance:∀a0 a1,A7 (Ac4 a0 a1):=fun a0 a1=>⟨CC4 a0 a1⟩
theorem CC5:∀a0 a1 a2,Tot (Ac5 a0 a1 a2):=by
 intros
 unfold Ac5;exact Tot.auto
instance:∀a0 a1 a2,A7 (Ac5 a0 a1 a2):=fun a0 a1 a2=>⟨CC5 a0 a1 a2⟩
theorem CC6:∀a0 a1,Tot (Ac7 a0 a1):=by
 intros
 unfold Ac7;exact Tot.auto
instance:∀a0 a1,A7 (Ac7 a0 a1):=fun a0 a1=>⟨CC6 a0 a1⟩
theorem EJ5:∀a0 a1 a2,Tot (AO3 a0 a1 a2):=by
 intros
 unfold AO3;exact Tot.auto
instance:∀a0 a1 a2,A7 (AO3 a0 a1 a2):=fun a0 a1 a2=>⟨EJ5 a0 a1 a2⟩
theorem BR5:∀a0 a1 a2 a3,Tot (AA9 a0 a1 a2 a3):=by
 intros
 unfold AA9;exact Tot.auto
instance:∀a0 a1 a2 a3,A7 (AA9 a0 a1 a2 a3):=fun a0 a1 a2 a3=>⟨BR5 a0 a1 a2 a3⟩
theorem EJ6:∀a0 a1 a2,Tot (Ad5 a0 a1 a2):=by
 intros
 unfold Ad5;exact Tot.auto
instance:∀a0 a1 a2,A7 (Ad5 a0 a1 a2):=fun a0 a1 a2=>⟨EJ6 a0 a1 a2⟩
theorem CC7:∀a0 a1 a2 a3 a4 a5,Tot (AV8 a0 a1 a2 a3 a4 a5):=by
 intros
 unfold AV8;exact Tot.auto
instance:∀a0 a1 a2 a3 a4 a5,A7 (AV8 a0 a1 a2 a3 a4 a5):=fun a0 a1 a2 a3 a4 a5=>⟨CC7 a0 a1 a2 a3 a4 a5⟩
theorem CC8:∀a0 a1 a2 a3,Tot (Ad6 a0 a1 a2 a3):=by
 intros
 unfold Ad6;exact Tot.auto
instance:∀a0 a1 a2 a3,A7 (Ad6 a0 a1 a2 a3):=fun a0 a1 a2 a3=>⟨CC8 a0 a1 a2 a3⟩
theorem EJ7:∀a0 a1,Tot (An8 a0 a1):=by
 intros
 unfold An8;exact Tot.auto
instance:∀a0 a1,A7 (An8 a0 a1):=fun a0 a1=>⟨EJ7 a0 a1⟩
theorem CC9:∀a0 a1 a2 a3,Tot (AV9 a0 a1 a2 a3):=by
 intros
 unfold AV9;exact Tot.auto
instance:∀a0 a1 a2 a3,A7 (AV9 a0 a1 a2 a3):=fun a0 a1 a2 a3=>⟨CC9 a0 a1 a2 a3⟩
theorem CD0:∀a0 a1 a2 a3 a4,Tot (AW0 a0 a1 a2 a3 a4):=by
 intros
 unfold AW0;exact Tot.auto
instance:∀a0 a1 a2 a3 a4,A7 (AW0 a0 a1 a2 a3 a4):=fun a0 a1 a2 a3 a4=>⟨CD0 a0 a1 a2 a3 a4⟩
theorem CD1:∀a0 a1,Tot (Ad3 a0 a1):=by
 intros
 unfold Ad3;exact Tot.auto
instance:∀a0 a1,A7 (Ad3 a0 a1):=fun a0 a1=>⟨CD1 a0 a1⟩
theorem CD2:∀a0 a1,Tot (An6 a0 a1):=by
 intros
 unfold An6;exact Tot.auto
instance:∀a0 a1,A7 (An6 a0 a1):=fun a0 a1=>⟨CD2 a0 a1⟩
theorem Az6:∀a0 a1,Tot (An2 a0 a1):=by
 intros
 unfold An2;exact Tot.auto
instance:∀a0 a1,A7 (An2 a0 a1):=fun a0 a1=>⟨Az6 a0 a1⟩
theorem EJ8:∀a0 a1 a2 a3 a4 a5 a6 a7,Tot (AN9 a0 a1 a2 a3 a4 a5 a6 a7):=by
 intros
 unfold AN9;exact Tot.auto
instance:∀a0 a1 a2 a3 a4 a5 a6 a7,A7 (AN9 a0 a1 a2 a3 a4 a5 a6 a7):=fun a0 a1 a2 a3 a4 a5 a6 a7=>⟨EJ8 a0 a1 a2 a3 a4 a5 a6 a7⟩
theorem EJ9:∀a0,Tot (Ad0 a0):=by
 intros
 unfold Ad0;exact Tot.auto
instance:∀a0,A7 (Ad0 a0):=fun a0=>⟨EJ9 a0⟩
theorem EK0:∀a0 a1,Tot (An5 a0 a1):=by
 intros
 unfold An5;exact Tot.auto
instance:∀a0 a1,A7 (An5 a0 a1):=fun a0 a1=>⟨EK0 a0 a1⟩
theorem BR6:∀a0 a1,Tot (Ad1 a0 a1):=by
 intros
 unfold Ad1;exact Tot.auto
instance:∀a0 a1,A7 (Ad1 a0 a1):=fun a0 a1=>⟨BR6 a0 a1⟩
theorem EK1:∀a0 a1,Tot (Ad4 a0 a1):=by
 intros
 unfold Ad4;exact Tot.auto
instance:∀a0 a1,A7 (Ad4 a0 a1):=fun a0 a1=>⟨EK1 a0 a1⟩
theorem CD3:∀a0,Tot (Aj9 a0):=by
 intros
 unfold Aj9;exact Tot.auto
instance:∀a0,A7 (Aj9 a0):=fun a0=>⟨CD3 a0⟩
theorem EK2:∀a0 a1 a2,Tot (Q3 a0 a1 a2):=by
 intros
 unfold Q3;exact Tot.auto
instance:∀a0 a1 a2,A7 (Q3 a0 a1 a2):=fun a0 a1 a2=>⟨EK2 a0 a1 a2⟩
theorem CD4:∀a0 a1 a2 a3 a4 a5 a6 a7 a8 a9 a10 a11 a12 a13,Tot (Ak0 a0 a1 a2 a3 a4 a5 a6 a7 a8 a9 a10 a11 a12 a13):=by
 intros
 unfold Ak0;exact Tot.auto
instance:∀a0 a1 a2 a3 a4 a5 a6 a7 a8 a9 a10 a11 a12 a13,A7 (Ak0 a0 a1 a2 a3 a4 a5 a6 a7 a8 a9 a10 a11 a12 a13):=fun a0 a1 a2 a3 a4 a5 a6 a7 a8 a9 a10 a11 a12 a13=>⟨CD4 a0 a1 a2 a3 a4 a5 a6 a7 a8 a9 a10 a11 a12 a13⟩
theorem CD5:∀a0 a1 a2 a3 a4 a5 a6 a7 a8 a9 a10 a11 a12 a13,Tot (Ak1 a0 a1 a2 a3 a4 a5 a6 a7 a8 a9 a10 a11 a12 a13):=by
 intros
 unfold Ak1;exact Tot.auto
instance:∀a0 a1 a2 a3 a4 a5 a6 a7 a8 a9 a10 a11 a12 a13,A7 (Ak1 a0 a1 a2 a3 a4 a5 a6 a7 a8 a9 a10 a11 a12 a13):=fun a0 a1 a2 a3 a4 a5 a6 a7 a8 a9 a10 a11 a12 a13=>⟨CD5 a0 a1 a2 a3 a4 a5 a6 a7 a8 a9 a10 a11 a12 a13⟩
theorem CD6:∀a0 a1 a2 a3 a4 a5 a6 a7 a8 a9 a10 a11 a12 a13,Tot (Ak2 a0 a1 a2 a3 a4 a5 a6 a7 a8 a9 a10 a11 a12 a13):=by
 intros
 unfold Ak2;exact Tot.auto
instance:∀a0 a1 a2 a3 a4 a5 a6 a7 a8 a9 a10 a11 a12 a13,A7 (Ak2 a0 a1 a2 a3 a4 a5 a6 a7 a8 a9 a10 a11 a12 a13):=fun a0 a1 a2 a3 a4 a5 a6 a7 a8 a9 a10 a11 a12 a13=>⟨CD6 a0 a1 a2 a3 a4 a5 a6 a7 a8 a9 a10 a11 a12 a13⟩
theorem CD7:∀a0 a1 a2 a3 a4 a5 a6 a7 a8 a9 a10 a11 a12 a13,Tot (Ak3 a0 a1 a2 a3 a4 a5 a6 a7 a8 a9 a10 a11 a12 a13):=by
 intros
 unfold Ak3;exact Tot.auto
instance:∀a0 a1 a2 a3 a4 a5 a6 a7 a8 a9 a10 a11 a12 a13,A7 (Ak3 a0 a1 a2 a3 a4 a5 a6 a7 a8 a9 a10 a11 a12 a13):=fun a0 a1 a2 a3 a4 a5 a6 a7 a8 a9 a10 a11 a12 a13=>⟨CD7 a0 a1 a2 a3 a4 a5 a6 a7 a8 a9 a10 a11 a12 a13⟩
theorem CD8:∀a0 a1 a2 a3 a4 a5 a6 a7 a8 a9 a10 a11 a12 a13,Tot (Ak4 a0 a1 a2 a3 a4 a5 a6 a7 a8 a9 a10 a11 a12 a13):=by
 intros
 unfold Ak4;exact Tot.auto
instance:∀a0 a1 a2 a3 a4 a5 a6 a7 a8 a9 a10 a11 a12 a13,A7 (Ak4 a0 a1 a2 a3 a4 a5 a6 a7 a8 a9 a10 a11 a12 a13):=fun a0 a1 a2 a3 a4 a5 a6 a7 a8 a9 a10 a11 a12 a13=>⟨CD8 a0 a1 a2 a3 a4 a5 a6 a7 a8 a9 a10 a11 a12 a13⟩
theorem CD9:∀a0 a1 a2 a3 a4 a5 a6 a7 a8 a9 a10 a11 a12 a13,Tot (Ak5 a0 a1 a2 a3 a4 a5 a6 a7 a8 a9 a10 a11 a12 a13):=by
 intros
 unfold Ak5;exact Tot.auto
instance:∀a0 a1 a2 a3 a4 a5 a6 a7 a8 a9 a10 a11 a12 a13,A7 (Ak5 a0 a1 a2 a3 a4 a5 a6 a7 a8 a9 a10 a11 a12 a13):=fun a0 a1 a2 a3 a4 a5 a6 a7 a8 a9 a10 a11 a12 a13=>⟨CD9 a0 a1 a2 a3 a4 a5 a6 a7 a8 a9 a10 a11 a12 a13⟩
theorem CE0:∀a0 a1 a2 a3 a4 a5 a6 a7 a8 a9 a10 a11 a12 a13,Tot (Ak6 a0 a1 a2 a3 a4 a5 a6 a7 a8 a9 a10 a11 a12 a13):=by
 intros
 unfold Ak6;exact Tot.auto
instance:∀a0 a1 a2 a3 a4 a5 a6 a7 a8 a9 a10 a11 a12 a13,A7 (Ak6 a0 a1 a2 a3 a4 a5 a6 a7 a8 a9 a10 a11 a12 a13):=fun a0 a1 a2 a3 a4 a5 a6 a7 a8 a9 a10 a11 a12 a13=>⟨CE0 a0 a1 a2 a3 a4 a5 a6 a7 a8 a9 a10 a11 a12 a13⟩
theorem CE1:∀a0 a1 a2 a3 a4 a5 a6 a7 a8 a9 a10 a11 a12 a13,Tot (Ak7 a0 a1 a2 a3 a4 a5 a6 a7 a8 a9 a10 a11 a12 a13):=by
 intros
 unfold Ak7;exact Tot.auto
instance:∀a0 a1 a2 a3 a4 a5 a6 a7 a8 a9 a10 a11 a12 a13,A7 (Ak7 a0 a1 a2 a3 a4 a5 a6 a7 a8 a9 a10 a11 a12 a13):=fun a0 a1 a2 a3 a4 a5 a6 a7 a8 a9 a10 a11 a12 a13=>⟨CE1 a0 a1 a2 a3 a4 a5 a6 a7 a8 a9 a10 a11 a12 a13⟩
theorem CE2:∀a0 a1 a2 a3 a4 a5 a6 a7 a8 a9 a10 a11 a12 a13,Tot (Ak8 a0 a1 a2 a3 a4 a5 a6 a7 a8 a9 a10 a11 a12 a13):=by
 intros
 unfold Ak8;exact Tot.auto
instance:∀a0 a1 a2 a3 a4 a5 a6 a7 a8 a9 a10 a11 a12 a13,A7 (Ak8 a0 a1 a2 a3 a4 a5 a6 a7 a8 a9 a10 a11 a12 a13):=fun a0 a1 a2 a3 a4 a5 a6 a7 a8 a9 a10 a11 a12 a13=>⟨CE2 a0 a1 a2 a3 a4 a5 a6 a7 a8 a9 a10 a11 a12 a13⟩
theorem EK3:∀a0,Tot (AL8 a0):=by
 intros
 unfold AL8;exact Tot.auto
instance:∀a0,A7 (AL8 a0):=fun a0=>⟨EK3 a0⟩
theorem CE3:∀a0 a1 a2 a3 a4 a5 a6 a7 a8 a9 a10 a11 a12 a13,Tot (AL9 a0 a1 a2 a3 a4 a5 a6 a7 a8 a9 a10 a11 a12 a13):=by
 intros
 unfold AL9;exact Tot.auto
instance:∀a0 a1 a2 a3 a4 a5 a6 a7 a8 a9 a10 a11 a12 a13,A7 (AL9 a0 a1 a2 a3 a4 a5 a6 a7 a8 a9 a10 a11 a12 a13):=fun a0 a1 a2 a3 a4 a5 a6 a7 a8 a9 a10 a11 a12 a13=>⟨CE3 a0 a1 a2 a3 a4 a5 a6 a7 a8 a9 a10 a11 a12 a13⟩
theorem CE4:∀a0 a1 a2 a3 a4 a5 a6 a7 a8 a9 a10 a11 a12 a13,Tot (Al4 a0 a1 a2 a3 a4 a5 a6 a7 a8 a9 a10 a11 a12 a13):=by
 intros
 unfold Al4;exact Tot.auto
instance:∀a0 a1 a2 a3 a4 a5 a6 a7 a8 a9 a10 a11 a12 a13,A7 (Al4 a0 a1 a2 a3 a4 a5 a6 a7 a8 a9 a10 a11 a12 a13):=fun a0 a1 a2 a3 a4 a5 a6 a7 a8 a9 a10 a11 a12 a13=>⟨CE4 a0 a1 a2 a3 a4 a5 a6 a7 a8 a9 a10 a11 a12 a13⟩
theorem CE5:∀a0 a1 a2 a3 a4 a5 a6 a7 a8 a9 a10 a11 a12 a13,Tot (Al5 a0 a1 a2 a3 a4 a5 a6 a7 a8 a9 a10 a11 a12 a13):=by
 intros
 unfold Al5;exact Tot.auto
instance:∀a0 a1 a2 a3 a4 a5 a6 a7 a8 a9 a10 a11 a12 a13,A7 (Al5 a0 a1 a2 a3 a4 a5 a6 a7 a8 a9 a10 a11 a12 a13):=fun a0 a1 a2 a3 a4 a5 a6 a7 a8 a9 a10 a11 a12 a13=>⟨CE5 a0 a1 a2 a3 a4 a5 a6 a7 a8 a9 a10 a11 a12 a13⟩
theorem EK4 (c:Int×(Int×(Int×(Int×(Int×(Int×(Int×(Int×(Int×(Int×(Int×(Int×(Int×Int))))))))))))):Tot (AT4 c):=by unfold AT4;exact Tot.bnd (CD3 _) fun _=>Tot.bnd (CD4 ..) fun _=>Tot.cnd Tot.some (Tot.bnd (CD5 ..) fun _=>Tot.cnd Tot.some (Tot.bnd (CD6 ..) fun _=>Tot.cnd Tot.some (Tot.bnd (CD7 ..) fun _=>Tot.cnd Tot.some (Tot.bnd (CD8 ..) fun _=>Tot.cnd Tot.some (Tot.bnd (CD9 ..) fun _=>Tot.cnd Tot.some (Tot.bnd (CE0 ..) fun _=>Tot.cnd Tot.some (Tot.bnd (CE1 ..) fun _=>Tot.cnd Tot.some (Tot.bnd (CE2 ..) fun _=>Tot.cnd Tot.some (Tot.bnd (CE3 ..) fun _=>Tot.cnd Tot.some (Tot.bnd (CE4 ..) fun _=>Tot.cnd Tot.some (Tot.bnd (CE5 ..) fun _=>Tot.cnd Tot.some (Tot.some))))))))))))
theorem CE6:∀a0 a1,Tot (Al6 a0 a1):=by
 intros
 unfold Al6;exact Tot.auto
instance:∀a0 a1,A7 (Al6 a0 a1):=fun a0 a1=>⟨CE6 a0 a1⟩
end Go.Proofs.YthfjpkdadjemcaaGreat
