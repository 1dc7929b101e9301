/- What always has an answer. -/
import Derived.Test.YthfjpkdadjemcaaGreatFnsF3
import Derived.Test.YthfjpkdadjemcaaGreatLoopF
set_option linter.unusedSimpArgs false
set_option linter.unusedVariables false
namespace Go.Proofs.YthfjpkdadjemcaaGreat
open Go Go.RowKit
def Wp {α:Type}(a:Option α)(Q:α→Prop):Prop:=∃y,a=some y∧Q y
def Tot {α:Type}(a:Option α):Prop:=∃y,a=some y
section
variable {α β S X:Type}
theorem Wp.some {y:α}{Q:α→Prop}(h:Q y):Wp (some y) Q:=⟨y,rfl,h⟩
theorem Wp.bnd {a:Option α}{f:α→Option β}{Q:α→Prop}{R:β→Prop}(h:Wp a Q)(h2:∀x,Q x→Wp (f x) R):Wp (Option.bind a f) R:=by obtain⟨y,rfl,hy⟩:=h;exact h2 y hy
theorem Wp.chk {c:Bool}{a:Option α}{Q:α→Prop}(hc:c=true)(h:Wp a Q):Wp (chk none c a) Q:=by subst hc;exact h
theorem Wp.cnd {c:Bool}{a b:Option α}{Q:α→Prop}(h:c=true→Wp a Q)(h2:c=false→Wp b Q):Wp (cond c a b) Q:=by
 cases c
 ·exact h2 rfl
 ·exact h rfl
theorem Wp.mono {a:Option α}{Q R:α→Prop}(h:Wp a Q)(h2:∀x,Q x→R x):Wp a R:=by obtain⟨y,h3,hy⟩:=h;exact⟨y,h3,h2 y hy⟩
theorem Wp.loop {f:S→Option (S ⊕ X)}{Q:X→Prop}(I:S→Prop)(μ:S→Nat)(h:∀s,I s→Wp (f s) fun z=>match z with | .inl s'=>I s'∧μ s'<μ s | .inr x=>Q x){s:S}(hs:I s):Wp (LP.lp f s) Q:=by
 obtain⟨x,h1,h2⟩:=BP8 I μ Q (fun s hI=>by
  obtain⟨z,h1,h2⟩:=h s hI;cases z with
  |inl s'=>exact .inr ⟨s',h1,h2⟩
  |inr x=>exact .inl ⟨x,h1,h2⟩) s hs
 exact⟨x,h1,h2⟩
theorem Tot.some {y:α}:Tot (some y):=⟨y,rfl⟩
theorem Tot.bnd {a:Option α}{f:α→Option β}(h:Tot a)(h2:∀x,Tot (f x)):Tot (Option.bind a f):=by obtain⟨y,rfl⟩:=h;exact h2 y
theorem Tot.chk {c:Bool}{a:Option α}(hc:c=true)(h:Tot a):Tot (chk none c a):=by subst hc;exact h
theorem Tot.cnd {c:Bool}{a b:Option α}(h:Tot a)(h2:Tot b):Tot (cond c a b):=by
 cases c
 ·exact h2
 ·exact h
theorem Tot.wp {a:Option α}(h:Tot a):Wp a fun y=>a=Option.some y:=by obtain⟨y,hy⟩:=h;exact⟨y,hy,hy⟩
theorem Wp.tot {a:Option α}{Q:α→Prop}(h:Wp a Q):Tot a:=by obtain⟨y,hy,_⟩:=h;exact⟨y,hy⟩
theorem Tot.loop {f:S→Option (S ⊕ X)}(I:S→Prop)(μ:S→Nat)(h:∀s,I s→Wp (f s) fun z=>match z with | .inl s'=>I s'∧μ s'<μ s | .inr x=>True){s:S}(hs:I s):Tot (LP.lp f s):=(Wp.loop (Q:=fun _=>True) I μ h hs).tot
end
theorem CB2 (n:Int):decide ((0:Int)≤IntKind.wrap .u64 n)=true:=by exact decide_eq_true (BX9 .u64 n).1
theorem CB3 (i:Int)(h0:0≤i)(h1:i≤1000):IntKind.wrap .i64 (i-1)=i-1:=by rw[IntKind.wrap_i64];omega
class TotC {α:Type} (a:Option α):Prop where
 h:Tot a
theorem Tot.auto {α:Type}{a:Option α}(h:Tot a:=by repeat' (first | (intro _) | (with_reducible (first | exact Tot.some | exact TotC.h | refine Tot.bnd ?_ ?_ | refine Tot.cnd ?_ ?_ | refine Tot.chk ?_ ?_)) | exact CB2 _ | (cases ‹_ ⊕ _›))):Tot a:=h
theorem EM2:∀a0,Tot (P4 a0):=by
 intros
 unfold P4;exact Tot.auto
instance:∀a0,TotC (P4 a0):=fun a0=>⟨EM2 a0⟩
theorem EM3:∀a0,Tot (Z4 a0):=by
 intros
 unfold Z4;exact Tot.auto
instance:∀a0,TotC (Z4 a0):=fun a0=>⟨EM3 a0⟩
theorem BP9:∀a0 a1,Tot (AH7 a0 a1):=by
 intros
 unfold AH7;exact Tot.auto
instance:∀a0 a1,TotC (AH7 a0 a1):=fun a0 a1=>⟨BP9 a0 a1⟩
theorem BQ0:∀a0 a1,Tot (AH8 a0 a1):=by
 intros
 unfold AH8;exact Tot.auto
instance:∀a0 a1,TotC (AH8 a0 a1):=fun a0 a1=>⟨BQ0 a0 a1⟩
theorem CB4:∀a0 a1,Tot (AT4 a0 a1):=by
 intros
 unfold AT4;exact Tot.auto
instance:∀a0 a1,TotC (AT4 a0 a1):=fun a0 a1=>⟨CB4 a0 a1⟩
theorem BQ1:∀a0 a1,Tot (Z5 a0 a1):=by
 intros
 unfold Z5;exact Tot.auto
instance:∀a0 a1,TotC (Z5 a0 a1):=fun a0 a1=>⟨BQ1 a0 a1⟩
theorem CB5:∀a0 a1,Tot (AL7 a0 a1):=by
 intros
 unfold AL7;exact Tot.auto
instance:∀a0 a1,TotC (AL7 a0 a1):=fun a0 a1=>⟨CB5 a0 a1⟩
theorem EM4 (x:Int×Int)(d:Int):Tot (AD8 x d):=by
 unfold AD8;refine Tot.cnd Tot.some (Tot.bnd ?_ fun _=>Tot.some)
 refine Tot.loop (fun s => -1≤s.2.2.2.2∧s.2.2.2.2≤127) (fun s=>(s.2.2.2.2+1).toNat) ?_ (by decide)
 rintro⟨a,b,c,d',i⟩ ⟨h0,h1⟩
 refine Wp.cnd (fun hc=> ?_) fun _=>Wp.some trivial
 have hi:0≤i:=by simpa using hc
 have hw:=CB3 i hi (by have:i≤127:=h1;omega)
 refine Wp.bnd (BQ0 _ _).wp fun _ _=>Wp.bnd (CB4 _ _).wp fun _ _=>Wp.bnd (BQ0 _ _).wp fun _ _=>Wp.bnd (BQ1 _ _).wp fun _ _=>Wp.bnd (Q:=fun _=>True) ?_ fun _ _=>Wp.some ?_
 ·refine Wp.cnd (fun _=>Wp.bnd (CB5 _ _).wp fun _ _=>Wp.some trivial) fun _=>Wp.some trivial
 ·simp only[hw]
  exact⟨⟨by omega,by have:i≤127:=h1;omega⟩,by omega⟩
instance:∀a b,TotC (AD8 a b):=fun a b=>⟨EM4 a b⟩
theorem EM5:∀a0 a1,Tot (AL8 a0 a1):=by
 intros
 unfold AL8;exact Tot.auto
instance:∀a0 a1,TotC (AL8 a0 a1):=fun a0 a1=>⟨EM5 a0 a1⟩
theorem EM6:∀a0 a1,Tot (AT5 a0 a1):=by
 intros
 unfold AT5;exact Tot.auto
instance:∀a0 a1,TotC (AT5 a0 a1):=fun a0 a1=>⟨EM6 a0 a1⟩
theorem EM7:∀a0 a1 a2 a3,Tot (AB1 a0 a1 a2 a3):=by
 intros
 unfold AB1;exact Tot.auto
instance:∀a0 a1 a2 a3,TotC (AB1 a0 a1 a2 a3):=fun a0 a1 a2 a3=>⟨EM7 a0 a1 a2 a3⟩
theorem EM8:∀a0 a1 a2,Tot (Z6 a0 a1 a2):=by
 intros
 unfold Z6;exact Tot.auto
instance:∀a0 a1 a2,TotC (Z6 a0 a1 a2):=fun a0 a1 a2=>⟨EM8 a0 a1 a2⟩
theorem EM9:∀a0 a1 a2,Tot (AE2 a0 a1 a2):=by
 intros
 unfold AE2;exact Tot.auto
instance:∀a0 a1 a2,TotC (AE2 a0 a1 a2):=fun a0 a1 a2=>⟨EM9 a0 a1 a2⟩
theorem BQ2:∀a0,Tot (Z8 a0):=by
 intros
 unfold Z8;exact Tot.auto
instance:∀a0,TotC (Z8 a0):=fun a0=>⟨BQ2 a0⟩
theorem BQ3:∀a0 a1,Tot (AI1 a0 a1):=by
 intros
 unfold AI1;exact Tot.auto
instance:∀a0 a1,TotC (AI1 a0 a1):=fun a0 a1=>⟨BQ3 a0 a1⟩
theorem BQ4:∀a0,Tot (AM2 a0):=by
 intros
 unfold AM2;exact Tot.auto
instance:∀a0,TotC (AM2 a0):=fun a0=>⟨BQ4 a0⟩
theorem CB6:∀a0,Tot (AM3 a0):=by
 intros
 unfold AM3;exact Tot.auto
instance:∀a0,TotC (AM3 a0):=fun a0=>⟨CB6 a0⟩
theorem CB7:∀a0 a1,Tot (V5 a0 a1):=by
 intros
 unfold V5;exact Tot.auto
instance:∀a0 a1,TotC (V5 a0 a1):=fun a0 a1=>⟨CB7 a0 a1⟩
theorem EN0:∀a0 a1 a2,Tot (Ae7 a0 a1 a2):=by
 intros
 unfold Ae7;exact Tot.auto
instance:∀a0 a1 a2,TotC (Ae7 a0 a1 a2):=fun a0 a1 a2=>⟨EN0 a0 a1 a2⟩
theorem CB8:∀a0 a1,Tot (Ae8 a0 a1):=by
 intros
 unfold Ae8;exact Tot.auto
instance:∀a0 a1,TotC (Ae8 a0 a1):=fun a0 a1=>⟨CB8 a0 a1⟩
theorem EN1:∀a0 a1,Tot (AB4 a0 a1):=by
 intros
 unfold AB4;exact Tot.auto
instance:∀a0 a1,TotC (AB4 a0 a1):=fun a0 a1=>⟨EN1 a0 a1⟩
theorem CB9:∀a0 a1,Tot (Am9 a0 a1):=by
 intros
 unfold Am9;exact Tot.auto
instance:∀a0 a1,TotC (Am9 a0 a1):=fun a0 a1=>⟨CB9 a0 a1⟩
theorem EN2:∀a0,Tot (Am6 a0):=by
 intros
 unfold Am6;exact Tot.auto
instance:∀a0,TotC (Am6 a0):=fun a0=>⟨EN2 a0⟩
theorem CC0:∀a0,Tot (Af3 a0):=by
 intros
 unfold Af3;exact Tot.auto
instance:∀a0,TotC (Af3 a0):=fun a0=>⟨CC0 a0⟩
theorem EN3:∀a0 a1,Tot (Am3 a0 a1):=by
 intros
 unfold Am3;exact Tot.auto
instance:∀a0 a1,TotC (Am3 a0 a1):=fun a0 a1=>⟨EN3 a0 a1⟩
theorem CC1:∀a0 a1 a2,Tot (Am7 a0 a1 a2):=by
 intros
 unfold Am7;exact Tot.auto
instance:∀a0 a1 a2,TotC (Am7 a0 a1 a2):=fun a0 a1 a2=>⟨CC1 a0 a1 a2⟩
theorem EN4:∀a0 a1 a2 a3,Tot (AE4 a0 a1 a2 a3):=by
 intros
 unfold AE4;exact Tot.auto
instance:∀a0 a1 a2 a3,TotC (AE4 a0 a1 a2 a3):=fun a0 a1 a2 a3=>⟨EN4 a0 a1 a2 a3⟩
theorem EN5:∀a0 a1,Tot (AN5 a0 a1):=by
 intros
 unfold AN5;exact Tot.auto
instance:∀a0 a1,TotC (AN5 a0 a1):=fun a0 a1=>⟨EN5 a0 a1⟩
theorem CC2:∀a0 a1,Tot (AN6 a0 a1):=by
 intros
 unfold AN6;exact Tot.auto
instance:∀a0 a1,TotC (AN6 a0 a1):=fun a0 a1=>⟨CC2 a0 a1⟩
theorem Af7:∀a0 a1,Tot (V6 a0 a1):=by
 intros
 unfold V6;exact Tot.auto
instance:∀a0 a1,TotC (V6 a0 a1):=fun a0 a1=>⟨Af7 a0 a1⟩
theorem BQ5:∀a0 a1,Tot (l8 a0 a1):=by
 intros
 unfold l8;exact Tot.auto
instance:∀a0 a1,TotC (l8 a0 a1):=fun a0 a1=>⟨BQ5 a0 a1⟩
theorem CC3:∀a0 a1,Tot (AN9 a0 a1):=by
 intros
 unfold AN9;exact Tot.auto
instance:∀a0 a1,TotC (AN9 a0 a1):=fun a0 a1=>⟨CC3 a0 a1⟩
theorem CC4:∀a0 a1,Tot (AO1 a0 a1):=by
 intros
 unfold AO1;exact Tot.auto
instance:∀a0 a1,TotC (AO1 a0 a1):=fun a0 a1=>⟨CC4 a0 a1⟩
theorem An5:∀a0,Tot (AB5 a0):=by
 intros
 unfold AB5;exact Tot.auto
instance:∀a0,TotC (AB5 a0):=fun a0=>⟨An5 a0⟩
theorem EN6:∀a0 a1 a2,Tot (AI6 a0 a1 a2):=by
 intros
 unfold AI6;exact Tot.auto
instance:∀a0 a1 a2,TotC (AI6 a0 a1 a2):=fun a0 a1 a2=>⟨EN6 a0 a1 a2⟩
theorem CC5:∀a0 a1 a2,Tot (AI7 a0 a1 a2):=by
 intros
 unfold AI7;exact Tot.auto
instance:∀a0 a1 a2,TotC (AI7 a0 a1 a2):=fun a0 a1 a2=>⟨CC5 a0 a1 a2⟩
theorem EN7:∀a0 a1,Tot (Al8 a0 a1):=by
 intros
 unfold Al8;exact Tot.auto
instance:∀a0 a1,TotC (Al8 a0 a1):=fun a0 a1=>⟨EN7 a0 a1⟩
theorem CC6:∀a0 a1 a2,Tot (Ae9 a0 a1 a2):=by
 intros
 unfold Ae9;exact Tot.auto
instance:∀a0 a1 a2,TotC (Ae9 a0 a1 a2):=fun a0 a1 a2=>⟨CC6 a0 a1 a2⟩
theorem EN8:∀a0 a1,Tot (AN4 a0 a1):=by
 intros
 unfold AN4;exact Tot.auto
instance:∀a0 a1,TotC (AN4 a0 a1):=fun a0 a1=>⟨EN8 a0 a1⟩
theorem CC7:∀a0 a1,Tot (AI8 a0 a1):=by
 intros
 unfold AI8;exact Tot.auto
instance:∀a0 a1,TotC (AI8 a0 a1):=fun a0 a1=>⟨CC7 a0 a1⟩
theorem CC8:∀a0 a1,Tot (AN8 a0 a1):=by
 intros
 unfold AN8;exact Tot.auto
instance:∀a0 a1,TotC (AN8 a0 a1):=fun a0 a1=>⟨CC8 a0 a1⟩
theorem CC9:∀a0 a1 a2,Tot (Af0 a0 a1 a2):=by
 intros
 unfold Af0;exact Tot.auto
instance:∀a0 a1 a2,TotC (Af0 a0 a1 a2):=fun a0 a1 a2=>⟨CC9 a0 a1 a2⟩
theorem CD0:∀a0 a1,Tot (Af2 a0 a1):=by
 intros
 unfold Af2;exact Tot.auto
instance:∀a0 a1,TotC (Af2 a0 a1):=fun a0 a1=>⟨CD0 a0 a1⟩
theorem EN9:∀a0 a1 a2,Tot (AO6 a0 a1 a2):=by
 intros
 unfold AO6;exact Tot.auto
instance:∀a0 a1 a2,TotC (AO6 a0 a1 a2):=fun a0 a1 a2=>⟨EN9 a0 a1 a2⟩
theorem BQ6:∀a0 a1 a2 a3,Tot (AB6 a0 a1 a2 a3):=by
 intros
 unfold AB6;exact Tot.auto
instance:∀a0 a1 a2 a3,TotC (AB6 a0 a1 a2 a3):=fun a0 a1 a2 a3=>⟨BQ6 a0 a1 a2 a3⟩
theorem EO0:∀a0 a1 a2,Tot (Af4 a0 a1 a2):=by
 intros
 unfold Af4;exact Tot.auto
instance:∀a0 a1 a2,TotC (Af4 a0 a1 a2):=fun a0 a1 a2=>⟨EO0 a0 a1 a2⟩
theorem CD1:∀a0 a1 a2 a3 a4 a5,Tot (AW5 a0 a1 a2 a3 a4 a5):=by
 intros
 unfold AW5;exact Tot.auto
instance:∀a0 a1 a2 a3 a4 a5,TotC (AW5 a0 a1 a2 a3 a4 a5):=fun a0 a1 a2 a3 a4 a5=>⟨CD1 a0 a1 a2 a3 a4 a5⟩
theorem CD2:∀a0 a1 a2 a3,Tot (Af5 a0 a1 a2 a3):=by
 intros
 unfold Af5;exact Tot.auto
instance:∀a0 a1 a2 a3,TotC (Af5 a0 a1 a2 a3):=fun a0 a1 a2 a3=>⟨CD2 a0 a1 a2 a3⟩
theorem EO1:∀a0 a1,Tot (Am8 a0 a1):=by
 intros
 unfold Am8;exact Tot.auto
instance:∀a0 a1,TotC (Am8 a0 a1):=fun a0 a1=>⟨EO1 a0 a1⟩
theorem CD3:∀a0 a1 a2 a3,Tot (AW6 a0 a1 a2 a3):=by
 intros
 unfold AW6;exact Tot.auto
instance:∀a0 a1 a2 a3,TotC (AW6 a0 a1 a2 a3):=fun a0 a1 a2 a3=>⟨CD3 a0 a1 a2 a3⟩
theorem CD4:∀a0 a1 a2 a3 a4,Tot (AW7 a0 a1 a2 a3 a4):=by
 intros
 unfold AW7;exact Tot.auto
instance:∀a0 a1 a2 a3 a4,TotC (AW7 a0 a1 a2 a3 a4):=fun a0 a1 a2 a3 a4=>⟨CD4 a0 a1 a2 a3 a4⟩
theorem CD5:∀a0 a1,Tot (AO3 a0 a1):=by
 intros
 unfold AO3;exact Tot.auto
instance:∀a0 a1,TotC (AO3 a0 a1):=fun a0 a1=>⟨CD5 a0 a1⟩
theorem CD6:∀a0 a1,Tot (AW0 a0 a1):=by
 intros
 unfold AW0;exact Tot.auto
instance:∀a0 a1,TotC (AW0 a0 a1):=fun a0 a1=>⟨CD6 a0 a1⟩
theorem CD7:∀a0 a1,Tot (Am5 a0 a1):=by
 intros
 unfold Am5;exact Tot.auto
instance:∀a0 a1,TotC (Am5 a0 a1):=fun a0 a1=>⟨CD7 a0 a1⟩
theorem EO2:∀a0 a1 a2 a3 a4 a5 a6 a7,Tot (AO0 a0 a1 a2 a3 a4 a5 a6 a7):=by
 intros
 unfold AO0;exact Tot.auto
instance:∀a0 a1 a2 a3 a4 a5 a6 a7,TotC (AO0 a0 a1 a2 a3 a4 a5 a6 a7):=fun a0 a1 a2 a3 a4 a5 a6 a7=>⟨EO2 a0 a1 a2 a3 a4 a5 a6 a7⟩
theorem EO3:∀a0,Tot (AV8 a0):=by
 intros
 unfold AV8;exact Tot.auto
instance:∀a0,TotC (AV8 a0):=fun a0=>⟨EO3 a0⟩
theorem EO4:∀a0 a1,Tot (AV9 a0 a1):=by
 intros
 unfold AV9;exact Tot.auto
instance:∀a0 a1,TotC (AV9 a0 a1):=fun a0 a1=>⟨EO4 a0 a1⟩
theorem BQ7:∀a0 a1,Tot (AJ0 a0 a1):=by
 intros
 unfold AJ0;exact Tot.auto
instance:∀a0 a1,TotC (AJ0 a0 a1):=fun a0 a1=>⟨BQ7 a0 a1⟩
theorem EO5:∀a0 a1,Tot (AW2 a0 a1):=by
 intros
 unfold AW2;exact Tot.auto
instance:∀a0 a1,TotC (AW2 a0 a1):=fun a0 a1=>⟨EO5 a0 a1⟩
theorem CD8:∀a0,Tot (Ac5 a0):=by
 intros
 unfold Ac5;exact Tot.auto
instance:∀a0,TotC (Ac5 a0):=fun a0=>⟨CD8 a0⟩
theorem EO6:∀a0 a1 a2,Tot (M6 a0 a1 a2):=by
 intros
 unfold M6;exact Tot.auto
instance:∀a0 a1 a2,TotC (M6 a0 a1 a2):=fun a0 a1 a2=>⟨EO6 a0 a1 a2⟩
theorem CD9:∀a0 a1 a2 a3 a4 a5 a6 a7 a8 a9 a10 a11 a12 a13,Tot (Ac6 a0 a1 a2 a3 a4 a5 a6 a7 a8 a9 a10 a11 a12 a13):=by
 intros
 unfold Ac6;exact Tot.auto
instance:∀a0 a1 a2 a3 a4 a5 a6 a7 a8 a9 a10 a11 a12 a13,TotC (Ac6 a0 a1 a2 a3 a4 a5 a6 a7 a8 a9 a10 a11 a12 a13):=fun a0 a1 a2 a3 a4 a5 a6 a7 a8 a9 a10 a11 a12 a13=>⟨CD9 a0 a1 a2 a3 a4 a5 a6 a7 a8 a9 a10 a11 a12 a13⟩
theorem CE0:∀a0 a1 a2 a3 a4 a5 a6 a7 a8 a9 a10 a11 a12 a13,Tot (Ac7 a0 a1 a2 a3 a4 a5 a6 a7 a8 a9 a10 a11 a12 a13):=by
 intros
 unfold Ac7;exact Tot.auto
instance:∀a0 a1 a2 a3 a4 a5 a6 a7 a8 a9 a10 a11 a12 a13,TotC (Ac7 a0 a1 a2 a3 a4 a5 a6 a7 a8 a9 a10 a11 a12 a13):=fun a0 a1 a2 a3 a4 a5 a6 a7 a8 a9 a10 a11 a12 a13=>⟨CE0 a0 a1 a2 a3 a4 a5 a6 a7 a8 a9 a10 a11 a12 a13⟩
theorem CE1:∀a0 a1 a2 a3 a4 a5 a6 a7 a8 a9 a10 a11 a12 a13,Tot (Ac8 a0 a1 a2 a3 a4 a5 a6 a7 a8 a9 a10 a11 a12 a13):=by
 intros
 unfold Ac8;exact Tot.auto
instance:∀a0 a1 a2 a3 a4 a5 a6 a7 a8 a9 a10 a11 a12 a13,TotC (Ac8 a0 a1 a2 a3 a4 a5 a6 a7 a8 a9 a10 a11 a12 a13):=fun a0 a1 a2 a3 a4 a5 a6 a7 a8 a9 a10 a11 a12 a13=>⟨CE1 a0 a1 a2 a3 a4 a5 a6 a7 a8 a9 a10 a11 a12 a13⟩
theorem CE2:∀a0 a1 a2 a3 a4 a5 a6 a7 a8 a9 a10 a11 a12 a13,Tot (Ac9 a0 a1 a2 a3 a4 a5 a6 a7 a8 a9 a10 a11 a12 a13):=by
 intros
 unfold Ac9;exact Tot.auto
instance:∀a0 a1 a2 a3 a4 a5 a6 a7 a8 a9 a10 a11 a12 a13,TotC (Ac9 a0 a1 a2 a3 a4 a5 a6 a7 a8 a9 a10 a11 a12 a13):=fun a0 a1 a2 a3 a4 a5 a6 a7 a8 a9 a10 a11 a12 a13=>⟨CE2 a0 a1 a2 a3 a4 a5 a6 a7 a8 a9 a10 a11 a12 a13⟩
theorem CE3:∀a0 a1 a2 a3 a4 a5 a6 a7 a8 a9 a10 a11 a12 a13,Tot (Ad0 a0 a1 a2 a3 a4 a5 a6 a7 a8 a9 a10 a11 a12 a13):=by
 intros
 unfold Ad0;exact Tot.auto
instance:∀a0 a1 a2 a3 a4 a5 a6 a7 a8 a9 a10 a11 a12 a13,TotC (Ad0 a0 a1 a2 a3 a4 a5 a6 a7 a8 a9 a10 a11 a12 a13):=fun a0 a1 a2 a3 a4 a5 a6 a7 a8 a9 a10 a11 a12 a13=>⟨CE3 a0 a1 a2 a3 a4 a5 a6 a7 a8 a9 a10 a11 a12 a13⟩
theorem CE4:∀a0 a1 a2 a3 a4 a5 a6 a7 a8 a9 a10 a11 a12 a13,Tot (Ad1 a0 a1 a2 a3 a4 a5 a6 a7 a8 a9 a10 a11 a12 a13):=by
 intros
 unfold Ad1;exact Tot.auto
instance:∀a0 a1 a2 a3 a4 a5 a6 a7 a8 a9 a10 a11 a12 a13,TotC (Ad1 a0 a1 a2 a3 a4 a5 a6 a7 a8 a9 a10 a11 a12 a13):=fun a0 a1 a2 a3 a4 a5 a6 a7 a8 a9 a10 a11 a12 a13=>⟨CE4 a0 a1 a2 a3 a4 a5 a6 a7 a8 a9 a10 a11 a12 a13⟩
theorem CE5:∀a0 a1 a2 a3 a4 a5 a6 a7 a8 a9 a10 a11 a12 a13,Tot (Ad2 a0 a1 a2 a3 a4 a5 a6 a7 a8 a9 a10 a11 a12 a13):=by
 intros
 unfold Ad2;exact Tot.auto
instance:∀a0 a1 a2 a3 a4 a5 a6 a7 a8 a9 a10 a11 a12 a13,TotC (Ad2 a0 a1 a2 a3 a4 a5 a6 a7 a8 a9 a10 a11 a12 a13):=fun a0 a1 a2 a3 a4 a5 a6 a7 a8 a9 a10 a11 a12 a13=>⟨CE5 a0 a1 a2 a3 a4 a5 a6 a7 a8 a9 a10 a11 a12 a13⟩
theorem CE6:∀a0 a1 a2 a3 a4 a5 a6 a7 a8 a9 a10 a11 a12 a13,Tot (Ad3 a0 a1 a2 a3 a4 a5 a6 a7 a8 a9 a10 a11 a12 a13):=by
 intros
 unfold Ad3;exact Tot.auto
instance:∀a0 a1 a2 a3 a4 a5 a6 a7 a8 a9 a10 a11 a12 a13,TotC (Ad3 a0 a1 a2 a3 a4 a5 a6 a7 a8 a9 a10 a11 a12 a13):=fun a0 a1 a2 a3 a4 a5 a6 a7 a8 a9 a10 a11 a12 a13=>⟨CE6 a0 a1 a2 a3 a4 a5 a6 a7 a8 a9 a10 a11 a12 a13⟩
theorem CE7:∀a0 a1 a2 a3 a4 a5 a6 a7 a8 a9 a10 a11 a12 a13,Tot (Ad4 a0 a1 a2 a3 a4 a5 a6 a7 a8 a9 a10 a11 a12 a13):=by
 intros
 unfold Ad4;exact Tot.auto
instance:∀a0 a1 a2 a3 a4 a5 a6 a7 a8 a9 a10 a11 a12 a13,TotC (Ad4 a0 a1 a2 a3 a4 a5 a6 a7 a8 a9 a10 a11 a12 a13):=fun a0 a1 a2 a3 a4 a5 a6 a7 a8 a9 a10 a11 a12 a13=>⟨CE7 a0 a1 a2 a3 a4 a5 a6 a7 a8 a9 a10 a11 a12 a13⟩
theorem EO7:∀a0,Tot (AD9 a0):=by
 intros
 unfold AD9;exact Tot.auto
instance:∀a0,TotC (AD9 a0):=fun a0=>⟨EO7 a0⟩
theorem CE8:∀a0 a1 a2 a3 a4 a5 a6 a7 a8 a9 a10 a11 a12 a13,Tot (AH9 a0 a1 a2 a3 a4 a5 a6 a7 a8 a9 a10 a11 a12 a13):=by
 intros
 unfold AH9;exact Tot.auto
instance:∀a0 a1 a2 a3 a4 a5 a6 a7 a8 a9 a10 a11 a12 a13,TotC (AH9 a0 a1 a2 a3 a4 a5 a6 a7 a8 a9 a10 a11 a12 a13):=fun a0 a1 a2 a3 a4 a5 a6 a7 a8 a9 a10 a11 a12 a13=>⟨CE8 a0 a1 a2 a3 a4 a5 a6 a7 a8 a9 a10 a11 a12 a13⟩
theorem CE9:∀a0 a1 a2 a3 a4 a5 a6 a7 a8 a9 a10 a11 a12 a13,Tot (Ad5 a0 a1 a2 a3 a4 a5 a6 a7 a8 a9 a10 a11 a12 a13):=by
 intros
 unfold Ad5;exact Tot.auto
instance:∀a0 a1 a2 a3 a4 a5 a6 a7 a8 a9 a10 a11 a12 a13,TotC (Ad5 a0 a1 a2 a3 a4 a5 a6 a7 a8 a9 a10 a11 a12 a13):=fun a0 a1 a2 a3 a4 a5 a6 a7 a8 a9 a10 a11 a12 a13=>⟨CE9 a0 a1 a2 a3 a4 a5 a6 a7 a8 a9 a10 a11 a12 a13⟩
theorem CF0:∀a0 a1 a2 a3 a4 a5 a6 a7 a8 a9 a10 a11 a12 a13,Tot (Ad6 a0 a1 a2 a3 a4 a5 a6 a7 a8 a9 a10 a11 a12 a13):=by
 intros
 unfold Ad6;exact Tot.auto
instance:∀a0 a1 a2 a3 a4 a5 a6 a7 a8 a9 a10 a11 a12 a13,TotC (Ad6 a0 a1 a2 a3 a4 a5 a6 a7 a8 a9 a10 a11 a12 a13):=fun a0 a1 a2 a3 a4 a5 a6 a7 a8 a9 a10 a11 a12 a13=>⟨CF0 a0 a1 a2 a3 a4 a5 a6 a7 a8 a9 a10 a11 a12 a13⟩
theorem EO8 (c:Int×(Int×(Int×(Int×(Int×(Int×(Int×(Int×(Int×(Int×(Int×(Int×(Int×Int))))))))))))):Tot (AI0 c):=by unfold AI0;exact Tot.bnd (CD8 _) fun _=>Tot.bnd (CD9 ..) fun _=>Tot.cnd Tot.some (Tot.bnd (CE0 ..) fun _=>Tot.cnd Tot.some (Tot.bnd (CE1 ..) fun _=>Tot.cnd Tot.some (Tot.bnd (CE2 ..) fun _=>Tot.cnd Tot.some (Tot.bnd (CE3 ..) fun _=>Tot.cnd Tot.some (Tot.bnd (CE4 ..) fun _=>Tot.cnd Tot.some (Tot.bnd (CE5 ..) fun _=>Tot.cnd Tot.some (Tot.bnd (CE6 ..) fun _=>Tot.cnd Tot.some (Tot.bnd (CE7 ..) fun _=>Tot.cnd Tot.some (Tot.bnd (CE8 ..) fun _=>Tot.cnd Tot.some (Tot.bnd (CE9 ..) fun _=>Tot.cnd Tot.some (Tot.bnd (CF0 ..) fun _=>Tot.cnd Tot.some (Tot.some))))))))))))
theorem CF1:∀a0 a1,Tot (Ad7 a0 a1):=by
 intros
 unfold Ad7;exact Tot.auto
instance:∀a0 a1,TotC (Ad7 a0 a1):=fun a0 a1=>⟨CF1 a0 a1⟩
end Go.Proofs.YthfjpkdadjemcaaGreat
