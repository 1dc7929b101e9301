/- Plain facts on numbers of 64 bits; no program in sight. -/
import Derived.Below
import Derived.Calls
import Derived.Laws.BitsLemmas
import Derived.Laws.BitsAllLaws
import Derived.Laws.Small
set_option linter.unusedSimpArgs false
set_option linter.unusedVariables false
namespace Go.Proofs.YthfjpkdadjemcaaGreat
open _root_.Int renaming eq_ofNat_of_zero_le → FO6
def I64 (n:Int):Prop := -9223372036854775808≤n∧n≤9223372036854775807
def Bt7 (a b:Int):Int:=if a<b then -1 else if a=b then 0 else 1
theorem EP5 (x y:Int)(i:Nat)(hx0:0≤x)(hx:x≤18446744073709551615)(hm:x % 2 ^ i=0)(hy0:0≤y)(hy:y≤18446744073709551615)(hyi:y<2 ^ i):bits .or .u64 x y=x+y:=by
 rw[u64_or x y hx0 (by omega) hy0 (by omega)]
 obtain⟨x,rfl⟩:=FO6 hx0;obtain⟨y,rfl⟩:=FO6 hy0;rw[Int.toNat_natCast,Int.toNat_natCast,nat_join i x y (by exact_mod_cast hm) (by exact_mod_cast hyi)]
 rfl
end Go.Proofs.YthfjpkdadjemcaaGreat
