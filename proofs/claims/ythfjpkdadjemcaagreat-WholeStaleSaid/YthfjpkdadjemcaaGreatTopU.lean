/- What the rows' arguments give: what is sent. -/
import Derived.Test.YthfjpkdadjemcaaGreatTopR
import Derived.Test.YthfjpkdadjemcaaGreatTIJ
set_option linter.unusedSimpArgs false
set_option linter.unusedVariables false
namespace Go.Proofs.YthfjpkdadjemcaaGreat
open Go Go.RowKit
abbrev CJ9:Ty:=.agg (.pair (.agg (.pair (.int .u16) (.int .u16))) (.pair (.int .i32) (.pair (.int .i32) (.pair (.int .u16) (.pair (.agg (.pair .bool (.pair .bool (.pair .bool (.pair .bool .bool))))) .bool)))))
theorem BV8 {c:Int}(h:Fits (.int .u16) c):0≤c∧c≤65535:=by have h3:fits .u16 c=true:=h;unfold fits at h3;simp[IntKind.signed,IntKind.bits] at h3;omega
theorem CK0 {c:Int}(h:Fits (.int .i32) c) : -2147483648≤c∧c≤2147483647:=by have h3:fits .i32 c=true:=h;unfold fits at h3;simp[IntKind.signed,IntKind.bits] at h3;omega
theorem Eh4 {l:List Sen}(h:Fits (.slice CJ9) l):∀x∈l,u7 x:=by intro x hx;have h1:Fits CJ9 x:=h.2 x hx;exact⟨BV8 h1.1.1,BV8 h1.1.2,CK0 h1.2.1,CK0 h1.2.2.1,BV8 h1.2.2.2.1⟩
end Go.Proofs.YthfjpkdadjemcaaGreat
