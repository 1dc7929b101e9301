/- What the rows' arguments give. -/
import Derived.Test.YthfjpkdadjemcaaGreatFGH
import Derived.Test.YthfjpkdadjemcaaGreatEngLink
import Derived.Test.YthfjpkdadjemcaaGreatTIJ
set_option linter.unusedSimpArgs false
set_option linter.unusedVariables false
namespace Go.Proofs.YthfjpkdadjemcaaGreat
open Go Go.RowKit
open Go.IntKind renaming signed → Fb8
abbrev TkY:Ty:=.agg (.pair (.slice (.agg (.pair (.int .i64) (.pair (.slice (.agg (.pair (.int .i64) (.int .i64)))) (.slice (.int .i64)))))) (.slice (.agg (.pair (.int .i64) (.pair (.int .i64) (.pair (.int .i64) (.pair (.int .i64) (.int .i64))))))))
theorem Ed4 {t:TkD}(h:Fits TkY t):BB9 t:=
 ⟨fun s hs=>⟨AW5 (h.1.2 s hs).1,fun p hp=>⟨AW5 ((h.1.2 s hs).2.1.2 p hp).1,AW5 ((h.1.2 s hs).2.1.2 p hp).2⟩⟩,
  fun g hg=>⟨AW5 (h.2.2 g hg).1,AW5 (h.2.2 g hg).2.2.1,AW5 (h.2.2 g hg).2.2.2.1,AW5 (h.2.2 g hg).2.2.2.2⟩⟩
theorem Ed5 {t:TkD}(h:Fits TkY t):t.1.length≤200→∀s∈t.1,s.2.1.length≤big∧s.2.2.length≤big:=by intro _ s hs;have h1:s.2.1.length≤140737488351232:=(h.1.2 s hs).2.1.1;have h2:s.2.2.length≤140737488351232:=(h.1.2 s hs).2.2.1;unfold big;omega

/- What the rows' arguments give: what is sent. -/
abbrev CN8:Ty:=.agg (.pair (.agg (.pair (.int .u16) (.int .u16))) (.pair (.int .i32) (.pair (.int .i32) (.pair (.int .u16) (.pair (.agg (.pair .bool (.pair .bool (.pair .bool (.pair .bool .bool))))) .bool)))))
theorem BV5 {c:Int}(h:Fits (.int .u16) c):0≤c∧c≤65535:=by have h3:fits .u16 c=true:=h;unfold fits at h3;simp[Fb8,IntKind.bits] at h3;omega
theorem CN9 {c:Int}(h:Fits (.int .i32) c) : -2147483648≤c∧c≤2147483647:=by have h3:fits .i32 c=true:=h;unfold fits at h3;simp[Fb8,IntKind.bits] at h3;omega
theorem Ed6 {l:List Sen}(h:Fits (.slice CN8) l):∀x∈l,r9 x:=by intro x hx;have h1:Fits CN8 x:=h.2 x hx;exact⟨BV5 h1.1.1,BV5 h1.1.2,CN9 h1.2.1,CN9 h1.2.2.1,BV5 h1.2.2.2.1⟩
end Go.Proofs.YthfjpkdadjemcaaGreat
