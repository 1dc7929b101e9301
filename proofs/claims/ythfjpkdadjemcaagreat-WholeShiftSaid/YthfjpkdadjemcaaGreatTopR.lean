/- What the rows' arguments give. -/
import Derived.Test.YthfjpkdadjemcaaGreatTopH
import Derived.Test.YthfjpkdadjemcaaGreatEngLink
set_option linter.unusedSimpArgs false
set_option linter.unusedVariables false
namespace Go.Proofs.YthfjpkdadjemcaaGreat
open Go Go.RowKit
abbrev TkY:Ty:=.agg (.pair (.slice (.agg (.pair (.int .i64) (.pair (.slice (.agg (.pair (.int .i64) (.int .i64)))) (.slice (.int .i64)))))) (.slice (.agg (.pair (.int .i64) (.pair (.int .i64) (.pair (.int .i64) (.pair (.int .i64) (.int .i64))))))))
theorem BV6 {t:TkD}(h:Fits TkY t):Af0 t:=
 ⟨fun s hs=>⟨AN7 (h.1.2 s hs).1,fun p hp=>⟨AN7 ((h.1.2 s hs).2.1.2 p hp).1,AN7 ((h.1.2 s hs).2.1.2 p hp).2⟩⟩,
  fun g hg=>⟨AN7 (h.2.2 g hg).1,AN7 (h.2.2 g hg).2.2.1,AN7 (h.2.2 g hg).2.2.2.1,AN7 (h.2.2 g hg).2.2.2.2⟩⟩
theorem BV7 {t:TkD}(h:Fits TkY t):t.1.length≤200→∀s∈t.1,s.2.1.length≤big∧s.2.2.length≤big:=by intro _ s hs;have h1:s.2.1.length≤140737488351232:=(h.1.2 s hs).2.1.1;have h2:s.2.2.length≤140737488351232:=(h.1.2 s hs).2.2.1;unfold big;omega
theorem Eh3 {b:List Int}(h:Fits (.slice (.int .u8)) b):ByL b:=by intro c hc;have h2:=h.2 c hc;have h3:fits .u8 c=true:=h2;unfold fits at h3;simp[IntKind.signed,IntKind.bits] at h3;omega
theorem CJ8 {l:List Cyc}(h:Fits (.slice (.agg (.pair (.slice (.slice (.int .u8))) .bool))) l):∀x∈l,FOK x.1:=by intro x hx b hb;have h1:Fits (.slice (.int .u8)) b:=(h.2 x hx).1.2 b hb;have h2:b.length≤140737488351232:=h1.1;exact⟨AW2 (Eh3 h1),by omega⟩
end Go.Proofs.YthfjpkdadjemcaaGreat
