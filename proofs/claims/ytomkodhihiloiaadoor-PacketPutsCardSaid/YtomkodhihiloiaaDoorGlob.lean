/- The variables of packages whose data are known (printed). -/
import Derived.Test.YtomkodhihiloiaaDoorEng0
set_option linter.unusedSimpArgs false
set_option linter.unusedVariables false
namespace Go.Proofs.YtomkodhihiloiaaDoor
def glob_0 : Ty.den (.agg (.pair (.int .i64) (.pair (.int .i64) (.pair (.int .i64) (.pair (.int .i64) (.pair (.int .i64) (.pair (.int .i64) (.pair (.int .i64) (.int .i64))))))))) := ((16 : Int), ((3 : Int), ((16 : Int), ((36 : Int), ((36 : Int), ((36 : Int), ((20 : Int), (20 : Int))))))))
def globs : List (Nat × ((t : Ty) × t.den)) := [(0, ⟨(.agg (.pair (.int .i64) (.pair (.int .i64) (.pair (.int .i64) (.pair (.int .i64) (.pair (.int .i64) (.pair (.int .i64) (.pair (.int .i64) (.int .i64))))))))), glob_0⟩)]
end Go.Proofs.YtomkodhihiloiaaDoor
