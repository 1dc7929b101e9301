/- A functional reading of the code: the shapes of plain data. No program in sight. -/
import Derived.Calls
import Derived.Orders
import Derived.KernelRfl
set_option linter.unusedSimpArgs false
set_option linter.unusedVariables false
namespace Go.Proofs.YthfjpkdadjemcaaGreat
inductive Ty where
 |int (k:IntKind)
 |bool
 |str
 |unit
 |pair (a b:Ty)
 |slice (a:Ty)
 |agg (a:Ty)
 deriving DecidableEq
@[reducible] def Ty.den : Ty → Type
 | .int _=>Int
 | .bool=>Bool
 | .str=>ByteArray
 | .unit=>Unit
 | .pair a b=>a.den×b.den
 | .slice a=>List a.den
 | .agg a=>a.den
def Ty.J7:(t:Ty)→t.den
 | .int _=>(0:Int)
 | .bool=>false
 | .str=>ByteArray.empty
 | .unit=>()
 | .pair a b=>(a.J7,b.J7)
 | .slice _=>[]
 | .agg a=>a.J7

/- The variables of packages whose data are known: none. -/
def BD5:List (Nat×((t:Ty)×t.den)):=[]
end Go.Proofs.YthfjpkdadjemcaaGreat
