/- What the row of acmetop.TopBoltThread says of the program, looked up there: by itself, for the kernel's memory. -/
import Derived.Test.YtbnbikkhnjcmdabRows
import Derived.WalkKit
import Derived.ProofKit
import Derived.OpenShut
import Derived.ShutString
import Derived.ChangeOld
import Derived.Below
import Derived.SizedLaws
import Derived.Carry
namespace Go.Proofs.Ytbnbikkhnjcmdab.topBoltThread
open Go.ChangeShapes Go.WideShapes Go.ChangeAt Go.RowKit
theorem joined_ : joinedFacts Try.pinned.checked.prog 3 Try.f3 Rows.topBoltThreadSpec Rows.topBoltThreadRow = true := by kernel_rfl
end Go.Proofs.Ytbnbikkhnjcmdab.topBoltThread
