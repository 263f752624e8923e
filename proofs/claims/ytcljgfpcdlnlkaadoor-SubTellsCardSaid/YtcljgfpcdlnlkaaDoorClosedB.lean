/- Closed facts of the program alone: what it lifts, what it makes. -/
import Derived.Test.YtcljgfpcdlnlkaaDoorCards
import Derived.KernelRfl
namespace Go.Proofs.YtcljgfpcdlnlkaaDoor.Q
open Go
theorem fact_lifted : (Rows.subPicksRow.lifted == Tryd.prog.liftsFinal) = true := by kernel_rfl
theorem fact_make : (Tryd.prog.make == some Rows.subPicksRow.make) = true := by kernel_rfl
end Go.Proofs.YtcljgfpcdlnlkaaDoor.Q
