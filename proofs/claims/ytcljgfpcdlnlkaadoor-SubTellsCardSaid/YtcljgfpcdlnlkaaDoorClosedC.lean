/- Closed facts of the program alone: its main function, what it looks at. -/
import Derived.Test.YtcljgfpcdlnlkaaDoorCards
import Derived.KernelRfl
namespace Go.Proofs.YtcljgfpcdlnlkaaDoor.Q
open Go
theorem fact_mainIs : Tryd.pinned.checked.prog.mainIs = some (true, "b7f390f4ac617f6fa05530b730e12d26db561aeaf8ebef656134171ed864906e".toList) := by kernel_rfl
theorem fact_looks : false = Tryd.pinned.checked.prog.looks [] := by kernel_rfl
end Go.Proofs.YtcljgfpcdlnlkaaDoor.Q
