/- Closed facts of the program, asked by themselves. No condition. -/
import Derived.Test.YtpocekfifokndaaDoorCards
import Derived.KernelRfl
import Derived.JoinedOf
import Derived.SevenTiedAt
set_option linter.unusedSimpArgs false
set_option linter.unusedVariables false
namespace Go.Proofs.YtpocekfifokndaaDoor
open Go
set_option maxRecDepth 100000
theorem j27 : ((Rows.placeMulsRow.lifted == Tryd.prog.liftsFinal)) = true := by kernel_rfl
end Go.Proofs.YtpocekfifokndaaDoor
