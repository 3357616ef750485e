/- Closed facts of the program, asked by themselves. No condition. -/
import Derived.Test.YtpocekfifokndaaDoorCards
import Derived.KernelRfl
import Derived.JoinedOf
import Derived.SevenTiedAt
set_option linter.unusedSimpArgs false
set_option linter.unusedVariables false
namespace Go.Proofs.YtpocekfifokndaaDoor
open Go
set_option maxRecDepth 100000
theorem m1 : Tryd.pinned.checked.prog.mainIs = some (true, "4e9fd2557f5e827f8f518a2f4662332e651e6cd2f415b1c5bccb2a04ab6ebd76".toList) := by kernel_rfl
end Go.Proofs.YtpocekfifokndaaDoor
