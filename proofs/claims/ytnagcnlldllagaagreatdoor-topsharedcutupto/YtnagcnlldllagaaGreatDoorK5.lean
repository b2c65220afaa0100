/- A part of the proof that spadilletop.TopSharedCut answers true and leaves its argument as it was (bulk at most 1048576): K5. -/
import Derived.Test.YtnagcnlldllagaaGreatDoorK0
set_option linter.all false
/- One part of the closed run. -/
set_option maxRecDepth 1000000
open Go Go.Cs
namespace Go.Proofs.YtnagcnlldllagaaGreatDoor
theorem r76 : okK gl (runK Tryz.prog [0] E0 100000 ids gl [87] 60 76 [] K0 1) = true := by kernel_rfl
end Go.Proofs.YtnagcnlldllagaaGreatDoor
