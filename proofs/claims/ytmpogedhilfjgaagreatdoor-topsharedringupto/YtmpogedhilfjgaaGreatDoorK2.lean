/- A part of the proof that the law spadilletop.TopSharedRing answers true and leaves its argument as it was (K2) -/
import Derived.Test.YtmpogedhilfjgaaGreatDoorK0
set_option linter.all false
set_option maxRecDepth 1000000
open Go Go.Cs
namespace Go.Proofs.YtmpogedhilfjgaaGreatDoor
theorem r138 : okK gl (runK Tryz.prog [0] E0 100000 ids gl [168] 60 138 [] K0 1) = true := by kernel_rfl
end Go.Proofs.YtmpogedhilfjgaaGreatDoor
