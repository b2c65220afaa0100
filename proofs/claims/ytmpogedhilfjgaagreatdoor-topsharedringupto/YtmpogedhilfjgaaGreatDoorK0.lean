/- A part of the proof that the law spadilletop.TopSharedRing answers true and leaves its argument as it was (K0) -/
import Derived.Test.YtmpogedhilfjgaaGreatDoorC1
import Derived.Test.YtmpogedhilfjgaaGreatDoorCsJ
set_option linter.all false
set_option maxRecDepth 1000000
open Go Go.Cs
namespace Go.Proofs.YtmpogedhilfjgaaGreatDoor
def ids : Ids := { countString := 171, indexByte := 214, noEscape := 110, clash := 65, counts := 72, push := 232, boxT := 75 }
def K0 : Heap := aput .nil 0 gl
theorem k0G : GlobOk [0] K0 1 := by
 intro g hg
 simp only [List.mem_cons, List.not_mem_nil, or_false] at hg
 subst hg
 exact ⟨by decide, _, _, rfl, by decide⟩
theorem k0N : ∀ i, i ∉ [0] → aget K0 i = none := by
 intro i hi
 simp only [List.mem_cons, List.not_mem_nil, or_false] at hi
 unfold K0
 rw [aget_aput, if_neg (Ne.symm hi)]
 rfl
theorem nat0 : Nat0 Tryz.prog ids where
 cs := ⟨_, rfl, by kernel_rfl, by kernel_rfl, by kernel_rfl, by kernel_rfl⟩
 ib := ⟨_, rfl, by kernel_rfl, by kernel_rfl, by kernel_rfl, by kernel_rfl⟩
 ne := ⟨_, rfl, by kernel_rfl, by kernel_rfl, by kernel_rfl, by kernel_rfl⟩
 cl := by kernel_rfl
 pu := by kernel_rfl
end Go.Proofs.YtmpogedhilfjgaaGreatDoor
