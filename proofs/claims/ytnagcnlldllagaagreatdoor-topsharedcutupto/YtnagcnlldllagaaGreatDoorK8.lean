/- A part of the proof that spadilletop.TopSharedCut answers true and leaves its argument as it was (bulk at most 1048576): K8. -/
import Derived.Test.YtnagcnlldllagaaGreatDoorK1
import Derived.Test.YtnagcnlldllagaaGreatDoorK2
import Derived.Test.YtnagcnlldllagaaGreatDoorK3
import Derived.Test.YtnagcnlldllagaaGreatDoorK4
import Derived.Test.YtnagcnlldllagaaGreatDoorK5
import Derived.Test.YtnagcnlldllagaaGreatDoorK6
import Derived.Test.YtnagcnlldllagaaGreatDoorK7
set_option linter.all false
/- The closed run: it answers true over any heap. -/
set_option maxRecDepth 1000000
open Go Go.Cs
namespace Go.Proofs.YtnagcnlldllagaaGreatDoor
theorem k158 : Known Tryz.prog gl K0 158 := runK_ok hE hm nat0 k0G rfl k0N (fun g hg => by cases hg) r158
theorem k128 : Known Tryz.prog gl K0 128 := runK_ok hE hm nat0 k0G rfl k0N (fun g hg => by simp only [List.mem_cons, List.not_mem_nil, or_false] at hg; subst hg; exact k158) r128
theorem k107 : Known Tryz.prog gl K0 107 := runK_ok hE hm nat0 k0G rfl k0N (fun g hg => by simp only [List.mem_cons, List.not_mem_nil, or_false] at hg; subst hg; exact k128) r107
theorem k87 : Known Tryz.prog gl K0 87 := runK_ok hE hm nat0 k0G rfl k0N (fun g hg => by simp only [List.mem_cons, List.not_mem_nil, or_false] at hg; subst hg; exact k107) r87
theorem k76 : Known Tryz.prog gl K0 76 := runK_ok hE hm nat0 k0G rfl k0N (fun g hg => by simp only [List.mem_cons, List.not_mem_nil, or_false] at hg; subst hg; exact k87) r76
theorem k56 : Known Tryz.prog gl K0 56 := runK_ok hE hm nat0 k0G rfl k0N (fun g hg => by simp only [List.mem_cons, List.not_mem_nil, or_false] at hg; subst hg; exact k76) r56
theorem k28 : Known Tryz.prog gl K0 28 := runK_ok hE hm nat0 k0G rfl k0N (fun g hg => by simp only [List.mem_cons, List.not_mem_nil, or_false] at hg; subst hg; exact k56) r28
theorem bookOk {H : Heap} {n : Nat} (hg : aget H 0 = some gl) : F Tryz.prog [0] 28 [] H n fun v H' n' => v = .bool true ∧ H' = H ∧ n' = n := k28.any k0G rfl k0N hg
end Go.Proofs.YtnagcnlldllagaaGreatDoor
