/- A part of the proof that the law spadilletop.TopSharedRing answers true and leaves its argument as it was (K8) -/
import Derived.Test.YtmpogedhilfjgaaGreatDoorK1
import Derived.Test.YtmpogedhilfjgaaGreatDoorK2
import Derived.Test.YtmpogedhilfjgaaGreatDoorK3
import Derived.Test.YtmpogedhilfjgaaGreatDoorK4
import Derived.Test.YtmpogedhilfjgaaGreatDoorK5
import Derived.Test.YtmpogedhilfjgaaGreatDoorK6
import Derived.Test.YtmpogedhilfjgaaGreatDoorK7
set_option linter.all false
set_option maxRecDepth 1000000
open Go Go.Cs
namespace Go.Proofs.YtmpogedhilfjgaaGreatDoor
theorem k168 : Known Tryz.prog gl K0 168 := runK_ok hE hm nat0 k0G rfl k0N (fun g hg => by cases hg) r168
theorem k138 : Known Tryz.prog gl K0 138 := runK_ok hE hm nat0 k0G rfl k0N (fun g hg => by simp only [List.mem_cons, List.not_mem_nil, or_false] at hg; subst hg; exact k168) r138
theorem k119 : Known Tryz.prog gl K0 119 := runK_ok hE hm nat0 k0G rfl k0N (fun g hg => by simp only [List.mem_cons, List.not_mem_nil, or_false] at hg; subst hg; exact k138) r119
theorem k100 : Known Tryz.prog gl K0 100 := runK_ok hE hm nat0 k0G rfl k0N (fun g hg => by simp only [List.mem_cons, List.not_mem_nil, or_false] at hg; subst hg; exact k119) r100
theorem k94 : Known Tryz.prog gl K0 94 := runK_ok hE hm nat0 k0G rfl k0N (fun g hg => by simp only [List.mem_cons, List.not_mem_nil, or_false] at hg; subst hg; exact k100) r94
theorem k82 : Known Tryz.prog gl K0 82 := runK_ok hE hm nat0 k0G rfl k0N (fun g hg => by simp only [List.mem_cons, List.not_mem_nil, or_false] at hg; subst hg; exact k94) r82
theorem k48 : Known Tryz.prog gl K0 48 := runK_ok hE hm nat0 k0G rfl k0N (fun g hg => by simp only [List.mem_cons, List.not_mem_nil, or_false] at hg; subst hg; exact k82) r48
theorem bookOk {H : Heap} {n : Nat} (hg : aget H 0 = some gl) : F Tryz.prog [0] 48 [] H n fun v H' n' => v = .bool true ∧ H' = H ∧ n' = n := k48.any k0G rfl k0N hg
end Go.Proofs.YtmpogedhilfjgaaGreatDoor
