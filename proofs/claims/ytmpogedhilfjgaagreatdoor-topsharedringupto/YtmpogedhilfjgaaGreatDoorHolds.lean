/- PROVED: the law spadilletop.TopSharedRing answers true and leaves its argument as it was: for every argument of bulk at most 1048576, where the listed tables are laid as the program's text lays them (the tied card of the second form). No other condition. -/
import Derived.Test.YtmpogedhilfjgaaGreatDoorD3
import Derived.Test.YtmpogedhilfjgaaGreatDoorCards
import Derived.Test.YtmpogedhilfjgaaGreatDoorTie
import Derived.WalkKit
import Derived.ProofKit
import Derived.OpenShut
import Derived.Deep.DeepHandedRow
import Derived.Deep.Slices
import Derived.Deep.Strs
import Derived.Lib.SmallJoins
import Derived.Lib.LaidTab
import Derived.Lay
import Derived.SevenTiedAt
set_option linter.all false
set_option maxRecDepth 1000000
set_option maxHeartbeats 4000000
open Go Go.Cs Go.ChangeShapes Go.WideShapes Go.ChangeAt Go.RowKit Go.Deep Go.Joins
namespace Go.Proofs.YtmpogedhilfjgaaGreatDoor
theorem cellsTab : Tryz.prog.cellsOf 213 = 20 := by kernel_rfl
theorem cellsTabE : Tryz.prog.cellsOf 183 = 1 := by kernel_rfl
theorem kids : kidsOk Tryz.prog [26, 24, 3, 22] = true := by kernel_rfl
def tab10 : List Int := [1, 10, 100, 1000, 10000, 100000, 1000000, 10000000, 100000000, 1000000000, 10000000000, 100000000000, 1000000000000, 10000000000000, 100000000000000, 1000000000000000, 10000000000000000, 100000000000000000, 1000000000000000000, 10000000000000000000]
theorem globBlock {W : World} (hL : laidMetH Tryz.prog Rows.topSharedRingUptoRow.laid W) (hsh : W.ShapedOpen Tryz.prog) : W.heap[0]? = some (.cells (tab10.map fun z => Value.int .u64 z).toArray 213 (0, 0)) := by
 obtain ⟨ps, hL, _⟩ : laidMet Tryz.prog Rows.topSharedRingUptoRow.laid W := hL
 obtain ⟨q1, h1⟩ := laid_tail hL
 obtain ⟨q2, h2⟩ := laid_tail h1
 exact tab_block (zs := tab10) (k := .u64) (g := 0) (e := 183) (n := 20) (by kernel_rfl) (by kernel_rfl) Tryz.underlying213 (by kernel_rfl) cellsTabE cellsTab h2 hsh (of_decide_eq_true (by kernel_rfl)) (by kernel_rfl)
theorem glTab : gl = .cells (tab10.map fun z => Value.int .u64 z) 213 none := by kernel_rfl
theorem glFlat : flats (tab10.map fun z => Value.int .u64 z) = true := by decide
theorem glOR (β : Ren) (e : Bl) (h1 : e.room = none) (h2 : e.sh = 0) : OR β e gl (.cells (tab10.map fun z => Value.int .u64 z).toArray 213 (0, 0)) := by
 rw [glTab]
 exact .exact h1 h2 (VRs.flat glFlat) rfl
theorem tabU64 {W : World} (hg : W.heap[0]? = some (.cells (tab10.map fun z => Value.int .u64 z).toArray 213 (0, 0))) (j : Nat) (v : Value) (h : rdW W 0 j = some v) : ∃ y, v = .int .u64 y := by
 unfold rdW at h
 rw [hg] at h
 simp only at h
 split at h
 · cases h
 · split at h
   · rename_i x hx
     rw [List.getElem?_toArray, List.getElem?_map] at hx
     cases hz : tab10[j]? with
     | none => rw [hz] at hx; cases hx
     | some z =>
      rw [hz] at hx
      cases hx
      split at h
      · cases h; exact ⟨z, rfl⟩
      · cases h
   · cases h
theorem ubOk (H : Type) : UB H Rows.uptoBulk Rows.uptoBulkAll where
 lit l := by
  unfold Rows.uptoBulk
  split <;> omega
 nil := Nat.le_refl _
 slice es sp := by simp only [Rows.uptoBulk]
 agg ps := by simp only [Rows.uptoBulk]
 nils := by simp only [Rows.uptoBulkAll]
 cons d r := by simp only [Rows.uptoBulkAll]
theorem contract (H : Type) (enc : TypeId × Value → H) (W : World) (base : Nat) (args : Array Value) (ds gs : List (DataW H)) (before : List MemPlace)
 (hval : ∀ (j : Nat) t v, Tryz.f3.params[j]? = some t → args[j]? = some v → Value.okWide Tryz.prog W .any base t v)
 (hW : DataW.Whole enc Tryz.prog Tryz.f3.params.toList Rows.topSharedRingSpec.vars false W args.toList ds gs before) (hcond : Rows.uptoSmall H (ds ++ gs) = true) (hL : laidMetH Tryz.prog Rows.topSharedRingUptoRow.laid W) (hsh : W.ShapedOpen Tryz.prog) :
 Calls Tryz.prog 3 args W fun e W' => ∃ v, e = .returned v ∧ Rows.topSharedRingSpec.post enc Tryz.prog Tryz.f3 false true false false W args v W' := by
 have hW' := hW
 obtain ⟨p, q, hA0, hV, rfl, hfz, hnd⟩ := hW
 have hA : DataW.TrodAll enc Tryz.prog W 0 (fun _ => true) true Tryz.f3.params.toList args.toList ds p := hA0
 rw [Tryz.params3] at hA hval
 obtain ⟨v0, vs0, d0, ds0, p0, q0, hargs, rfl, rfl, h0, r0⟩ := trodAll_cons hA
 obtain ⟨rfl, rfl, rfl⟩ := trodAll_nil r0
 obtain rfl : args = #[v0] := by cases args; simp_all
 obtain ⟨rfl, rfl⟩ := trodVars_none hV
 clear hA0
 simp only [List.append_nil] at hW' hfz hcond
 have hg := globBlock hL hsh
 have hval0 := hval 0 26 v0 rfl rfl
 unfold Value.okWide at hval0
 rw [Tryz.underlying26] at hval0
 obtain ⟨cs, rfl, _, _⟩ := hval0
 obtain ⟨m, h0⟩ := h0
 have hsmall : Rows.uptoBulk d0 ≤ 1048576 := by
  have h := of_decide_eq_true (show decide (Rows.uptoBulkAll [d0] ≤ 1048576) = true from hcond)
  simp only [Rows.uptoBulkAll] at h
  omega
 obtain ⟨_, l, dv, hrep, htl, _, hb, hz⟩ := r26 (ubOk H) (tabU64 hg) (show DataW.trod enc Tryz.prog W 0 (fun _ => true) true m 26 cs.toList = some (d0, p0) from h0) hfz 1048576 hsmall (by decide)
 have htl' : dv.tell.length ≤ 1048576 := Nat.le_trans htl hsmall
 have hcall := law_top c3_ok glOR ⟨_, _, glTab, glFlat⟩ hg hrep hb hz fun H n0 l vs g0 hr hfr hn0 hn => law3 g0 hr htl' hfr hn0 (by omega)
 refine (show Calls Tryz.prog 3 #[.agg cs] W _ from hcall).mono fun e W' ⟨he, h1, h2, h3⟩ => ⟨_, he, ?_⟩
 exact post_kept (tb := 4) kids (by rw [Tryz.params3]; intro t ht; simp at ht; subst ht; decide) hW' rfl (by kernel_rfl) Tryz.underlying4 rfl rfl rfl h1 h2 h3
theorem own : ownKnob Tryz.prog.godebug = none := by kernel_rfl
def arg0 : Value := .agg #[.int .i64 0, .slice none 0 0, .int .i64 0, .int .i64 0, .slice none 0 0, .int .i64 0, .slice none 0 0, .slice none 0 0, .int .i64 0, .int .i64 0, .slice none 0 0, .int .i64 0]
noncomputable def world0 (os : Os) : World := World.laidAll Tryz.prog os Rows.topSharedRingUptoRow.laid
theorem laid_met (os : Os) : laidMet Tryz.prog Rows.topSharedRingUptoRow.laid ((world0 os).forCall (fun _ _ => 0) ⟨#[], #[arg0], []⟩).memory :=
 laidMet_laidAll _ (by kernel_rfl) (by kernel_rfl)
theorem reads (os : Os) {H : Type} (enc : TypeId × Value → H) : ∃ places, DataW.whole enc Tryz.prog ((world0 os).forCall (fun _ _ => 0) ⟨#[], #[arg0], []⟩).memory Tryz.f3.params.toList Rows.topSharedRingSpec.vars false #[arg0].toList 8 = some ([.agg [.agg [.lit (.int .i64 0), .nil], .lit (.int .i64 0), .agg [.lit (.int .i64 0), .nil], .agg [.lit (.int .i64 0), .nil], .nil, .lit (.int .i64 0), .lit (.int .i64 0), .nil, .lit (.int .i64 0)]], [], places) :=
 ⟨[], by kernel_rfl⟩
theorem lifted (os : Os) (started : os.Started) (H : Type) (enc : TypeId × Value → H) (F : Stop.Interp) :
 ReturnsInHanded {} Tryz.checked os 3 .any ((Rows.OpenSpec.upto Rows.topSharedRingSpec).preRow enc Tryz.prog Tryz.f3 Rows.topSharedRingUptoRow.domain false Rows.topSharedRingUptoRow.laid) (((Rows.OpenSpec.upto Rows.topSharedRingSpec).at F).post enc Tryz.prog Tryz.f3 false true false false) := by
 obtain ⟨places, hx⟩ := reads os enc
 refine returnsInHanded_of_row (C := Tryz.checked) (s := Rows.OpenSpec.upto Rows.topSharedRingSpec) own started (by kernel_rfl) Tryz.func3
  (witness_row_at (enc := enc) (C := Tryz.checked) false (world0 os) #[arg0] (World.laidAll_os _ _ _) (by kernel_rfl) (by kernel_rfl) (by kernel_rfl)
   (OpenSpec.preRow_of_cond 8 hx (by kernel_rfl) (fun k hk => by cases hk; kernel_rfl) (by kernel_rfl) (laid_met os))) ?_
 intro W base args ds gs before hval hW _ hcond _ hL hsh _
 exact contract H enc W base args ds gs before hval hW (hcond _ rfl) hL hsh
theorem said : Rows.TopSharedRingUptoSaid :=
 OpenClaim.holds_of_cond 3 Tryz.f3 rfl rfl rfl rfl rfl rfl rfl ⟨rfl, rfl, rfl, rfl, rfl⟩ rfl rfl rfl rfl rfl (by kernel_rfl) Tryz.func3 (by kernel_rfl)
  (of_decide_eq_true (by kernel_rfl)) (by unfold Func.isWrapper; first | (rw [if_pos (by decide +kernel)]; kernel_rfl) | (rw [if_neg (by decide +kernel)]; exact ⟨rfl, rfl⟩))
  (fun os started H enc _ F => by rw [OpenClaim.pre_eq_preRow]; exact lifted os started H enc F)
theorem plain (f : FuncId) (fn : Func) (hf : Tryz.pinned.checked.prog.funcNamed "spadille/spadilletop.TopSharedRing" = some f) (hfn : Tryz.pinned.checked.prog.funcs[f]? = some fn) :
 true = Tryz.pinned.checked.prog.looks [] ∧ ∀ (j : Nat) t, fn.params[j]? = some t → Tryz.pinned.checked.prog.wantsStandIn t = false := by
 obtain rfl : f = 3 := Option.some.inj ((show Tryz.prog.funcNamed "spadille/spadilletop.TopSharedRing" = some 3 by kernel_rfl).symm.trans hf) |>.symm
 obtain rfl : fn = Tryz.f3 := (Option.some.inj (Tryz.func3.symm.trans hfn)).symm
 refine ⟨by kernel_rfl, fun j t ht => ?_⟩
 rw [Tryz.params3] at ht
 obtain rfl : t = 26 := by simpa using Array.mem_of_getElem? ht
 exact (show Tryz.prog.wantsStandIn 26 = false by kernel_rfl)
theorem cardUpto : Rows.TopSharedRingUptoCardSaid :=
 Claim7.holds_tied_plain_at .later [] _ _ _ _ said (fun _ h => by cases h) (by kernel_rfl) (fun _ h => by cases h) topSharedRingUpto_row_tie rfl ⟨rfl, rfl⟩ (by kernel_rfl) rfl plain (by kernel_rfl)
end Go.Proofs.YtmpogedhilfjgaaGreatDoor
