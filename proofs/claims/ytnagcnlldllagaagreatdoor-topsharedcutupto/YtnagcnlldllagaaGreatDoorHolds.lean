/- PROVED: the law spadilletop.TopSharedCut answers true and leaves its argument as it was, for every argument of bulk at most 1048576, where the listed tables are laid as the program's text lays them (the tied card of the second form). No other condition. -/
import Derived.Test.YtnagcnlldllagaaGreatDoorD3
import Derived.Lay
import Derived.SevenTiedAt
set_option linter.all false
/- The law's row and its card. -/
set_option maxRecDepth 1000000
set_option maxHeartbeats 4000000
open Go Go.Cs Go.ChangeShapes Go.WideShapes Go.ChangeAt Go.RowKit
namespace Go.Proofs.YtnagcnlldllagaaGreatDoor
def tab10 : List Int := [1, 10, 100, 1000, 10000, 100000, 1000000, 10000000, 100000000, 1000000000, 10000000000, 100000000000, 1000000000000, 10000000000000, 100000000000000, 1000000000000000, 10000000000000000, 100000000000000000, 1000000000000000000, 10000000000000000000]
theorem globBlock {W : World} (hL : laidMetH Tryz.prog Rows.topSharedCutUptoRow.laid W) (hsh : W.ShapedOpen Tryz.prog) : W.heap[0]? = some (.cells (tab10.map fun z => Value.int .u64 z).toArray 237 (0, 0)) := by
  obtain ⟨ps, hL, _⟩ : laidMet Tryz.prog Rows.topSharedCutUptoRow.laid W := hL
  obtain ⟨q1, h1⟩ := laid_tail hL
  obtain ⟨q2, h2⟩ := laid_tail h1
  exact tab_block (zs := tab10) (k := .u64) (g := 0) (e := 69) (n := 20) (by kernel_rfl) (by kernel_rfl) Tryz.underlying237 (by kernel_rfl) cells69 cells237 h2 hsh (of_decide_eq_true (by kernel_rfl)) (by kernel_rfl)
theorem glTab : gl = .cells (tab10.map fun z => Value.int .u64 z) 237 none := by kernel_rfl
theorem glFlat : flats (tab10.map fun z => Value.int .u64 z) = true := by decide
theorem glOR (β : Ren) (e : Bl) (h1 : e.room = none) (h2 : e.sh = 0) : OR β e gl (.cells (tab10.map fun z => Value.int .u64 z).toArray 237 (0, 0)) := by
  rw [glTab]
  exact .exact h1 h2 (VRs.flat glFlat) rfl
theorem freshTop (pins : List (Nat × List (Option Value) × Obj)) : Fresh (topH gl pins) (pins.length + 1) := by
  intro q h1 h2
  obtain ⟨i, rfl⟩ : ∃ i, q = i + 1 := ⟨q - 1, by omega⟩
  rw [topHi, List.getElem?_eq_none (by omega)]; rfl

/-- The law, called from without. -/
theorem lawTop {W : World} (h0 : W.heap[0]? = some (.cells (tab10.map fun z => Value.int .u64 z).toArray 237 (0, 0))) {r c l w k : Int} {s : Value} {L : List Cd} (hs : CardsAt W s L) (hL : L.length ≤ 1048576) :
    Calls Tryz.prog 3 #[.agg (xsV r c l w k s).toArray] W (fun e W' => e = .returned (.bool true) ∧ W'.os = W.os ∧ W'.output = W.output ∧ ∀ b, b < W.heap.size → W'.heap[b]? = W.heap[b]?) := by
  have fin : ∀ (pins : List (Nat × List (Option Value) × Obj)) (s0 : Value), pins.length < 50 → (pins.map (·.1)).Nodup → (∀ p ∈ pins, p.1 ≠ 0 ∧ W.heap[p.1]? = some p.2.2 ∧ ∀ β e, e.room = none → e.sh = 0 → OR β e (.pin p.2.1 p.2.2) p.2.2) → VR (topB (pins.map (·.1))) s0 s → Src (topH gl pins) (pins.length + 1) s0 L →
      Calls Tryz.prog 3 #[.agg (xsV r c l w k s).toArray] W (fun e W' => e = .returned (.bool true) ∧ W'.os = W.os ∧ W'.output = W.output ∧ ∀ b, b < W.heap.size → W'.heap[b]? = W.heap[b]?) := by
    intro pins s0 hlen hnd hp hv hsrc
    have hr : HR [0] (topB (pins.map (·.1))) (topH gl pins) (pins.length + 1) W := HR.top glOR h0 hnd hp
    have hargs : VRs (topB (pins.map (·.1))) [.agg (xsV r c l w k s0).toArray] [.agg (xsV r c l w k s).toArray] :=
      .cons (.agg (.cons (.same rfl) (.cons (.same rfl) (.cons (.same rfl) (.cons (.same rfl) (.cons hv (.cons (.same rfl) .nil))))))) .nil
    refine ((law3 (k := k) (r := r) (c := c) (l := l) (w := w) (topH0 gl pins) hsrc hL (freshTop pins) (by omega) (by omega)).top c3_ok hargs hr).mono ?_
    rintro e W' ⟨v', rfl, v, β', H', n', q1, q2, q3, rfl, q4⟩
    have := VR.flatEq q1 rfl
    subst this
    exact ⟨rfl, q3.os, q3.output, kept_all hr q2 q3 q4 (top_stays ⟨_, _, glTab, glFlat⟩)⟩
  rcases hs with ⟨rfl, rfl⟩ | ⟨b, off, cap, cl, t, fr, rfl, hb, hblk, hc⟩
  · exact fin [] (.slice none 0 0) (by decide) List.nodup_nil (fun p hp => by cases hp) (.same rfl) (.inl ⟨rfl, rfl⟩)
  · refine fin [(b, List.replicate off none ++ (cardsV L).map some, .cells cl t fr)] (.slice (some ⟨1, off, none⟩) L.length cap) (by simp) (by simp) (fun p hp => ?_) ?_ (.inr ⟨1, off, cap, .cells cl t fr, rfl, by simp, topHi gl _ 0⟩)
    · rw [List.mem_singleton.1 hp]
      refine ⟨hb, hblk, fun β e h1 h2 => .pin h1 h2 fun j v hj => ?_⟩
      have hoj : off ≤ j := by
        rcases Nat.lt_or_ge j off with h | h
        · rw [List.getElem?_append_left (by simpa using h), List.getElem?_replicate, if_pos h] at hj
          cases hj
        · exact h
      rw [List.getElem?_append_right (by simpa using hoj), List.length_replicate, List.getElem?_map] at hj
      have hj' : (cardsV L)[j - off]? = some v := by
        cases hx : (cardsV L)[j - off]? with
        | none => rw [hx] at hj; cases hj
        | some x => rw [hx] at hj; simpa using hj
      obtain ⟨g1, g2⟩ := hc _ _ hj'
      rw [show off + (j - off) = j by omega] at g1 g2
      have hfv : flat v = true := by
        have := flats_cards L
        simp only [flats, List.all_eq_true] at this
        exact this v (List.mem_of_getElem? hj')
      exact ⟨v, g1, .same hfv, g2⟩
    · exact .slice (e := ⟨b, 0, none⟩) rfl rfl

theorem contract (H : Type) (enc : TypeId × Value → H) (W : World) (base : Nat) (args : Array Value) (ds gs : List (DataW H)) (before : List MemPlace)
    (hval : ∀ (j : Nat) t v, Tryz.f3.params[j]? = some t → args[j]? = some v → Value.okWide Tryz.prog W .any base t v)
    (hW : DataW.Whole enc Tryz.prog Tryz.f3.params.toList Rows.topSharedCutSpec.vars false W args.toList ds gs before) (hcond : Rows.uptoSmall H (ds ++ gs) = true) (hL : laidMetH Tryz.prog Rows.topSharedCutUptoRow.laid W) (hsh : W.ShapedOpen Tryz.prog) :
    Calls Tryz.prog 3 args W fun e W' => ∃ v, e = .returned v ∧ Rows.topSharedCutSpec.post enc Tryz.prog Tryz.f3 false true false false W args v W' := by
  have hW' := hW
  obtain ⟨p, q, hA0, hV, rfl, hfz, hnd⟩ := hW
  have hA : DataW.TrodAll enc Tryz.prog W 0 (fun _ => true) true Tryz.f3.params.toList args.toList ds p := hA0
  rw [Tryz.params3] at hA hval
  obtain ⟨v0, vs0, d0, ds0, p0, q0, hargs, rfl, rfl, h0, r0⟩ := trodAll_cons hA
  obtain ⟨rfl, rfl, rfl⟩ := trodAll_nil r0
  obtain rfl : args = #[v0] := by cases args; simp_all
  obtain ⟨rfl, rfl⟩ := trodVars_none hV
  clear hA0
  simp only [List.append_nil] at hW' hfz hcond
  have hg := globBlock hL hsh
  obtain ⟨r, c, l, w, k, s, L, rfl, hcards, hbulk⟩ := argShape (hval 0 26 v0 rfl rfl) h0 ⟨_, hg⟩ hfz
  have hsmall : L.length ≤ 1048576 := by
    have h := of_decide_eq_true (show decide (Rows.uptoBulkAll [d0] ≤ 1048576) = true from hcond)
    simp only [Rows.uptoBulkAll] at h
    omega
  refine (lawTop hg hcards hsmall).mono fun e W' ⟨he, h1, h2, h3⟩ => ⟨_, he, ?_⟩
  exact post_kept (tb := 4) kids (by rw [Tryz.params3]; intro t ht; simp at ht; subst ht; decide) hW' rfl (by kernel_rfl) Tryz.underlying4 rfl rfl rfl h1 h2 h3

theorem own : ownKnob Tryz.prog.godebug = none := by kernel_rfl
def arg0 : Value := .agg #[.int .i64 0, .int .i64 0, .int .i64 0, .int .i64 0, .slice none 0 0, .int .i64 0]
noncomputable def world0 (os : Os) : World := World.laidAll Tryz.prog os Rows.topSharedCutUptoRow.laid
theorem laid_met (os : Os) : laidMet Tryz.prog Rows.topSharedCutUptoRow.laid ((world0 os).forCall (fun _ _ => 0) ⟨#[], #[arg0], []⟩).memory :=
  laidMet_laidAll _ (by kernel_rfl) (by kernel_rfl)
theorem reads (os : Os) {H : Type} (enc : TypeId × Value → H) : ∃ places, DataW.whole enc Tryz.prog ((world0 os).forCall (fun _ _ => 0) ⟨#[], #[arg0], []⟩).memory Tryz.f3.params.toList Rows.topSharedCutSpec.vars false #[arg0].toList 8 = some ([.agg [.agg [.lit (.int .i64 0), .lit (.int .i64 0), .lit (.int .i64 0), .lit (.int .i64 0)], .nil, .lit (.int .i64 0)]], [], places) :=
  ⟨[], by kernel_rfl⟩
theorem lifted (os : Os) (started : os.Started) (H : Type) (enc : TypeId × Value → H) (F : Stop.Interp) :
    ReturnsInHanded {} Tryz.checked os 3 .any ((Rows.OpenSpec.upto Rows.topSharedCutSpec).preRow enc Tryz.prog Tryz.f3 Rows.topSharedCutUptoRow.domain false Rows.topSharedCutUptoRow.laid) (((Rows.OpenSpec.upto Rows.topSharedCutSpec).at F).post enc Tryz.prog Tryz.f3 false true false false) := by
  obtain ⟨places, hx⟩ := reads os enc
  refine returnsInHanded_of_row (C := Tryz.checked) (s := Rows.OpenSpec.upto Rows.topSharedCutSpec) own started (by kernel_rfl) Tryz.func3
    (witness_row_at (enc := enc) (C := Tryz.checked) false (world0 os) #[arg0] (World.laidAll_os _ _ _) (by kernel_rfl) (by kernel_rfl) (by kernel_rfl)
      (OpenSpec.preRow_of_cond 8 hx (by kernel_rfl) (fun k hk => by cases hk; kernel_rfl) (by kernel_rfl) (laid_met os))) ?_
  intro W base args ds gs before hval hW _ hcond _ hL hsh _
  exact contract H enc W base args ds gs before hval hW (hcond _ rfl) hL hsh
theorem said : Rows.TopSharedCutUptoSaid :=
  OpenClaim.holds_of_cond 3 Tryz.f3 rfl rfl rfl rfl rfl rfl rfl ⟨rfl, rfl, rfl, rfl, rfl⟩ rfl rfl rfl rfl rfl (by kernel_rfl) Tryz.func3 (by kernel_rfl)
    (of_decide_eq_true (by kernel_rfl)) (by unfold Func.isWrapper; first | (rw [if_pos (by decide +kernel)]; kernel_rfl) | (rw [if_neg (by decide +kernel)]; exact ⟨rfl, rfl⟩))
    (fun os started H enc _ F => by rw [OpenClaim.pre_eq_preRow]; exact lifted os started H enc F)
theorem plain (f : FuncId) (fn : Func) (hf : Tryz.pinned.checked.prog.funcNamed "spadille/spadilletop.TopSharedCut" = some f) (hfn : Tryz.pinned.checked.prog.funcs[f]? = some fn) :
    true = Tryz.pinned.checked.prog.looks [] ∧ ∀ (j : Nat) t, fn.params[j]? = some t → Tryz.pinned.checked.prog.wantsStandIn t = false := by
  obtain rfl : f = 3 := Option.some.inj ((show Tryz.prog.funcNamed "spadille/spadilletop.TopSharedCut" = some 3 by kernel_rfl).symm.trans hf) |>.symm
  obtain rfl : fn = Tryz.f3 := (Option.some.inj (Tryz.func3.symm.trans hfn)).symm
  refine ⟨by kernel_rfl, fun j t ht => ?_⟩
  rw [Tryz.params3] at ht
  obtain rfl : t = 26 := by simpa using Array.mem_of_getElem? ht
  exact (show Tryz.prog.wantsStandIn 26 = false by kernel_rfl)
theorem cardUpto : Rows.TopSharedCutUptoCardSaid :=
  Claim7.holds_tied_plain_at .later [] _ _ _ _ said (fun _ h => by cases h) (by kernel_rfl) (fun _ h => by cases h) topSharedCutUpto_row_tie rfl ⟨rfl, rfl⟩ (by kernel_rfl) rfl plain (by kernel_rfl)
end Go.Proofs.YtnagcnlldllagaaGreatDoor
