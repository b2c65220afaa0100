/- A part of the proof that spadilletop.TopSharedCut answers true and leaves its argument as it was (bulk at most 1048576): D2. -/
import Derived.Test.YtnagcnlldllagaaGreatDoorD1
import Derived.Test.YtnagcnlldllagaaGreatDoorK8
set_option linter.all false
/- The law's own copy of its argument. -/
set_option maxRecDepth 1000000
set_option maxHeartbeats 4000000
open Go Go.Cs
namespace Go.Proofs.YtnagcnlldllagaaGreatDoor
/-- The row of cards that came in. -/
def Src (H : Heap) (n0 : Nat) (s : Value) (L : List Cd) : Prop := (s = .slice none 0 0 ∧ L = []) ∨ ∃ q off cap ob, s = .slice (some ⟨q, off, none⟩) L.length cap ∧ q < n0 ∧ aget H q = some (.pin (List.replicate off none ++ (cardsV L).map some) ob)
theorem Src.mono {H H' : Heap} {n0 : Nat} {s : Value} {L : List Cd} (h : Src H n0 s L) (hk : ∀ q, q < n0 → aget H' q = aget H q) : Src H' n0 s L := by
  rcases h with h | ⟨q, off, cap, ob, h1, h2, h3⟩
  · exact .inl h
  · exact .inr ⟨q, off, cap, ob, h1, h2, (hk q h2).trans h3⟩
theorem Src.hdr {H : Heap} {n0 : Nat} {s : Value} {L : List Cd} (h : Src H n0 s L) : isHdr s = true ∧ s.cells.toList = [s] ∧ cell1 s = true := by
  rcases h with ⟨rfl, _⟩ | ⟨q, off, cap, ob, rfl, _⟩ <;> exact ⟨rfl, rfl, rfl⟩
theorem Src.at' {H : Heap} {n0 : Nat} {s : Value} {L : List Cd} (h : Src H n0 s L) : ∃ q j, SliceAt s q j L.length ∧ (L ≠ [] → q < n0 ∧ ∀ d, rdAt H q (j + d) = (cardsV L)[d]?) := by
  rcases h with ⟨rfl, rfl⟩ | ⟨q, off, cap, ob, rfl, h2, h3⟩
  · exact ⟨0, 0, .nil 0 0, fun h => absurd rfl h⟩
  · exact ⟨q, off, .mk q off L.length cap, fun _ => ⟨h2, rd_pin h3⟩⟩
theorem pinGet_of {off : Nat} {vs : List Value} : ∀ (m k : Nat), k + m ≤ vs.length → pinGet (List.replicate off none ++ vs.map some) (off + k) m = some ((vs.drop k).take m)
  | 0, k, _ => by simp [pinGet]
  | m + 1, k, h => by
    have hk : (List.replicate off none ++ vs.map some : List (Option Value))[off + k]? = some (some (vs[k]'(by omega))) := by
      rw [List.getElem?_append_right (by simp)]
      simp only [List.length_replicate, Nat.add_sub_cancel_left, List.getElem?_map]
      rw [List.getElem?_eq_getElem (by omega)]; rfl
    simp only [pinGet, hk]
    rw [Nat.add_assoc, pinGet_of m (k + 1) (by omega)]
    simp only [Option.map_some, Option.some.injEq]
    rw [List.drop_eq_getElem_cons (show k < vs.length by omega), List.take_succ_cons]
theorem Src.cells {H : Heap} {n0 : Nat} {s : Value} {L : List Cd} (h : Src H n0 s L) : cellsOfSlice H 3 s = some (cardsV L) := by
  rcases h with ⟨rfl, rfl⟩ | ⟨q, off, cap, ob, rfl, h2, h3⟩
  · rfl
  · have hl := cards_length L
    have := pinGet_of (off := off) (vs := cardsV L) (cardsV L).length 0 (by omega)
    simp only [cellsOfSlice, h3]
    rw [show L.length * 3 = (cardsV L).length by omega]
    rw [Nat.add_zero] at this
    rw [this]; simp

/-- A row of cards is copied. -/
theorem copyF {H : Heap} {n n0 : Nat} {s : Value} {L : List Cd} (h : Src H n0 s L) (hL : L.length ≤ 1048576) (hfr : Fresh H n) (hn : n + 2 < lim) : F Tryz.prog [0] 33 [s] H n (fun v H' n' => v = gsl n L.length ∧ (∀ q, q < n → aget H' q = aget H q) ∧ (L ≠ [] → n' = n + 1 ∧ aget H' n = some (.cells (cardsV L) 64 (some 3))) ∧ n ≤ n' ∧ n' ≤ n + 1 ∧ Fresh H' n') := by
  have hlim : lim = 999999000 := rfl
  have hc := h.cells
  refine F_of_comp c33_ok rfl ?_
  refine WC_go hE hm ?_
  refine xP rfl rfl rfl rfl ?_
  refine RX_nil ?_
  refine WC_live (live1 0 rfl live0) ?_
  refine WC_go hE hm ?_
  refine xP rfl rfl rfl rfl ?_
  have hl := cards_length L
  by_cases hne : L = []
  · subst hne
    refine xW (v := .slice none 0 0) (H' := H) (n' := n) rfl rfl rfl ?_ (blt_lim (by omega)) ?_
    · rcases h with ⟨rfl, _⟩ | ⟨q, off, cap, ob, rfl, _⟩
      · rfl
      · have hold : cellsOfSlice H 3 (.slice none 0 0) = some [] := rfl
        simp only [semW, wAppend, hc, hold]
        rfl
    · refine xP rfl rfl rfl rfl ?_
      refine RX_nil ?_
      refine WC_live (live1 2 rfl live0) ?_
      refine WC_ret ?_
      refine endR rfl ?_
      exact ⟨rfl, fun _ _ => rfl, fun h => absurd rfl h, Nat.le_refl _, by omega, hfr⟩
  · have hk : L.length ≠ 0 := fun h => hne (List.length_eq_zero_iff.1 h)
    refine xW (v := sliceTo L.length L.length n) (H' := aput H n (.cells (cardsV L) 64 (some 3))) (n' := n + 1) rfl rfl rfl ?_ (blt_lim (by omega)) ?_
    · rcases h with ⟨_, h⟩ | ⟨q, off, cap, ob, rfl, _⟩
      · exact absurd h hne
      · have hold : cellsOfSlice H 3 (.slice none 0 0) = some [] := rfl
        have hall := flats_cell1 (flats_cards L)
        simp only [semW, wAppend, hc, hold]
        rw [if_pos (by omega)]
        simp only [appended, hall, if_true]
        simp [hk]
    · refine xP rfl rfl rfl rfl ?_
      refine RX_nil ?_
      refine WC_live (live1 2 rfl live0) ?_
      refine WC_ret ?_
      refine endR rfl ?_
      refine ⟨?_, fun q hq => by rw [aget_aput, if_neg (by omega)], fun _ => ⟨rfl, by simp [aget_aput]⟩, by omega, Nat.le_refl _, fun q h1 h2 => by rw [aget_aput, if_neg (by omega)]; exact hfr q (by omega) h2⟩
      show sliceTo L.length L.length n = _
      cases L with
      | nil => exact absurd rfl hne
      | cons a L => rfl
def c5 : FC := FC.mk 8 (
  .seq (.steps [⟨.box 26, [.tmp 0], some 1, none⟩,
    ⟨.alloc 26 [.int .i64 0, .int .i64 0, .int .i64 0, .int .i64 0, .slice none 0 0, .int .i64 0], [], some 2, none⟩]) (
  .seq (.steps [⟨.fieldAddr 4, [.tmp 1], some 3, none⟩,
    ⟨.load1, [.tmp 3], some 4, none⟩,
    ⟨.callF 33, [.tmp 4], some 5, none⟩,
    ⟨.fieldAddr 4, [.tmp 1], some 6, none⟩,
    ⟨.store 1, [.tmp 6, .tmp 5], none, none⟩]) (
  .seq (.steps [⟨.loadN 6, [.tmp 1], some 7, none⟩,
    ⟨.store 6, [.tmp 2, .tmp 7], none, none⟩]) (
  .ret)))) [.cellN 2 6]
theorem c5_ok : compF Tryz.prog 5 = some c5 := by kernel_rfl
/-- The law's own copy. -/
theorem own5 {r c l w k : Int} {L : List Cd} {H : Heap} {n n0 : Nat} {s : Value} (h : Src H n0 s L) (hn0 : n0 ≤ n) (hL : L.length ≤ 1048576) (hfr : Fresh H n) (hn : n + 8 < lim) : F Tryz.prog [0] 5 [.agg #[.int .i64 r, .int .i64 c, .int .i64 l, .int .i64 w, s, .int .i64 k]] H n
    (fun v H' n' => v = .agg #[.int .i64 r, .int .i64 c, .int .i64 l, .int .i64 w, gsl (n + 1 + 1) L.length, .int .i64 k] ∧ (∀ q, q < n → aget H' q = aget H q) ∧ (L ≠ [] → n + 1 + 1 < n' ∧ aget H' (n + 1 + 1) = some (.cells (cardsV L) 64 (some 3))) ∧ n ≤ n' ∧ n' ≤ n + 3 ∧ Fresh H' n') := by
  have hlim : lim = 999999000 := rfl
  obtain ⟨hs1, hs2, hs3⟩ := h.hdr
  have hsl : semA (.box 26) [.agg #[.int .i64 r, .int .i64 c, .int .i64 l, .int .i64 w, s, .int .i64 k]] = some (.cells [.int .i64 r, .int .i64 c, .int .i64 l, .int .i64 w, s, .int .i64 k] 26 none, .ptr) := by
    have : cell1 s = true := hs3
    simp [semA, aBox, Value.cells]
  refine F_of_comp c5_ok rfl ?_
  refine WC_go hE hm ?_
  refine xNew (ob := .cells [.int .i64 r, .int .i64 c, .int .i64 l, .int .i64 w, s, .int .i64 k] 26 none) (mk := .ptr) hfr (by omega) rfl rfl rfl hsl ?_
  intro H1 a1 a2 a3
  refine xNew (ob := .cells [.int .i64 0, .int .i64 0, .int .i64 0, .int .i64 0, .slice none 0 0, .int .i64 0] 26 none) (mk := .ptr) a3 (by omega) rfl rfl rfl rfl ?_
  intro H2 b1 b2 b3
  refine RX_nil ?_
  refine WC_live (live1 1 rfl (live1 2 rfl live0)) ?_
  refine WC_go hE hm ?_
  have a1' : aget H2 n = _ := (b2 n (by omega)).trans a1
  refine xP rfl rfl rfl rfl ?_
  refine xR (v := s) rfl rfl rfl (ld1 (o := 0 + 4) a1' rfl) ?_
  have src2 : Src H2 n0 s L := h.mono fun q hq => (b2 q (by omega)).trans (a2 q (by omega))
  refine xC rfl rfl rfl rfl (copyF src2 hL b3 (by omega)) ?_
  rintro _ H3 n3 ⟨rfl, c1, c2, c3, c4, c5⟩
  refine xP rfl rfl rfl rfl ?_
  refine xStO (b := n) (o := 0 + 4) (u := gsl (n + 1 + 1) L.length) [.int .i64 r, .int .i64 c, .int .i64 l, .int .i64 w, gsl (n + 1 + 1) L.length, .int .i64 k] ((c1 n (by omega)).trans a1') (by show 5 ≤ 6; decide) (gsl_cells _ _) (gsl_cell1 _ _) rfl rfl rfl (by omega) ?_
  intro H4 d1 d2
  refine RX_nil ?_
  refine WC_live (live1 1 rfl (live1 2 rfl live0)) ?_
  refine WC_go hE hm ?_
  refine xR (v := .agg #[.int .i64 r, .int .i64 c, .int .i64 l, .int .i64 w, gsl (n + 1 + 1) L.length, .int .i64 k]) rfl rfl rfl (loadBox (xs := [.int .i64 r, .int .i64 c, .int .i64 l, .int .i64 w, gsl (n + 1 + 1) L.length, .int .i64 k]) d1 rfl) ?_
  refine xFill (b := n + 1) (m := 6) (ys := [.int .i64 r, .int .i64 c, .int .i64 l, .int .i64 w, gsl (n + 1 + 1) L.length, .int .i64 k]) ((d2 _ (by omega)).trans ((c1 _ (by omega)).trans b1)) rfl rfl (by simp only [List.all_cons, List.all_nil, gsl_cell1]; rfl) rfl rfl (by omega) ?_
  intro H5 e1 e2
  refine RX_nil ?_
  refine WC_live (live1 2 rfl live0) ?_
  refine WC_ret ?_
  refine endR (vs := [.agg #[.int .i64 r, .int .i64 c, .int .i64 l, .int .i64 w, gsl (n + 1 + 1) L.length, .int .i64 k]]) ?_ ?_
  · have : semR (.loadN 6) [ptrAt (n + 1) 0] H5 = some (.agg #[.int .i64 r, .int .i64 c, .int .i64 l, .int .i64 w, gsl (n + 1 + 1) L.length, .int .i64 k]) := loadBox (xs := [.int .i64 r, .int .i64 c, .int .i64 l, .int .i64 w, gsl (n + 1 + 1) L.length, .int .i64 k]) e1 rfl
    have e : rLoadN 6 H5 [.pointer (some ⟨n + 1, 0, none⟩)] = some (.agg #[.int .i64 r, .int .i64 c, .int .i64 l, .int .i64 w, gsl (n + 1 + 1) L.length, .int .i64 k]) := this
    show (rvVals _ _ [RV.cellN 2 6]) = _
    have hh : rvVal (ofL [(2, Mk.ptr.val (n + 1))]) H5 (.cellN 2 6) = some (.agg #[.int .i64 r, .int .i64 c, .int .i64 l, .int .i64 w, gsl (n + 1 + 1) L.length, .int .i64 k]) := e
    simp only [rvVals, hh]
  · exact ⟨rfl, fun q hq => (e2 q (by omega)).trans ((d2 q (by omega)).trans ((c1 q (by omega)).trans ((b2 q (by omega)).trans (a2 q (by omega))))), fun hne => ⟨by have := (c2 hne).1; omega, (e2 _ (by omega)).trans ((d2 _ (by omega)).trans (c2 hne).2)⟩, by omega, by omega, fun q h1 h2 => by rw [e2 q (by omega), d2 q (by omega)]; exact c5 q h1 h2⟩
end Go.Proofs.YtnagcnlldllagaaGreatDoor

/- The law, over any heap that holds its argument. -/
set_option maxRecDepth 1000000
set_option maxHeartbeats 4000000
open Go Go.Cs
namespace Go.Proofs.YtnagcnlldllagaaGreatDoor
theorem rowRd {H : Heap} {q j : Nat} {L : List Cd} (h : L ≠ [] → ∀ d, rdAt H q (j + d) = (cardsV L)[d]?) : Tells H (rowIts q j L.length) (tellRow L) := by
  refine tellsRow fun k d c hc hd => ?_
  rw [Nat.add_assoc, h (by rintro rfl; simp at hc)]
  have := cards_get hc hd
  rwa [Nat.zero_add] at this
def xsV (r c l w k : Int) (s : Value) : List Value := [.int .i64 r, .int .i64 c, .int .i64 l, .int .i64 w, s, .int .i64 k]
/-- What the eye sees of such a box. -/
theorem xSeen {H : Heap} {b q j : Nat} {r c l w k : Int} {s : Value} {L : List Cd} {S : Nat → Prop} (hb : aget H b = some (.cells (xsV r c l w k s) 26 none)) (hs : SliceAt s q j L.length) (hh : isHdr s = true) (hL : L.length ≤ 1048576) (hr : L ≠ [] → S q ∧ ∀ d, rdAt H q (j + d) = (cardsV L)[d]?) (hSb : S b) :
    See 6 [] [ptrAt b 0] (xIts b q j L.length) [(b, 0 + 4, s)] ∧ SeenAt H (xIts b q j L.length) [(b, 0 + 4, s)] (xTell r c l w k L) S := by
  refine ⟨seesX hs (by omega) hh, tellsX hb (rowRd fun hne => (hr hne).2), fun it hit q' j' hp => ?_, fun x hx => ?_⟩
  · rcases xIts_place hit hp with ⟨rfl, _⟩ | ⟨rfl, h0, _⟩
    · exact hSb
    · exact (hr (by rintro rfl; exact h0 rfl)).1
  · rw [List.mem_singleton.1 hx]
    exact ⟨rd_cells' hb 4, hSb, hh⟩
def calls : List FuncId := [7, 11, 13, 18, 20, 22, 25]
theorem callsOk (r c l w k : Int) (L : List Cd) (hL : L.length ≤ 1048576) : ∀ fc ∈ calls, CallOk r c l w k L fc := by
  intro fc hfc
  simp only [calls, List.mem_cons, List.not_mem_nil, or_false] at hfc
  rcases hfc with rfl | rfl | rfl | rfl | rfl | rfl | rfl
  · exact callCards (f := 8) (g := 9) (by kernel_rfl) (f8 r c l w) e9
  · exact callNone (f := 12) (by kernel_rfl) (f12 r c l w L hL) (fun v L' n' ⟨e, _, _, h1, h2⟩ => ⟨h1, h2⟩)
  · exact call13 hL
  · exact callNone (f := 19) (by kernel_rfl) (f19 r c l w L hL (C47_ok r c l w L hL)) (fun v L' n' ⟨b, e, _, h1, h2⟩ => ⟨h1, h2⟩)
  · exact callNone (f := 21) (by kernel_rfl) (f21 r c l w L hL (C47_ok r c l w L hL)) (fun v L' n' ⟨b, e, _, h1, h2⟩ => ⟨h1, h2⟩)
  · exact callCards (f := 23) (g := 24) (by kernel_rfl) (f23 r c l w) e24
  · exact call25
def c3 : FC := FC.mk 9 (
  .seq (.steps [⟨.box 26, [.tmp 0], some 1, none⟩,
    ⟨.move, [.const (.bool false)], some 2, none⟩]) (
  .seq (.steps [⟨.loadN 6, [.tmp 1], some 3, none⟩,
    ⟨.buildSlice 39 7 [.nilFunc, .nilFunc, .nilFunc, .nilFunc, .nilFunc, .nilFunc, .nilFunc] [(0, 1), (1, 1), (2, 1), (3, 1), (4, 1), (5, 1), (6, 1)], [.func 7, .func 11, .func 13, .func 18, .func 20, .func 22, .func 25], some 4, none⟩,
    ⟨.callF 4, [.tmp 3, .func 5, .func 6, .tmp 4], some 5, none⟩,
    ⟨.move, [.tmp 5], some 6, none⟩,
    ⟨.callF 28, [], some 7, some (6, true)⟩,
    ⟨.pick, [.tmp 6, .tmp 7, .const (.bool false)], some 8, none⟩,
    ⟨.move, [.tmp 8], some 2, none⟩]) (
  .ret))) [.tmp 2]
theorem c3_ok : compF Tryz.prog 3 = some c3 := by kernel_rfl
theorem callsCells {H : Heap} {b : Nat} (h : aget H b = some (.cells (calls.map fun g => .func (.func g) #[] #[]) 39 none)) (k : Nat) (fc : FuncId) (hk : calls[k]? = some fc) : cellAt H b k = some (.func (.func fc) #[] #[]) := by
  rw [cell_cells h, List.getElem?_map, hk]; rfl
theorem law3 {r c l w k : Int} {L : List Cd} {H : Heap} {n0 : Nat} {s : Value} (h0 : aget H 0 = some gl) (hsrc : Src H n0 s L) (hL : L.length ≤ 1048576) (hfr : Fresh H n0) (hn0 : 0 < n0) (hn : n0 < 100) :
    F Tryz.prog [0] 3 [.agg (xsV r c l w k s).toArray] H n0 (fun v H' n' => v = .bool true ∧ ∀ q, q < n0 → aget H' q = aget H q) := by
  have hlim : lim = 999999000 := rfl
  obtain ⟨hs1, hs2, hs3⟩ := hsrc.hdr
  have hsl : semA (.box 26) [.agg (xsV r c l w k s).toArray] = some (.cells (xsV r c l w k s) 26 none, .ptr) := by
    simp [semA, aBox, Value.cells]
  refine F_of_comp c3_ok rfl ?_
  refine WC_go hE hm ?_
  refine xNew (ob := .cells (xsV r c l w k s) 26 none) (mk := .ptr) hfr (by omega) rfl rfl rfl hsl ?_
  intro H1 a1 a2 a3
  refine xP rfl rfl rfl rfl ?_
  refine RX_nil ?_
  refine WC_live (live1 1 rfl live0) ?_
  refine WC_go hE hm ?_
  refine xR (v := .agg (xsV r c l w k s).toArray) rfl rfl rfl (loadBox (xs := xsV r c l w k s) a1 rfl) ?_
  refine xNew (ob := .cells (calls.map fun g => .func (.func g) #[] #[]) 39 none) (mk := .slice 7 7) a3 (by omega) rfl rfl rfl rfl ?_
  intro H2 b1 b2 b3
  have o2 : ∀ q, q < n0 → aget H2 q = aget H q := fun q hq => (b2 q (by omega)).trans (a2 q (by omega))
  have src2 : Src H2 n0 s L := hsrc.mono o2
  obtain ⟨q0, j0, hsl0, hrow0⟩ := src2.at'
  have hwl := xTell_len r c l w k L
  refine xC (f := 4) (args := [.agg (xsV r c l w k s).toArray, .func (.func 5) #[] #[], .func (.func 6) #[] #[], .slice (some ⟨n0 + 1, 0, none⟩) calls.length calls.length]) rfl rfl rfl rfl
    (apart_ok (t := 3) hE hm (B := 200) (C := 1000) (w0 := xTell r c l w k L) (Arg := ArgX r c l w k L) e4 e29 e30 e31 e32 (n0 := n0 + 1 + 1) (bc := n0 + 1) (fcs := calls) (fown := 5) (fsee := 6) rfl rfl
      (fun H3 b hk hb hbx => ?_) (fun H3 n hk hn3 hf3 hr3 hw3 => ?_) (fun fc hfc H3 n b ha hg hb hf3 hr3 => ?_) (by omega) (callsCells b1) (by omega) b3 (by decide) (by decide) (by decide) (by omega) (by omega)) ?_
  · exact ⟨_, _, xSeen hbx hsl0 hs1 hL (fun hne => ⟨.inr (by have := (hrow0 hne).1; omega), fun d => by rw [rdAt_congr (hk q0 (by have := (hrow0 hne).1; omega))]; exact (hrow0 hne).2 d⟩) (.inl rfl)⟩
  · refine (own5 (src2.mono fun q hq => hk q (by omega)) (by omega) hL hf3 (by omega)).mono ?_
    rintro _ H4 n4 ⟨rfl, d1, d2, d3, d4, d5⟩
    refine ⟨xsV r c l w k (gsl (n + 1 + 1) L.length), rfl, rfl, by simp only [xsV, List.all_cons, List.all_nil, gsl_cell1]; rfl, d1, d5, d3, by omega, fun H5 b k5 hb hbx => ?_⟩
    have row : L ≠ [] → aget H5 (n + 1 + 1) = some (.cells (cardsV L) 64 (some 3)) := fun hne => (k5 _ (d2 hne).1).trans (d2 hne).2
    refine ⟨⟨n + 1 + 1, hbx, fun hne => ⟨row hne, by omega, by have := (d2 hne).1; omega⟩⟩, ?_⟩
    have hgs : isHdr (gsl (n + 1 + 1) L.length) = true := by cases L.length <;> rfl
    obtain ⟨x1, x2⟩ := xSeen (S := fun q => q = b ∨ (n ≤ q ∧ q < n4)) hbx (.gsl (n + 1 + 1) L.length) hgs hL (fun hne => ⟨.inr ⟨by omega, (d2 hne).1⟩, fun d => by rw [rd_cells' (row hne), Nat.zero_add]⟩) (.inl rfl)
    refine ⟨_, _, x1, x2, fun it hit q j hp => ?_⟩
    rcases xIts_place hit hp with ⟨rfl, hj⟩ | ⟨rfl, hm0, kk, d, hkk, hd, rfl⟩
    · rw [cell_cells hbx]
      exact ⟨_, List.getElem?_eq_getElem hj⟩
    · have hc : L[kk]? = some L[kk] := List.getElem?_eq_getElem hkk
      rw [cell_cells (row (by rintro rfl; exact hm0 rfl)), cards_get hc hd]
      exact ⟨_, List.getElem?_eq_getElem (show d < (cardV L[kk]).length by exact hd)⟩
  · exact callsOk r c l w k L hL fc hfc H3 n b ha (hg.trans ((o2 0 hn0).trans h0)) hb hf3 hr3
  · rintro _ H3 n3 ⟨rfl, hk3⟩
    refine xP rfl rfl rfl rfl ?_
    refine xC (f := 28) (args := []) rfl rfl rfl rfl (bookOk ((hk3 0 (by omega)).trans ((o2 0 hn0).trans h0))) ?_
    rintro _ H4 n4 ⟨rfl, rfl, rfl⟩
    refine xP rfl rfl rfl rfl ?_
    refine xP rfl rfl rfl rfl ?_
    refine RX_nil ?_
    refine WC_live (live1 2 rfl live0) ?_
    refine WC_ret ?_
    refine endR rfl ?_
    exact ⟨rfl, fun q hq => (hk3 q (by omega)).trans (o2 q hq)⟩
end Go.Proofs.YtnagcnlldllagaaGreatDoor
