/- A part of the proof that spadilletop.TopSharedCut answers true and leaves its argument as it was (bulk at most 1048576): C9. -/
import Derived.Test.YtnagcnlldllagaaGreatDoorC8
set_option linter.all false
/- A row is copied behind nothing. -/
open Go Go.Cs
namespace Go.Proofs.YtnagcnlldllagaaGreatDoor
theorem append_nil {t es bytes : Nat} {z : List Value} {H : Heap} {n i k c : Nat} {cs : List Value} {t' : TypeId} {gr : Option Nat} (hi : aget H i = some (.cells cs t' gr)) (hk : k ≠ 0) (hc : k ≤ c) (hlen : k * es ≤ cs.length) (hfl : flats (cs.take (k * es)) = true)
    (hb : (2 * (0 + k) + 1000) * bytes ≤ 2 ^ 40) : semW (.append t es bytes z) [.slice none 0 0, .slice (some ⟨i, 0, none⟩) k c] H n = some (sliceTo k k n, aput H n (.cells (cs.take (k * es)) t (some es)), n + 1) := by
  have hnew : cellsOfSlice H es (.slice (some ⟨i, 0, none⟩) k c) = some (cs.take (k * es)) := by
    simp only [cellsOfSlice, hi]
    rw [if_pos (by omega)]
    simp only [List.drop_zero]
  have hold : cellsOfSlice H es (.slice none 0 0) = some [] := rfl
  have hall := flats_cell1 hfl
  simp only [semW, wAppend, hnew, hold]
  rw [if_pos hb]
  simp only [appended, hall, if_true]
  simp [hk]
end Go.Proofs.YtnagcnlldllagaaGreatDoor

/- A row of cards is copied. -/
set_option maxRecDepth 1000000
set_option maxHeartbeats 4000000
open Go Go.Cs
namespace Go.Proofs.YtnagcnlldllagaaGreatDoor
/-- A row of cards and its copy. -/
def rowK (L : List Cd) : List (Nat × AObj) := [(0, gl), (1, gob 64 3 (cardsV L) L.length), (2, gob 64 3 (cardsV L) L.length)]
def c33 : FC := FC.mk 5 (
  .seq (.steps [⟨.move, [.const (.slice none 0 0)], some 2, none⟩]) (
  .seq (.steps [⟨.move, [.tmp 0], some 3, none⟩,
    ⟨.append 64 3 24 [.int .i64 0, .int .i64 0, .bool false], [.const (.slice none 0 0), .tmp 3], some 4, none⟩,
    ⟨.move, [.tmp 4], some 2, none⟩]) (
  .ret))) [.tmp 2]
theorem c33_ok : compF Tryz.prog 33 = some c33 := by kernel_rfl
theorem shutK (L : List Cd) : ShutR (gsl 2 L.length) (rowK L) 2 3 :=
  shutR_of rfl rfl (ids_gsl rfl _) (nm1 rfl rfl (nm1 (idsO_gob (flats_cards L) _) rfl (nm1 (idsO_gob (flats_cards L) _) rfl nm0)))
theorem f33 (L : List Cd) (hL : L.length ≤ 1048576) : CT Tryz.prog [0] 33 [gsl 1 L.length] (rowC L) 2 (fun v L' n' => v = gsl 2 L.length ∧ L' = rowK L ∧ n' = 3) := by
  refine ⟨shut_of (by cases L <;> rfl) (nm1 rfl rfl (nm1 (idsO_gob (flats_cards L) _) rfl nm0)), ?_⟩
  cases L with
  | nil =>
    refine F_of_comp c33_ok rfl ?_
    refine WC_go hE hm ?_
    refine xP rfl rfl rfl rfl ?_
    refine RX_nil ?_
    refine WC_live (live1 0 rfl live0) ?_
    refine WC_go hE hm ?_
    refine xP rfl rfl rfl rfl ?_
    refine xW (v := .slice none 0 0) (n' := 2) rfl rfl rfl rfl rfl ?_
    refine xP rfl rfl rfl rfl ?_
    refine RX_nil ?_
    refine WC_live (live1 2 rfl live0) ?_
    refine WC_le (Le.canon [(2, 2)] (n2 := 3) (lr1 2 (gsl 2 0) rfl rfl lr0) (hrS 0 rfl rfl (hrD 1 (hrD 2 hr0))) rfl rfl rfl rfl rfl (hGn rfl)) ?_
    refine WC_ret ?_
    refine endR rfl ?_
    exact ⟨_, rfl, ⟨rfl, rfl, rfl⟩, shutK []⟩
  | cons a L =>
    have hl := cards_length (a :: L)
    have e : (cardsV (a :: L)).take ((a :: L).length * 3) = cardsV (a :: L) := List.take_of_length_le (by omega)
    refine F_of_comp c33_ok rfl ?_
    refine WC_go hE hm ?_
    refine xP rfl rfl rfl rfl ?_
    refine RX_nil ?_
    refine WC_live (live1 0 rfl live0) ?_
    refine WC_go hE hm ?_
    refine xP rfl rfl rfl rfl ?_
    refine xW rfl rfl rfl (append_nil (k := (a :: L).length) (c := (a :: L).length) (t' := 64) (gr := some 3) (cs := cardsV (a :: L)) rfl (by simp) (Nat.le_refl _) (by omega) (by rw [e]; exact flats_cards _) (by omega)) rfl ?_
    rw [e]
    refine xP rfl rfl rfl rfl ?_
    refine RX_nil ?_
    refine WC_live (live1 2 rfl live0) ?_
    refine WC_le (Le.canon [(2, 2)] (n2 := 3) (lr1 2 (gsl 2 (a :: L).length) rfl rfl lr0) (hrS 0 rfl rfl (hr1 1 (gob 64 3 (cardsV (a :: L)) (a :: L).length) rfl (renO_gob _ (flats_cards _) _) (hr1 2 (gob 64 3 (cardsV (a :: L)) (a :: L).length) rfl (renO_gob _ (flats_cards _) _) hr0))) rfl rfl rfl rfl rfl (hGn rfl)) ?_
    refine WC_ret ?_
    refine endR rfl ?_
    exact ⟨_, rfl, ⟨rfl, rfl, rfl⟩, shutK (a :: L)⟩
end Go.Proofs.YtnagcnlldllagaaGreatDoor

/- A row of cards is cloned. -/
set_option maxRecDepth 1000000
set_option maxHeartbeats 4000000
open Go Go.Cs
namespace Go.Proofs.YtnagcnlldllagaaGreatDoor
theorem append_empty {t es bytes : Nat} {z : List Value} {H : Heap} {n i j k c : Nat} {cs : List Value} {t' t2 : TypeId} {gr : Option Nat} (hi : aget H i = some (.cells cs t' gr)) (hj : aget H j = some (.cells [] t2 none)) (hk : k ≠ 0) (hc : k ≤ c) (hlen : k * es ≤ cs.length) (hfl : flats (cs.take (k * es)) = true)
    (hb : (2 * (0 + k) + 1000) * bytes ≤ 2 ^ 40) : semW (.append t es bytes z) [.slice (some ⟨j, 0, none⟩) 0 0, .slice (some ⟨i, 0, none⟩) k c] H n = some (sliceTo k k n, aput H n (.cells (cs.take (k * es)) t (some es)), n + 1) := by
  have hnew : cellsOfSlice H es (.slice (some ⟨i, 0, none⟩) k c) = some (cs.take (k * es)) := by
    simp only [cellsOfSlice, hi]
    rw [if_pos (by omega)]
    simp only [List.drop_zero]
  have hold : cellsOfSlice H es (.slice (some ⟨j, 0, none⟩) 0 0) = some [] := by
    simp [cellsOfSlice, hj]
  have hall := flats_cell1 hfl
  simp only [semW, wAppend, hnew, hold]
  rw [if_pos hb]
  simp only [appended, hall, if_true, hj]
  rw [if_neg (by omega)]
  simp
def c49 : FC := FC.mk 8 (
  .seq (.steps [⟨.move, [.const (.slice none 0 0)], some 2, none⟩]) (
  .seq (.seq (.steps [⟨.move, [.tmp 0], some 3, none⟩,
    ⟨.eqSlice false, [.tmp 3, .const (.slice none 0 0)], some 4, none⟩]) (
  .cond (.tmp 4) (
    .seq (.steps [⟨.move, [.const (.slice none 0 0)], some 2, none⟩]) (
    .ret)) (
    .skip))) (
  .seq (.steps [⟨.buildSlice 64 0 [] [], [], some 5, none⟩,
    ⟨.move, [.tmp 0], some 6, none⟩,
    ⟨.append 64 3 24 [.int .i64 0, .int .i64 0, .bool false], [.tmp 5, .tmp 6], some 7, none⟩,
    ⟨.move, [.tmp 7], some 2, none⟩]) (
  .ret)))) [.tmp 2]
theorem c49_ok : compF Tryz.prog 49 = some c49 := by kernel_rfl
theorem f49 (L : List Cd) (hL : L.length ≤ 1048576) : CT Tryz.prog [0] 49 [gsl 1 L.length] (rowC L) 2 (fun v L' n' => v = gsl 2 L.length ∧ L' = rowK L ∧ n' = 3) := by
  refine ⟨shut_of (by cases L <;> rfl) (nm1 rfl rfl (nm1 (idsO_gob (flats_cards L) _) rfl nm0)), ?_⟩
  cases L with
  | nil =>
    refine F_of_comp c49_ok rfl ?_
    refine WC_go hE hm ?_
    refine xP rfl rfl rfl rfl ?_
    refine RX_nil ?_
    refine WC_live (live1 0 rfl live0) ?_
    refine WC_seq ?_
    refine WC_go hE hm ?_
    refine xP rfl rfl rfl rfl ?_
    refine xP rfl rfl rfl rfl ?_
    refine RX_nil ?_
    refine WC_live (live1 0 rfl (live1 4 rfl live0)) ?_
    refine WC_cond rfl (fun h => ?_) (fun h => ?_)
    ·
      refine WC_go hE hm ?_
      refine xP rfl rfl rfl rfl ?_
      refine RX_nil ?_
      refine WC_live (live1 2 rfl live0) ?_
      refine WC_le (Le.canon [(2, 2)] (n2 := 3) (lr1 2 (gsl 2 0) rfl rfl lr0) (hrS 0 rfl rfl (hrD 1 (hrD 2 hr0))) rfl rfl rfl rfl rfl (hGn rfl)) ?_
      refine WC_ret ?_
      refine thenR ?_
      refine endR rfl ?_
      exact ⟨_, rfl, ⟨rfl, rfl, rfl⟩, shutK []⟩
    ·
      cases h
  | cons a L =>
    have hl := cards_length (a :: L)
    have e : (cardsV (a :: L)).take ((a :: L).length * 3) = cardsV (a :: L) := List.take_of_length_le (by omega)
    refine F_of_comp c49_ok rfl ?_
    refine WC_go hE hm ?_
    refine xP rfl rfl rfl rfl ?_
    refine RX_nil ?_
    refine WC_live (live1 0 rfl live0) ?_
    refine WC_seq ?_
    refine WC_go hE hm ?_
    refine xP rfl rfl rfl rfl ?_
    refine xP rfl rfl rfl rfl ?_
    refine RX_nil ?_
    refine WC_live (live1 0 rfl (live1 4 rfl live0)) ?_
    refine WC_cond rfl (fun h => ?_) (fun h => ?_)
    ·
      cases h
    ·
      refine WC_skip ?_
      refine thenN ?_
      refine WC_live (live1 0 rfl live0) ?_
      refine WC_go hE hm ?_
      refine xBSlice [] rfl rfl rfl rfl rfl ?_
      refine xP rfl rfl rfl rfl ?_
      refine xW rfl rfl rfl (append_empty (k := (a :: L).length) (c := (a :: L).length) (t' := 64) (t2 := 64) (gr := some 3) (cs := cardsV (a :: L)) rfl rfl (by simp) (Nat.le_refl _) (by omega) (by rw [e]; exact flats_cards _) (by omega)) rfl ?_
      rw [e]
      refine xP rfl rfl rfl rfl ?_
      refine RX_nil ?_
      refine WC_live (live1 2 rfl live0) ?_
      refine WC_le (Le.canon [(2, 3)] (n2 := 3) (lr1 2 (gsl 2 (a :: L).length) rfl rfl lr0) (hrS 0 rfl rfl (hr1 1 (gob 64 3 (cardsV (a :: L)) (a :: L).length) rfl (renO_gob _ (flats_cards _) _) (hr1 2 (gob 64 3 (cardsV (a :: L)) (a :: L).length) rfl (renO_gob _ (flats_cards _) _) hr0))) rfl rfl rfl rfl rfl (hGn rfl)) ?_
      refine WC_ret ?_
      refine endR rfl ?_
      exact ⟨_, rfl, ⟨rfl, rfl, rfl⟩, shutK (a :: L)⟩

end Go.Proofs.YtnagcnlldllagaaGreatDoor

/- The rounds of the cards of a part. -/
set_option maxRecDepth 1000000
set_option maxHeartbeats 4000000
open Go Go.Cs
namespace Go.Proofs.YtnagcnlldllagaaGreatDoor
theorem stabTwo {H H' : Heap} {l : List Rec} (r q : Rec) (h : l = [r, q]) (hr : r.stable H') (hq : q.stable H') : StabOk H H' l := .inr fun x hx => by
  rw [h] at hx
  simp only [List.mem_cons, List.not_mem_nil, or_false] at hx
  rcases hx with hx | hx
  · subst hx; exact hr
  · subst hx; exact hq
/-- What rounds' closure works on. -/
def hR (r c l w : Int) (L : List Cd) (o : Int) : List (Nat × AObj) := [(0, gl), (1, gob 64 3 (cardsV L) L.length), (2, .cells [gsl 1 L.length] 24 none), (3, .cells [.int .i64 o] 3 none), (4, (.cells [.int .i64 r, .int .i64 c, .int .i64 l, .int .i64 w] 23 none))]
def hRb (r c l w : Int) (L : List Cd) (o : Int) (bl : List Int) (kb : Nat) : List (Nat × AObj) := [(0, gl), (1, gob 64 3 (cardsV L) L.length), (2, .cells [gsl 1 L.length] 24 none), (3, .cells [.int .i64 o] 3 none), (4, (.cells [.int .i64 r, .int .i64 c, .int .i64 l, .int .i64 w] 23 none)), (5, gob 3 1 (ints bl) kb)]
def hRab (r c l w : Int) (L : List Cd) (o : Int) (bl : List Int) (kb : Nat) (A B : List Cd) : List (Nat × AObj) := [(0, gl), (1, gob 64 3 (cardsV L) L.length), (2, .cells [gsl 1 L.length] 24 none), (3, .cells [.int .i64 o] 3 none), (4, (.cells [.int .i64 r, .int .i64 c, .int .i64 l, .int .i64 w] 23 none)), (5, gob 3 1 (ints bl) kb), (6, gob 64 3 (cardsV A) A.length), (7, gob 64 3 (cardsV B) B.length)]
def RR (r c l w : Int) (L : List Cd) (v : Value) (L' : List (Nat × AObj)) (n' : Nat) : Prop := ∃ o : Int, 0 ≤ o ∧ o ≤ 36 ∧ v = .tuple #[] ∧ L' = hR r c l w L o ∧ n' = 5
/-- A function that tells cards apart. -/
def Ahead (g : FuncId) : Prop := ∀ (cd : Cd) (at' : Int) {H : Heap} {n : Nat}, aget H 0 = some gl → F Tryz.prog [0] g [.agg (cardV cd).toArray, .int .i64 at'] H n (fun v H' n' => (∃ b : Bool, v = .bool b) ∧ H' = H ∧ n' = n)
theorem idsRow (L : List Cd) : idsO (.cells [gsl 1 L.length] 24 none) = idsV (gsl 1 L.length) := by
  show idsL [gsl 1 L.length] = _
  simp [idsL]
theorem namR (r c l w : Int) (L : List Cd) (o : Int) : Named (hR r c l w L o) (fun j => inL (hR r c l w L o) j) :=
  nm1 rfl rfl (nm1 (idsO_gob (flats_cards L) _) rfl (nm1 (idsRow L) (by cases L <;> rfl) (nm1 rfl rfl (nm1 rfl rfl nm0))))
theorem namR2 (r c l w : Int) (L : List Cd) (o : Int) : Named (hR r c l w L o) (fun j => Nat.blt j 5 && lvB (hR r c l w L o) j) :=
  nm1 rfl rfl (nm1 (idsO_gob (flats_cards L) _) rfl (nm1 (idsRow L) (by cases L <;> rfl) (nm1 rfl rfl (nm1 rfl rfl nm0))))
theorem renRow (σ : Nat → Nat) (L : List Cd) (i : Nat) (h : σ 1 = i) : renO σ (.cells [gsl 1 L.length] 24 none) = .cells [gsl i L.length] 24 none := by
  simp only [renO, renL, renV_gsl, h]
theorem len_snoc (A : List Cd) (c : Cd) : (A ++ [c]).length = A.length + 1 := by simp
theorem gob_snoc (A : List Cd) (cd : Cd) : some (gob 64 3 (cardsV (A ++ [cd])) (A ++ [cd]).length) = some (.cells (cardsV A ++ cardV cd) 64 (some 3)) := by
  rw [len_snoc]
  simp [gob, cardsV]
theorem mem_snoc {A L : List Cd} {cd : Cd} {j : Nat} (h : ∀ x ∈ A, x ∈ L) (hc : L[j]? = some cd) : ∀ x ∈ A ++ [cd], x ∈ L := by
  intro x hx
  rcases List.mem_append.1 hx with h1 | h1
  · exact h x h1
  · simp at h1; subst h1; exact List.mem_of_getElem? hc
def c63 : FC := FC.mk 58 (
  .seq (.steps [⟨.move, [.tmp 0], some 13, none⟩,
    ⟨.callF 45, [.tmp 13], some 14, none⟩,
    ⟨.lenS, [.tmp 14], some 15, none⟩,
    ⟨.move, [.const (.int .i64 0)], some 16, none⟩]) (
  .block 0 (
    .loop (
      .seq (.steps [⟨.bin .lss, [.tmp 16, .tmp 15], some 17, none⟩]) (
      .seq (.cond (.tmp 17) (
        .skip) (
        .exit 0)) (
      .seq (.block 1 (
        .seq (.steps [⟨.indexAddrS 1, [.tmp 14, .tmp 16], some 18, none⟩,
          ⟨.load1, [.tmp 18], some 19, none⟩,
          ⟨.move, [.tmp 19], some 8, none⟩]) (
        .seq (.steps [⟨.move, [.const (.slice none 0 0)], some 9, none⟩,
          ⟨.move, [.const (.slice none 0 0)], some 10, none⟩]) (
        .seq (.seq (.steps [⟨.load1, [.tmp 2], some 20, none⟩,
          ⟨.lenS, [.tmp 20], some 21, none⟩,
          ⟨.move, [.const (.int .i64 0)], some 22, none⟩]) (
        .block 2 (
          .loop (
            .seq (.steps [⟨.bin .lss, [.tmp 22, .tmp 21], some 23, none⟩]) (
            .seq (.cond (.tmp 23) (
              .skip) (
              .exit 2)) (
            .seq (.block 3 (
              .seq (.steps [⟨.indexAddrS 3, [.tmp 20, .tmp 22], some 24, none⟩,
                ⟨.loadN 3, [.tmp 24], some 25, none⟩,
                ⟨.alloc 64 [.int .i64 0, .int .i64 0, .bool false], [], some 12, none⟩,
                ⟨.store 3, [.tmp 12, .tmp 25], none, none⟩]) (
              .seq (.steps [⟨.move, [.tmp 1], some 26, none⟩,
                ⟨.loadN 3, [.tmp 12], some 27, none⟩,
                ⟨.move, [.tmp 8], some 28, none⟩,
                ⟨.callV, [.tmp 26, .tmp 27, .tmp 28], some 29, none⟩]) (
              .cond (.tmp 29) (
                .steps [⟨.move, [.tmp 9], some 30, none⟩,
                  ⟨.loadN 3, [.tmp 12], some 31, none⟩,
                  ⟨.buildSlice 64 1 [.int .i64 0, .int .i64 0, .bool false] [(0, 3)], [.tmp 31], some 32, none⟩,
                  ⟨.append 64 3 24 [.int .i64 0, .int .i64 0, .bool false], [.tmp 30, .tmp 32], some 33, none⟩,
                  ⟨.move, [.tmp 33], some 9, none⟩]) (
                .steps [⟨.move, [.tmp 10], some 34, none⟩,
                  ⟨.loadN 3, [.tmp 12], some 35, none⟩,
                  ⟨.buildSlice 64 1 [.int .i64 0, .int .i64 0, .bool false] [(0, 3)], [.tmp 35], some 36, none⟩,
                  ⟨.append 64 3 24 [.int .i64 0, .int .i64 0, .bool false], [.tmp 34, .tmp 36], some 37, none⟩,
                  ⟨.move, [.tmp 37], some 10, none⟩]))))) (
            .steps [⟨.bin .add, [.tmp 22, .const (.int .i64 1)], some 38, none⟩,
              ⟨.move, [.tmp 38], some 22, none⟩]))))))) (
        .seq (.steps [⟨.move, [.tmp 9], some 39, none⟩,
          ⟨.lenS, [.tmp 39], some 40, none⟩,
          ⟨.bin .gtr, [.tmp 40, .const (.int .i64 0)], some 41, none⟩,
          ⟨.move, [.tmp 41], some 42, none⟩,
          ⟨.move, [.tmp 10], some 43, some (42, true)⟩,
          ⟨.lenS, [.tmp 43], some 44, some (42, true)⟩,
          ⟨.bin .gtr, [.tmp 44, .const (.int .i64 0)], some 45, some (42, true)⟩,
          ⟨.pick, [.tmp 42, .tmp 45, .const (.bool false)], some 46, none⟩]) (
        .cond (.tmp 46) (
          .drawn [(0, ⟨.load1, [.tmp 3], some 47, none⟩),
            (1, ⟨.loadN 4, [.tmp 4], some 48, none⟩),
            (2, ⟨.move, [.tmp 9], some 49, none⟩),
            (4, ⟨.loadN 4, [.tmp 4], some 51, none⟩),
            (5, ⟨.move, [.tmp 10], some 52, none⟩),
            (3, ⟨.callF 47, [.tmp 48, .tmp 49], some 50, none⟩),
            (6, ⟨.callF 47, [.tmp 51, .tmp 52], some 53, none⟩),
            (7, ⟨.bmax, [.tmp 50, .tmp 53], some 54, none⟩),
            (8, ⟨.bin .add, [.const (.int .i64 1), .tmp 54], some 55, none⟩),
            (9, ⟨.bmin, [.tmp 47, .tmp 55], some 56, none⟩),
            (10, ⟨.store 1, [.tmp 3, .tmp 56], none, none⟩)] [0, 0, 0, 6, 0, 0, 62, 126, 254, 511, 1023]) (
          .skip))))))) (
      .steps [⟨.bin .add, [.tmp 16, .const (.int .i64 1)], some 57, none⟩,
        ⟨.move, [.tmp 57], some 16, none⟩]))))))) []
theorem c63_ok : compF Tryz.prog 63 = some c63 := by kernel_rfl
/-- (spadille/cut.Sheet).rounds$1 -/
theorem f63 (r c l w : Int) (L : List Cd) (hL : L.length ≤ 1048576) (ih : ∀ A : List Cd, A.length < L.length → (∀ cd ∈ A, cd ∈ L) → C47 r c l w A) (g : FuncId) (hg : Ahead g) (x : Nat) (hx : x < 2 ^ 8) (o0 : Int) (ho0 : 0 ≤ o0) (ho1 : o0 ≤ 36) :
    CT Tryz.prog [0] 63 [.int .u8 (x : Int), .func (.func g) #[] #[], ptrTo 2, ptrTo 3, ptrTo 4] (hR r c l w L o0) 5 (RR r c l w L) := by
  refine ⟨shut_of rfl (namR2 r c l w L o0), ?_⟩
  refine F_of_comp c63_ok rfl ?_
  refine WC_go hE hm ?_
  refine xP rfl rfl rfl rfl ?_
  refine xC rfl rfl rfl rfl ((f45 x hx).call [0] rfl (hGs rfl rfl rfl) rfl rfl (by decide) (hh1 rfl rfl hh0) (by rintro _ _ _ ⟨_, _, _, _, _, _, rfl⟩; decide)) ?_
  rintro _ _ _ ⟨_, _, _, ⟨kb, bl, kbl, kbb, rfl, rfl, rfl⟩, rfl, rfl, rfl⟩
  rw [renV_gsl]
  refine xLenG (k := kb) rfl rfl ?_
  refine xP rfl rfl rfl rfl ?_
  refine RX_nil ?_
  refine WC_live (live1 1 rfl (live1 2 rfl (live1 3 rfl (live1 4 rfl (live1 14 rfl (live1 15 rfl (live1 16 rfl live0))))))) ?_
  refine WC_block ?_
  -- LOOP live [1, 2, 3, 4, 14, 15, 16]
  refine WC_le (s2 := { T := ofL [(1, .func (.func g) #[] #[]), (2, ptrTo 2), (3, ptrTo 3), (4, ptrTo 4), (14, gsl 5 kb), (15, .int .i64 (kb : Int)), (16, .int .i64 0)], D := [], H := ofL (hRb r c l w L o0 bl kb), n := 6 }) (Le.canon [(5, 5)] (n2 := 6) (lrS 1 rfl rfl (lrS 2 rfl rfl (lrS 3 rfl rfl (lrS 4 rfl rfl (lr1 14 (gsl 5 kb) rfl (renV_gsl _ 5 _) (lrS 15 rfl rfl (lrS 16 rfl rfl lr0))))))) (hrS 0 rfl rfl (hr1 1 (gob 64 3 (cardsV L) L.length) rfl (renO_gob _ (flats_cards L) _) (hr1 2 (.cells [gsl 1 L.length] 24 none) rfl (renRow _ L 1 rfl) (hr1 3 (.cells [.int .i64 o0] 3 none) rfl rfl (hrS 4 rfl rfl (hr1 5 (gob 3 1 (ints bl) kb) (congrArg some (renO_gob _ (flats_ints' bl) _)) (renO_gob _ (flats_ints' bl) _) hr0)))))) rfl rfl rfl rfl rfl (hGn rfl)) ?_
  refine WC_loopX (X := Int × Int) (fun y => { T := ofL [(1, .func (.func g) #[] #[]), (2, ptrTo 2), (3, ptrTo 3), (4, ptrTo 4), (14, gsl 5 kb), (15, .int .i64 (kb : Int)), (16, .int .i64 y.1)], D := [], H := ofL (hRb r c l w L y.2 bl kb), n := 6 }) (fun y => 0 ≤ y.1 ∧ y.1 ≤ (kb : Int) ∧ 0 ≤ y.2 ∧ y.2 ≤ 36) (fun y => ((kb : Int) - y.1).toNat) (0, o0) ⟨by dsimp only; omega, by dsimp only; omega, ho0, ho1⟩ ?_
  rintro ⟨i, o⟩ ⟨i1, i2, o1, o2⟩
  dsimp only at *
  refine WC_go hE hm ?_
  refine xCmp rfl rfl rfl rfl ?_ ?_ <;> intro h
  ·
    refine RX_nil ?_
    refine WC_live (live1 1 rfl (live1 2 rfl (live1 3 rfl (live1 4 rfl (live1 14 rfl (live1 15 rfl (live1 16 rfl (live1 17 rfl live0)))))))) ?_
    refine WC_seq ?_
    refine WC_condT rfl ?_
    refine WC_skip ?_
    refine thenN ?_
    refine WC_live (live1 1 rfl (live1 2 rfl (live1 3 rfl (live1 4 rfl (live1 14 rfl (live1 15 rfl (live1 16 rfl live0))))))) ?_
    refine WC_seq ?_
    refine WC_block ?_
    refine WC_go hE hm ?_
    have hk : kb ≠ 0 := by omega
    refine xIdxG (k := kb) rfl rfl (by omega) ?_
    refine xLdI (l := bl) (t := 3) (gr := some 1) rfl rfl (by rw [← gob_pos hk]; rfl) (by omega) ?_
    generalize bl.getD i.toNat 0 = a8
    refine xP rfl rfl rfl rfl ?_
    refine RX_nil ?_
    refine WC_live (live1 1 rfl (live1 2 rfl (live1 3 rfl (live1 4 rfl (live1 8 rfl (live1 14 rfl (live1 15 rfl (live1 16 rfl live0)))))))) ?_
    refine WC_go hE hm ?_
    refine xP rfl rfl rfl rfl ?_
    refine xP rfl rfl rfl rfl ?_
    refine RX_nil ?_
    refine WC_live (live1 1 rfl (live1 2 rfl (live1 3 rfl (live1 4 rfl (live1 8 rfl (live1 9 rfl (live1 10 rfl (live1 14 rfl (live1 15 rfl (live1 16 rfl live0)))))))))) ?_
    refine WC_seq ?_
    refine WC_go hE hm ?_
    refine xR rfl rfl rfl rfl ?_
    refine xLenG (k := L.length) rfl rfl ?_
    refine xP rfl rfl rfl rfl ?_
    refine RX_nil ?_
    refine WC_live (live1 1 rfl (live1 2 rfl (live1 3 rfl (live1 4 rfl (live1 8 rfl (live1 9 rfl (live1 10 rfl (live1 14 rfl (live1 15 rfl (live1 16 rfl (live1 20 rfl (live1 21 rfl (live1 22 rfl live0))))))))))))) ?_
    refine WC_block ?_
    -- LOOP live [1, 2, 3, 4, 8, 9, 10, 14, 15, 16, 20, 21, 22]
    refine WC_le (Le.canon [(5, 5), (6, 6), (7, 7)] (n2 := 8) (lrS 1 rfl rfl (lrS 2 rfl rfl (lrS 3 rfl rfl (lrS 4 rfl rfl (lrS 8 rfl rfl (lr1 9 (gsl 6 0) rfl rfl (lr1 10 (gsl 7 0) rfl rfl (lr1 14 (gsl 5 kb) rfl (renV_gsl _ 5 _) (lrS 15 rfl rfl (lrS 16 rfl rfl (lr1 20 (gsl 1 L.length) rfl (renV_gsl _ 1 _) (lrS 21 rfl rfl (lrS 22 rfl rfl lr0))))))))))))) (hrS 0 rfl rfl (hr1 1 (gob 64 3 (cardsV L) L.length) rfl (renO_gob _ (flats_cards L) _) (hr1 2 (.cells [gsl 1 L.length] 24 none) rfl (renRow _ L 1 rfl) (hr1 3 (.cells [.int .i64 o] 3 none) rfl rfl (hrS 4 rfl rfl (hr1 5 (gob 3 1 (ints bl) kb) rfl (renO_gob _ (flats_ints' bl) _) (hrD 6 (hrD 7 hr0)))))))) rfl rfl rfl rfl rfl (hGn rfl)) ?_
    refine WC_loopX (X := Int × List Cd × List Cd) (fun y => { T := ofL [(1, .func (.func g) #[] #[]), (2, ptrTo 2), (3, ptrTo 3), (4, ptrTo 4), (8, .int .i64 a8), (9, gsl 6 y.2.1.length), (10, gsl 7 y.2.2.length), (14, gsl 5 kb), (15, .int .i64 (kb : Int)), (16, .int .i64 i), (20, gsl 1 L.length), (21, .int .i64 (L.length : Int)), (22, .int .i64 y.1)], D := [], H := ofL (hRab r c l w L o bl kb y.2.1 y.2.2), n := 8 }) (fun y => 0 ≤ y.1 ∧ y.1 ≤ (L.length : Int) ∧ ((y.2.1.length + y.2.2.length : Nat) : Int) = y.1 ∧ (∀ x ∈ y.2.1, x ∈ L) ∧ ∀ x ∈ y.2.2, x ∈ L) (fun y => ((L.length : Int) - y.1).toNat) (0, [], []) ⟨by dsimp only; omega, by dsimp only; omega, rfl, (fun x hx => by cases hx), (fun x hx => by cases hx)⟩ ?_
    rintro ⟨j, A, B⟩ ⟨j1, j2, j3, j4, j5⟩
    dsimp only at *
    refine WC_go hE hm ?_
    refine xCmp rfl rfl rfl rfl ?_ ?_ <;> intro h
    ·
      refine RX_nil ?_
      refine WC_live (live1 1 rfl (live1 2 rfl (live1 3 rfl (live1 4 rfl (live1 8 rfl (live1 9 rfl (live1 10 rfl (live1 14 rfl (live1 15 rfl (live1 16 rfl (live1 20 rfl (live1 21 rfl (live1 22 rfl (live1 23 rfl live0)))))))))))))) ?_
      refine WC_seq ?_
      refine WC_condT rfl ?_
      refine WC_skip ?_
      refine thenN ?_
      refine WC_live (live1 1 rfl (live1 2 rfl (live1 3 rfl (live1 4 rfl (live1 8 rfl (live1 9 rfl (live1 10 rfl (live1 14 rfl (live1 15 rfl (live1 16 rfl (live1 20 rfl (live1 21 rfl (live1 22 rfl live0))))))))))))) ?_
      refine WC_seq ?_
      refine WC_block ?_
      refine WC_go hE hm ?_
      have hk : L.length ≠ 0 := by omega
      obtain ⟨cd, hcd⟩ : ∃ cd, L[j.toNat]? = some cd := ⟨_, List.getElem?_eq_getElem (by omega)⟩
      refine xIdxG (k := L.length) rfl rfl (by omega) ?_
      refine xLoadN [.int .i64 cd.1, .int .i64 cd.2.1, .bool cd.2.2] rfl rfl (ldCard hk rfl hcd) ?_
      refine xA rfl rfl rfl rfl rfl rfl ?_
      refine xStN [.int .i64 cd.1, .int .i64 cd.2.1, .bool cd.2.2] rfl rfl rfl rfl rfl rfl rfl rfl ?_
      refine RX_nil ?_
      refine WC_live (live1 1 rfl (live1 2 rfl (live1 3 rfl (live1 4 rfl (live1 8 rfl (live1 9 rfl (live1 10 rfl (live1 12 rfl (live1 14 rfl (live1 15 rfl (live1 16 rfl (live1 20 rfl (live1 21 rfl (live1 22 rfl live0)))))))))))))) ?_
      refine WC_go hE hm ?_
      refine xP rfl rfl rfl rfl ?_
      refine xLoadN [.int .i64 cd.1, .int .i64 cd.2.1, .bool cd.2.2] rfl rfl rfl ?_
      refine xP rfl rfl rfl rfl ?_
      refine xC rfl rfl rfl rfl (hg cd a8 rfl) ?_
      rintro _ _ _ ⟨⟨b, rfl⟩, rfl, rfl⟩
      refine RX_nil ?_
      refine WC_live (live1 1 rfl (live1 2 rfl (live1 3 rfl (live1 4 rfl (live1 8 rfl (live1 9 rfl (live1 10 rfl (live1 12 rfl (live1 14 rfl (live1 15 rfl (live1 16 rfl (live1 20 rfl (live1 21 rfl (live1 22 rfl (live1 29 rfl live0))))))))))))))) ?_
      refine WC_cond rfl (fun h => ?_) (fun h => ?_)
      ·
        refine WC_steps hE hm ?_
        refine xP rfl rfl rfl rfl ?_
        refine xLoadN [.int .i64 cd.1, .int .i64 cd.2.1, .bool cd.2.2] rfl rfl rfl ?_
        refine xBSlice (cardV cd) rfl rfl rfl rfl rfl ?_
        refine xAppend1 (i := 6) (k := A.length) (j := 9) (cs := cardsV A) (new := cardV cd) rfl rfl (by decide) (fun hk => by rw [← gob_pos hk]; rfl) (fun h => by rw [List.length_eq_zero_iff.1 h]; rfl) (cards_length A) rfl rfl rfl (by omega) rfl ?_
        intro H' e1 e2
        refine xP rfl rfl rfl rfl ?_
        refine RX_nil ?_
        refine blockN ?_
        refine thenN ?_
        refine WC_live (live1 1 rfl (live1 2 rfl (live1 3 rfl (live1 4 rfl (live1 8 rfl (live1 9 rfl (live1 10 rfl (live1 14 rfl (live1 15 rfl (live1 16 rfl (live1 20 rfl (live1 21 rfl (live1 22 rfl live0))))))))))))) ?_
        refine WC_steps hE hm ?_
        refine xAdd rfl rfl (by omega) ?_
        refine xP rfl rfl rfl rfl ?_
        refine RX_nil ?_
        refine thenN ⟨(j + 1, (A ++ [cd]), B), ⟨by dsimp only; omega, by dsimp only; omega, by simp only [List.length_append, List.length_cons, List.length_nil]; omega, mem_snoc j4 hcd, j5⟩, by dsimp only; omega, Le.canon [(5, 5), (6, 10), (7, 7)] (n2 := 8) (lrS 1 rfl rfl (lrS 2 rfl rfl (lrS 3 rfl rfl (lrS 4 rfl rfl (lrS 8 rfl rfl (lr1 9 (gsl 6 (A ++ [cd]).length) (by rw [len_snoc]; rfl) (renV_gsl _ 6 _) (lr1 10 (gsl 7 B.length) rfl (renV_gsl _ 7 _) (lr1 14 (gsl 5 kb) rfl (renV_gsl _ 5 _) (lrS 15 rfl rfl (lrS 16 rfl rfl (lr1 20 (gsl 1 L.length) rfl (renV_gsl _ 1 _) (lrS 21 rfl rfl (lrS 22 rfl rfl lr0))))))))))))) (hrS 0 ((e2 _ (by decide) (by decide)).trans rfl) rfl (hr1 1 (gob 64 3 (cardsV L) L.length) ((e2 _ (by decide) (by decide)).trans rfl) (renO_gob _ (flats_cards L) _) (hr1 2 (.cells [gsl 1 L.length] 24 none) ((e2 _ (by decide) (by decide)).trans rfl) (renRow _ L 1 rfl) (hr1 3 (.cells [.int .i64 o] 3 none) ((e2 _ (by decide) (by decide)).trans rfl) rfl (hrS 4 ((e2 _ (by decide) (by decide)).trans rfl) rfl (hr1 5 (gob 3 1 (ints bl) kb) ((e2 _ (by decide) (by decide)).trans rfl) (renO_gob _ (flats_ints' bl) _) (hr1 6 (gob 64 3 (cardsV (A ++ [cd])) (A ++ [cd]).length) (e1.trans (by rw [gob_snoc])) (renO_gob _ (flats_cards _) _) (hr1 7 (gob 64 3 (cardsV B) B.length) ((e2 _ (by decide) (by decide)).trans rfl) (renO_gob _ (flats_cards _) _) hr0)))))))) rfl rfl rfl rfl rfl (hGn rfl)⟩
      ·
        refine WC_steps hE hm ?_
        refine xP rfl rfl rfl rfl ?_
        refine xLoadN [.int .i64 cd.1, .int .i64 cd.2.1, .bool cd.2.2] rfl rfl rfl ?_
        refine xBSlice (cardV cd) rfl rfl rfl rfl rfl ?_
        refine xAppend1 (i := 7) (k := B.length) (j := 9) (cs := cardsV B) (new := cardV cd) rfl rfl (by decide) (fun hk => by rw [← gob_pos hk]; rfl) (fun h => by rw [List.length_eq_zero_iff.1 h]; rfl) (cards_length B) rfl rfl rfl (by omega) rfl ?_
        intro H' e1 e2
        refine xP rfl rfl rfl rfl ?_
        refine RX_nil ?_
        refine blockN ?_
        refine thenN ?_
        refine WC_live (live1 1 rfl (live1 2 rfl (live1 3 rfl (live1 4 rfl (live1 8 rfl (live1 9 rfl (live1 10 rfl (live1 14 rfl (live1 15 rfl (live1 16 rfl (live1 20 rfl (live1 21 rfl (live1 22 rfl live0))))))))))))) ?_
        refine WC_steps hE hm ?_
        refine xAdd rfl rfl (by omega) ?_
        refine xP rfl rfl rfl rfl ?_
        refine RX_nil ?_
        refine thenN ⟨(j + 1, A, (B ++ [cd])), ⟨by dsimp only; omega, by dsimp only; omega, by simp only [List.length_append, List.length_cons, List.length_nil]; omega, j4, mem_snoc j5 hcd⟩, by dsimp only; omega, Le.canon [(5, 5), (6, 6), (7, 10)] (n2 := 8) (lrS 1 rfl rfl (lrS 2 rfl rfl (lrS 3 rfl rfl (lrS 4 rfl rfl (lrS 8 rfl rfl (lr1 9 (gsl 6 A.length) rfl (renV_gsl _ 6 _) (lr1 10 (gsl 7 (B ++ [cd]).length) (by rw [len_snoc]; rfl) (renV_gsl _ 7 _) (lr1 14 (gsl 5 kb) rfl (renV_gsl _ 5 _) (lrS 15 rfl rfl (lrS 16 rfl rfl (lr1 20 (gsl 1 L.length) rfl (renV_gsl _ 1 _) (lrS 21 rfl rfl (lrS 22 rfl rfl lr0))))))))))))) (hrS 0 ((e2 _ (by decide) (by decide)).trans rfl) rfl (hr1 1 (gob 64 3 (cardsV L) L.length) ((e2 _ (by decide) (by decide)).trans rfl) (renO_gob _ (flats_cards L) _) (hr1 2 (.cells [gsl 1 L.length] 24 none) ((e2 _ (by decide) (by decide)).trans rfl) (renRow _ L 1 rfl) (hr1 3 (.cells [.int .i64 o] 3 none) ((e2 _ (by decide) (by decide)).trans rfl) rfl (hrS 4 ((e2 _ (by decide) (by decide)).trans rfl) rfl (hr1 5 (gob 3 1 (ints bl) kb) ((e2 _ (by decide) (by decide)).trans rfl) (renO_gob _ (flats_ints' bl) _) (hr1 6 (gob 64 3 (cardsV A) A.length) ((e2 _ (by decide) (by decide)).trans rfl) (renO_gob _ (flats_cards _) _) (hr1 7 (gob 64 3 (cardsV (B ++ [cd])) (B ++ [cd]).length) (e1.trans (by rw [gob_snoc])) (renO_gob _ (flats_cards _) _) hr0)))))))) rfl rfl rfl rfl rfl (hGn rfl)⟩
    ·
      refine RX_nil ?_
      refine WC_live (live1 1 rfl (live1 2 rfl (live1 3 rfl (live1 4 rfl (live1 8 rfl (live1 9 rfl (live1 10 rfl (live1 14 rfl (live1 15 rfl (live1 16 rfl (live1 20 rfl (live1 21 rfl (live1 22 rfl (live1 23 rfl live0)))))))))))))) ?_
      refine WC_seq ?_
      refine WC_condF rfl ?_
      refine WC_exit ?_
      refine thenE ?_
      refine thenE ?_
      refine blockE ?_
      refine thenN ?_
      refine WC_live (live1 1 rfl (live1 2 rfl (live1 3 rfl (live1 4 rfl (live1 9 rfl (live1 10 rfl (live1 14 rfl (live1 15 rfl (live1 16 rfl live0))))))))) ?_
      refine WC_go hE hm ?_
      refine xP rfl rfl rfl rfl ?_
      refine xLenG (k := A.length) rfl rfl ?_
      refine xCmp rfl rfl rfl rfl ?_ ?_ <;> intro h
      ·
        refine xP rfl rfl rfl rfl ?_
        refine xP rfl rfl rfl rfl ?_
        refine xLenG (k := B.length) rfl rfl ?_
        refine xCmp rfl rfl rfl rfl ?_ ?_ <;> intro h2
        ·
          refine xP rfl rfl rfl rfl ?_
          refine RX_nil ?_
          refine WC_live (live1 1 rfl (live1 2 rfl (live1 3 rfl (live1 4 rfl (live1 9 rfl (live1 10 rfl (live1 14 rfl (live1 15 rfl (live1 16 rfl (live1 46 rfl live0)))))))))) ?_
          refine WC_condT rfl ?_
          refine WC_drawnD hE hm ?_
          refine dR rfl rfl rfl rfl ?_
          refine dR rfl rfl rfl rfl ?_
          refine dX rfl (xP rfl rfl rfl rfl (RX_nil ?_))
          refine dR rfl rfl rfl rfl ?_
          refine dX rfl (xP rfl rfl rfl rfl (RX_nil ?_))
          obtain ⟨ca, A, rfl⟩ := List.exists_cons_of_length_pos (l := A) (by omega)
          obtain ⟨cb, B, rfl⟩ := List.exists_cons_of_length_pos (l := B) (by omega)
          simp only [List.length_cons] at j3 h h2
          refine dC rfl rfl rfl rfl ((ih (ca :: A) (by simp only [List.length_cons]; omega) j4).call [0, 6] rfl (hGs rfl rfl rfl) rfl rfl (by decide) (hh1 rfl rfl (hh1 rfl (renO_gob _ (flats_cards _) _) hh0)) (by rintro _ _ _ ⟨_, _, _, _, _, rfl⟩; decide)) ?_
          rintro _ _ _ ⟨_, _, _, ⟨k1, k11, k12, rfl, rfl, rfl⟩, rfl, rfl, rfl⟩
          refine ⟨stabTwo ⟨0, ⟨.load1, [.tmp 3], some 47, none⟩, .r [ptrTo 3] (.int .i64 o)⟩ ⟨4, ⟨.loadN 4, [.tmp 4], some 51, none⟩, .r [ptrTo 4] (sheetV r c l w)⟩ (by kernel_rfl) rfl rfl, ?_⟩
          refine dC rfl rfl rfl rfl ((ih (cb :: B) (by simp only [List.length_cons]; omega) j5).call [0, 7] rfl (hGs rfl rfl rfl) rfl rfl (by decide) (hh1 rfl rfl (hh1 rfl (renO_gob _ (flats_cards _) _) hh0)) (by rintro _ _ _ ⟨_, _, _, _, _, rfl⟩; decide)) ?_
          rintro _ _ _ ⟨_, _, _, ⟨k2, k21, k22, rfl, rfl, rfl⟩, rfl, rfl, rfl⟩
          refine ⟨stabOne ⟨0, ⟨.load1, [.tmp 3], some 47, none⟩, .r [ptrTo 3] (.int .i64 o)⟩ (by kernel_rfl) rfl, ?_⟩
          refine dX rfl (xMax [k2] rfl rfl (RX_nil ?_))
          refine dX rfl (xAdd rfl rfl (by simp only [List.foldl_cons, List.foldl_nil]; omega) (RX_nil ?_))
          refine dX rfl (xMin [1 + max k1 k2] rfl rfl (RX_nil ?_))
          refine dW rfl rfl rfl rfl rfl (stabE (by kernel_rfl)) ?_
          refine dNil ?_
          refine blockN ?_
          refine thenN ?_
          refine WC_live (live1 1 rfl (live1 2 rfl (live1 3 rfl (live1 4 rfl (live1 14 rfl (live1 15 rfl (live1 16 rfl live0))))))) ?_
          refine WC_steps hE hm ?_
          refine xAdd rfl rfl (by omega) ?_
          refine xP rfl rfl rfl rfl ?_
          refine RX_nil ?_
          refine thenN ⟨(i + 1, min o (1 + max k1 k2)), ⟨by dsimp only; omega, by dsimp only; omega, by dsimp only; omega, by dsimp only; omega⟩, by dsimp only; omega, Le.canon [(5, 5)] (n2 := 6) (lrS 1 rfl rfl (lrS 2 rfl rfl (lrS 3 rfl rfl (lrS 4 rfl rfl (lr1 14 (gsl 5 kb) rfl (renV_gsl _ 5 _) (lrS 15 rfl rfl (lrS 16 rfl rfl lr0))))))) (hrS 0 rfl rfl (hr1 1 (gob 64 3 (cardsV L) L.length) rfl (renO_gob _ (flats_cards L) _) (hr1 2 (.cells [gsl 1 L.length] 24 none) rfl (renRow _ L 1 rfl) (hr1 3 (.cells [.int .i64 (min o (1 + max k1 k2))] 3 none) rfl rfl (hrS 4 rfl rfl (hr1 5 (gob 3 1 (ints bl) kb) rfl (renO_gob _ (flats_ints' bl) _) hr0)))))) rfl rfl rfl rfl rfl (hGn rfl)⟩
        ·
          refine xP rfl rfl rfl rfl ?_
          refine RX_nil ?_
          refine WC_live (live1 1 rfl (live1 2 rfl (live1 3 rfl (live1 4 rfl (live1 9 rfl (live1 10 rfl (live1 14 rfl (live1 15 rfl (live1 16 rfl (live1 46 rfl live0)))))))))) ?_
          refine WC_condF rfl ?_
          refine WC_skip ?_
          refine blockN ?_
          refine thenN ?_
          refine WC_live (live1 1 rfl (live1 2 rfl (live1 3 rfl (live1 4 rfl (live1 14 rfl (live1 15 rfl (live1 16 rfl live0))))))) ?_
          refine WC_steps hE hm ?_
          refine xAdd rfl rfl (by omega) ?_
          refine xP rfl rfl rfl rfl ?_
          refine RX_nil ?_
          refine thenN ⟨(i + 1, o), ⟨by dsimp only; omega, by dsimp only; omega, by dsimp only; omega, by dsimp only; omega⟩, by dsimp only; omega, Le.canon [(5, 5)] (n2 := 6) (lrS 1 rfl rfl (lrS 2 rfl rfl (lrS 3 rfl rfl (lrS 4 rfl rfl (lr1 14 (gsl 5 kb) rfl (renV_gsl _ 5 _) (lrS 15 rfl rfl (lrS 16 rfl rfl lr0))))))) (hrS 0 rfl rfl (hr1 1 (gob 64 3 (cardsV L) L.length) rfl (renO_gob _ (flats_cards L) _) (hr1 2 (.cells [gsl 1 L.length] 24 none) rfl (renRow _ L 1 rfl) (hr1 3 (.cells [.int .i64 o] 3 none) rfl rfl (hrS 4 rfl rfl (hr1 5 (gob 3 1 (ints bl) kb) rfl (renO_gob _ (flats_ints' bl) _) hr0)))))) rfl rfl rfl rfl rfl (hGn rfl)⟩
      ·
        refine xP rfl rfl rfl rfl ?_
        refine xS rfl ?_
        refine xS rfl ?_
        refine xS rfl ?_
        refine xP rfl rfl rfl rfl ?_
        refine RX_nil ?_
        refine WC_live (live1 1 rfl (live1 2 rfl (live1 3 rfl (live1 4 rfl (live1 9 rfl (live1 10 rfl (live1 14 rfl (live1 15 rfl (live1 16 rfl (live1 46 rfl live0)))))))))) ?_
        refine WC_condF rfl ?_
        refine WC_skip ?_
        refine blockN ?_
        refine thenN ?_
        refine WC_live (live1 1 rfl (live1 2 rfl (live1 3 rfl (live1 4 rfl (live1 14 rfl (live1 15 rfl (live1 16 rfl live0))))))) ?_
        refine WC_steps hE hm ?_
        refine xAdd rfl rfl (by omega) ?_
        refine xP rfl rfl rfl rfl ?_
        refine RX_nil ?_
        refine thenN ⟨(i + 1, o), ⟨by dsimp only; omega, by dsimp only; omega, by dsimp only; omega, by dsimp only; omega⟩, by dsimp only; omega, Le.canon [(5, 5)] (n2 := 6) (lrS 1 rfl rfl (lrS 2 rfl rfl (lrS 3 rfl rfl (lrS 4 rfl rfl (lr1 14 (gsl 5 kb) rfl (renV_gsl _ 5 _) (lrS 15 rfl rfl (lrS 16 rfl rfl lr0))))))) (hrS 0 rfl rfl (hr1 1 (gob 64 3 (cardsV L) L.length) rfl (renO_gob _ (flats_cards L) _) (hr1 2 (.cells [gsl 1 L.length] 24 none) rfl (renRow _ L 1 rfl) (hr1 3 (.cells [.int .i64 o] 3 none) rfl rfl (hrS 4 rfl rfl (hr1 5 (gob 3 1 (ints bl) kb) rfl (renO_gob _ (flats_ints' bl) _) hr0)))))) rfl rfl rfl rfl rfl (hGn rfl)⟩
  ·
    refine RX_nil ?_
    refine WC_live (live1 1 rfl (live1 2 rfl (live1 3 rfl (live1 4 rfl (live1 14 rfl (live1 15 rfl (live1 16 rfl (live1 17 rfl live0)))))))) ?_
    refine WC_seq ?_
    refine WC_condF rfl ?_
    refine WC_le (Le.canon [] (n2 := 5) lr0 (hrS 0 rfl rfl (hr1 1 (gob 64 3 (cardsV L) L.length) rfl (renO_gob _ (flats_cards L) _) (hr1 2 (.cells [gsl 1 L.length] 24 none) rfl (renRow _ L 1 rfl) (hr1 3 (.cells [.int .i64 o] 3 none) rfl rfl (hrS 4 rfl rfl hr0))))) rfl rfl rfl rfl rfl (hGn rfl)) ?_
    refine WC_exit ?_
    refine thenE ?_
    refine thenE ?_
    refine blockE ?_
    refine endN rfl ?_
    exact ⟨_, rfl, ⟨o, o1, o2, rfl, rfl, rfl⟩, shutR_of rfl rfl rfl (namR r c l w L o)⟩
/-- What rounds works on. -/
def h47 (r c l w : Int) (L : List Cd) (o : Int) : List (Nat × AObj) := [(0, gl), (1, gob 64 3 (cardsV L) L.length), (2, (.cells [.int .i64 r, .int .i64 c, .int .i64 l, .int .i64 w] 23 none)), (3, .cells [gsl 1 L.length] 24 none), (4, .cells [.int .i64 o] 3 none)]
theorem callC3 {f : FuncId} {r c l w : Int} {L : List Cd} {R : Value → List (Nat × AObj) → Nat → Prop} (h : CT Tryz.prog [0] f [sheetV r c l w, gsl 1 L.length] (rowC L) 2 R)
    (Q : Value → Prop) (hR : ∀ v L' n', R v L' n' → Q v ∧ L' = rowC L ∧ n' = 2) (hQ : ∀ v, Q v → ∀ σ, renV σ v = v) (o : Int) :
    F Tryz.prog [0] f [sheetV r c l w, gsl 1 L.length] (ofL (h47 r c l w L o)) 5 (fun v H' n' => Q v ∧ LiveH H' (h47 r c l w L o) ∧ n' = 5) := by
  cases L with
  | nil =>
    refine (h.call [0, 999999999] rfl (hGs rfl rfl rfl) rfl rfl (by decide) (hh1 rfl rfl (hhD hh0)) (fun v L' n' hr => by obtain ⟨_, _, rfl⟩ := hR _ _ _ hr; decide)).mono ?_
    rintro _ _ _ ⟨v, L', n', hr, rfl, rfl, rfl⟩
    obtain ⟨q, rfl, rfl⟩ := hR _ _ _ hr
    exact ⟨by rw [hQ _ q]; exact q, liveHo 0 gl rfl (liveHD 1 (liveHo 2 _ rfl (liveHo 3 _ rfl (liveHo 4 _ rfl liveH0)))), rfl⟩
  | cons a L =>
    refine (h.call [0, 1] rfl (hGs rfl rfl rfl) rfl rfl (by decide) (hh1 rfl rfl (hh1 rfl (renO_gob _ (flats_cards _) _) hh0)) (fun v L' n' hr => by obtain ⟨_, _, rfl⟩ := hR _ _ _ hr; decide)).mono ?_
    rintro _ _ _ ⟨v, L', n', hr, rfl, rfl, rfl⟩
    obtain ⟨q, rfl, rfl⟩ := hR _ _ _ hr
    exact ⟨by rw [hQ _ q]; exact q, liveHo 0 gl rfl (liveHo 1 (gob 64 3 (cardsV (a :: L)) (a :: L).length) (congrArg some (renO_gob _ (flats_cards _) _)) (liveHo 2 _ rfl (liveHo 3 _ rfl (liveHo 4 _ rfl liveH0)))), rfl⟩
theorem callR {r c l w : Int} {L : List Cd} {x : Int} {g : FuncId} {o0 : Int} (h : CT Tryz.prog [0] 63 [.int .u8 x, .func (.func g) #[] #[], ptrTo 2, ptrTo 3, ptrTo 4] (hR r c l w L o0) 5 (RR r c l w L)) :
    F Tryz.prog [0] 63 [.int .u8 x, .func (.func g) #[] #[], ptrTo 3, ptrTo 4, ptrTo 2] (ofL (h47 r c l w L o0)) 5 (fun v H' n' => ∃ o : Int, 0 ≤ o ∧ o ≤ 36 ∧ v = .tuple #[] ∧ LiveH H' (h47 r c l w L o) ∧ n' = 5) := by
  cases L with
  | nil =>
    refine (h.call [0, 999999999, 3, 4, 2] rfl (hGs rfl rfl rfl) rfl rfl (by decide) (hh1 rfl rfl (hhD (hh1 rfl rfl (hh1 rfl rfl (hh1 rfl rfl hh0))))) (by rintro _ _ _ ⟨_, _, _, _, _, rfl⟩; decide)).mono ?_
    rintro _ _ _ ⟨_, _, _, ⟨o, o1, o2, rfl, rfl, rfl⟩, rfl, rfl, rfl⟩
    exact ⟨o, o1, o2, rfl, liveHo 0 gl rfl (liveHD 1 (liveHo 2 _ rfl (liveHo 3 _ rfl (liveHo 4 _ rfl liveH0)))), rfl⟩
  | cons a L =>
    refine (h.call [0, 1, 3, 4, 2] rfl (hGs rfl rfl rfl) rfl rfl (by decide) (hh1 rfl rfl (hh1 rfl (renO_gob _ (flats_cards _) _) (hh1 rfl rfl (hh1 rfl rfl (hh1 rfl rfl hh0))))) (by rintro _ _ _ ⟨_, _, _, _, _, rfl⟩; decide)).mono ?_
    rintro _ _ _ ⟨_, _, _, ⟨o, o1, o2, rfl, rfl, rfl⟩, rfl, rfl, rfl⟩
    exact ⟨o, o1, o2, rfl, liveHo 0 gl rfl (liveHo 1 (gob 64 3 (cardsV (a :: L)) (a :: L).length) (congrArg some (renO_gob _ (flats_cards _) _)) (liveHo 2 _ rfl (liveHo 3 _ rfl (liveHo 4 _ rfl liveH0)))), rfl⟩
theorem boxGsl (t : TypeId) (i k : Nat) : semA (.box t) [gsl i k] = some (.cells [gsl i k] t none, .ptr) := by cases k <;> rfl
theorem ahead64 : Ahead 64 := fun cd a _ _ h => f64 cd a h
theorem ahead65 : Ahead 65 := fun cd a _ _ h => f65 cd a h
def c47 : FC := FC.mk 27 (
  .seq (.steps [⟨.box 23, [.tmp 0], some 2, none⟩,
    ⟨.box 24, [.tmp 1], some 3, none⟩,
    ⟨.move, [.const (.int .i64 0)], some 4, none⟩]) (
  .seq (.seq (.steps [⟨.load1, [.tmp 3], some 9, none⟩,
    ⟨.lenS, [.tmp 9], some 10, none⟩,
    ⟨.bin .eql, [.tmp 10, .const (.int .i64 1)], some 11, none⟩]) (
  .cond (.tmp 11) (
    .seq (.steps [⟨.move, [.const (.int .i64 0)], some 4, none⟩]) (
    .ret)) (
    .skip))) (
  .seq (.steps [⟨.alloc 3 [.int .i64 0], [], some 5, none⟩,
    ⟨.store 1, [.tmp 5, .const (.int .i64 36)], none, none⟩]) (
  .seq (.steps [⟨.loadN 4, [.tmp 2], some 13, none⟩,
    ⟨.load1, [.tmp 3], some 14, none⟩,
    ⟨.callF 44, [.tmp 13, .tmp 14], some 15, none⟩,
    ⟨.move, [.tmp 15], some 12, none⟩,
    ⟨.extract 0, [.tmp 12], some 16, none⟩,
    ⟨.extract 1, [.tmp 12], some 17, none⟩,
    ⟨.move, [.tmp 16], some 6, none⟩,
    ⟨.move, [.tmp 17], some 7, none⟩]) (
  .seq (.steps [⟨.mkFunc (.func 63) 0, [.tmp 3, .tmp 5, .tmp 2], some 18, none⟩,
    ⟨.move, [.tmp 18], some 8, none⟩]) (
  .seq (.steps [⟨.move, [.tmp 8], some 19, none⟩,
    ⟨.move, [.tmp 6], some 20, none⟩,
    ⟨.callV, [.tmp 19, .tmp 20, .func 64], some 21, none⟩]) (
  .seq (.steps [⟨.move, [.tmp 8], some 22, none⟩,
    ⟨.move, [.tmp 7], some 23, none⟩,
    ⟨.callV, [.tmp 22, .tmp 23, .func 65], some 24, none⟩]) (
  .seq (.steps [⟨.load1, [.tmp 5], some 25, none⟩,
    ⟨.bmin, [.tmp 25, .const (.int .i64 36)], some 26, none⟩,
    ⟨.move, [.tmp 26], some 4, none⟩]) (
  .ret))))))))) [.tmp 4]
theorem c47_ok : compF Tryz.prog 47 = some c47 := by kernel_rfl
/-- (spadille/cut.Sheet).rounds -/
theorem f47s (r c l w : Int) (L : List Cd) (hL : L.length ≤ 1048576) (hs : okSheet r c l w) (hcs : ∀ cd ∈ L, okCard cd) (ih : ∀ A : List Cd, A.length < L.length → (∀ cd ∈ A, okCard cd) → C47 r c l w A) : C47 r c l w L := by
  refine ⟨shutG L r c l w, ?_⟩
  refine F_of_comp c47_ok rfl ?_
  refine WC_go hE hm ?_
  refine xA rfl rfl rfl rfl rfl rfl ?_
  refine xA (ob := .cells [gsl 1 L.length] 24 none) (mk := .ptr) rfl rfl rfl (boxGsl _ _ _) rfl rfl ?_
  refine xP rfl rfl rfl rfl ?_
  refine RX_nil ?_
  refine WC_live (live1 2 rfl (live1 3 rfl live0)) ?_
  refine WC_seq ?_
  refine WC_go hE hm ?_
  refine xR rfl rfl rfl rfl ?_
  refine xLenG (k := L.length) rfl rfl ?_
  refine xEq rfl rfl ?_ ?_ <;> intro h
  ·
    refine RX_nil ?_
    refine WC_live (live1 2 rfl (live1 3 rfl (live1 11 rfl live0))) ?_
    refine WC_condT rfl ?_
    refine WC_go hE hm ?_
    refine xP rfl rfl rfl rfl ?_
    refine RX_nil ?_
    refine WC_live (live1 4 rfl live0) ?_
    refine WC_le (Le.canon [] (n2 := 2) (lrS 4 rfl rfl lr0) (hrS 0 rfl rfl (hr1 1 (gob 64 3 (cardsV L) L.length) rfl (renO_gob _ (flats_cards L) _) hr0)) rfl rfl rfl rfl rfl (hGn rfl)) ?_
    refine WC_ret ?_
    refine thenR ?_
    refine endR rfl ?_
    exact ⟨_, rfl, ⟨0, by decide, by decide, rfl, rfl, rfl⟩, shutV L rfl⟩
  ·
    refine RX_nil ?_
    refine WC_live (live1 2 rfl (live1 3 rfl (live1 11 rfl live0))) ?_
    refine WC_condF rfl ?_
    refine WC_skip ?_
    refine thenN ?_
    refine WC_live (live1 2 rfl (live1 3 rfl live0)) ?_
    refine WC_go hE hm ?_
    refine xA rfl rfl rfl rfl rfl rfl ?_
    refine xW rfl rfl rfl rfl rfl ?_
    refine RX_nil ?_
    refine WC_liveH (live1 2 rfl (live1 3 rfl (live1 5 rfl live0))) (LH := h47 r c l w L 36) (liveHo 0 gl rfl (liveHo 1 (gob 64 3 (cardsV L) L.length) rfl (liveHo 2 (.cells [.int .i64 r, .int .i64 c, .int .i64 l, .int .i64 w] 23 none) rfl (liveHo 3 (.cells [gsl 1 L.length] 24 none) rfl (liveHo 4 (.cells [.int .i64 36] 3 none) rfl liveH0))))) ?_
    refine WC_go hE hm ?_
    refine xLoadN [_, _, _, _] rfl rfl rfl ?_
    refine xR rfl rfl rfl rfl ?_
    refine xC rfl rfl rfl rfl (callC3 (f44 r c l w L hL hs hcs) (fun v => ∃ x y : Nat, x < 2 ^ 8 ∧ y < 2 ^ 8 ∧ v = .tuple #[.int .u8 (x : Int), .int .u8 (y : Int)]) (by rintro _ _ _ ⟨x, y, h1, h2, h3, h4, h5⟩; exact ⟨⟨x, y, h1, h2, h3⟩, h4, h5⟩) (by rintro _ ⟨x, y, _, _, rfl⟩ σ; rfl) 36) ?_
    rintro _ H2 _ ⟨⟨x, y, xb, yb, rfl⟩, hl2, rfl⟩
    refine xP rfl rfl rfl rfl ?_
    refine xP rfl rfl rfl rfl ?_
    refine xP rfl rfl rfl rfl ?_
    refine xP rfl rfl rfl rfl ?_
    refine xP rfl rfl rfl rfl ?_
    refine RX_nil ?_
    refine WC_liveH (live1 2 rfl (live1 3 rfl (live1 5 rfl (live1 6 rfl (live1 7 rfl live0))))) hl2 ?_
    refine WC_go hE hm ?_
    refine xP rfl rfl rfl rfl ?_
    refine xP rfl rfl rfl rfl ?_
    refine RX_nil ?_
    refine WC_live (live1 5 rfl (live1 6 rfl (live1 7 rfl (live1 8 rfl live0)))) ?_
    refine WC_go hE hm ?_
    refine xP rfl rfl rfl rfl ?_
    refine xP rfl rfl rfl rfl ?_
    refine xC rfl rfl rfl rfl (callR (f63 r c l w L hL (fun A hA hm => ih A hA (fun cd hcd => hcs cd (hm cd hcd))) 64 ahead64 x xb 36 (by decide) (by decide))) ?_
    rintro _ H3 _ ⟨o3, o31, o32, rfl, hl3, rfl⟩
    refine RX_nil ?_
    refine WC_liveH (live1 5 rfl (live1 7 rfl (live1 8 rfl live0))) hl3 ?_
    refine WC_go hE hm ?_
    refine xP rfl rfl rfl rfl ?_
    refine xP rfl rfl rfl rfl ?_
    refine xC rfl rfl rfl rfl (callR (f63 r c l w L hL (fun A hA hm => ih A hA (fun cd hcd => hcs cd (hm cd hcd))) 65 ahead65 y yb o3 o31 o32)) ?_
    rintro _ H4 _ ⟨o4, o41, o42, rfl, hl4, rfl⟩
    refine RX_nil ?_
    refine WC_liveH (live1 5 rfl live0) hl4 ?_
    refine WC_go hE hm ?_
    refine xR rfl rfl rfl rfl ?_
    refine xMin [36] rfl rfl ?_
    refine xP rfl rfl rfl rfl ?_
    refine RX_nil ?_
    refine WC_live (live1 4 rfl live0) ?_
    refine WC_le (Le.canon [] (n2 := 2) (lrS 4 rfl rfl lr0) (hrS 0 rfl rfl (hr1 1 (gob 64 3 (cardsV L) L.length) rfl (renO_gob _ (flats_cards L) _) hr0)) rfl rfl rfl rfl rfl (hGn rfl)) ?_
    refine WC_ret ?_
    refine endR rfl ?_
    exact ⟨_, rfl, ⟨min o4 36, by omega, by omega, rfl, rfl, rfl⟩, shutV L rfl⟩
/-- rounds, for every row. -/
theorem f47 (r c l w : Int) (hs : okSheet r c l w) : ∀ (k : Nat) (L : List Cd), L.length < k → L.length ≤ 1048576 → (∀ cd ∈ L, okCard cd) → C47 r c l w L
  | 0, L, h, _, _ => by omega
  | k + 1, L, h, hL, hcs => f47s r c l w L hL hs hcs fun A hA hA2 => f47 r c l w hs k A (by omega) (by omega) hA2
theorem C47_ok (r c l w : Int) (L : List Cd) (hL : L.length ≤ 1048576) : okSheet r c l w → (∀ cd ∈ L, okCard cd) → C47 r c l w L := fun hs hcs => f47 r c l w hs (L.length + 1) L (by omega) hL hcs
end Go.Proofs.YtnagcnlldllagaaGreatDoor
