/- A part of the proof that the law spadilletop.TopSharedRing answers true and leaves its argument as it was (D2) -/
import Derived.Test.YtmpogedhilfjgaaGreatDoorD1
set_option linter.all false
set_option maxRecDepth 1000000
set_option maxHeartbeats 4000000
open Go Go.Cs
namespace Go.Proofs.YtmpogedhilfjgaaGreatDoor
theorem nrRes {H : Heap} {n : Nat} {v : Value} {H' : Heap} {n' : Nat} (h : Fin H n 5000 H' n' ∧ ∃ (e : Int) (s : Value) (lo : List Int) (io : Nat) (gr : Option Nat), v = .tuple #[s, .int .i64 e] ∧ SliceAt s io 0 lo.length ∧ isHdr s = true ∧ s.cells.toList = [s] ∧ cell1 s = true ∧ lo.length ≤ 100 ∧ (lo ≠ [] → aget H' io = some (.cells (ints lo) 3 gr) ∧ n ≤ io ∧ io < n')) : RowRes .int 5000 101 H n v H' n' := by
 obtain ⟨hF, e, s, lo, io, gr, rfl, hs, _, _, _, hl, hr⟩ := h
 obtain ⟨l, hl'⟩ := repInts (rd := cellAt H') (S := fun q => n ≤ q ∧ q < n') hs (by omega) (fun hne => (hr hne).2) fun d v hd => by
  have hne : lo ≠ [] := by rintro rfl; simp [ints] at hd
  rw [Nat.zero_add, cell_cells (hr hne).1]; exact hd
 exact ⟨hF, l, s, _, e, rfl, hl', by rw [row_ints_len]; omega⟩
theorem srRes {K : Nat} {H : Heap} {n : Nat} {v : Value} {H' : Heap} {n' : Nat} (h : Fin H n K H' n' ∧ ∃ (q e : Int) (lo : List Int) (io : Nat), v = .tuple #[.agg #[.int .i64 q, gsl io lo.length], .int .i64 e] ∧ lo.length ≤ 21 ∧ RowI H' n n' io lo) : AggRes t24 K 30 H n v H' n' := by
 obtain ⟨hF, q, e, lo, io, rfl, hl, hr⟩ := h
 obtain ⟨l, hl'⟩ := repGsl (H := H') (S := fun q => n ≤ q ∧ q < n') (L := lo) (i := io) (t := 3) (gr := some 1) (by omega) hr
 exact ⟨hF, _, [.int .i64 q, gsl io lo.length], _, e, rfl, .pair (.int q) (.pair hl' .unit), by simp only [Dv.tell, List.length_append, row_ints_len, List.length_cons, List.length_nil]; omega⟩
theorem fromRes {H : Heap} {n : Nat} {v : Value} {H' : Heap} {n' : Nat} (h : Fin H n 80000000000000 H' n' ∧ ∃ (e : Int) (es : List (Int × Nat × List Int)) (io : Nat), v = .tuple #[gsl io es.length, .int .i64 e] ∧ es.length ≤ 320000000 ∧ (es ≠ [] → aget H' io = some (.cells (sealsC es) 24 (some 2)) ∧ n ≤ io ∧ io < n') ∧ ∀ e ∈ es, e.2.2.length ≤ 21 ∧ (e.2.2 ≠ [] → aget H' e.2.1 = some (.cells (ints e.2.2) 3 (some 1)) ∧ n ≤ e.2.1 ∧ e.2.1 < n')) : RowRes t24 80000000000000 7400000000 H n v H' n' := by
 obtain ⟨hF, e, es, io, rfl, hl, hr, he⟩ := h
 obtain ⟨l, hl'⟩ := repRow (rd := cellAt H') (S := fun q => n ≤ q ∧ q < n') (e := t24) (L := es) (c := sealC) (g := fun e => .pair (.int e.1) (.pair (Dv.row e.2.2 .int) .unit)) (.gsl io es.length) (by omega) (fun hne => (hr hne).2) (fun _ => rfl) (fun d v hd => by
  have hne : es ≠ [] := by rintro rfl; simp at hd
  rw [Nat.zero_add, cell_cells (hr hne).1]; exact hd) fun a ha => by
  obtain ⟨l, hl⟩ := repGsl (H := H') (S := fun q => n ≤ q ∧ q < n') (L := a.2.2) (i := a.2.1) (t := 3) (gr := some 1) (by have := (he a ha).1; omega) fun hne => (he a ha).2 hne
  exact ⟨_, .pair (.int a.1) (.pair hl .unit)⟩
 refine ⟨hF, l, _, _, e, rfl, hl', Nat.le_trans (row_len (c := 23) fun a ha => ?_) (by omega)⟩
 have := (he a ha).1
 simp only [Dv.tell, List.length_append, row_ints_len, List.length_cons, List.length_nil]; omega
def ArgX (x0 : Int) (L1 : List Int) (x2 : Int) (x3 : Int) (L4 : List Int) (x5 : Int) (L6 : List Int) (L7 : List Int) (x8 : Int) (x9 : Int) (L10 : List Int) (x11 : Int) (H : Heap) (b : Nat) : Prop := (L1.length ≤ 200 ∧ L4.length ≤ 200 ∧ L6.length ≤ 200 ∧ L7.length ≤ 200 ∧ L10.length ≤ 200) ∧ ∃ (i1 : Nat) (i4 : Nat) (i6 : Nat) (i7 : Nat) (i10 : Nat), aget H b = some (.cells (ysV x0 i1 L1 x2 x3 i4 L4 x5 i6 L6 i7 L7 x8 x9 i10 L10 x11) 26 none) ∧ (L1 ≠ [] → aget H i1 = some (.cells (ints L1) 3 (some 1)) ∧ i1 < b) ∧ (L4 ≠ [] → aget H i4 = some (.cells (ints L4) 3 (some 1)) ∧ i4 < b) ∧ (L6 ≠ [] → aget H i6 = some (.cells (ints L6) 3 (some 1)) ∧ i6 < b) ∧ (L7 ≠ [] → aget H i7 = some (.cells (ints L7) 3 (some 1)) ∧ i7 < b) ∧ (L10 ≠ [] → aget H i10 = some (.cells (ints L10) 3 (some 1)) ∧ i10 < b)
def CC : Nat := 100000000000000
def BB : Nat := 7900000000
def CallOk (x0 : Int) (L1 : List Int) (x2 : Int) (x3 : Int) (L4 : List Int) (x5 : Int) (L6 : List Int) (L7 : List Int) (x8 : Int) (x9 : Int) (L10 : List Int) (x11 : Int) (fc : FuncId) : Prop := ∀ (H : Heap) (n b : Nat), ArgX x0 L1 x2 x3 L4 x5 L6 L7 x8 x9 L10 x11 H b → aget H 0 = some gl → b < n → Fresh H n → n + CC < lim →
 F Tryz.prog [0] fc [ptrAt b 0] H n (fun v H' n' => ∃ q j rs ws, RsAt Tryz.prog [0] 3 H' n n' v q j rs ws BB ∧ (∀ q, q < n → aget H' q = aget H q) ∧ Fresh H' n' ∧ n ≤ n' ∧ n' ≤ n + CC)
def c7 : FC := FC.mk 8 (.seq (.steps [⟨.move, [.const (.slice none 0 0)], some 2, none⟩]) (.seq (.steps [⟨.move, [.tmp 0], some 3, none⟩,⟨.nilCheck, [.tmp 3], some 4, none⟩,⟨.fieldAddr 0, [.tmp 4], some 5, none⟩,⟨.loadN 2, [.tmp 5], some 6, none⟩,⟨.callF 8, [.tmp 6], some 7, none⟩]) (.seq (.steps [⟨.move, [.const (.slice none 0 0)], some 2, none⟩]) (.ret)))) [.tmp 2]
theorem c7_ok : compF Tryz.prog 7 = some c7 := by kernel_rfl
theorem call7 {x0 : Int} {L1 : List Int} {x2 : Int} {x3 : Int} {L4 : List Int} {x5 : Int} {L6 : List Int} {L7 : List Int} {x8 : Int} {x9 : Int} {L10 : List Int} {x11 : Int} : CallOk x0 L1 x2 x3 L4 x5 L6 L7 x8 x9 L10 x11 7 := by
 rintro H n b ⟨⟨hl1, hl4, hl6, hl7, hl10⟩, i1, i4, i6, i7, i10, hx, o1, o4, o6, o7, o10⟩ hg hb hfr hn
 refine F_of_comp c7_ok rfl ?_
 have hlim := limv
 have hcc : CC = 100000000000000 := rfl
 have hn0 : 0 < n := by omega
 dsimp only [ysV] at hx
 refine WC_go hE hm ?_
 refine xP rfl rfl rfl rfl ?_
 refine RXn ?_
 refine WLv (lv1 0 rfl lv0) ?_
 refine WC_go hE hm ?_
 refine xP rfl rfl rfl rfl ?_
 refine xP rfl rfl rfl rfl ?_
 refine xP rfl rfl rfl rfl ?_
 refine xR (v := .agg #[.int .i64 x0, gsl (i1) (L1.length)]) rfl rfl rfl (ldN (o := 0 + 0) (ys := [.int .i64 x0, gsl (i1) (L1.length)]) hx rfl rfl) ?_
 refine xC rfl rfl rfl rfl (check_ok (by omega) hg (fun hne => ⟨(fun h => (o1 h).1) hne, by have := (o1 hne).2; omega⟩) hfr (by omega) (by omega)) ?_
 rintro v1 H1 n1 F1
 replace F1 := F1.1
 have le1 := F1.le
 have rm1 := F1.room
 have f2 := (F1.keep _ (by omega)).trans hg
 have f3 := (F1.keep _ (by omega)).trans hx
 have f4 : L1 ≠ [] → aget H1 i1 = some (.cells (ints L1) 3 (some 1)) := fun hne => by have hdm := (o1 hne).2; exact (F1.keep _ (by omega)).trans ((fun h => (o1 h).1) hne)
 have f5 : L4 ≠ [] → aget H1 i4 = some (.cells (ints L4) 3 (some 1)) := fun hne => by have hdm := (o4 hne).2; exact (F1.keep _ (by omega)).trans ((fun h => (o4 h).1) hne)
 have f6 : L6 ≠ [] → aget H1 i6 = some (.cells (ints L6) 3 (some 1)) := fun hne => by have hdm := (o6 hne).2; exact (F1.keep _ (by omega)).trans ((fun h => (o6 h).1) hne)
 have f7 : L7 ≠ [] → aget H1 i7 = some (.cells (ints L7) 3 (some 1)) := fun hne => by have hdm := (o7 hne).2; exact (F1.keep _ (by omega)).trans ((fun h => (o7 h).1) hne)
 have f8 : L10 ≠ [] → aget H1 i10 = some (.cells (ints L10) 3 (some 1)) := fun hne => by have hdm := (o10 hne).2; exact (F1.keep _ (by omega)).trans ((fun h => (o10 h).1) hne)
 refine RXn ?_
 refine WLv lv0 ?_
 refine WC_go hE hm ?_
 refine xP rfl rfl rfl rfl ?_
 refine RXn ?_
 refine WLv (lv1 2 rfl lv0) ?_
 refine WC_ret ?_
 refine endR rfl ?_
 exact ⟨0, 0, [], [], rs0 _ _ _ _ _, fun q hq => (F1.keep q (by omega)), F1.fresh, by omega, by omega⟩
def c9 : FC := FC.mk 15 (.seq (.steps [⟨.move, [.const (.slice none 0 0)], some 2, none⟩]) (.seq (.steps [⟨.move, [.tmp 0], some 6, none⟩,⟨.nilCheck, [.tmp 6], some 7, none⟩,⟨.fieldAddr 0, [.tmp 7], some 8, none⟩,⟨.loadN 2, [.tmp 8], some 9, none⟩,⟨.callF 10, [.tmp 9], some 10, none⟩,⟨.move, [.tmp 10], some 5, none⟩,⟨.extract 0, [.tmp 5], some 11, none⟩,⟨.extract 1, [.tmp 5], some 12, none⟩,⟨.alloc 22 [.slice none 0 0], [], some 3, none⟩,⟨.store 1, [.tmp 3, .tmp 11], none, none⟩,⟨.move, [.tmp 12], some 4, none⟩]) (.seq (.steps [⟨.mkFunc (.func 11) 0, [.tmp 3], some 13, none⟩,⟨.buildSlice 40 1 [.nilFunc] [(0, 1)], [.tmp 13], some 14, none⟩,⟨.move, [.tmp 14], some 2, none⟩]) (.ret)))) [.tmp 2]
theorem c9_ok : compF Tryz.prog 9 = some c9 := by kernel_rfl
theorem call9 {x0 : Int} {L1 : List Int} {x2 : Int} {x3 : Int} {L4 : List Int} {x5 : Int} {L6 : List Int} {L7 : List Int} {x8 : Int} {x9 : Int} {L10 : List Int} {x11 : Int} : CallOk x0 L1 x2 x3 L4 x5 L6 L7 x8 x9 L10 x11 9 := by
 rintro H n b ⟨⟨hl1, hl4, hl6, hl7, hl10⟩, i1, i4, i6, i7, i10, hx, o1, o4, o6, o7, o10⟩ hg hb hfr hn
 refine F_of_comp c9_ok rfl ?_
 have hlim := limv
 have hcc : CC = 100000000000000 := rfl
 have hn0 : 0 < n := by omega
 dsimp only [ysV] at hx
 refine WC_go hE hm ?_
 refine xP rfl rfl rfl rfl ?_
 refine RXn ?_
 refine WLv (lv1 0 rfl lv0) ?_
 refine WC_go hE hm ?_
 refine xP rfl rfl rfl rfl ?_
 refine xP rfl rfl rfl rfl ?_
 refine xP rfl rfl rfl rfl ?_
 refine xR (v := .agg #[.int .i64 x0, gsl (i1) (L1.length)]) rfl rfl rfl (ldN (o := 0 + 0) (ys := [.int .i64 x0, gsl (i1) (L1.length)]) hx rfl rfl) ?_
 refine xC rfl rfl rfl rfl ((gaps_ok (by omega) hg (fun hne => ⟨(fun h => (o1 h).1) hne, by have := (o1 hne).2; omega⟩) hfr (by omega) (by omega)).mono fun _ _ _ h => nrRes h) ?_
 rintro _ H1 n1 ⟨F1, l1, sv1, dv1, e1, rfl, rp1, hB1⟩
 have le1 := F1.le
 have rm1 := F1.room
 have f2 := (F1.keep _ (by omega)).trans hg
 have f3 := (F1.keep _ (by omega)).trans hx
 have f4 : L1 ≠ [] → aget H1 i1 = some (.cells (ints L1) 3 (some 1)) := fun hne => by have hdm := (o1 hne).2; exact (F1.keep _ (by omega)).trans ((fun h => (o1 h).1) hne)
 have f5 : L4 ≠ [] → aget H1 i4 = some (.cells (ints L4) 3 (some 1)) := fun hne => by have hdm := (o4 hne).2; exact (F1.keep _ (by omega)).trans ((fun h => (o4 h).1) hne)
 have f6 : L6 ≠ [] → aget H1 i6 = some (.cells (ints L6) 3 (some 1)) := fun hne => by have hdm := (o6 hne).2; exact (F1.keep _ (by omega)).trans ((fun h => (o6 h).1) hne)
 have f7 : L7 ≠ [] → aget H1 i7 = some (.cells (ints L7) 3 (some 1)) := fun hne => by have hdm := (o7 hne).2; exact (F1.keep _ (by omega)).trans ((fun h => (o7 h).1) hne)
 have f8 : L10 ≠ [] → aget H1 i10 = some (.cells (ints L10) 3 (some 1)) := fun hne => by have hdm := (o10 hne).2; exact (F1.keep _ (by omega)).trans ((fun h => (o10 h).1) hne)
 refine xP rfl rfl rfl rfl ?_
 refine xP rfl rfl rfl rfl ?_
 refine xP rfl rfl rfl rfl ?_
 refine xNew (ob := .cells [.slice none 0 0] 22 none) (mk := .ptr) F1.fresh (by omega) rfl rfl rfl rfl ?_
 intro H9 a10 a11 a12
 have f13 := (a11 _ (by omega)).trans f2
 have f14 := (a11 _ (by omega)).trans f3
 have f15 : L1 ≠ [] → aget H9 i1 = some (.cells (ints L1) 3 (some 1)) := fun hne => by have hdm := (o1 hne).2; exact (a11 _ (by omega)).trans (f4 hne)
 have f16 : L4 ≠ [] → aget H9 i4 = some (.cells (ints L4) 3 (some 1)) := fun hne => by have hdm := (o4 hne).2; exact (a11 _ (by omega)).trans (f5 hne)
 have f17 : L6 ≠ [] → aget H9 i6 = some (.cells (ints L6) 3 (some 1)) := fun hne => by have hdm := (o6 hne).2; exact (a11 _ (by omega)).trans (f6 hne)
 have f18 : L7 ≠ [] → aget H9 i7 = some (.cells (ints L7) 3 (some 1)) := fun hne => by have hdm := (o7 hne).2; exact (a11 _ (by omega)).trans (f7 hne)
 have f19 : L10 ≠ [] → aget H9 i10 = some (.cells (ints L10) 3 (some 1)) := fun hne => by have hdm := (o10 hne).2; exact (a11 _ (by omega)).trans (f8 hne)
 refine xStO (u := sv1) [sv1] a10 (by show _ ≤ _; simp) rp1.one.2.1 rp1.one.2.2 rfl rfl rfl (by omega) ?_
 intro H20 b21 b22
 have f23 := (b22 _ (by omega)).trans f13
 have f24 := (b22 _ (by omega)).trans f14
 have f25 : L1 ≠ [] → aget H20 i1 = some (.cells (ints L1) 3 (some 1)) := fun hne => by have hdm := (o1 hne).2; exact (b22 _ (by omega)).trans (f15 hne)
 have f26 : L4 ≠ [] → aget H20 i4 = some (.cells (ints L4) 3 (some 1)) := fun hne => by have hdm := (o4 hne).2; exact (b22 _ (by omega)).trans (f16 hne)
 have f27 : L6 ≠ [] → aget H20 i6 = some (.cells (ints L6) 3 (some 1)) := fun hne => by have hdm := (o6 hne).2; exact (b22 _ (by omega)).trans (f17 hne)
 have f28 : L7 ≠ [] → aget H20 i7 = some (.cells (ints L7) 3 (some 1)) := fun hne => by have hdm := (o7 hne).2; exact (b22 _ (by omega)).trans (f18 hne)
 have f29 : L10 ≠ [] → aget H20 i10 = some (.cells (ints L10) 3 (some 1)) := fun hne => by have hdm := (o10 hne).2; exact (b22 _ (by omega)).trans (f19 hne)
 have g30 : Fresh H20 (n1 + 1) := fun q h1 h2 => by rw [b22 q (by omega)]; exact a12 q h1 h2
 refine xP rfl rfl rfl rfl ?_
 refine RXn ?_
 refine WLv (lv1 3 rfl lv0) ?_
 refine WC_go hE hm ?_
 refine xP (v := .func (.func 11) #[] #[.pointer (some ⟨n1, 0, none⟩)]) rfl rfl rfl rfl ?_
 refine xNew (ob := .cells [.func (.func 11) #[] #[.pointer (some ⟨n1, 0, none⟩)]] 40 none) (mk := .slice 1 1) g30 (by omega) rfl rfl rfl rfl ?_
 intro H31 a32 a33 a34
 have f35 := (a33 _ (by omega)).trans f23
 have f36 := (a33 _ (by omega)).trans f24
 have f37 : L1 ≠ [] → aget H31 i1 = some (.cells (ints L1) 3 (some 1)) := fun hne => by have hdm := (o1 hne).2; exact (a33 _ (by omega)).trans (f25 hne)
 have f38 : L4 ≠ [] → aget H31 i4 = some (.cells (ints L4) 3 (some 1)) := fun hne => by have hdm := (o4 hne).2; exact (a33 _ (by omega)).trans (f26 hne)
 have f39 : L6 ≠ [] → aget H31 i6 = some (.cells (ints L6) 3 (some 1)) := fun hne => by have hdm := (o6 hne).2; exact (a33 _ (by omega)).trans (f27 hne)
 have f40 : L7 ≠ [] → aget H31 i7 = some (.cells (ints L7) 3 (some 1)) := fun hne => by have hdm := (o7 hne).2; exact (a33 _ (by omega)).trans (f28 hne)
 have f41 : L10 ≠ [] → aget H31 i10 = some (.cells (ints L10) 3 (some 1)) := fun hne => by have hdm := (o10 hne).2; exact (a33 _ (by omega)).trans (f29 hne)
 have f42 := (a33 _ (by omega)).trans b21
 refine xP rfl rfl rfl rfl ?_
 refine RXn ?_
 refine WLv (lv1 2 rfl lv0) ?_
 refine WC_ret ?_
 refine endR rfl ?_
 exact ⟨n1 + 1, 0, _, _, rs1 (resBox hE hm e11 sT12 rp1 (fun q hq1 hq2 => ((a33 q (by omega)).trans ((b22 q (by omega)).trans (a11 q (by omega))))) (by omega) (by omega) f42 (by omega) (Nat.le_trans hB1 (by decide))) (cell_cells a32 0) (by omega), fun q hq => ((a33 q (by omega)).trans ((b22 q (by omega)).trans ((a11 q (by omega)).trans (F1.keep q (by omega))))), a34, by omega, by omega⟩
def c13 : FC := FC.mk 19 (.seq (.steps [⟨.move, [.const (.slice none 0 0)], some 2, none⟩]) (.seq (.drawn [(0,⟨.move, [.tmp 0], some 6, none⟩), (1,⟨.nilCheck, [.tmp 6], some 7, none⟩), (2,⟨.fieldAddr 0, [.tmp 7], some 8, none⟩), (3,⟨.loadN 2, [.tmp 8], some 9, none⟩), (4,⟨.move, [.tmp 0], some 10, none⟩), (5,⟨.nilCheck, [.tmp 10], some 11, none⟩), (6,⟨.fieldAddr 2, [.tmp 11], some 12, none⟩), (7,⟨.load1, [.tmp 12], some 13, none⟩), (12,⟨.alloc 24 [.int .i64 0, .slice none 0 0], [], some 3, none⟩), (8,⟨.callF 14, [.tmp 9, .tmp 13], some 14, none⟩), (9,⟨.move, [.tmp 14], some 5, none⟩), (10,⟨.extract 0, [.tmp 5], some 15, none⟩), (11,⟨.extract 1, [.tmp 5], some 16, none⟩), (13,⟨.store 2, [.tmp 3, .tmp 15], none, none⟩), (14,⟨.move, [.tmp 16], some 4, none⟩)] [0, 1, 3, 7, 0, 16, 48, 112, 255, 511, 1023, 1023, 0, 6143, 16383]) (.seq (.steps [⟨.mkFunc (.func 15) 0, [.tmp 3], some 17, none⟩,⟨.buildSlice 40 1 [.nilFunc] [(0, 1)], [.tmp 17], some 18, none⟩,⟨.move, [.tmp 18], some 2, none⟩]) (.ret)))) [.tmp 2]
theorem c13_ok : compF Tryz.prog 13 = some c13 := by kernel_rfl
theorem call13 {x0 : Int} {L1 : List Int} {x2 : Int} {x3 : Int} {L4 : List Int} {x5 : Int} {L6 : List Int} {L7 : List Int} {x8 : Int} {x9 : Int} {L10 : List Int} {x11 : Int} : CallOk x0 L1 x2 x3 L4 x5 L6 L7 x8 x9 L10 x11 13 := by
 rintro H n b ⟨⟨hl1, hl4, hl6, hl7, hl10⟩, i1, i4, i6, i7, i10, hx, o1, o4, o6, o7, o10⟩ hg hb hfr hn
 refine F_of_comp c13_ok rfl ?_
 have hlim := limv
 have hcc : CC = 100000000000000 := rfl
 have hn0 : 0 < n := by omega
 dsimp only [ysV] at hx
 refine WC_go hE hm ?_
 refine xP rfl rfl rfl rfl ?_
 refine RXn ?_
 refine WLv (lv1 0 rfl lv0) ?_
 refine WC_goD hE hm ?_
 refine dX rfl (xP rfl rfl rfl rfl (RXn ?_))
 refine dX rfl (xP rfl rfl rfl rfl (RXn ?_))
 refine dX rfl (xP rfl rfl rfl rfl (RXn ?_))
 refine dR (v := .agg #[.int .i64 x0, gsl (i1) (L1.length)]) rfl rfl rfl (ldN (o := 0 + 0) (ys := [.int .i64 x0, gsl (i1) (L1.length)]) hx rfl rfl) ?_
 refine dX rfl (xP rfl rfl rfl rfl (RXn ?_))
 refine dX rfl (xP rfl rfl rfl rfl (RXn ?_))
 refine dX rfl (xP rfl rfl rfl rfl (RXn ?_))
 refine dR (v := .int .i64 x2) rfl rfl rfl (ld1 (o := 0 + 2) hx rfl) ?_
 refine dNew (ob := .cells [.int .i64 0, .slice none 0 0] 24 none) (mk := .ptr) hfr (by omega) rfl rfl rfl rfl ?_
 intro H1 a2 a3 a4
 have f5 := (a3 _ (by omega)).trans hg
 have f6 := (a3 _ (by omega)).trans hx
 have f7 : L1 ≠ [] → aget H1 i1 = some (.cells (ints L1) 3 (some 1)) := fun hne => by have hdm := (o1 hne).2; exact (a3 _ (by omega)).trans ((fun h => (o1 h).1) hne)
 have f8 : L4 ≠ [] → aget H1 i4 = some (.cells (ints L4) 3 (some 1)) := fun hne => by have hdm := (o4 hne).2; exact (a3 _ (by omega)).trans ((fun h => (o4 h).1) hne)
 have f9 : L6 ≠ [] → aget H1 i6 = some (.cells (ints L6) 3 (some 1)) := fun hne => by have hdm := (o6 hne).2; exact (a3 _ (by omega)).trans ((fun h => (o6 h).1) hne)
 have f10 : L7 ≠ [] → aget H1 i7 = some (.cells (ints L7) 3 (some 1)) := fun hne => by have hdm := (o7 hne).2; exact (a3 _ (by omega)).trans ((fun h => (o7 h).1) hne)
 have f11 : L10 ≠ [] → aget H1 i10 = some (.cells (ints L10) 3 (some 1)) := fun hne => by have hdm := (o10 hne).2; exact (a3 _ (by omega)).trans ((fun h => (o10 h).1) hne)
 refine dC (f := 14) (args := [.agg #[.int .i64 x0, gsl (i1) (L1.length)], .int .i64 x2]) rfl rfl rfl rfl ((turn_ok (by omega) f5 (fun hne => ⟨f7 hne, by have := (o1 hne).2; omega⟩) a4 (by omega) (by omega)).mono fun _ _ _ h => srRes h) ?_
 rintro _ H12 n12 ⟨F12, l12, vs12, dv12, e12, rfl, rp12, hB12⟩
 have le12 := F12.le
 have rm12 := F12.room
 have f13 := (F12.keep _ (by omega)).trans f5
 have f14 := (F12.keep _ (by omega)).trans f6
 have f15 : L1 ≠ [] → aget H12 i1 = some (.cells (ints L1) 3 (some 1)) := fun hne => by have hdm := (o1 hne).2; exact (F12.keep _ (by omega)).trans (f7 hne)
 have f16 : L4 ≠ [] → aget H12 i4 = some (.cells (ints L4) 3 (some 1)) := fun hne => by have hdm := (o4 hne).2; exact (F12.keep _ (by omega)).trans (f8 hne)
 have f17 : L6 ≠ [] → aget H12 i6 = some (.cells (ints L6) 3 (some 1)) := fun hne => by have hdm := (o6 hne).2; exact (F12.keep _ (by omega)).trans (f9 hne)
 have f18 : L7 ≠ [] → aget H12 i7 = some (.cells (ints L7) 3 (some 1)) := fun hne => by have hdm := (o7 hne).2; exact (F12.keep _ (by omega)).trans (f10 hne)
 have f19 : L10 ≠ [] → aget H12 i10 = some (.cells (ints L10) 3 (some 1)) := fun hne => by have hdm := (o10 hne).2; exact (F12.keep _ (by omega)).trans (f11 hne)
 have f20 := (F12.keep _ (by omega)).trans a2
 refine ⟨stabOne ⟨12, ⟨.alloc 24 [.int .i64 0, .slice none 0 0], [], some 3, none⟩, .a [] (.cells [.int .i64 0, .slice none 0 0] 24 none) .ptr (n)⟩ (by kernel_rfl) f20, ?_⟩
 refine dX rfl (xP rfl rfl rfl rfl (RXn ?_))
 refine dX rfl (xP rfl rfl rfl rfl (RXn ?_))
 refine dX rfl (xP rfl rfl rfl rfl (RXn ?_))
 refine dFill (ys := vs12) f20 rfl rp12.len rp12.cell1 rfl rfl (by omega) ?_
 intro H21 b22 b23
 have f24 := (b23 _ (by omega)).trans f13
 have f25 := (b23 _ (by omega)).trans f14
 have f26 : L1 ≠ [] → aget H21 i1 = some (.cells (ints L1) 3 (some 1)) := fun hne => by have hdm := (o1 hne).2; exact (b23 _ (by omega)).trans (f15 hne)
 have f27 : L4 ≠ [] → aget H21 i4 = some (.cells (ints L4) 3 (some 1)) := fun hne => by have hdm := (o4 hne).2; exact (b23 _ (by omega)).trans (f16 hne)
 have f28 : L6 ≠ [] → aget H21 i6 = some (.cells (ints L6) 3 (some 1)) := fun hne => by have hdm := (o6 hne).2; exact (b23 _ (by omega)).trans (f17 hne)
 have f29 : L7 ≠ [] → aget H21 i7 = some (.cells (ints L7) 3 (some 1)) := fun hne => by have hdm := (o7 hne).2; exact (b23 _ (by omega)).trans (f18 hne)
 have f30 : L10 ≠ [] → aget H21 i10 = some (.cells (ints L10) 3 (some 1)) := fun hne => by have hdm := (o10 hne).2; exact (b23 _ (by omega)).trans (f19 hne)
 have g31 : Fresh H21 (n12) := fun q h1 h2 => by rw [b23 q (by omega)]; exact F12.fresh q h1 h2
 refine ⟨stabE (by kernel_rfl), ?_⟩
 refine dX rfl (xP rfl rfl rfl rfl (RXn ?_))
 refine dNil ?_
 refine WLv (lv1 3 rfl lv0) ?_
 refine WC_go hE hm ?_
 refine xP (v := .func (.func 15) #[] #[.pointer (some ⟨n, 0, none⟩)]) rfl rfl rfl rfl ?_
 refine xNew (ob := .cells [.func (.func 15) #[] #[.pointer (some ⟨n, 0, none⟩)]] 40 none) (mk := .slice 1 1) g31 (by omega) rfl rfl rfl rfl ?_
 intro H32 a33 a34 a35
 have f36 := (a34 _ (by omega)).trans f24
 have f37 := (a34 _ (by omega)).trans f25
 have f38 : L1 ≠ [] → aget H32 i1 = some (.cells (ints L1) 3 (some 1)) := fun hne => by have hdm := (o1 hne).2; exact (a34 _ (by omega)).trans (f26 hne)
 have f39 : L4 ≠ [] → aget H32 i4 = some (.cells (ints L4) 3 (some 1)) := fun hne => by have hdm := (o4 hne).2; exact (a34 _ (by omega)).trans (f27 hne)
 have f40 : L6 ≠ [] → aget H32 i6 = some (.cells (ints L6) 3 (some 1)) := fun hne => by have hdm := (o6 hne).2; exact (a34 _ (by omega)).trans (f28 hne)
 have f41 : L7 ≠ [] → aget H32 i7 = some (.cells (ints L7) 3 (some 1)) := fun hne => by have hdm := (o7 hne).2; exact (a34 _ (by omega)).trans (f29 hne)
 have f42 : L10 ≠ [] → aget H32 i10 = some (.cells (ints L10) 3 (some 1)) := fun hne => by have hdm := (o10 hne).2; exact (a34 _ (by omega)).trans (f30 hne)
 have f43 := (a34 _ (by omega)).trans b22
 refine xP rfl rfl rfl rfl ?_
 refine RXn ?_
 refine WLv (lv1 2 rfl lv0) ?_
 refine WC_ret ?_
 refine endR rfl ?_
 exact ⟨n12, 0, _, _, rs1 (resBox hE hm e15 sT16 rp12 (fun q hq1 hq2 => ((a34 q (by omega)).trans (b23 q (by omega)))) (by omega) (by omega) f43 (by omega) (Nat.le_trans hB12 (by decide))) (cell_cells a33 0) (by omega), fun q hq => ((a34 q (by omega)).trans ((b23 q (by omega)).trans ((F12.keep q (by omega)).trans (a3 q (by omega))))), a35, by omega, by omega⟩
def c17 : FC := FC.mk 15 (.seq (.steps [⟨.move, [.const (.slice none 0 0)], some 2, none⟩]) (.seq (.steps [⟨.move, [.tmp 0], some 6, none⟩,⟨.nilCheck, [.tmp 6], some 7, none⟩,⟨.fieldAddr 0, [.tmp 7], some 8, none⟩,⟨.loadN 2, [.tmp 8], some 9, none⟩,⟨.callF 18, [.tmp 9], some 10, none⟩,⟨.move, [.tmp 10], some 5, none⟩,⟨.extract 0, [.tmp 5], some 11, none⟩,⟨.extract 1, [.tmp 5], some 12, none⟩,⟨.alloc 24 [.int .i64 0, .slice none 0 0], [], some 3, none⟩,⟨.store 2, [.tmp 3, .tmp 11], none, none⟩,⟨.move, [.tmp 12], some 4, none⟩]) (.seq (.steps [⟨.mkFunc (.func 19) 0, [.tmp 3], some 13, none⟩,⟨.buildSlice 40 1 [.nilFunc] [(0, 1)], [.tmp 13], some 14, none⟩,⟨.move, [.tmp 14], some 2, none⟩]) (.ret)))) [.tmp 2]
theorem c17_ok : compF Tryz.prog 17 = some c17 := by kernel_rfl
theorem call17 {x0 : Int} {L1 : List Int} {x2 : Int} {x3 : Int} {L4 : List Int} {x5 : Int} {L6 : List Int} {L7 : List Int} {x8 : Int} {x9 : Int} {L10 : List Int} {x11 : Int} : CallOk x0 L1 x2 x3 L4 x5 L6 L7 x8 x9 L10 x11 17 := by
 rintro H n b ⟨⟨hl1, hl4, hl6, hl7, hl10⟩, i1, i4, i6, i7, i10, hx, o1, o4, o6, o7, o10⟩ hg hb hfr hn
 refine F_of_comp c17_ok rfl ?_
 have hlim := limv
 have hcc : CC = 100000000000000 := rfl
 have hn0 : 0 < n := by omega
 dsimp only [ysV] at hx
 refine WC_go hE hm ?_
 refine xP rfl rfl rfl rfl ?_
 refine RXn ?_
 refine WLv (lv1 0 rfl lv0) ?_
 refine WC_go hE hm ?_
 refine xP rfl rfl rfl rfl ?_
 refine xP rfl rfl rfl rfl ?_
 refine xP rfl rfl rfl rfl ?_
 refine xR (v := .agg #[.int .i64 x0, gsl (i1) (L1.length)]) rfl rfl rfl (ldN (o := 0 + 0) (ys := [.int .i64 x0, gsl (i1) (L1.length)]) hx rfl rfl) ?_
 refine xC rfl rfl rfl rfl ((firstSeal_ok (by omega) hg (fun hne => ⟨(fun h => (o1 h).1) hne, by have := (o1 hne).2; omega⟩) hfr (by omega) (by omega)).mono fun _ _ _ h => srRes h) ?_
 rintro _ H1 n1 ⟨F1, l1, vs1, dv1, e1, rfl, rp1, hB1⟩
 have le1 := F1.le
 have rm1 := F1.room
 have f2 := (F1.keep _ (by omega)).trans hg
 have f3 := (F1.keep _ (by omega)).trans hx
 have f4 : L1 ≠ [] → aget H1 i1 = some (.cells (ints L1) 3 (some 1)) := fun hne => by have hdm := (o1 hne).2; exact (F1.keep _ (by omega)).trans ((fun h => (o1 h).1) hne)
 have f5 : L4 ≠ [] → aget H1 i4 = some (.cells (ints L4) 3 (some 1)) := fun hne => by have hdm := (o4 hne).2; exact (F1.keep _ (by omega)).trans ((fun h => (o4 h).1) hne)
 have f6 : L6 ≠ [] → aget H1 i6 = some (.cells (ints L6) 3 (some 1)) := fun hne => by have hdm := (o6 hne).2; exact (F1.keep _ (by omega)).trans ((fun h => (o6 h).1) hne)
 have f7 : L7 ≠ [] → aget H1 i7 = some (.cells (ints L7) 3 (some 1)) := fun hne => by have hdm := (o7 hne).2; exact (F1.keep _ (by omega)).trans ((fun h => (o7 h).1) hne)
 have f8 : L10 ≠ [] → aget H1 i10 = some (.cells (ints L10) 3 (some 1)) := fun hne => by have hdm := (o10 hne).2; exact (F1.keep _ (by omega)).trans ((fun h => (o10 h).1) hne)
 refine xP rfl rfl rfl rfl ?_
 refine xP rfl rfl rfl rfl ?_
 refine xP rfl rfl rfl rfl ?_
 refine xNew (ob := .cells [.int .i64 0, .slice none 0 0] 24 none) (mk := .ptr) F1.fresh (by omega) rfl rfl rfl rfl ?_
 intro H9 a10 a11 a12
 have f13 := (a11 _ (by omega)).trans f2
 have f14 := (a11 _ (by omega)).trans f3
 have f15 : L1 ≠ [] → aget H9 i1 = some (.cells (ints L1) 3 (some 1)) := fun hne => by have hdm := (o1 hne).2; exact (a11 _ (by omega)).trans (f4 hne)
 have f16 : L4 ≠ [] → aget H9 i4 = some (.cells (ints L4) 3 (some 1)) := fun hne => by have hdm := (o4 hne).2; exact (a11 _ (by omega)).trans (f5 hne)
 have f17 : L6 ≠ [] → aget H9 i6 = some (.cells (ints L6) 3 (some 1)) := fun hne => by have hdm := (o6 hne).2; exact (a11 _ (by omega)).trans (f6 hne)
 have f18 : L7 ≠ [] → aget H9 i7 = some (.cells (ints L7) 3 (some 1)) := fun hne => by have hdm := (o7 hne).2; exact (a11 _ (by omega)).trans (f7 hne)
 have f19 : L10 ≠ [] → aget H9 i10 = some (.cells (ints L10) 3 (some 1)) := fun hne => by have hdm := (o10 hne).2; exact (a11 _ (by omega)).trans (f8 hne)
 refine xFill (ys := vs1) a10 rfl rp1.len rp1.cell1 rfl rfl (by omega) ?_
 intro H20 b21 b22
 have f23 := (b22 _ (by omega)).trans f13
 have f24 := (b22 _ (by omega)).trans f14
 have f25 : L1 ≠ [] → aget H20 i1 = some (.cells (ints L1) 3 (some 1)) := fun hne => by have hdm := (o1 hne).2; exact (b22 _ (by omega)).trans (f15 hne)
 have f26 : L4 ≠ [] → aget H20 i4 = some (.cells (ints L4) 3 (some 1)) := fun hne => by have hdm := (o4 hne).2; exact (b22 _ (by omega)).trans (f16 hne)
 have f27 : L6 ≠ [] → aget H20 i6 = some (.cells (ints L6) 3 (some 1)) := fun hne => by have hdm := (o6 hne).2; exact (b22 _ (by omega)).trans (f17 hne)
 have f28 : L7 ≠ [] → aget H20 i7 = some (.cells (ints L7) 3 (some 1)) := fun hne => by have hdm := (o7 hne).2; exact (b22 _ (by omega)).trans (f18 hne)
 have f29 : L10 ≠ [] → aget H20 i10 = some (.cells (ints L10) 3 (some 1)) := fun hne => by have hdm := (o10 hne).2; exact (b22 _ (by omega)).trans (f19 hne)
 have g30 : Fresh H20 (n1 + 1) := fun q h1 h2 => by rw [b22 q (by omega)]; exact a12 q h1 h2
 refine xP rfl rfl rfl rfl ?_
 refine RXn ?_
 refine WLv (lv1 3 rfl lv0) ?_
 refine WC_go hE hm ?_
 refine xP (v := .func (.func 19) #[] #[.pointer (some ⟨n1, 0, none⟩)]) rfl rfl rfl rfl ?_
 refine xNew (ob := .cells [.func (.func 19) #[] #[.pointer (some ⟨n1, 0, none⟩)]] 40 none) (mk := .slice 1 1) g30 (by omega) rfl rfl rfl rfl ?_
 intro H31 a32 a33 a34
 have f35 := (a33 _ (by omega)).trans f23
 have f36 := (a33 _ (by omega)).trans f24
 have f37 : L1 ≠ [] → aget H31 i1 = some (.cells (ints L1) 3 (some 1)) := fun hne => by have hdm := (o1 hne).2; exact (a33 _ (by omega)).trans (f25 hne)
 have f38 : L4 ≠ [] → aget H31 i4 = some (.cells (ints L4) 3 (some 1)) := fun hne => by have hdm := (o4 hne).2; exact (a33 _ (by omega)).trans (f26 hne)
 have f39 : L6 ≠ [] → aget H31 i6 = some (.cells (ints L6) 3 (some 1)) := fun hne => by have hdm := (o6 hne).2; exact (a33 _ (by omega)).trans (f27 hne)
 have f40 : L7 ≠ [] → aget H31 i7 = some (.cells (ints L7) 3 (some 1)) := fun hne => by have hdm := (o7 hne).2; exact (a33 _ (by omega)).trans (f28 hne)
 have f41 : L10 ≠ [] → aget H31 i10 = some (.cells (ints L10) 3 (some 1)) := fun hne => by have hdm := (o10 hne).2; exact (a33 _ (by omega)).trans (f29 hne)
 have f42 := (a33 _ (by omega)).trans b21
 refine xP rfl rfl rfl rfl ?_
 refine RXn ?_
 refine WLv (lv1 2 rfl lv0) ?_
 refine WC_ret ?_
 refine endR rfl ?_
 exact ⟨n1 + 1, 0, _, _, rs1 (resBox hE hm e19 sT16 rp1 (fun q hq1 hq2 => ((a33 q (by omega)).trans ((b22 q (by omega)).trans (a11 q (by omega))))) (by omega) (by omega) f42 (by omega) (Nat.le_trans hB1 (by decide))) (cell_cells a32 0) (by omega), fun q hq => ((a33 q (by omega)).trans ((b22 q (by omega)).trans ((a11 q (by omega)).trans (F1.keep q (by omega))))), a34, by omega, by omega⟩
def c20 : FC := FC.mk 12 (.seq (.steps [⟨.move, [.const (.slice none 0 0)], some 2, none⟩]) (.seq (.steps [⟨.move, [.tmp 0], some 3, none⟩,⟨.nilCheck, [.tmp 3], some 4, none⟩,⟨.fieldAddr 3, [.tmp 4], some 5, none⟩,⟨.loadN 2, [.tmp 5], some 6, none⟩,⟨.move, [.tmp 0], some 7, none⟩,⟨.nilCheck, [.tmp 7], some 8, none⟩,⟨.fieldAddr 5, [.tmp 8], some 9, none⟩,⟨.loadN 2, [.tmp 9], some 10, none⟩,⟨.callF 21, [.tmp 6, .tmp 10], some 11, none⟩]) (.seq (.steps [⟨.move, [.const (.slice none 0 0)], some 2, none⟩]) (.ret)))) [.tmp 2]
theorem c20_ok : compF Tryz.prog 20 = some c20 := by kernel_rfl
theorem call20 {x0 : Int} {L1 : List Int} {x2 : Int} {x3 : Int} {L4 : List Int} {x5 : Int} {L6 : List Int} {L7 : List Int} {x8 : Int} {x9 : Int} {L10 : List Int} {x11 : Int} : CallOk x0 L1 x2 x3 L4 x5 L6 L7 x8 x9 L10 x11 20 := by
 rintro H n b ⟨⟨hl1, hl4, hl6, hl7, hl10⟩, i1, i4, i6, i7, i10, hx, o1, o4, o6, o7, o10⟩ hg hb hfr hn
 refine F_of_comp c20_ok rfl ?_
 have hlim := limv
 have hcc : CC = 100000000000000 := rfl
 have hn0 : 0 < n := by omega
 dsimp only [ysV] at hx
 refine WC_go hE hm ?_
 refine xP rfl rfl rfl rfl ?_
 refine RXn ?_
 refine WLv (lv1 0 rfl lv0) ?_
 refine WC_go hE hm ?_
 refine xP rfl rfl rfl rfl ?_
 refine xP rfl rfl rfl rfl ?_
 refine xP rfl rfl rfl rfl ?_
 refine xR (v := .agg #[.int .i64 x3, gsl (i4) (L4.length)]) rfl rfl rfl (ldN (o := 0 + 3) (ys := [.int .i64 x3, gsl (i4) (L4.length)]) hx rfl rfl) ?_
 refine xP rfl rfl rfl rfl ?_
 refine xP rfl rfl rfl rfl ?_
 refine xP rfl rfl rfl rfl ?_
 refine xR (v := .agg #[.int .i64 x5, gsl (i6) (L6.length)]) rfl rfl rfl (ldN (o := 0 + 5) (ys := [.int .i64 x5, gsl (i6) (L6.length)]) hx rfl rfl) ?_
 refine xC rfl rfl rfl rfl (alike_ok' (by omega) (by omega) hg (fun hne => ⟨(fun h => (o4 h).1) hne, by have := (o4 hne).2; omega⟩) (fun hne => ⟨(fun h => (o6 h).1) hne, by have := (o6 hne).2; omega⟩) hfr (by omega) (by omega)) ?_
 rintro v1 H1 n1 F1
 replace F1 := F1
 have le1 := F1.le
 have rm1 := F1.room
 have f2 := (F1.keep _ (by omega)).trans hg
 have f3 := (F1.keep _ (by omega)).trans hx
 have f4 : L1 ≠ [] → aget H1 i1 = some (.cells (ints L1) 3 (some 1)) := fun hne => by have hdm := (o1 hne).2; exact (F1.keep _ (by omega)).trans ((fun h => (o1 h).1) hne)
 have f5 : L4 ≠ [] → aget H1 i4 = some (.cells (ints L4) 3 (some 1)) := fun hne => by have hdm := (o4 hne).2; exact (F1.keep _ (by omega)).trans ((fun h => (o4 h).1) hne)
 have f6 : L6 ≠ [] → aget H1 i6 = some (.cells (ints L6) 3 (some 1)) := fun hne => by have hdm := (o6 hne).2; exact (F1.keep _ (by omega)).trans ((fun h => (o6 h).1) hne)
 have f7 : L7 ≠ [] → aget H1 i7 = some (.cells (ints L7) 3 (some 1)) := fun hne => by have hdm := (o7 hne).2; exact (F1.keep _ (by omega)).trans ((fun h => (o7 h).1) hne)
 have f8 : L10 ≠ [] → aget H1 i10 = some (.cells (ints L10) 3 (some 1)) := fun hne => by have hdm := (o10 hne).2; exact (F1.keep _ (by omega)).trans ((fun h => (o10 h).1) hne)
 refine RXn ?_
 refine WLv lv0 ?_
 refine WC_go hE hm ?_
 refine xP rfl rfl rfl rfl ?_
 refine RXn ?_
 refine WLv (lv1 2 rfl lv0) ?_
 refine WC_ret ?_
 refine endR rfl ?_
 exact ⟨0, 0, [], [], rs0 _ _ _ _ _, fun q hq => (F1.keep q (by omega)), F1.fresh, by omega, by omega⟩
def c22 : FC := FC.mk 15 (.seq (.steps [⟨.move, [.const (.slice none 0 0)], some 2, none⟩]) (.seq (.steps [⟨.move, [.tmp 0], some 6, none⟩,⟨.nilCheck, [.tmp 6], some 7, none⟩,⟨.fieldAddr 0, [.tmp 7], some 8, none⟩,⟨.loadN 2, [.tmp 8], some 9, none⟩,⟨.callF 23, [.tmp 9], some 10, none⟩,⟨.move, [.tmp 10], some 5, none⟩,⟨.extract 0, [.tmp 5], some 11, none⟩,⟨.extract 1, [.tmp 5], some 12, none⟩,⟨.alloc 22 [.slice none 0 0], [], some 3, none⟩,⟨.store 1, [.tmp 3, .tmp 11], none, none⟩,⟨.move, [.tmp 12], some 4, none⟩]) (.seq (.steps [⟨.mkFunc (.func 24) 0, [.tmp 3], some 13, none⟩,⟨.buildSlice 40 1 [.nilFunc] [(0, 1)], [.tmp 13], some 14, none⟩,⟨.move, [.tmp 14], some 2, none⟩]) (.ret)))) [.tmp 2]
theorem c22_ok : compF Tryz.prog 22 = some c22 := by kernel_rfl
theorem call22 {x0 : Int} {L1 : List Int} {x2 : Int} {x3 : Int} {L4 : List Int} {x5 : Int} {L6 : List Int} {L7 : List Int} {x8 : Int} {x9 : Int} {L10 : List Int} {x11 : Int} : CallOk x0 L1 x2 x3 L4 x5 L6 L7 x8 x9 L10 x11 22 := by
 rintro H n b ⟨⟨hl1, hl4, hl6, hl7, hl10⟩, i1, i4, i6, i7, i10, hx, o1, o4, o6, o7, o10⟩ hg hb hfr hn
 refine F_of_comp c22_ok rfl ?_
 have hlim := limv
 have hcc : CC = 100000000000000 := rfl
 have hn0 : 0 < n := by omega
 dsimp only [ysV] at hx
 refine WC_go hE hm ?_
 refine xP rfl rfl rfl rfl ?_
 refine RXn ?_
 refine WLv (lv1 0 rfl lv0) ?_
 refine WC_go hE hm ?_
 refine xP rfl rfl rfl rfl ?_
 refine xP rfl rfl rfl rfl ?_
 refine xP rfl rfl rfl rfl ?_
 refine xR (v := .agg #[.int .i64 x0, gsl (i1) (L1.length)]) rfl rfl rfl (ldN (o := 0 + 0) (ys := [.int .i64 x0, gsl (i1) (L1.length)]) hx rfl rfl) ?_
 refine xC rfl rfl rfl rfl ((distancesOf_ok (by omega) hg (fun hne => ⟨(fun h => (o1 h).1) hne, by have := (o1 hne).2; omega⟩) hfr (by omega) (by omega)).mono fun _ _ _ h => nrRes h) ?_
 rintro _ H1 n1 ⟨F1, l1, sv1, dv1, e1, rfl, rp1, hB1⟩
 have le1 := F1.le
 have rm1 := F1.room
 have f2 := (F1.keep _ (by omega)).trans hg
 have f3 := (F1.keep _ (by omega)).trans hx
 have f4 : L1 ≠ [] → aget H1 i1 = some (.cells (ints L1) 3 (some 1)) := fun hne => by have hdm := (o1 hne).2; exact (F1.keep _ (by omega)).trans ((fun h => (o1 h).1) hne)
 have f5 : L4 ≠ [] → aget H1 i4 = some (.cells (ints L4) 3 (some 1)) := fun hne => by have hdm := (o4 hne).2; exact (F1.keep _ (by omega)).trans ((fun h => (o4 h).1) hne)
 have f6 : L6 ≠ [] → aget H1 i6 = some (.cells (ints L6) 3 (some 1)) := fun hne => by have hdm := (o6 hne).2; exact (F1.keep _ (by omega)).trans ((fun h => (o6 h).1) hne)
 have f7 : L7 ≠ [] → aget H1 i7 = some (.cells (ints L7) 3 (some 1)) := fun hne => by have hdm := (o7 hne).2; exact (F1.keep _ (by omega)).trans ((fun h => (o7 h).1) hne)
 have f8 : L10 ≠ [] → aget H1 i10 = some (.cells (ints L10) 3 (some 1)) := fun hne => by have hdm := (o10 hne).2; exact (F1.keep _ (by omega)).trans ((fun h => (o10 h).1) hne)
 refine xP rfl rfl rfl rfl ?_
 refine xP rfl rfl rfl rfl ?_
 refine xP rfl rfl rfl rfl ?_
 refine xNew (ob := .cells [.slice none 0 0] 22 none) (mk := .ptr) F1.fresh (by omega) rfl rfl rfl rfl ?_
 intro H9 a10 a11 a12
 have f13 := (a11 _ (by omega)).trans f2
 have f14 := (a11 _ (by omega)).trans f3
 have f15 : L1 ≠ [] → aget H9 i1 = some (.cells (ints L1) 3 (some 1)) := fun hne => by have hdm := (o1 hne).2; exact (a11 _ (by omega)).trans (f4 hne)
 have f16 : L4 ≠ [] → aget H9 i4 = some (.cells (ints L4) 3 (some 1)) := fun hne => by have hdm := (o4 hne).2; exact (a11 _ (by omega)).trans (f5 hne)
 have f17 : L6 ≠ [] → aget H9 i6 = some (.cells (ints L6) 3 (some 1)) := fun hne => by have hdm := (o6 hne).2; exact (a11 _ (by omega)).trans (f6 hne)
 have f18 : L7 ≠ [] → aget H9 i7 = some (.cells (ints L7) 3 (some 1)) := fun hne => by have hdm := (o7 hne).2; exact (a11 _ (by omega)).trans (f7 hne)
 have f19 : L10 ≠ [] → aget H9 i10 = some (.cells (ints L10) 3 (some 1)) := fun hne => by have hdm := (o10 hne).2; exact (a11 _ (by omega)).trans (f8 hne)
 refine xStO (u := sv1) [sv1] a10 (by show _ ≤ _; simp) rp1.one.2.1 rp1.one.2.2 rfl rfl rfl (by omega) ?_
 intro H20 b21 b22
 have f23 := (b22 _ (by omega)).trans f13
 have f24 := (b22 _ (by omega)).trans f14
 have f25 : L1 ≠ [] → aget H20 i1 = some (.cells (ints L1) 3 (some 1)) := fun hne => by have hdm := (o1 hne).2; exact (b22 _ (by omega)).trans (f15 hne)
 have f26 : L4 ≠ [] → aget H20 i4 = some (.cells (ints L4) 3 (some 1)) := fun hne => by have hdm := (o4 hne).2; exact (b22 _ (by omega)).trans (f16 hne)
 have f27 : L6 ≠ [] → aget H20 i6 = some (.cells (ints L6) 3 (some 1)) := fun hne => by have hdm := (o6 hne).2; exact (b22 _ (by omega)).trans (f17 hne)
 have f28 : L7 ≠ [] → aget H20 i7 = some (.cells (ints L7) 3 (some 1)) := fun hne => by have hdm := (o7 hne).2; exact (b22 _ (by omega)).trans (f18 hne)
 have f29 : L10 ≠ [] → aget H20 i10 = some (.cells (ints L10) 3 (some 1)) := fun hne => by have hdm := (o10 hne).2; exact (b22 _ (by omega)).trans (f19 hne)
 have g30 : Fresh H20 (n1 + 1) := fun q h1 h2 => by rw [b22 q (by omega)]; exact a12 q h1 h2
 refine xP rfl rfl rfl rfl ?_
 refine RXn ?_
 refine WLv (lv1 3 rfl lv0) ?_
 refine WC_go hE hm ?_
 refine xP (v := .func (.func 24) #[] #[.pointer (some ⟨n1, 0, none⟩)]) rfl rfl rfl rfl ?_
 refine xNew (ob := .cells [.func (.func 24) #[] #[.pointer (some ⟨n1, 0, none⟩)]] 40 none) (mk := .slice 1 1) g30 (by omega) rfl rfl rfl rfl ?_
 intro H31 a32 a33 a34
 have f35 := (a33 _ (by omega)).trans f23
 have f36 := (a33 _ (by omega)).trans f24
 have f37 : L1 ≠ [] → aget H31 i1 = some (.cells (ints L1) 3 (some 1)) := fun hne => by have hdm := (o1 hne).2; exact (a33 _ (by omega)).trans (f25 hne)
 have f38 : L4 ≠ [] → aget H31 i4 = some (.cells (ints L4) 3 (some 1)) := fun hne => by have hdm := (o4 hne).2; exact (a33 _ (by omega)).trans (f26 hne)
 have f39 : L6 ≠ [] → aget H31 i6 = some (.cells (ints L6) 3 (some 1)) := fun hne => by have hdm := (o6 hne).2; exact (a33 _ (by omega)).trans (f27 hne)
 have f40 : L7 ≠ [] → aget H31 i7 = some (.cells (ints L7) 3 (some 1)) := fun hne => by have hdm := (o7 hne).2; exact (a33 _ (by omega)).trans (f28 hne)
 have f41 : L10 ≠ [] → aget H31 i10 = some (.cells (ints L10) 3 (some 1)) := fun hne => by have hdm := (o10 hne).2; exact (a33 _ (by omega)).trans (f29 hne)
 have f42 := (a33 _ (by omega)).trans b21
 refine xP rfl rfl rfl rfl ?_
 refine RXn ?_
 refine WLv (lv1 2 rfl lv0) ?_
 refine WC_ret ?_
 refine endR rfl ?_
 exact ⟨n1 + 1, 0, _, _, rs1 (resBox hE hm e24 sT12 rp1 (fun q hq1 hq2 => ((a33 q (by omega)).trans ((b22 q (by omega)).trans (a11 q (by omega))))) (by omega) (by omega) f42 (by omega) (Nat.le_trans hB1 (by decide))) (cell_cells a32 0) (by omega), fun q hq => ((a33 q (by omega)).trans ((b22 q (by omega)).trans ((a11 q (by omega)).trans (F1.keep q (by omega))))), a34, by omega, by omega⟩
def c25 : FC := FC.mk 8 (.seq (.steps [⟨.move, [.const (.slice none 0 0)], some 2, none⟩]) (.seq (.steps [⟨.move, [.tmp 0], some 3, none⟩,⟨.nilCheck, [.tmp 3], some 4, none⟩,⟨.fieldAddr 0, [.tmp 4], some 5, none⟩,⟨.loadN 2, [.tmp 5], some 6, none⟩,⟨.callF 26, [.tmp 6], some 7, none⟩]) (.seq (.steps [⟨.move, [.const (.slice none 0 0)], some 2, none⟩]) (.ret)))) [.tmp 2]
theorem c25_ok : compF Tryz.prog 25 = some c25 := by kernel_rfl
theorem call25 {x0 : Int} {L1 : List Int} {x2 : Int} {x3 : Int} {L4 : List Int} {x5 : Int} {L6 : List Int} {L7 : List Int} {x8 : Int} {x9 : Int} {L10 : List Int} {x11 : Int} : CallOk x0 L1 x2 x3 L4 x5 L6 L7 x8 x9 L10 x11 25 := by
 rintro H n b ⟨⟨hl1, hl4, hl6, hl7, hl10⟩, i1, i4, i6, i7, i10, hx, o1, o4, o6, o7, o10⟩ hg hb hfr hn
 refine F_of_comp c25_ok rfl ?_
 have hlim := limv
 have hcc : CC = 100000000000000 := rfl
 have hn0 : 0 < n := by omega
 dsimp only [ysV] at hx
 refine WC_go hE hm ?_
 refine xP rfl rfl rfl rfl ?_
 refine RXn ?_
 refine WLv (lv1 0 rfl lv0) ?_
 refine WC_go hE hm ?_
 refine xP rfl rfl rfl rfl ?_
 refine xP rfl rfl rfl rfl ?_
 refine xP rfl rfl rfl rfl ?_
 refine xR (v := .agg #[.int .i64 x0, gsl (i1) (L1.length)]) rfl rfl rfl (ldN (o := 0 + 0) (ys := [.int .i64 x0, gsl (i1) (L1.length)]) hx rfl rfl) ?_
 refine xC rfl rfl rfl rfl (narrow_ok (by omega) hg (fun hne => ⟨(fun h => (o1 h).1) hne, by have := (o1 hne).2; omega⟩) hfr (by omega) (by omega)) ?_
 rintro v1 H1 n1 F1
 replace F1 := F1
 have le1 := F1.le
 have rm1 := F1.room
 have f2 := (F1.keep _ (by omega)).trans hg
 have f3 := (F1.keep _ (by omega)).trans hx
 have f4 : L1 ≠ [] → aget H1 i1 = some (.cells (ints L1) 3 (some 1)) := fun hne => by have hdm := (o1 hne).2; exact (F1.keep _ (by omega)).trans ((fun h => (o1 h).1) hne)
 have f5 : L4 ≠ [] → aget H1 i4 = some (.cells (ints L4) 3 (some 1)) := fun hne => by have hdm := (o4 hne).2; exact (F1.keep _ (by omega)).trans ((fun h => (o4 h).1) hne)
 have f6 : L6 ≠ [] → aget H1 i6 = some (.cells (ints L6) 3 (some 1)) := fun hne => by have hdm := (o6 hne).2; exact (F1.keep _ (by omega)).trans ((fun h => (o6 h).1) hne)
 have f7 : L7 ≠ [] → aget H1 i7 = some (.cells (ints L7) 3 (some 1)) := fun hne => by have hdm := (o7 hne).2; exact (F1.keep _ (by omega)).trans ((fun h => (o7 h).1) hne)
 have f8 : L10 ≠ [] → aget H1 i10 = some (.cells (ints L10) 3 (some 1)) := fun hne => by have hdm := (o10 hne).2; exact (F1.keep _ (by omega)).trans ((fun h => (o10 h).1) hne)
 refine RXn ?_
 refine WLv lv0 ?_
 refine WC_go hE hm ?_
 refine xP rfl rfl rfl rfl ?_
 refine RXn ?_
 refine WLv (lv1 2 rfl lv0) ?_
 refine WC_ret ?_
 refine endR rfl ?_
 exact ⟨0, 0, [], [], rs0 _ _ _ _ _, fun q hq => (F1.keep q (by omega)), F1.fresh, by omega, by omega⟩
def c27 : FC := FC.mk 19 (.seq (.steps [⟨.move, [.const (.slice none 0 0)], some 2, none⟩]) (.seq (.drawn [(0,⟨.move, [.tmp 0], some 6, none⟩), (1,⟨.nilCheck, [.tmp 6], some 7, none⟩), (2,⟨.fieldAddr 0, [.tmp 7], some 8, none⟩), (3,⟨.loadN 2, [.tmp 8], some 9, none⟩), (4,⟨.move, [.tmp 0], some 10, none⟩), (5,⟨.nilCheck, [.tmp 10], some 11, none⟩), (6,⟨.fieldAddr 7, [.tmp 11], some 12, none⟩), (7,⟨.load1, [.tmp 12], some 13, none⟩), (12,⟨.alloc 22 [.slice none 0 0], [], some 3, none⟩), (8,⟨.callF 28, [.tmp 9, .tmp 13], some 14, none⟩), (9,⟨.move, [.tmp 14], some 5, none⟩), (10,⟨.extract 0, [.tmp 5], some 15, none⟩), (11,⟨.extract 1, [.tmp 5], some 16, none⟩), (13,⟨.store 1, [.tmp 3, .tmp 15], none, none⟩), (14,⟨.move, [.tmp 16], some 4, none⟩)] [0, 1, 3, 7, 0, 16, 48, 112, 255, 511, 1023, 1023, 0, 6143, 16383]) (.seq (.steps [⟨.mkFunc (.func 29) 0, [.tmp 3], some 17, none⟩,⟨.buildSlice 40 1 [.nilFunc] [(0, 1)], [.tmp 17], some 18, none⟩,⟨.move, [.tmp 18], some 2, none⟩]) (.ret)))) [.tmp 2]
theorem c27_ok : compF Tryz.prog 27 = some c27 := by kernel_rfl
theorem call27 {x0 : Int} {L1 : List Int} {x2 : Int} {x3 : Int} {L4 : List Int} {x5 : Int} {L6 : List Int} {L7 : List Int} {x8 : Int} {x9 : Int} {L10 : List Int} {x11 : Int} : CallOk x0 L1 x2 x3 L4 x5 L6 L7 x8 x9 L10 x11 27 := by
 rintro H n b ⟨⟨hl1, hl4, hl6, hl7, hl10⟩, i1, i4, i6, i7, i10, hx, o1, o4, o6, o7, o10⟩ hg hb hfr hn
 refine F_of_comp c27_ok rfl ?_
 have hlim := limv
 have hcc : CC = 100000000000000 := rfl
 have hn0 : 0 < n := by omega
 dsimp only [ysV] at hx
 refine WC_go hE hm ?_
 refine xP rfl rfl rfl rfl ?_
 refine RXn ?_
 refine WLv (lv1 0 rfl lv0) ?_
 refine WC_goD hE hm ?_
 refine dX rfl (xP rfl rfl rfl rfl (RXn ?_))
 refine dX rfl (xP rfl rfl rfl rfl (RXn ?_))
 refine dX rfl (xP rfl rfl rfl rfl (RXn ?_))
 refine dR (v := .agg #[.int .i64 x0, gsl (i1) (L1.length)]) rfl rfl rfl (ldN (o := 0 + 0) (ys := [.int .i64 x0, gsl (i1) (L1.length)]) hx rfl rfl) ?_
 refine dX rfl (xP rfl rfl rfl rfl (RXn ?_))
 refine dX rfl (xP rfl rfl rfl rfl (RXn ?_))
 refine dX rfl (xP rfl rfl rfl rfl (RXn ?_))
 refine dR (v := gsl (i7) (L7.length)) rfl rfl rfl (ld1 (o := 0 + 7) hx rfl) ?_
 refine dNew (ob := .cells [.slice none 0 0] 22 none) (mk := .ptr) hfr (by omega) rfl rfl rfl rfl ?_
 intro H1 a2 a3 a4
 have f5 := (a3 _ (by omega)).trans hg
 have f6 := (a3 _ (by omega)).trans hx
 have f7 : L1 ≠ [] → aget H1 i1 = some (.cells (ints L1) 3 (some 1)) := fun hne => by have hdm := (o1 hne).2; exact (a3 _ (by omega)).trans ((fun h => (o1 h).1) hne)
 have f8 : L4 ≠ [] → aget H1 i4 = some (.cells (ints L4) 3 (some 1)) := fun hne => by have hdm := (o4 hne).2; exact (a3 _ (by omega)).trans ((fun h => (o4 h).1) hne)
 have f9 : L6 ≠ [] → aget H1 i6 = some (.cells (ints L6) 3 (some 1)) := fun hne => by have hdm := (o6 hne).2; exact (a3 _ (by omega)).trans ((fun h => (o6 h).1) hne)
 have f10 : L7 ≠ [] → aget H1 i7 = some (.cells (ints L7) 3 (some 1)) := fun hne => by have hdm := (o7 hne).2; exact (a3 _ (by omega)).trans ((fun h => (o7 h).1) hne)
 have f11 : L10 ≠ [] → aget H1 i10 = some (.cells (ints L10) 3 (some 1)) := fun hne => by have hdm := (o10 hne).2; exact (a3 _ (by omega)).trans ((fun h => (o10 h).1) hne)
 refine dC (f := 28) (args := [.agg #[.int .i64 x0, gsl (i1) (L1.length)], gsl (i7) (L7.length)]) rfl rfl rfl rfl ((common_ok (by omega) (by omega) (fun hne => ⟨f10 hne, by have := (o7 hne).2; omega⟩) f5 (fun hne => ⟨f7 hne, by have := (o1 hne).2; omega⟩) a4 (by omega) (by omega)).mono fun _ _ _ h => nrRes h) ?_
 rintro _ H12 n12 ⟨F12, l12, sv12, dv12, e12, rfl, rp12, hB12⟩
 have le12 := F12.le
 have rm12 := F12.room
 have f13 := (F12.keep _ (by omega)).trans f5
 have f14 := (F12.keep _ (by omega)).trans f6
 have f15 : L1 ≠ [] → aget H12 i1 = some (.cells (ints L1) 3 (some 1)) := fun hne => by have hdm := (o1 hne).2; exact (F12.keep _ (by omega)).trans (f7 hne)
 have f16 : L4 ≠ [] → aget H12 i4 = some (.cells (ints L4) 3 (some 1)) := fun hne => by have hdm := (o4 hne).2; exact (F12.keep _ (by omega)).trans (f8 hne)
 have f17 : L6 ≠ [] → aget H12 i6 = some (.cells (ints L6) 3 (some 1)) := fun hne => by have hdm := (o6 hne).2; exact (F12.keep _ (by omega)).trans (f9 hne)
 have f18 : L7 ≠ [] → aget H12 i7 = some (.cells (ints L7) 3 (some 1)) := fun hne => by have hdm := (o7 hne).2; exact (F12.keep _ (by omega)).trans (f10 hne)
 have f19 : L10 ≠ [] → aget H12 i10 = some (.cells (ints L10) 3 (some 1)) := fun hne => by have hdm := (o10 hne).2; exact (F12.keep _ (by omega)).trans (f11 hne)
 have f20 := (F12.keep _ (by omega)).trans a2
 refine ⟨stabOne ⟨12, ⟨.alloc 22 [.slice none 0 0], [], some 3, none⟩, .a [] (.cells [.slice none 0 0] 22 none) .ptr (n)⟩ (by kernel_rfl) f20, ?_⟩
 refine dX rfl (xP rfl rfl rfl rfl (RXn ?_))
 refine dX rfl (xP rfl rfl rfl rfl (RXn ?_))
 refine dX rfl (xP rfl rfl rfl rfl (RXn ?_))
 refine dStO (u := sv12) [sv12] f20 (by show _ ≤ _; simp) rp12.one.2.1 rp12.one.2.2 rfl rfl rfl (by omega) ?_
 intro H21 b22 b23
 have f24 := (b23 _ (by omega)).trans f13
 have f25 := (b23 _ (by omega)).trans f14
 have f26 : L1 ≠ [] → aget H21 i1 = some (.cells (ints L1) 3 (some 1)) := fun hne => by have hdm := (o1 hne).2; exact (b23 _ (by omega)).trans (f15 hne)
 have f27 : L4 ≠ [] → aget H21 i4 = some (.cells (ints L4) 3 (some 1)) := fun hne => by have hdm := (o4 hne).2; exact (b23 _ (by omega)).trans (f16 hne)
 have f28 : L6 ≠ [] → aget H21 i6 = some (.cells (ints L6) 3 (some 1)) := fun hne => by have hdm := (o6 hne).2; exact (b23 _ (by omega)).trans (f17 hne)
 have f29 : L7 ≠ [] → aget H21 i7 = some (.cells (ints L7) 3 (some 1)) := fun hne => by have hdm := (o7 hne).2; exact (b23 _ (by omega)).trans (f18 hne)
 have f30 : L10 ≠ [] → aget H21 i10 = some (.cells (ints L10) 3 (some 1)) := fun hne => by have hdm := (o10 hne).2; exact (b23 _ (by omega)).trans (f19 hne)
 have g31 : Fresh H21 (n12) := fun q h1 h2 => by rw [b23 q (by omega)]; exact F12.fresh q h1 h2
 refine ⟨stabE (by kernel_rfl), ?_⟩
 refine dX rfl (xP rfl rfl rfl rfl (RXn ?_))
 refine dNil ?_
 refine WLv (lv1 3 rfl lv0) ?_
 refine WC_go hE hm ?_
 refine xP (v := .func (.func 29) #[] #[.pointer (some ⟨n, 0, none⟩)]) rfl rfl rfl rfl ?_
 refine xNew (ob := .cells [.func (.func 29) #[] #[.pointer (some ⟨n, 0, none⟩)]] 40 none) (mk := .slice 1 1) g31 (by omega) rfl rfl rfl rfl ?_
 intro H32 a33 a34 a35
 have f36 := (a34 _ (by omega)).trans f24
 have f37 := (a34 _ (by omega)).trans f25
 have f38 : L1 ≠ [] → aget H32 i1 = some (.cells (ints L1) 3 (some 1)) := fun hne => by have hdm := (o1 hne).2; exact (a34 _ (by omega)).trans (f26 hne)
 have f39 : L4 ≠ [] → aget H32 i4 = some (.cells (ints L4) 3 (some 1)) := fun hne => by have hdm := (o4 hne).2; exact (a34 _ (by omega)).trans (f27 hne)
 have f40 : L6 ≠ [] → aget H32 i6 = some (.cells (ints L6) 3 (some 1)) := fun hne => by have hdm := (o6 hne).2; exact (a34 _ (by omega)).trans (f28 hne)
 have f41 : L7 ≠ [] → aget H32 i7 = some (.cells (ints L7) 3 (some 1)) := fun hne => by have hdm := (o7 hne).2; exact (a34 _ (by omega)).trans (f29 hne)
 have f42 : L10 ≠ [] → aget H32 i10 = some (.cells (ints L10) 3 (some 1)) := fun hne => by have hdm := (o10 hne).2; exact (a34 _ (by omega)).trans (f30 hne)
 have f43 := (a34 _ (by omega)).trans b22
 refine xP rfl rfl rfl rfl ?_
 refine RXn ?_
 refine WLv (lv1 2 rfl lv0) ?_
 refine WC_ret ?_
 refine endR rfl ?_
 exact ⟨n12, 0, _, _, rs1 (resBox hE hm e29 sT12 rp12 (fun q hq1 hq2 => ((a34 q (by omega)).trans (b23 q (by omega)))) (by omega) (by omega) f43 (by omega) (Nat.le_trans hB12 (by decide))) (cell_cells a33 0) (by omega), fun q hq => ((a34 q (by omega)).trans ((b23 q (by omega)).trans ((F12.keep q (by omega)).trans (a3 q (by omega))))), a35, by omega, by omega⟩
def c30 : FC := FC.mk 8 (.seq (.steps [⟨.move, [.const (.slice none 0 0)], some 2, none⟩]) (.seq (.steps [⟨.move, [.tmp 0], some 3, none⟩,⟨.nilCheck, [.tmp 3], some 4, none⟩,⟨.fieldAddr 0, [.tmp 4], some 5, none⟩,⟨.loadN 2, [.tmp 5], some 6, none⟩,⟨.callF 31, [.tmp 6], some 7, none⟩]) (.seq (.steps [⟨.move, [.const (.slice none 0 0)], some 2, none⟩]) (.ret)))) [.tmp 2]
theorem c30_ok : compF Tryz.prog 30 = some c30 := by kernel_rfl
theorem call30 {x0 : Int} {L1 : List Int} {x2 : Int} {x3 : Int} {L4 : List Int} {x5 : Int} {L6 : List Int} {L7 : List Int} {x8 : Int} {x9 : Int} {L10 : List Int} {x11 : Int} : CallOk x0 L1 x2 x3 L4 x5 L6 L7 x8 x9 L10 x11 30 := by
 rintro H n b ⟨⟨hl1, hl4, hl6, hl7, hl10⟩, i1, i4, i6, i7, i10, hx, o1, o4, o6, o7, o10⟩ hg hb hfr hn
 refine F_of_comp c30_ok rfl ?_
 have hlim := limv
 have hcc : CC = 100000000000000 := rfl
 have hn0 : 0 < n := by omega
 dsimp only [ysV] at hx
 refine WC_go hE hm ?_
 refine xP rfl rfl rfl rfl ?_
 refine RXn ?_
 refine WLv (lv1 0 rfl lv0) ?_
 refine WC_go hE hm ?_
 refine xP rfl rfl rfl rfl ?_
 refine xP rfl rfl rfl rfl ?_
 refine xP rfl rfl rfl rfl ?_
 refine xR (v := .agg #[.int .i64 x0, gsl (i1) (L1.length)]) rfl rfl rfl (ldN (o := 0 + 0) (ys := [.int .i64 x0, gsl (i1) (L1.length)]) hx rfl rfl) ?_
 refine xC rfl rfl rfl rfl (isPerfect_ok (by omega) hg (fun hne => ⟨(fun h => (o1 h).1) hne, by have := (o1 hne).2; omega⟩) hfr (by omega) (by omega)) ?_
 rintro v1 H1 n1 F1
 replace F1 := F1
 have le1 := F1.le
 have rm1 := F1.room
 have f2 := (F1.keep _ (by omega)).trans hg
 have f3 := (F1.keep _ (by omega)).trans hx
 have f4 : L1 ≠ [] → aget H1 i1 = some (.cells (ints L1) 3 (some 1)) := fun hne => by have hdm := (o1 hne).2; exact (F1.keep _ (by omega)).trans ((fun h => (o1 h).1) hne)
 have f5 : L4 ≠ [] → aget H1 i4 = some (.cells (ints L4) 3 (some 1)) := fun hne => by have hdm := (o4 hne).2; exact (F1.keep _ (by omega)).trans ((fun h => (o4 h).1) hne)
 have f6 : L6 ≠ [] → aget H1 i6 = some (.cells (ints L6) 3 (some 1)) := fun hne => by have hdm := (o6 hne).2; exact (F1.keep _ (by omega)).trans ((fun h => (o6 h).1) hne)
 have f7 : L7 ≠ [] → aget H1 i7 = some (.cells (ints L7) 3 (some 1)) := fun hne => by have hdm := (o7 hne).2; exact (F1.keep _ (by omega)).trans ((fun h => (o7 h).1) hne)
 have f8 : L10 ≠ [] → aget H1 i10 = some (.cells (ints L10) 3 (some 1)) := fun hne => by have hdm := (o10 hne).2; exact (F1.keep _ (by omega)).trans ((fun h => (o10 h).1) hne)
 refine RXn ?_
 refine WLv lv0 ?_
 refine WC_go hE hm ?_
 refine xP rfl rfl rfl rfl ?_
 refine RXn ?_
 refine WLv (lv1 2 rfl lv0) ?_
 refine WC_ret ?_
 refine endR rfl ?_
 exact ⟨0, 0, [], [], rs0 _ _ _ _ _, fun q hq => (F1.keep q (by omega)), F1.fresh, by omega, by omega⟩
def c32 : FC := FC.mk 19 (.seq (.steps [⟨.move, [.const (.slice none 0 0)], some 2, none⟩]) (.seq (.drawn [(0,⟨.move, [.tmp 0], some 6, none⟩), (1,⟨.nilCheck, [.tmp 6], some 7, none⟩), (2,⟨.fieldAddr 8, [.tmp 7], some 8, none⟩), (3,⟨.load1, [.tmp 8], some 9, none⟩), (4,⟨.move, [.tmp 0], some 10, none⟩), (5,⟨.nilCheck, [.tmp 10], some 11, none⟩), (6,⟨.fieldAddr 9, [.tmp 11], some 12, none⟩), (7,⟨.load1, [.tmp 12], some 13, none⟩), (12,⟨.alloc 24 [.int .i64 0, .slice none 0 0], [], some 3, none⟩), (8,⟨.callF 33, [.tmp 9, .tmp 13], some 14, none⟩), (9,⟨.move, [.tmp 14], some 5, none⟩), (10,⟨.extract 0, [.tmp 5], some 15, none⟩), (11,⟨.extract 1, [.tmp 5], some 16, none⟩), (13,⟨.store 2, [.tmp 3, .tmp 15], none, none⟩), (14,⟨.move, [.tmp 16], some 4, none⟩)] [0, 1, 3, 7, 0, 16, 48, 112, 255, 511, 1023, 1023, 0, 6143, 16383]) (.seq (.steps [⟨.mkFunc (.func 34) 0, [.tmp 3], some 17, none⟩,⟨.buildSlice 40 1 [.nilFunc] [(0, 1)], [.tmp 17], some 18, none⟩,⟨.move, [.tmp 18], some 2, none⟩]) (.ret)))) [.tmp 2]
theorem c32_ok : compF Tryz.prog 32 = some c32 := by kernel_rfl
theorem call32 {x0 : Int} {L1 : List Int} {x2 : Int} {x3 : Int} {L4 : List Int} {x5 : Int} {L6 : List Int} {L7 : List Int} {x8 : Int} {x9 : Int} {L10 : List Int} {x11 : Int} : CallOk x0 L1 x2 x3 L4 x5 L6 L7 x8 x9 L10 x11 32 := by
 rintro H n b ⟨⟨hl1, hl4, hl6, hl7, hl10⟩, i1, i4, i6, i7, i10, hx, o1, o4, o6, o7, o10⟩ hg hb hfr hn
 refine F_of_comp c32_ok rfl ?_
 have hlim := limv
 have hcc : CC = 100000000000000 := rfl
 have hn0 : 0 < n := by omega
 dsimp only [ysV] at hx
 refine WC_go hE hm ?_
 refine xP rfl rfl rfl rfl ?_
 refine RXn ?_
 refine WLv (lv1 0 rfl lv0) ?_
 refine WC_goD hE hm ?_
 refine dX rfl (xP rfl rfl rfl rfl (RXn ?_))
 refine dX rfl (xP rfl rfl rfl rfl (RXn ?_))
 refine dX rfl (xP rfl rfl rfl rfl (RXn ?_))
 refine dR (v := .int .i64 x8) rfl rfl rfl (ld1 (o := 0 + 8) hx rfl) ?_
 refine dX rfl (xP rfl rfl rfl rfl (RXn ?_))
 refine dX rfl (xP rfl rfl rfl rfl (RXn ?_))
 refine dX rfl (xP rfl rfl rfl rfl (RXn ?_))
 refine dR (v := .int .i64 x9) rfl rfl rfl (ld1 (o := 0 + 9) hx rfl) ?_
 refine dNew (ob := .cells [.int .i64 0, .slice none 0 0] 24 none) (mk := .ptr) hfr (by omega) rfl rfl rfl rfl ?_
 intro H1 a2 a3 a4
 have f5 := (a3 _ (by omega)).trans hg
 have f6 := (a3 _ (by omega)).trans hx
 have f7 : L1 ≠ [] → aget H1 i1 = some (.cells (ints L1) 3 (some 1)) := fun hne => by have hdm := (o1 hne).2; exact (a3 _ (by omega)).trans ((fun h => (o1 h).1) hne)
 have f8 : L4 ≠ [] → aget H1 i4 = some (.cells (ints L4) 3 (some 1)) := fun hne => by have hdm := (o4 hne).2; exact (a3 _ (by omega)).trans ((fun h => (o4 h).1) hne)
 have f9 : L6 ≠ [] → aget H1 i6 = some (.cells (ints L6) 3 (some 1)) := fun hne => by have hdm := (o6 hne).2; exact (a3 _ (by omega)).trans ((fun h => (o6 h).1) hne)
 have f10 : L7 ≠ [] → aget H1 i7 = some (.cells (ints L7) 3 (some 1)) := fun hne => by have hdm := (o7 hne).2; exact (a3 _ (by omega)).trans ((fun h => (o7 h).1) hne)
 have f11 : L10 ≠ [] → aget H1 i10 = some (.cells (ints L10) 3 (some 1)) := fun hne => by have hdm := (o10 hne).2; exact (a3 _ (by omega)).trans ((fun h => (o10 h).1) hne)
 refine dC (f := 33) (args := [.int .i64 x8, .int .i64 x9]) rfl rfl rfl rfl ((find_ok f5 a4 (by omega) (by omega)).mono fun _ _ _ h => srRes h) ?_
 rintro _ H12 n12 ⟨F12, l12, vs12, dv12, e12, rfl, rp12, hB12⟩
 have le12 := F12.le
 have rm12 := F12.room
 have f13 := (F12.keep _ (by omega)).trans f5
 have f14 := (F12.keep _ (by omega)).trans f6
 have f15 : L1 ≠ [] → aget H12 i1 = some (.cells (ints L1) 3 (some 1)) := fun hne => by have hdm := (o1 hne).2; exact (F12.keep _ (by omega)).trans (f7 hne)
 have f16 : L4 ≠ [] → aget H12 i4 = some (.cells (ints L4) 3 (some 1)) := fun hne => by have hdm := (o4 hne).2; exact (F12.keep _ (by omega)).trans (f8 hne)
 have f17 : L6 ≠ [] → aget H12 i6 = some (.cells (ints L6) 3 (some 1)) := fun hne => by have hdm := (o6 hne).2; exact (F12.keep _ (by omega)).trans (f9 hne)
 have f18 : L7 ≠ [] → aget H12 i7 = some (.cells (ints L7) 3 (some 1)) := fun hne => by have hdm := (o7 hne).2; exact (F12.keep _ (by omega)).trans (f10 hne)
 have f19 : L10 ≠ [] → aget H12 i10 = some (.cells (ints L10) 3 (some 1)) := fun hne => by have hdm := (o10 hne).2; exact (F12.keep _ (by omega)).trans (f11 hne)
 have f20 := (F12.keep _ (by omega)).trans a2
 refine ⟨stabOne ⟨12, ⟨.alloc 24 [.int .i64 0, .slice none 0 0], [], some 3, none⟩, .a [] (.cells [.int .i64 0, .slice none 0 0] 24 none) .ptr (n)⟩ (by kernel_rfl) f20, ?_⟩
 refine dX rfl (xP rfl rfl rfl rfl (RXn ?_))
 refine dX rfl (xP rfl rfl rfl rfl (RXn ?_))
 refine dX rfl (xP rfl rfl rfl rfl (RXn ?_))
 refine dFill (ys := vs12) f20 rfl rp12.len rp12.cell1 rfl rfl (by omega) ?_
 intro H21 b22 b23
 have f24 := (b23 _ (by omega)).trans f13
 have f25 := (b23 _ (by omega)).trans f14
 have f26 : L1 ≠ [] → aget H21 i1 = some (.cells (ints L1) 3 (some 1)) := fun hne => by have hdm := (o1 hne).2; exact (b23 _ (by omega)).trans (f15 hne)
 have f27 : L4 ≠ [] → aget H21 i4 = some (.cells (ints L4) 3 (some 1)) := fun hne => by have hdm := (o4 hne).2; exact (b23 _ (by omega)).trans (f16 hne)
 have f28 : L6 ≠ [] → aget H21 i6 = some (.cells (ints L6) 3 (some 1)) := fun hne => by have hdm := (o6 hne).2; exact (b23 _ (by omega)).trans (f17 hne)
 have f29 : L7 ≠ [] → aget H21 i7 = some (.cells (ints L7) 3 (some 1)) := fun hne => by have hdm := (o7 hne).2; exact (b23 _ (by omega)).trans (f18 hne)
 have f30 : L10 ≠ [] → aget H21 i10 = some (.cells (ints L10) 3 (some 1)) := fun hne => by have hdm := (o10 hne).2; exact (b23 _ (by omega)).trans (f19 hne)
 have g31 : Fresh H21 (n12) := fun q h1 h2 => by rw [b23 q (by omega)]; exact F12.fresh q h1 h2
 refine ⟨stabE (by kernel_rfl), ?_⟩
 refine dX rfl (xP rfl rfl rfl rfl (RXn ?_))
 refine dNil ?_
 refine WLv (lv1 3 rfl lv0) ?_
 refine WC_go hE hm ?_
 refine xP (v := .func (.func 34) #[] #[.pointer (some ⟨n, 0, none⟩)]) rfl rfl rfl rfl ?_
 refine xNew (ob := .cells [.func (.func 34) #[] #[.pointer (some ⟨n, 0, none⟩)]] 40 none) (mk := .slice 1 1) g31 (by omega) rfl rfl rfl rfl ?_
 intro H32 a33 a34 a35
 have f36 := (a34 _ (by omega)).trans f24
 have f37 := (a34 _ (by omega)).trans f25
 have f38 : L1 ≠ [] → aget H32 i1 = some (.cells (ints L1) 3 (some 1)) := fun hne => by have hdm := (o1 hne).2; exact (a34 _ (by omega)).trans (f26 hne)
 have f39 : L4 ≠ [] → aget H32 i4 = some (.cells (ints L4) 3 (some 1)) := fun hne => by have hdm := (o4 hne).2; exact (a34 _ (by omega)).trans (f27 hne)
 have f40 : L6 ≠ [] → aget H32 i6 = some (.cells (ints L6) 3 (some 1)) := fun hne => by have hdm := (o6 hne).2; exact (a34 _ (by omega)).trans (f28 hne)
 have f41 : L7 ≠ [] → aget H32 i7 = some (.cells (ints L7) 3 (some 1)) := fun hne => by have hdm := (o7 hne).2; exact (a34 _ (by omega)).trans (f29 hne)
 have f42 : L10 ≠ [] → aget H32 i10 = some (.cells (ints L10) 3 (some 1)) := fun hne => by have hdm := (o10 hne).2; exact (a34 _ (by omega)).trans (f30 hne)
 have f43 := (a34 _ (by omega)).trans b22
 refine xP rfl rfl rfl rfl ?_
 refine RXn ?_
 refine WLv (lv1 2 rfl lv0) ?_
 refine WC_ret ?_
 refine endR rfl ?_
 exact ⟨n12, 0, _, _, rs1 (resBox hE hm e34 sT16 rp12 (fun q hq1 hq2 => ((a34 q (by omega)).trans (b23 q (by omega)))) (by omega) (by omega) f43 (by omega) (Nat.le_trans hB12 (by decide))) (cell_cells a33 0) (by omega), fun q hq => ((a34 q (by omega)).trans ((b23 q (by omega)).trans ((F12.keep q (by omega)).trans (a3 q (by omega))))), a35, by omega, by omega⟩
def c35 : FC := FC.mk 19 (.seq (.steps [⟨.move, [.const (.slice none 0 0)], some 2, none⟩]) (.seq (.drawn [(0,⟨.move, [.tmp 0], some 6, none⟩), (1,⟨.nilCheck, [.tmp 6], some 7, none⟩), (2,⟨.fieldAddr 8, [.tmp 7], some 8, none⟩), (3,⟨.load1, [.tmp 8], some 9, none⟩), (4,⟨.move, [.tmp 0], some 10, none⟩), (5,⟨.nilCheck, [.tmp 10], some 11, none⟩), (6,⟨.fieldAddr 10, [.tmp 11], some 12, none⟩), (7,⟨.load1, [.tmp 12], some 13, none⟩), (12,⟨.alloc 54 [.slice none 0 0], [], some 3, none⟩), (8,⟨.callF 36, [.tmp 9, .tmp 13], some 14, none⟩), (9,⟨.move, [.tmp 14], some 5, none⟩), (10,⟨.extract 0, [.tmp 5], some 15, none⟩), (11,⟨.extract 1, [.tmp 5], some 16, none⟩), (13,⟨.store 1, [.tmp 3, .tmp 15], none, none⟩), (14,⟨.move, [.tmp 16], some 4, none⟩)] [0, 1, 3, 7, 0, 16, 48, 112, 255, 511, 1023, 1023, 0, 6143, 16383]) (.seq (.steps [⟨.mkFunc (.func 37) 0, [.tmp 3], some 17, none⟩,⟨.buildSlice 40 1 [.nilFunc] [(0, 1)], [.tmp 17], some 18, none⟩,⟨.move, [.tmp 18], some 2, none⟩]) (.ret)))) [.tmp 2]
theorem c35_ok : compF Tryz.prog 35 = some c35 := by kernel_rfl
theorem call35 {x0 : Int} {L1 : List Int} {x2 : Int} {x3 : Int} {L4 : List Int} {x5 : Int} {L6 : List Int} {L7 : List Int} {x8 : Int} {x9 : Int} {L10 : List Int} {x11 : Int} : CallOk x0 L1 x2 x3 L4 x5 L6 L7 x8 x9 L10 x11 35 := by
 rintro H n b ⟨⟨hl1, hl4, hl6, hl7, hl10⟩, i1, i4, i6, i7, i10, hx, o1, o4, o6, o7, o10⟩ hg hb hfr hn
 refine F_of_comp c35_ok rfl ?_
 have hlim := limv
 have hcc : CC = 100000000000000 := rfl
 have hn0 : 0 < n := by omega
 dsimp only [ysV] at hx
 refine WC_go hE hm ?_
 refine xP rfl rfl rfl rfl ?_
 refine RXn ?_
 refine WLv (lv1 0 rfl lv0) ?_
 refine WC_goD hE hm ?_
 refine dX rfl (xP rfl rfl rfl rfl (RXn ?_))
 refine dX rfl (xP rfl rfl rfl rfl (RXn ?_))
 refine dX rfl (xP rfl rfl rfl rfl (RXn ?_))
 refine dR (v := .int .i64 x8) rfl rfl rfl (ld1 (o := 0 + 8) hx rfl) ?_
 refine dX rfl (xP rfl rfl rfl rfl (RXn ?_))
 refine dX rfl (xP rfl rfl rfl rfl (RXn ?_))
 refine dX rfl (xP rfl rfl rfl rfl (RXn ?_))
 refine dR (v := gsl (i10) (L10.length)) rfl rfl rfl (ld1 (o := 0 + 10) hx rfl) ?_
 refine dNew (ob := .cells [.slice none 0 0] 54 none) (mk := .ptr) hfr (by omega) rfl rfl rfl rfl ?_
 intro H1 a2 a3 a4
 have f5 := (a3 _ (by omega)).trans hg
 have f6 := (a3 _ (by omega)).trans hx
 have f7 : L1 ≠ [] → aget H1 i1 = some (.cells (ints L1) 3 (some 1)) := fun hne => by have hdm := (o1 hne).2; exact (a3 _ (by omega)).trans ((fun h => (o1 h).1) hne)
 have f8 : L4 ≠ [] → aget H1 i4 = some (.cells (ints L4) 3 (some 1)) := fun hne => by have hdm := (o4 hne).2; exact (a3 _ (by omega)).trans ((fun h => (o4 h).1) hne)
 have f9 : L6 ≠ [] → aget H1 i6 = some (.cells (ints L6) 3 (some 1)) := fun hne => by have hdm := (o6 hne).2; exact (a3 _ (by omega)).trans ((fun h => (o6 h).1) hne)
 have f10 : L7 ≠ [] → aget H1 i7 = some (.cells (ints L7) 3 (some 1)) := fun hne => by have hdm := (o7 hne).2; exact (a3 _ (by omega)).trans ((fun h => (o7 h).1) hne)
 have f11 : L10 ≠ [] → aget H1 i10 = some (.cells (ints L10) 3 (some 1)) := fun hne => by have hdm := (o10 hne).2; exact (a3 _ (by omega)).trans ((fun h => (o10 h).1) hne)
 refine dC (f := 36) (args := [.int .i64 x8, gsl (i10) (L10.length)]) rfl rfl rfl rfl ((from_ok (by omega) f5 (fun hne => ⟨f11 hne, by have := (o10 hne).2; omega⟩) a4 (by omega) (by omega)).mono fun _ _ _ h => fromRes h) ?_
 rintro _ H12 n12 ⟨F12, l12, sv12, dv12, e12, rfl, rp12, hB12⟩
 have le12 := F12.le
 have rm12 := F12.room
 have f13 := (F12.keep _ (by omega)).trans f5
 have f14 := (F12.keep _ (by omega)).trans f6
 have f15 : L1 ≠ [] → aget H12 i1 = some (.cells (ints L1) 3 (some 1)) := fun hne => by have hdm := (o1 hne).2; exact (F12.keep _ (by omega)).trans (f7 hne)
 have f16 : L4 ≠ [] → aget H12 i4 = some (.cells (ints L4) 3 (some 1)) := fun hne => by have hdm := (o4 hne).2; exact (F12.keep _ (by omega)).trans (f8 hne)
 have f17 : L6 ≠ [] → aget H12 i6 = some (.cells (ints L6) 3 (some 1)) := fun hne => by have hdm := (o6 hne).2; exact (F12.keep _ (by omega)).trans (f9 hne)
 have f18 : L7 ≠ [] → aget H12 i7 = some (.cells (ints L7) 3 (some 1)) := fun hne => by have hdm := (o7 hne).2; exact (F12.keep _ (by omega)).trans (f10 hne)
 have f19 : L10 ≠ [] → aget H12 i10 = some (.cells (ints L10) 3 (some 1)) := fun hne => by have hdm := (o10 hne).2; exact (F12.keep _ (by omega)).trans (f11 hne)
 have f20 := (F12.keep _ (by omega)).trans a2
 refine ⟨stabOne ⟨12, ⟨.alloc 54 [.slice none 0 0], [], some 3, none⟩, .a [] (.cells [.slice none 0 0] 54 none) .ptr (n)⟩ (by kernel_rfl) f20, ?_⟩
 refine dX rfl (xP rfl rfl rfl rfl (RXn ?_))
 refine dX rfl (xP rfl rfl rfl rfl (RXn ?_))
 refine dX rfl (xP rfl rfl rfl rfl (RXn ?_))
 refine dStO (u := sv12) [sv12] f20 (by show _ ≤ _; simp) rp12.one.2.1 rp12.one.2.2 rfl rfl rfl (by omega) ?_
 intro H21 b22 b23
 have f24 := (b23 _ (by omega)).trans f13
 have f25 := (b23 _ (by omega)).trans f14
 have f26 : L1 ≠ [] → aget H21 i1 = some (.cells (ints L1) 3 (some 1)) := fun hne => by have hdm := (o1 hne).2; exact (b23 _ (by omega)).trans (f15 hne)
 have f27 : L4 ≠ [] → aget H21 i4 = some (.cells (ints L4) 3 (some 1)) := fun hne => by have hdm := (o4 hne).2; exact (b23 _ (by omega)).trans (f16 hne)
 have f28 : L6 ≠ [] → aget H21 i6 = some (.cells (ints L6) 3 (some 1)) := fun hne => by have hdm := (o6 hne).2; exact (b23 _ (by omega)).trans (f17 hne)
 have f29 : L7 ≠ [] → aget H21 i7 = some (.cells (ints L7) 3 (some 1)) := fun hne => by have hdm := (o7 hne).2; exact (b23 _ (by omega)).trans (f18 hne)
 have f30 : L10 ≠ [] → aget H21 i10 = some (.cells (ints L10) 3 (some 1)) := fun hne => by have hdm := (o10 hne).2; exact (b23 _ (by omega)).trans (f19 hne)
 have g31 : Fresh H21 (n12) := fun q h1 h2 => by rw [b23 q (by omega)]; exact F12.fresh q h1 h2
 refine ⟨stabE (by kernel_rfl), ?_⟩
 refine dX rfl (xP rfl rfl rfl rfl (RXn ?_))
 refine dNil ?_
 refine WLv (lv1 3 rfl lv0) ?_
 refine WC_go hE hm ?_
 refine xP (v := .func (.func 37) #[] #[.pointer (some ⟨n, 0, none⟩)]) rfl rfl rfl rfl ?_
 refine xNew (ob := .cells [.func (.func 37) #[] #[.pointer (some ⟨n, 0, none⟩)]] 40 none) (mk := .slice 1 1) g31 (by omega) rfl rfl rfl rfl ?_
 intro H32 a33 a34 a35
 have f36 := (a34 _ (by omega)).trans f24
 have f37 := (a34 _ (by omega)).trans f25
 have f38 : L1 ≠ [] → aget H32 i1 = some (.cells (ints L1) 3 (some 1)) := fun hne => by have hdm := (o1 hne).2; exact (a34 _ (by omega)).trans (f26 hne)
 have f39 : L4 ≠ [] → aget H32 i4 = some (.cells (ints L4) 3 (some 1)) := fun hne => by have hdm := (o4 hne).2; exact (a34 _ (by omega)).trans (f27 hne)
 have f40 : L6 ≠ [] → aget H32 i6 = some (.cells (ints L6) 3 (some 1)) := fun hne => by have hdm := (o6 hne).2; exact (a34 _ (by omega)).trans (f28 hne)
 have f41 : L7 ≠ [] → aget H32 i7 = some (.cells (ints L7) 3 (some 1)) := fun hne => by have hdm := (o7 hne).2; exact (a34 _ (by omega)).trans (f29 hne)
 have f42 : L10 ≠ [] → aget H32 i10 = some (.cells (ints L10) 3 (some 1)) := fun hne => by have hdm := (o10 hne).2; exact (a34 _ (by omega)).trans (f30 hne)
 have f43 := (a34 _ (by omega)).trans b22
 refine xP rfl rfl rfl rfl ?_
 refine RXn ?_
 refine WLv (lv1 2 rfl lv0) ?_
 refine WC_ret ?_
 refine endR rfl ?_
 exact ⟨n12, 0, _, _, rs1 (resBox hE hm e37 sT38 rp12 (fun q hq1 hq2 => ((a34 q (by omega)).trans (b23 q (by omega)))) (by omega) (by omega) f43 (by omega) (Nat.le_trans hB12 (by decide))) (cell_cells a33 0) (by omega), fun q hq => ((a34 q (by omega)).trans ((b23 q (by omega)).trans ((F12.keep q (by omega)).trans (a3 q (by omega))))), a35, by omega, by omega⟩
def c39 : FC := FC.mk 19 (.seq (.steps [⟨.move, [.const (.slice none 0 0)], some 2, none⟩]) (.seq (.drawn [(0,⟨.move, [.tmp 0], some 6, none⟩), (1,⟨.nilCheck, [.tmp 6], some 7, none⟩), (2,⟨.fieldAddr 0, [.tmp 7], some 8, none⟩), (3,⟨.loadN 2, [.tmp 8], some 9, none⟩), (4,⟨.move, [.tmp 0], some 10, none⟩), (5,⟨.nilCheck, [.tmp 10], some 11, none⟩), (6,⟨.fieldAddr 11, [.tmp 11], some 12, none⟩), (7,⟨.load1, [.tmp 12], some 13, none⟩), (12,⟨.alloc 24 [.int .i64 0, .slice none 0 0], [], some 3, none⟩), (8,⟨.callF 40, [.tmp 9, .tmp 13], some 14, none⟩), (9,⟨.move, [.tmp 14], some 5, none⟩), (10,⟨.extract 0, [.tmp 5], some 15, none⟩), (11,⟨.extract 1, [.tmp 5], some 16, none⟩), (13,⟨.store 2, [.tmp 3, .tmp 15], none, none⟩), (14,⟨.move, [.tmp 16], some 4, none⟩)] [0, 1, 3, 7, 0, 16, 48, 112, 255, 511, 1023, 1023, 0, 6143, 16383]) (.seq (.steps [⟨.mkFunc (.func 41) 0, [.tmp 3], some 17, none⟩,⟨.buildSlice 40 1 [.nilFunc] [(0, 1)], [.tmp 17], some 18, none⟩,⟨.move, [.tmp 18], some 2, none⟩]) (.ret)))) [.tmp 2]
theorem c39_ok : compF Tryz.prog 39 = some c39 := by kernel_rfl
theorem call39 {x0 : Int} {L1 : List Int} {x2 : Int} {x3 : Int} {L4 : List Int} {x5 : Int} {L6 : List Int} {L7 : List Int} {x8 : Int} {x9 : Int} {L10 : List Int} {x11 : Int} : CallOk x0 L1 x2 x3 L4 x5 L6 L7 x8 x9 L10 x11 39 := by
 rintro H n b ⟨⟨hl1, hl4, hl6, hl7, hl10⟩, i1, i4, i6, i7, i10, hx, o1, o4, o6, o7, o10⟩ hg hb hfr hn
 refine F_of_comp c39_ok rfl ?_
 have hlim := limv
 have hcc : CC = 100000000000000 := rfl
 have hn0 : 0 < n := by omega
 dsimp only [ysV] at hx
 refine WC_go hE hm ?_
 refine xP rfl rfl rfl rfl ?_
 refine RXn ?_
 refine WLv (lv1 0 rfl lv0) ?_
 refine WC_goD hE hm ?_
 refine dX rfl (xP rfl rfl rfl rfl (RXn ?_))
 refine dX rfl (xP rfl rfl rfl rfl (RXn ?_))
 refine dX rfl (xP rfl rfl rfl rfl (RXn ?_))
 refine dR (v := .agg #[.int .i64 x0, gsl (i1) (L1.length)]) rfl rfl rfl (ldN (o := 0 + 0) (ys := [.int .i64 x0, gsl (i1) (L1.length)]) hx rfl rfl) ?_
 refine dX rfl (xP rfl rfl rfl rfl (RXn ?_))
 refine dX rfl (xP rfl rfl rfl rfl (RXn ?_))
 refine dX rfl (xP rfl rfl rfl rfl (RXn ?_))
 refine dR (v := .int .i64 x11) rfl rfl rfl (ld1 (o := 0 + 11) hx rfl) ?_
 refine dNew (ob := .cells [.int .i64 0, .slice none 0 0] 24 none) (mk := .ptr) hfr (by omega) rfl rfl rfl rfl ?_
 intro H1 a2 a3 a4
 have f5 := (a3 _ (by omega)).trans hg
 have f6 := (a3 _ (by omega)).trans hx
 have f7 : L1 ≠ [] → aget H1 i1 = some (.cells (ints L1) 3 (some 1)) := fun hne => by have hdm := (o1 hne).2; exact (a3 _ (by omega)).trans ((fun h => (o1 h).1) hne)
 have f8 : L4 ≠ [] → aget H1 i4 = some (.cells (ints L4) 3 (some 1)) := fun hne => by have hdm := (o4 hne).2; exact (a3 _ (by omega)).trans ((fun h => (o4 h).1) hne)
 have f9 : L6 ≠ [] → aget H1 i6 = some (.cells (ints L6) 3 (some 1)) := fun hne => by have hdm := (o6 hne).2; exact (a3 _ (by omega)).trans ((fun h => (o6 h).1) hne)
 have f10 : L7 ≠ [] → aget H1 i7 = some (.cells (ints L7) 3 (some 1)) := fun hne => by have hdm := (o7 hne).2; exact (a3 _ (by omega)).trans ((fun h => (o7 h).1) hne)
 have f11 : L10 ≠ [] → aget H1 i10 = some (.cells (ints L10) 3 (some 1)) := fun hne => by have hdm := (o10 hne).2; exact (a3 _ (by omega)).trans ((fun h => (o10 h).1) hne)
 refine dC (f := 40) (args := [.agg #[.int .i64 x0, gsl (i1) (L1.length)], .int .i64 x11]) rfl rfl rfl rfl ((multiply_ok (by omega) f5 (fun hne => ⟨f7 hne, by have := (o1 hne).2; omega⟩) a4 (by omega) (by omega)).mono fun _ _ _ h => srRes h) ?_
 rintro _ H12 n12 ⟨F12, l12, vs12, dv12, e12, rfl, rp12, hB12⟩
 have le12 := F12.le
 have rm12 := F12.room
 have f13 := (F12.keep _ (by omega)).trans f5
 have f14 := (F12.keep _ (by omega)).trans f6
 have f15 : L1 ≠ [] → aget H12 i1 = some (.cells (ints L1) 3 (some 1)) := fun hne => by have hdm := (o1 hne).2; exact (F12.keep _ (by omega)).trans (f7 hne)
 have f16 : L4 ≠ [] → aget H12 i4 = some (.cells (ints L4) 3 (some 1)) := fun hne => by have hdm := (o4 hne).2; exact (F12.keep _ (by omega)).trans (f8 hne)
 have f17 : L6 ≠ [] → aget H12 i6 = some (.cells (ints L6) 3 (some 1)) := fun hne => by have hdm := (o6 hne).2; exact (F12.keep _ (by omega)).trans (f9 hne)
 have f18 : L7 ≠ [] → aget H12 i7 = some (.cells (ints L7) 3 (some 1)) := fun hne => by have hdm := (o7 hne).2; exact (F12.keep _ (by omega)).trans (f10 hne)
 have f19 : L10 ≠ [] → aget H12 i10 = some (.cells (ints L10) 3 (some 1)) := fun hne => by have hdm := (o10 hne).2; exact (F12.keep _ (by omega)).trans (f11 hne)
 have f20 := (F12.keep _ (by omega)).trans a2
 refine ⟨stabOne ⟨12, ⟨.alloc 24 [.int .i64 0, .slice none 0 0], [], some 3, none⟩, .a [] (.cells [.int .i64 0, .slice none 0 0] 24 none) .ptr (n)⟩ (by kernel_rfl) f20, ?_⟩
 refine dX rfl (xP rfl rfl rfl rfl (RXn ?_))
 refine dX rfl (xP rfl rfl rfl rfl (RXn ?_))
 refine dX rfl (xP rfl rfl rfl rfl (RXn ?_))
 refine dFill (ys := vs12) f20 rfl rp12.len rp12.cell1 rfl rfl (by omega) ?_
 intro H21 b22 b23
 have f24 := (b23 _ (by omega)).trans f13
 have f25 := (b23 _ (by omega)).trans f14
 have f26 : L1 ≠ [] → aget H21 i1 = some (.cells (ints L1) 3 (some 1)) := fun hne => by have hdm := (o1 hne).2; exact (b23 _ (by omega)).trans (f15 hne)
 have f27 : L4 ≠ [] → aget H21 i4 = some (.cells (ints L4) 3 (some 1)) := fun hne => by have hdm := (o4 hne).2; exact (b23 _ (by omega)).trans (f16 hne)
 have f28 : L6 ≠ [] → aget H21 i6 = some (.cells (ints L6) 3 (some 1)) := fun hne => by have hdm := (o6 hne).2; exact (b23 _ (by omega)).trans (f17 hne)
 have f29 : L7 ≠ [] → aget H21 i7 = some (.cells (ints L7) 3 (some 1)) := fun hne => by have hdm := (o7 hne).2; exact (b23 _ (by omega)).trans (f18 hne)
 have f30 : L10 ≠ [] → aget H21 i10 = some (.cells (ints L10) 3 (some 1)) := fun hne => by have hdm := (o10 hne).2; exact (b23 _ (by omega)).trans (f19 hne)
 have g31 : Fresh H21 (n12) := fun q h1 h2 => by rw [b23 q (by omega)]; exact F12.fresh q h1 h2
 refine ⟨stabE (by kernel_rfl), ?_⟩
 refine dX rfl (xP rfl rfl rfl rfl (RXn ?_))
 refine dNil ?_
 refine WLv (lv1 3 rfl lv0) ?_
 refine WC_go hE hm ?_
 refine xP (v := .func (.func 41) #[] #[.pointer (some ⟨n, 0, none⟩)]) rfl rfl rfl rfl ?_
 refine xNew (ob := .cells [.func (.func 41) #[] #[.pointer (some ⟨n, 0, none⟩)]] 40 none) (mk := .slice 1 1) g31 (by omega) rfl rfl rfl rfl ?_
 intro H32 a33 a34 a35
 have f36 := (a34 _ (by omega)).trans f24
 have f37 := (a34 _ (by omega)).trans f25
 have f38 : L1 ≠ [] → aget H32 i1 = some (.cells (ints L1) 3 (some 1)) := fun hne => by have hdm := (o1 hne).2; exact (a34 _ (by omega)).trans (f26 hne)
 have f39 : L4 ≠ [] → aget H32 i4 = some (.cells (ints L4) 3 (some 1)) := fun hne => by have hdm := (o4 hne).2; exact (a34 _ (by omega)).trans (f27 hne)
 have f40 : L6 ≠ [] → aget H32 i6 = some (.cells (ints L6) 3 (some 1)) := fun hne => by have hdm := (o6 hne).2; exact (a34 _ (by omega)).trans (f28 hne)
 have f41 : L7 ≠ [] → aget H32 i7 = some (.cells (ints L7) 3 (some 1)) := fun hne => by have hdm := (o7 hne).2; exact (a34 _ (by omega)).trans (f29 hne)
 have f42 : L10 ≠ [] → aget H32 i10 = some (.cells (ints L10) 3 (some 1)) := fun hne => by have hdm := (o10 hne).2; exact (a34 _ (by omega)).trans (f30 hne)
 have f43 := (a34 _ (by omega)).trans b22
 refine xP rfl rfl rfl rfl ?_
 refine RXn ?_
 refine WLv (lv1 2 rfl lv0) ?_
 refine WC_ret ?_
 refine endR rfl ?_
 exact ⟨n12, 0, _, _, rs1 (resBox hE hm e41 sT16 rp12 (fun q hq1 hq2 => ((a34 q (by omega)).trans (b23 q (by omega)))) (by omega) (by omega) f43 (by omega) (Nat.le_trans hB12 (by decide))) (cell_cells a33 0) (by omega), fun q hq => ((a34 q (by omega)).trans ((b23 q (by omega)).trans ((F12.keep q (by omega)).trans (a3 q (by omega))))), a35, by omega, by omega⟩
def c42 : FC := FC.mk 15 (.seq (.steps [⟨.move, [.const (.slice none 0 0)], some 2, none⟩]) (.seq (.steps [⟨.move, [.tmp 0], some 6, none⟩,⟨.nilCheck, [.tmp 6], some 7, none⟩,⟨.fieldAddr 0, [.tmp 7], some 8, none⟩,⟨.loadN 2, [.tmp 8], some 9, none⟩,⟨.callF 43, [.tmp 9], some 10, none⟩,⟨.move, [.tmp 10], some 5, none⟩,⟨.extract 0, [.tmp 5], some 11, none⟩,⟨.extract 1, [.tmp 5], some 12, none⟩,⟨.alloc 22 [.slice none 0 0], [], some 3, none⟩,⟨.store 1, [.tmp 3, .tmp 11], none, none⟩,⟨.move, [.tmp 12], some 4, none⟩]) (.seq (.steps [⟨.mkFunc (.func 44) 0, [.tmp 3], some 13, none⟩,⟨.buildSlice 40 1 [.nilFunc] [(0, 1)], [.tmp 13], some 14, none⟩,⟨.move, [.tmp 14], some 2, none⟩]) (.ret)))) [.tmp 2]
theorem c42_ok : compF Tryz.prog 42 = some c42 := by kernel_rfl
theorem call42 {x0 : Int} {L1 : List Int} {x2 : Int} {x3 : Int} {L4 : List Int} {x5 : Int} {L6 : List Int} {L7 : List Int} {x8 : Int} {x9 : Int} {L10 : List Int} {x11 : Int} : CallOk x0 L1 x2 x3 L4 x5 L6 L7 x8 x9 L10 x11 42 := by
 rintro H n b ⟨⟨hl1, hl4, hl6, hl7, hl10⟩, i1, i4, i6, i7, i10, hx, o1, o4, o6, o7, o10⟩ hg hb hfr hn
 refine F_of_comp c42_ok rfl ?_
 have hlim := limv
 have hcc : CC = 100000000000000 := rfl
 have hn0 : 0 < n := by omega
 dsimp only [ysV] at hx
 refine WC_go hE hm ?_
 refine xP rfl rfl rfl rfl ?_
 refine RXn ?_
 refine WLv (lv1 0 rfl lv0) ?_
 refine WC_go hE hm ?_
 refine xP rfl rfl rfl rfl ?_
 refine xP rfl rfl rfl rfl ?_
 refine xP rfl rfl rfl rfl ?_
 refine xR (v := .agg #[.int .i64 x0, gsl (i1) (L1.length)]) rfl rfl rfl (ldN (o := 0 + 0) (ys := [.int .i64 x0, gsl (i1) (L1.length)]) hx rfl rfl) ?_
 refine xC rfl rfl rfl rfl ((multipliers_ok (by omega) hg (fun hne => ⟨(fun h => (o1 h).1) hne, by have := (o1 hne).2; omega⟩) hfr (by omega) (by omega)).mono fun _ _ _ h => nrRes h) ?_
 rintro _ H1 n1 ⟨F1, l1, sv1, dv1, e1, rfl, rp1, hB1⟩
 have le1 := F1.le
 have rm1 := F1.room
 have f2 := (F1.keep _ (by omega)).trans hg
 have f3 := (F1.keep _ (by omega)).trans hx
 have f4 : L1 ≠ [] → aget H1 i1 = some (.cells (ints L1) 3 (some 1)) := fun hne => by have hdm := (o1 hne).2; exact (F1.keep _ (by omega)).trans ((fun h => (o1 h).1) hne)
 have f5 : L4 ≠ [] → aget H1 i4 = some (.cells (ints L4) 3 (some 1)) := fun hne => by have hdm := (o4 hne).2; exact (F1.keep _ (by omega)).trans ((fun h => (o4 h).1) hne)
 have f6 : L6 ≠ [] → aget H1 i6 = some (.cells (ints L6) 3 (some 1)) := fun hne => by have hdm := (o6 hne).2; exact (F1.keep _ (by omega)).trans ((fun h => (o6 h).1) hne)
 have f7 : L7 ≠ [] → aget H1 i7 = some (.cells (ints L7) 3 (some 1)) := fun hne => by have hdm := (o7 hne).2; exact (F1.keep _ (by omega)).trans ((fun h => (o7 h).1) hne)
 have f8 : L10 ≠ [] → aget H1 i10 = some (.cells (ints L10) 3 (some 1)) := fun hne => by have hdm := (o10 hne).2; exact (F1.keep _ (by omega)).trans ((fun h => (o10 h).1) hne)
 refine xP rfl rfl rfl rfl ?_
 refine xP rfl rfl rfl rfl ?_
 refine xP rfl rfl rfl rfl ?_
 refine xNew (ob := .cells [.slice none 0 0] 22 none) (mk := .ptr) F1.fresh (by omega) rfl rfl rfl rfl ?_
 intro H9 a10 a11 a12
 have f13 := (a11 _ (by omega)).trans f2
 have f14 := (a11 _ (by omega)).trans f3
 have f15 : L1 ≠ [] → aget H9 i1 = some (.cells (ints L1) 3 (some 1)) := fun hne => by have hdm := (o1 hne).2; exact (a11 _ (by omega)).trans (f4 hne)
 have f16 : L4 ≠ [] → aget H9 i4 = some (.cells (ints L4) 3 (some 1)) := fun hne => by have hdm := (o4 hne).2; exact (a11 _ (by omega)).trans (f5 hne)
 have f17 : L6 ≠ [] → aget H9 i6 = some (.cells (ints L6) 3 (some 1)) := fun hne => by have hdm := (o6 hne).2; exact (a11 _ (by omega)).trans (f6 hne)
 have f18 : L7 ≠ [] → aget H9 i7 = some (.cells (ints L7) 3 (some 1)) := fun hne => by have hdm := (o7 hne).2; exact (a11 _ (by omega)).trans (f7 hne)
 have f19 : L10 ≠ [] → aget H9 i10 = some (.cells (ints L10) 3 (some 1)) := fun hne => by have hdm := (o10 hne).2; exact (a11 _ (by omega)).trans (f8 hne)
 refine xStO (u := sv1) [sv1] a10 (by show _ ≤ _; simp) rp1.one.2.1 rp1.one.2.2 rfl rfl rfl (by omega) ?_
 intro H20 b21 b22
 have f23 := (b22 _ (by omega)).trans f13
 have f24 := (b22 _ (by omega)).trans f14
 have f25 : L1 ≠ [] → aget H20 i1 = some (.cells (ints L1) 3 (some 1)) := fun hne => by have hdm := (o1 hne).2; exact (b22 _ (by omega)).trans (f15 hne)
 have f26 : L4 ≠ [] → aget H20 i4 = some (.cells (ints L4) 3 (some 1)) := fun hne => by have hdm := (o4 hne).2; exact (b22 _ (by omega)).trans (f16 hne)
 have f27 : L6 ≠ [] → aget H20 i6 = some (.cells (ints L6) 3 (some 1)) := fun hne => by have hdm := (o6 hne).2; exact (b22 _ (by omega)).trans (f17 hne)
 have f28 : L7 ≠ [] → aget H20 i7 = some (.cells (ints L7) 3 (some 1)) := fun hne => by have hdm := (o7 hne).2; exact (b22 _ (by omega)).trans (f18 hne)
 have f29 : L10 ≠ [] → aget H20 i10 = some (.cells (ints L10) 3 (some 1)) := fun hne => by have hdm := (o10 hne).2; exact (b22 _ (by omega)).trans (f19 hne)
 have g30 : Fresh H20 (n1 + 1) := fun q h1 h2 => by rw [b22 q (by omega)]; exact a12 q h1 h2
 refine xP rfl rfl rfl rfl ?_
 refine RXn ?_
 refine WLv (lv1 3 rfl lv0) ?_
 refine WC_go hE hm ?_
 refine xP (v := .func (.func 44) #[] #[.pointer (some ⟨n1, 0, none⟩)]) rfl rfl rfl rfl ?_
 refine xNew (ob := .cells [.func (.func 44) #[] #[.pointer (some ⟨n1, 0, none⟩)]] 40 none) (mk := .slice 1 1) g30 (by omega) rfl rfl rfl rfl ?_
 intro H31 a32 a33 a34
 have f35 := (a33 _ (by omega)).trans f23
 have f36 := (a33 _ (by omega)).trans f24
 have f37 : L1 ≠ [] → aget H31 i1 = some (.cells (ints L1) 3 (some 1)) := fun hne => by have hdm := (o1 hne).2; exact (a33 _ (by omega)).trans (f25 hne)
 have f38 : L4 ≠ [] → aget H31 i4 = some (.cells (ints L4) 3 (some 1)) := fun hne => by have hdm := (o4 hne).2; exact (a33 _ (by omega)).trans (f26 hne)
 have f39 : L6 ≠ [] → aget H31 i6 = some (.cells (ints L6) 3 (some 1)) := fun hne => by have hdm := (o6 hne).2; exact (a33 _ (by omega)).trans (f27 hne)
 have f40 : L7 ≠ [] → aget H31 i7 = some (.cells (ints L7) 3 (some 1)) := fun hne => by have hdm := (o7 hne).2; exact (a33 _ (by omega)).trans (f28 hne)
 have f41 : L10 ≠ [] → aget H31 i10 = some (.cells (ints L10) 3 (some 1)) := fun hne => by have hdm := (o10 hne).2; exact (a33 _ (by omega)).trans (f29 hne)
 have f42 := (a33 _ (by omega)).trans b21
 refine xP rfl rfl rfl rfl ?_
 refine RXn ?_
 refine WLv (lv1 2 rfl lv0) ?_
 refine WC_ret ?_
 refine endR rfl ?_
 exact ⟨n1 + 1, 0, _, _, rs1 (resBox hE hm e44 sT12 rp1 (fun q hq1 hq2 => ((a33 q (by omega)).trans ((b22 q (by omega)).trans (a11 q (by omega))))) (by omega) (by omega) f42 (by omega) (Nat.le_trans hB1 (by decide))) (cell_cells a32 0) (by omega), fun q hq => ((a33 q (by omega)).trans ((b22 q (by omega)).trans ((a11 q (by omega)).trans (F1.keep q (by omega))))), a34, by omega, by omega⟩
def c45 : FC := FC.mk 15 (.seq (.steps [⟨.move, [.const (.slice none 0 0)], some 2, none⟩]) (.seq (.steps [⟨.move, [.tmp 0], some 6, none⟩,⟨.nilCheck, [.tmp 6], some 7, none⟩,⟨.fieldAddr 0, [.tmp 7], some 8, none⟩,⟨.loadN 2, [.tmp 8], some 9, none⟩,⟨.callF 46, [.tmp 9], some 10, none⟩,⟨.move, [.tmp 10], some 5, none⟩,⟨.extract 0, [.tmp 5], some 11, none⟩,⟨.extract 1, [.tmp 5], some 12, none⟩,⟨.alloc 22 [.slice none 0 0], [], some 3, none⟩,⟨.store 1, [.tmp 3, .tmp 11], none, none⟩,⟨.move, [.tmp 12], some 4, none⟩]) (.seq (.steps [⟨.mkFunc (.func 47) 0, [.tmp 3], some 13, none⟩,⟨.buildSlice 40 1 [.nilFunc] [(0, 1)], [.tmp 13], some 14, none⟩,⟨.move, [.tmp 14], some 2, none⟩]) (.ret)))) [.tmp 2]
theorem c45_ok : compF Tryz.prog 45 = some c45 := by kernel_rfl
theorem call45 {x0 : Int} {L1 : List Int} {x2 : Int} {x3 : Int} {L4 : List Int} {x5 : Int} {L6 : List Int} {L7 : List Int} {x8 : Int} {x9 : Int} {L10 : List Int} {x11 : Int} : CallOk x0 L1 x2 x3 L4 x5 L6 L7 x8 x9 L10 x11 45 := by
 rintro H n b ⟨⟨hl1, hl4, hl6, hl7, hl10⟩, i1, i4, i6, i7, i10, hx, o1, o4, o6, o7, o10⟩ hg hb hfr hn
 refine F_of_comp c45_ok rfl ?_
 have hlim := limv
 have hcc : CC = 100000000000000 := rfl
 have hn0 : 0 < n := by omega
 dsimp only [ysV] at hx
 refine WC_go hE hm ?_
 refine xP rfl rfl rfl rfl ?_
 refine RXn ?_
 refine WLv (lv1 0 rfl lv0) ?_
 refine WC_go hE hm ?_
 refine xP rfl rfl rfl rfl ?_
 refine xP rfl rfl rfl rfl ?_
 refine xP rfl rfl rfl rfl ?_
 refine xR (v := .agg #[.int .i64 x0, gsl (i1) (L1.length)]) rfl rfl rfl (ldN (o := 0 + 0) (ys := [.int .i64 x0, gsl (i1) (L1.length)]) hx rfl rfl) ?_
 refine xC rfl rfl rfl rfl ((room_ok (by omega) hg (fun hne => ⟨(fun h => (o1 h).1) hne, by have := (o1 hne).2; omega⟩) hfr (by omega) (by omega)).mono fun _ _ _ h => nrRes h) ?_
 rintro _ H1 n1 ⟨F1, l1, sv1, dv1, e1, rfl, rp1, hB1⟩
 have le1 := F1.le
 have rm1 := F1.room
 have f2 := (F1.keep _ (by omega)).trans hg
 have f3 := (F1.keep _ (by omega)).trans hx
 have f4 : L1 ≠ [] → aget H1 i1 = some (.cells (ints L1) 3 (some 1)) := fun hne => by have hdm := (o1 hne).2; exact (F1.keep _ (by omega)).trans ((fun h => (o1 h).1) hne)
 have f5 : L4 ≠ [] → aget H1 i4 = some (.cells (ints L4) 3 (some 1)) := fun hne => by have hdm := (o4 hne).2; exact (F1.keep _ (by omega)).trans ((fun h => (o4 h).1) hne)
 have f6 : L6 ≠ [] → aget H1 i6 = some (.cells (ints L6) 3 (some 1)) := fun hne => by have hdm := (o6 hne).2; exact (F1.keep _ (by omega)).trans ((fun h => (o6 h).1) hne)
 have f7 : L7 ≠ [] → aget H1 i7 = some (.cells (ints L7) 3 (some 1)) := fun hne => by have hdm := (o7 hne).2; exact (F1.keep _ (by omega)).trans ((fun h => (o7 h).1) hne)
 have f8 : L10 ≠ [] → aget H1 i10 = some (.cells (ints L10) 3 (some 1)) := fun hne => by have hdm := (o10 hne).2; exact (F1.keep _ (by omega)).trans ((fun h => (o10 h).1) hne)
 refine xP rfl rfl rfl rfl ?_
 refine xP rfl rfl rfl rfl ?_
 refine xP rfl rfl rfl rfl ?_
 refine xNew (ob := .cells [.slice none 0 0] 22 none) (mk := .ptr) F1.fresh (by omega) rfl rfl rfl rfl ?_
 intro H9 a10 a11 a12
 have f13 := (a11 _ (by omega)).trans f2
 have f14 := (a11 _ (by omega)).trans f3
 have f15 : L1 ≠ [] → aget H9 i1 = some (.cells (ints L1) 3 (some 1)) := fun hne => by have hdm := (o1 hne).2; exact (a11 _ (by omega)).trans (f4 hne)
 have f16 : L4 ≠ [] → aget H9 i4 = some (.cells (ints L4) 3 (some 1)) := fun hne => by have hdm := (o4 hne).2; exact (a11 _ (by omega)).trans (f5 hne)
 have f17 : L6 ≠ [] → aget H9 i6 = some (.cells (ints L6) 3 (some 1)) := fun hne => by have hdm := (o6 hne).2; exact (a11 _ (by omega)).trans (f6 hne)
 have f18 : L7 ≠ [] → aget H9 i7 = some (.cells (ints L7) 3 (some 1)) := fun hne => by have hdm := (o7 hne).2; exact (a11 _ (by omega)).trans (f7 hne)
 have f19 : L10 ≠ [] → aget H9 i10 = some (.cells (ints L10) 3 (some 1)) := fun hne => by have hdm := (o10 hne).2; exact (a11 _ (by omega)).trans (f8 hne)
 refine xStO (u := sv1) [sv1] a10 (by show _ ≤ _; simp) rp1.one.2.1 rp1.one.2.2 rfl rfl rfl (by omega) ?_
 intro H20 b21 b22
 have f23 := (b22 _ (by omega)).trans f13
 have f24 := (b22 _ (by omega)).trans f14
 have f25 : L1 ≠ [] → aget H20 i1 = some (.cells (ints L1) 3 (some 1)) := fun hne => by have hdm := (o1 hne).2; exact (b22 _ (by omega)).trans (f15 hne)
 have f26 : L4 ≠ [] → aget H20 i4 = some (.cells (ints L4) 3 (some 1)) := fun hne => by have hdm := (o4 hne).2; exact (b22 _ (by omega)).trans (f16 hne)
 have f27 : L6 ≠ [] → aget H20 i6 = some (.cells (ints L6) 3 (some 1)) := fun hne => by have hdm := (o6 hne).2; exact (b22 _ (by omega)).trans (f17 hne)
 have f28 : L7 ≠ [] → aget H20 i7 = some (.cells (ints L7) 3 (some 1)) := fun hne => by have hdm := (o7 hne).2; exact (b22 _ (by omega)).trans (f18 hne)
 have f29 : L10 ≠ [] → aget H20 i10 = some (.cells (ints L10) 3 (some 1)) := fun hne => by have hdm := (o10 hne).2; exact (b22 _ (by omega)).trans (f19 hne)
 have g30 : Fresh H20 (n1 + 1) := fun q h1 h2 => by rw [b22 q (by omega)]; exact a12 q h1 h2
 refine xP rfl rfl rfl rfl ?_
 refine RXn ?_
 refine WLv (lv1 3 rfl lv0) ?_
 refine WC_go hE hm ?_
 refine xP (v := .func (.func 47) #[] #[.pointer (some ⟨n1, 0, none⟩)]) rfl rfl rfl rfl ?_
 refine xNew (ob := .cells [.func (.func 47) #[] #[.pointer (some ⟨n1, 0, none⟩)]] 40 none) (mk := .slice 1 1) g30 (by omega) rfl rfl rfl rfl ?_
 intro H31 a32 a33 a34
 have f35 := (a33 _ (by omega)).trans f23
 have f36 := (a33 _ (by omega)).trans f24
 have f37 : L1 ≠ [] → aget H31 i1 = some (.cells (ints L1) 3 (some 1)) := fun hne => by have hdm := (o1 hne).2; exact (a33 _ (by omega)).trans (f25 hne)
 have f38 : L4 ≠ [] → aget H31 i4 = some (.cells (ints L4) 3 (some 1)) := fun hne => by have hdm := (o4 hne).2; exact (a33 _ (by omega)).trans (f26 hne)
 have f39 : L6 ≠ [] → aget H31 i6 = some (.cells (ints L6) 3 (some 1)) := fun hne => by have hdm := (o6 hne).2; exact (a33 _ (by omega)).trans (f27 hne)
 have f40 : L7 ≠ [] → aget H31 i7 = some (.cells (ints L7) 3 (some 1)) := fun hne => by have hdm := (o7 hne).2; exact (a33 _ (by omega)).trans (f28 hne)
 have f41 : L10 ≠ [] → aget H31 i10 = some (.cells (ints L10) 3 (some 1)) := fun hne => by have hdm := (o10 hne).2; exact (a33 _ (by omega)).trans (f29 hne)
 have f42 := (a33 _ (by omega)).trans b21
 refine xP rfl rfl rfl rfl ?_
 refine RXn ?_
 refine WLv (lv1 2 rfl lv0) ?_
 refine WC_ret ?_
 refine endR rfl ?_
 exact ⟨n1 + 1, 0, _, _, rs1 (resBox hE hm e47 sT12 rp1 (fun q hq1 hq2 => ((a33 q (by omega)).trans ((b22 q (by omega)).trans (a11 q (by omega))))) (by omega) (by omega) f42 (by omega) (Nat.le_trans hB1 (by decide))) (cell_cells a32 0) (by omega), fun q hq => ((a33 q (by omega)).trans ((b22 q (by omega)).trans ((a11 q (by omega)).trans (F1.keep q (by omega))))), a34, by omega, by omega⟩
end Go.Proofs.YtmpogedhilfjgaaGreatDoor
