/- A part of the proof that the law spadilletop.TopSharedRing answers true and leaves its argument as it was (C3) -/
import Derived.Test.YtmpogedhilfjgaaGreatDoorC2
set_option linter.all false
set_option maxRecDepth 1000000
set_option maxHeartbeats 4000000
open Go Go.Cs
namespace Go.Proofs.YtmpogedhilfjgaaGreatDoor
def c14 : FC := FC.mk 23 (.seq (.steps [⟨.box 24, [.tmp 0], some 2, none⟩,⟨.alloc 24 [.int .i64 0, .slice none 0 0], [], some 4, none⟩,⟨.move, [.const (.int .i64 0)], some 5, none⟩]) (.seq (.steps [⟨.loadN 2, [.tmp 2], some 9, none⟩,⟨.callF 56, [.tmp 9], some 10, none⟩,⟨.move, [.tmp 10], some 8, none⟩,⟨.extract 0, [.tmp 8], some 11, none⟩,⟨.extract 1, [.tmp 8], some 12, none⟩,⟨.alloc 75 [.int .i64 0, .int .u32 0], [], some 6, none⟩,⟨.store 2, [.tmp 6, .tmp 11], none, none⟩,⟨.move, [.tmp 12], some 7, none⟩]) (.seq (.seq (.steps [⟨.move, [.tmp 7], some 13, none⟩,⟨.bin .neq, [.tmp 13, .const (.int .i64 0)], some 14, none⟩]) (.cond (.tmp 14) (.seq (.steps [⟨.build [.int .i64 0, .slice none 0 0] [], [], some 15, none⟩,⟨.move, [.tmp 7], some 16, none⟩,⟨.store 2, [.tmp 4, .tmp 15], none, none⟩,⟨.move, [.tmp 16], some 5, none⟩]) (.ret)) (.skip))) (.seq (.drawn [(0,⟨.loadN 2, [.tmp 6], some 17, none⟩), (1,⟨.loadN 2, [.tmp 6], some 18, none⟩), (2,⟨.move, [.tmp 1], some 19, none⟩), (3,⟨.callF 57, [.tmp 18, .tmp 19], some 20, none⟩), (4,⟨.callF 59, [.tmp 17, .tmp 20], some 21, none⟩), (5,⟨.callF 60, [.tmp 21], some 22, none⟩), (6,⟨.store 2, [.tmp 4, .tmp 22], none, none⟩), (7,⟨.move, [.const (.int .i64 0)], some 5, none⟩)] [0, 0, 0, 6, 15, 31, 63, 127]) (.ret))))) [.cellN 4 2, .tmp 5]
theorem c14_ok : compF Tryz.prog 14 = some c14 := by kernel_rfl
theorem turn_ok {p x : Int} {l : List Int} {i : Nat} (hll : l.length ≤ 1000000) {H : Heap} {n : Nat} (hg : aget H 0 = some gl) (hrow : OldRow H n i l) (hfr : Fresh H n) (hn : n + 500 < lim) (hn0 : 0 < n) :
 F Tryz.prog [0] 14 [sealV p i l, .int .i64 x] H n (fun v H' n' => Fin H n 300 H' n' ∧ ∃ (q e : Int) (lo : List Int) (io : Nat), v = .tuple #[.agg #[.int .i64 q, gsl io lo.length], .int .i64 e] ∧ lo.length ≤ 21 ∧ RowI H' n n' io lo) := by
 refine F_of_comp c14_ok rfl ?_
 have hlim := limv
 refine WC_go hE hm ?_
 refine xNew (ob := .cells [.int .i64 p, gsl (i) (l.length)] 24 none) (mk := .ptr) hfr (by omega) rfl rfl rfl (by simp [semA, aBox, Value.cells, sealV]) ?_
 intro H1 a2 a3 a4
 have f5 := (a3 _ (by omega)).trans hg
 have f6 : l ≠ [] → aget H1 i = some (.cells (ints l) 3 (some 1)) := fun hne => by have hdm := (hrow hne).2; exact (a3 _ (by omega)).trans ((fun h => (hrow h).1) hne)
 refine xNew (ob := .cells [.int .i64 0, .slice none 0 0] 24 none) (mk := .ptr) a4 (by omega) rfl rfl rfl rfl ?_
 intro H7 a8 a9 a10
 have f11 := (a9 _ (by omega)).trans f5
 have f12 : l ≠ [] → aget H7 i = some (.cells (ints l) 3 (some 1)) := fun hne => by have hdm := (hrow hne).2; exact (a9 _ (by omega)).trans (f6 hne)
 have f13 := (a9 _ (by omega)).trans a2
 refine xP rfl rfl rfl rfl ?_
 refine RXn ?_
 refine WLv (lv1 1 rfl (lv1 2 rfl (lv1 4 rfl lv0))) ?_
 refine WC_go hE hm ?_
 refine xR (v := .agg #[.int .i64 p, gsl (i) (l.length)]) rfl rfl rfl (loadBox (xs := [.int .i64 p, gsl (i) (l.length)]) f13 rfl) ?_
 refine xC rfl rfl rfl rfl (opened_ok hll f11 (fun hne => ⟨f12 hne, by have := (hrow hne).2; omega⟩) a10 (by omega) (by omega)) ?_
 rintro _ H14 n14 ⟨F14, e14, p14, u14, rfl, hu14, hop14⟩
 have le14 := F14.le
 have rm14 := F14.room
 have f15 := (F14.keep _ (by omega)).trans f11
 have f16 : l ≠ [] → aget H14 i = some (.cells (ints l) 3 (some 1)) := fun hne => by have hdm := (hrow hne).2; exact (F14.keep _ (by omega)).trans (f12 hne)
 have f17 := (F14.keep _ (by omega)).trans f13
 have f18 := (F14.keep _ (by omega)).trans a8
 refine xP rfl rfl rfl rfl ?_
 refine xP rfl rfl rfl rfl ?_
 refine xP rfl rfl rfl rfl ?_
 refine xNew (ob := .cells [.int .i64 0, .int .u32 0] 75 none) (mk := .ptr) F14.fresh (by omega) rfl rfl rfl rfl ?_
 intro H19 a20 a21 a22
 have f23 := (a21 _ (by omega)).trans f15
 have f24 : l ≠ [] → aget H19 i = some (.cells (ints l) 3 (some 1)) := fun hne => by have hdm := (hrow hne).2; exact (a21 _ (by omega)).trans (f16 hne)
 have f25 := (a21 _ (by omega)).trans f17
 have f26 := (a21 _ (by omega)).trans f18
 refine xFill (ys := [.int .i64 p14, .int .u32 (u14 : Int)]) a20 rfl rfl (by simp only [List.all_cons, List.all_nil, gsl_cell1]; rfl) rfl rfl (by omega) ?_
 intro H27 b28 b29
 have f30 := (b29 _ (by omega)).trans f23
 have f31 : l ≠ [] → aget H27 i = some (.cells (ints l) 3 (some 1)) := fun hne => by have hdm := (hrow hne).2; exact (b29 _ (by omega)).trans (f24 hne)
 have f32 := (b29 _ (by omega)).trans f25
 have f33 := (b29 _ (by omega)).trans f26
 have g34 : Fresh H27 (n14 + 1) := fun q h1 h2 => by rw [b29 q (by omega)]; exact a22 q h1 h2
 refine xP rfl rfl rfl rfl ?_
 refine RXn ?_
 refine WLv (lv1 1 rfl (lv1 4 rfl (lv1 6 rfl (lv1 7 rfl lv0)))) ?_
 refine WC_seq ?_
 refine WC_go hE hm ?_
 refine xP rfl rfl rfl rfl ?_
 refine xNe rfl rfl ?_ ?_ <;> intro h14
 · skip
   refine RXn ?_
   refine WLv (lv1 1 rfl (lv1 4 rfl (lv1 6 rfl (lv1 7 rfl (lv1 14 rfl lv0))))) ?_
   refine WC_condT rfl ?_
   refine WC_go hE hm ?_
   refine xBuild [.int .i64 0, .slice none 0 0] rfl rfl rfl ?_
   refine xP rfl rfl rfl rfl ?_
   refine xFill (ys := [.int .i64 0, .slice none 0 0]) f33 rfl rfl (by simp only [List.all_cons, List.all_nil, gsl_cell1]; rfl) rfl rfl (by omega) ?_
   intro H35 b36 b37
   have f38 := (b37 _ (by omega)).trans f30
   have f39 : l ≠ [] → aget H35 i = some (.cells (ints l) 3 (some 1)) := fun hne => by have hdm := (hrow hne).2; exact (b37 _ (by omega)).trans (f31 hne)
   have f40 := (b37 _ (by omega)).trans f32
   have f41 := (b37 _ (by omega)).trans b28
   have g42 : Fresh H35 (n14 + 1) := fun q h1 h2 => by rw [b37 q (by omega)]; exact g34 q h1 h2
   refine xP rfl rfl rfl rfl ?_
   refine RXn ?_
   refine WLv (lv1 4 rfl (lv1 5 rfl lv0)) ?_
   refine WC_ret ?_
   refine thenR ?_
   refine endR (rvs2 (rv_cellN (b := n + 1) rfl b36 rfl) rfl) ?_
   exact ⟨⟨fun q hq => ((b37 q (by omega)).trans ((b29 q (by omega)).trans ((a21 q (by omega)).trans ((F14.keep q (by omega)).trans ((a9 q (by omega)).trans (a3 q (by omega))))))), g42, by omega, by omega⟩, 0, _, [], 0, rfl, by decide, fun h => absurd rfl h⟩
 · skip
   obtain ⟨hpe14, hp, hl614, hxx14⟩ := hop14 h14
   obtain rfl := hpe14.symm
   refine RXn ?_
   refine WLv (lv1 1 rfl (lv1 4 rfl (lv1 6 rfl (lv1 7 rfl (lv1 14 rfl lv0))))) ?_
   refine WC_condF rfl ?_
   refine WC_skip ?_
   refine thenN ?_
   refine WLv (lv1 1 rfl (lv1 4 rfl (lv1 6 rfl lv0))) ?_
   refine WC_goD hE hm ?_
   refine dR (v := .agg #[.int .i64 p, .int .u32 (u14 : Int)]) rfl rfl rfl (loadBox (xs := [.int .i64 p, .int .u32 (u14 : Int)]) b28 rfl) ?_
   refine dR (v := .agg #[.int .i64 p, .int .u32 (u14 : Int)]) rfl rfl rfl (loadBox (xs := [.int .i64 p, .int .u32 (u14 : Int)]) b28 rfl) ?_
   refine dX rfl (xP rfl rfl rfl rfl (RXn ?_))
   refine dC (f := 57) (args := [.agg #[.int .i64 p, .int .u32 (u14 : Int)], .int .i64 x]) rfl rfl rfl rfl (on_ok hp f30) ?_
   rintro _ H9 n9 ⟨⟨y43, rfl, hy43a, hy43b, hy43c⟩, hH9, hn9⟩
   obtain rfl := hH9.symm
   obtain rfl := hn9.symm
   refine ⟨stabSame, ?_⟩
   refine dC (f := 59) (args := [.agg #[.int .i64 p, .int .u32 (u14 : Int)], .int .i64 y43]) rfl rfl rfl rfl (turned_ok hp hu14 ⟨by omega, by omega⟩ f30) ?_
   rintro _ H9 n9 ⟨⟨u44, hu44, rfl⟩, hH9, hn9⟩
   obtain rfl := hH9.symm
   obtain rfl := hn9.symm
   refine ⟨stabSame, ?_⟩
   refine dC (f := 60) (args := [stampV p u44]) rfl rfl rfl rfl (seal_ok hp hu44 f30 g34 (by omega) (by omega)) ?_
   rintro _ H45 n45 ⟨F45, l45, i45, rfl, hl45, hx45, hr45⟩
   have le45 := F45.le
   have rm45 := F45.room
   have f46 := (F45.keep _ (by omega)).trans f30
   have f47 : l ≠ [] → aget H45 i = some (.cells (ints l) 3 (some 1)) := fun hne => by have hdm := (hrow hne).2; exact (F45.keep _ (by omega)).trans (f31 hne)
   have f48 := (F45.keep _ (by omega)).trans f32
   have f49 := (F45.keep _ (by omega)).trans f33
   have f50 := (F45.keep _ (by omega)).trans b28
   refine ⟨stabE (by kernel_rfl), ?_⟩
   refine dFill (ys := [.int .i64 p, gsl (i45) (l45.length)]) f49 rfl rfl (by simp only [List.all_cons, List.all_nil, gsl_cell1]; rfl) rfl rfl (by omega) ?_
   intro H51 b52 b53
   have f54 := (b53 _ (by omega)).trans f46
   have f55 : l ≠ [] → aget H51 i = some (.cells (ints l) 3 (some 1)) := fun hne => by have hdm := (hrow hne).2; exact (b53 _ (by omega)).trans (f47 hne)
   have f56 := (b53 _ (by omega)).trans f48
   have f57 := (b53 _ (by omega)).trans f50
   have f58 : l45 ≠ [] → aget H51 i45 = some (.cells (ints l45) 3 (some 1)) := fun hne => by have hdm := (hr45 hne).2; exact (b53 _ (by omega)).trans ((fun h => (hr45 h).1) hne)
   have g59 : Fresh H51 (n45) := fun q h1 h2 => by rw [b53 q (by omega)]; exact F45.fresh q h1 h2
   refine ⟨stabE (by kernel_rfl), ?_⟩
   refine dX rfl (xP rfl rfl rfl rfl (RXn ?_))
   refine dNil ?_
   refine WLv (lv1 4 rfl (lv1 5 rfl lv0)) ?_
   refine WC_ret ?_
   refine endR (rvs2 (rv_cellN (b := n + 1) rfl b52 rfl) rfl) ?_
   exact ⟨⟨fun q hq => ((b53 q (by omega)).trans ((F45.keep q (by omega)).trans ((b29 q (by omega)).trans ((a21 q (by omega)).trans ((F14.keep q (by omega)).trans ((a9 q (by omega)).trans (a3 q (by omega)))))))), g59, by omega, by omega⟩, p, _, l45, i45, rfl, hl45, fun h => ⟨f58 h, by have := (hr45 h).2; omega, by have := (hr45 h).2; omega⟩⟩
def c18 : FC := FC.mk 18 (.seq (.steps [⟨.box 24, [.tmp 0], some 1, none⟩,⟨.alloc 24 [.int .i64 0, .slice none 0 0], [], some 2, none⟩,⟨.move, [.const (.int .i64 0)], some 3, none⟩]) (.seq (.steps [⟨.loadN 2, [.tmp 1], some 7, none⟩,⟨.callF 56, [.tmp 7], some 8, none⟩,⟨.move, [.tmp 8], some 6, none⟩,⟨.extract 0, [.tmp 6], some 9, none⟩,⟨.extract 1, [.tmp 6], some 10, none⟩,⟨.alloc 75 [.int .i64 0, .int .u32 0], [], some 4, none⟩,⟨.store 2, [.tmp 4, .tmp 9], none, none⟩,⟨.move, [.tmp 10], some 5, none⟩]) (.seq (.seq (.steps [⟨.move, [.tmp 5], some 11, none⟩,⟨.bin .neq, [.tmp 11, .const (.int .i64 0)], some 12, none⟩]) (.cond (.tmp 12) (.seq (.steps [⟨.build [.int .i64 0, .slice none 0 0] [], [], some 13, none⟩,⟨.move, [.tmp 5], some 14, none⟩,⟨.store 2, [.tmp 2, .tmp 13], none, none⟩,⟨.move, [.tmp 14], some 3, none⟩]) (.ret)) (.skip))) (.seq (.steps [⟨.loadN 2, [.tmp 4], some 15, none⟩,⟨.callF 61, [.tmp 15], some 16, none⟩,⟨.callF 60, [.tmp 16], some 17, none⟩,⟨.store 2, [.tmp 2, .tmp 17], none, none⟩,⟨.move, [.const (.int .i64 0)], some 3, none⟩]) (.ret))))) [.cellN 2 2, .tmp 3]
theorem c18_ok : compF Tryz.prog 18 = some c18 := by kernel_rfl
theorem firstSeal_ok {p : Int} {l : List Int} {i : Nat} (hll : l.length ≤ 1000000) {H : Heap} {n : Nat} (hg : aget H 0 = some gl) (hrow : OldRow H n i l) (hfr : Fresh H n) (hn : n + 500 < lim) (hn0 : 0 < n) :
 F Tryz.prog [0] 18 [sealV p i l] H n (fun v H' n' => Fin H n 300 H' n' ∧ ∃ (q e : Int) (lo : List Int) (io : Nat), v = .tuple #[.agg #[.int .i64 q, gsl io lo.length], .int .i64 e] ∧ lo.length ≤ 21 ∧ RowI H' n n' io lo) := by
 refine F_of_comp c18_ok rfl ?_
 have hlim := limv
 refine WC_go hE hm ?_
 refine xNew (ob := .cells [.int .i64 p, gsl (i) (l.length)] 24 none) (mk := .ptr) hfr (by omega) rfl rfl rfl (by simp [semA, aBox, Value.cells, sealV]) ?_
 intro H1 a2 a3 a4
 have f5 := (a3 _ (by omega)).trans hg
 have f6 : l ≠ [] → aget H1 i = some (.cells (ints l) 3 (some 1)) := fun hne => by have hdm := (hrow hne).2; exact (a3 _ (by omega)).trans ((fun h => (hrow h).1) hne)
 refine xNew (ob := .cells [.int .i64 0, .slice none 0 0] 24 none) (mk := .ptr) a4 (by omega) rfl rfl rfl rfl ?_
 intro H7 a8 a9 a10
 have f11 := (a9 _ (by omega)).trans f5
 have f12 : l ≠ [] → aget H7 i = some (.cells (ints l) 3 (some 1)) := fun hne => by have hdm := (hrow hne).2; exact (a9 _ (by omega)).trans (f6 hne)
 have f13 := (a9 _ (by omega)).trans a2
 refine xP rfl rfl rfl rfl ?_
 refine RXn ?_
 refine WLv (lv1 1 rfl (lv1 2 rfl lv0)) ?_
 refine WC_go hE hm ?_
 refine xR (v := .agg #[.int .i64 p, gsl (i) (l.length)]) rfl rfl rfl (loadBox (xs := [.int .i64 p, gsl (i) (l.length)]) f13 rfl) ?_
 refine xC rfl rfl rfl rfl (opened_ok hll f11 (fun hne => ⟨f12 hne, by have := (hrow hne).2; omega⟩) a10 (by omega) (by omega)) ?_
 rintro _ H14 n14 ⟨F14, e14, p14, u14, rfl, hu14, hop14⟩
 have le14 := F14.le
 have rm14 := F14.room
 have f15 := (F14.keep _ (by omega)).trans f11
 have f16 : l ≠ [] → aget H14 i = some (.cells (ints l) 3 (some 1)) := fun hne => by have hdm := (hrow hne).2; exact (F14.keep _ (by omega)).trans (f12 hne)
 have f17 := (F14.keep _ (by omega)).trans f13
 have f18 := (F14.keep _ (by omega)).trans a8
 refine xP rfl rfl rfl rfl ?_
 refine xP rfl rfl rfl rfl ?_
 refine xP rfl rfl rfl rfl ?_
 refine xNew (ob := .cells [.int .i64 0, .int .u32 0] 75 none) (mk := .ptr) F14.fresh (by omega) rfl rfl rfl rfl ?_
 intro H19 a20 a21 a22
 have f23 := (a21 _ (by omega)).trans f15
 have f24 : l ≠ [] → aget H19 i = some (.cells (ints l) 3 (some 1)) := fun hne => by have hdm := (hrow hne).2; exact (a21 _ (by omega)).trans (f16 hne)
 have f25 := (a21 _ (by omega)).trans f17
 have f26 := (a21 _ (by omega)).trans f18
 refine xFill (ys := [.int .i64 p14, .int .u32 (u14 : Int)]) a20 rfl rfl (by simp only [List.all_cons, List.all_nil, gsl_cell1]; rfl) rfl rfl (by omega) ?_
 intro H27 b28 b29
 have f30 := (b29 _ (by omega)).trans f23
 have f31 : l ≠ [] → aget H27 i = some (.cells (ints l) 3 (some 1)) := fun hne => by have hdm := (hrow hne).2; exact (b29 _ (by omega)).trans (f24 hne)
 have f32 := (b29 _ (by omega)).trans f25
 have f33 := (b29 _ (by omega)).trans f26
 have g34 : Fresh H27 (n14 + 1) := fun q h1 h2 => by rw [b29 q (by omega)]; exact a22 q h1 h2
 refine xP rfl rfl rfl rfl ?_
 refine RXn ?_
 refine WLv (lv1 2 rfl (lv1 4 rfl (lv1 5 rfl lv0))) ?_
 refine WC_seq ?_
 refine WC_go hE hm ?_
 refine xP rfl rfl rfl rfl ?_
 refine xNe rfl rfl ?_ ?_ <;> intro h12
 · skip
   refine RXn ?_
   refine WLv (lv1 2 rfl (lv1 4 rfl (lv1 5 rfl (lv1 12 rfl lv0)))) ?_
   refine WC_condT rfl ?_
   refine WC_go hE hm ?_
   refine xBuild [.int .i64 0, .slice none 0 0] rfl rfl rfl ?_
   refine xP rfl rfl rfl rfl ?_
   refine xFill (ys := [.int .i64 0, .slice none 0 0]) f33 rfl rfl (by simp only [List.all_cons, List.all_nil, gsl_cell1]; rfl) rfl rfl (by omega) ?_
   intro H35 b36 b37
   have f38 := (b37 _ (by omega)).trans f30
   have f39 : l ≠ [] → aget H35 i = some (.cells (ints l) 3 (some 1)) := fun hne => by have hdm := (hrow hne).2; exact (b37 _ (by omega)).trans (f31 hne)
   have f40 := (b37 _ (by omega)).trans f32
   have f41 := (b37 _ (by omega)).trans b28
   have g42 : Fresh H35 (n14 + 1) := fun q h1 h2 => by rw [b37 q (by omega)]; exact g34 q h1 h2
   refine xP rfl rfl rfl rfl ?_
   refine RXn ?_
   refine WLv (lv1 2 rfl (lv1 3 rfl lv0)) ?_
   refine WC_ret ?_
   refine thenR ?_
   refine endR (rvs2 (rv_cellN (b := n + 1) rfl b36 rfl) rfl) ?_
   exact ⟨⟨fun q hq => ((b37 q (by omega)).trans ((b29 q (by omega)).trans ((a21 q (by omega)).trans ((F14.keep q (by omega)).trans ((a9 q (by omega)).trans (a3 q (by omega))))))), g42, by omega, by omega⟩, 0, _, [], 0, rfl, by decide, fun h => absurd rfl h⟩
 · skip
   obtain ⟨hpe14, hp, hl614, hxx14⟩ := hop14 h12
   obtain rfl := hpe14.symm
   refine RXn ?_
   refine WLv (lv1 2 rfl (lv1 4 rfl (lv1 5 rfl (lv1 12 rfl lv0)))) ?_
   refine WC_condF rfl ?_
   refine WC_skip ?_
   refine thenN ?_
   refine WLv (lv1 2 rfl (lv1 4 rfl lv0)) ?_
   refine WC_go hE hm ?_
   refine xR (v := .agg #[.int .i64 p, .int .u32 (u14 : Int)]) rfl rfl rfl (loadBox (xs := [.int .i64 p, .int .u32 (u14 : Int)]) b28 rfl) ?_
   refine xC rfl rfl rfl rfl (first_ok hp hu14 f30) ?_
   rintro _ H9 n9 ⟨⟨w43, hw43, rfl⟩, hH9, hn9⟩
   obtain rfl := hH9.symm
   obtain rfl := hn9.symm
   refine xC rfl rfl rfl rfl (seal_ok hp hw43 f30 g34 (by omega) (by omega)) ?_
   rintro _ H44 n44 ⟨F44, l44, i44, rfl, hl44, hx44, hr44⟩
   have le44 := F44.le
   have rm44 := F44.room
   have f45 := (F44.keep _ (by omega)).trans f30
   have f46 : l ≠ [] → aget H44 i = some (.cells (ints l) 3 (some 1)) := fun hne => by have hdm := (hrow hne).2; exact (F44.keep _ (by omega)).trans (f31 hne)
   have f47 := (F44.keep _ (by omega)).trans f32
   have f48 := (F44.keep _ (by omega)).trans f33
   have f49 := (F44.keep _ (by omega)).trans b28
   refine xFill (ys := [.int .i64 p, gsl (i44) (l44.length)]) f48 rfl rfl (by simp only [List.all_cons, List.all_nil, gsl_cell1]; rfl) rfl rfl (by omega) ?_
   intro H50 b51 b52
   have f53 := (b52 _ (by omega)).trans f45
   have f54 : l ≠ [] → aget H50 i = some (.cells (ints l) 3 (some 1)) := fun hne => by have hdm := (hrow hne).2; exact (b52 _ (by omega)).trans (f46 hne)
   have f55 := (b52 _ (by omega)).trans f47
   have f56 := (b52 _ (by omega)).trans f49
   have f57 : l44 ≠ [] → aget H50 i44 = some (.cells (ints l44) 3 (some 1)) := fun hne => by have hdm := (hr44 hne).2; exact (b52 _ (by omega)).trans ((fun h => (hr44 h).1) hne)
   have g58 : Fresh H50 (n44) := fun q h1 h2 => by rw [b52 q (by omega)]; exact F44.fresh q h1 h2
   refine xP rfl rfl rfl rfl ?_
   refine RXn ?_
   refine WLv (lv1 2 rfl (lv1 3 rfl lv0)) ?_
   refine WC_ret ?_
   refine endR (rvs2 (rv_cellN (b := n + 1) rfl b51 rfl) rfl) ?_
   exact ⟨⟨fun q hq => ((b52 q (by omega)).trans ((F44.keep q (by omega)).trans ((b29 q (by omega)).trans ((a21 q (by omega)).trans ((F14.keep q (by omega)).trans ((a9 q (by omega)).trans (a3 q (by omega)))))))), g58, by omega, by omega⟩, p, _, l44, i44, rfl, hl44, fun h => ⟨f57 h, by have := (hr44 h).2; omega, by have := (hr44 h).2; omega⟩⟩
def c40 : FC := FC.mk 39 (.seq (.steps [⟨.box 24, [.tmp 0], some 2, none⟩,⟨.alloc 24 [.int .i64 0, .slice none 0 0], [], some 4, none⟩,⟨.move, [.const (.int .i64 0)], some 5, none⟩]) (.seq (.steps [⟨.loadN 2, [.tmp 2], some 9, none⟩,⟨.callF 56, [.tmp 9], some 10, none⟩,⟨.move, [.tmp 10], some 8, none⟩,⟨.extract 0, [.tmp 8], some 11, none⟩,⟨.extract 1, [.tmp 8], some 12, none⟩,⟨.alloc 75 [.int .i64 0, .int .u32 0], [], some 6, none⟩,⟨.store 2, [.tmp 6, .tmp 11], none, none⟩,⟨.move, [.tmp 12], some 7, none⟩]) (.seq (.block 0 (.seq (.steps [⟨.move, [.tmp 7], some 14, none⟩,⟨.bin .neq, [.tmp 14, .const (.int .i64 0)], some 15, none⟩,⟨.move, [.tmp 15], some 13, none⟩]) (.cond (.tmp 13) (.seq (.steps [⟨.build [.int .i64 0, .slice none 0 0] [], [], some 16, none⟩,⟨.move, [.tmp 7], some 17, none⟩,⟨.store 2, [.tmp 4, .tmp 16], none, none⟩,⟨.move, [.tmp 17], some 5, none⟩]) (.ret)) (.seq (.steps [⟨.move, [.tmp 1], some 19, none⟩,⟨.bin .lss, [.tmp 19, .const (.int .i64 1)], some 20, none⟩,⟨.move, [.tmp 20], some 21, none⟩,⟨.move, [.tmp 1], some 22, some (21, false)⟩,⟨.fieldAddr 0, [.tmp 2], some 23, some (21, false)⟩,⟨.load1, [.tmp 23], some 24, some (21, false)⟩,⟨.bin .gtr, [.tmp 22, .tmp 24], some 25, some (21, false)⟩,⟨.pick, [.tmp 21, .const (.bool true), .tmp 25], some 26, none⟩,⟨.move, [.tmp 26], some 18, none⟩]) (.cond (.tmp 18) (.seq (.steps [⟨.build [.int .i64 0, .slice none 0 0] [], [], some 27, none⟩,⟨.store 2, [.tmp 4, .tmp 27], none, none⟩,⟨.move, [.const (.int .i64 1)], some 5, none⟩]) (.ret)) (.seq (.steps [⟨.move, [.tmp 1], some 29, none⟩,⟨.fieldAddr 0, [.tmp 2], some 30, none⟩,⟨.load1, [.tmp 30], some 31, none⟩,⟨.callF 76, [.tmp 29, .tmp 31], some 32, none⟩,⟨.un .not, [.tmp 32], some 33, none⟩,⟨.move, [.tmp 33], some 28, none⟩]) (.cond (.tmp 28) (.seq (.steps [⟨.build [.int .i64 0, .slice none 0 0] [], [], some 34, none⟩,⟨.store 2, [.tmp 4, .tmp 34], none, none⟩,⟨.move, [.const (.int .i64 13)], some 5, none⟩]) (.ret)) (.skip)))))))) (.seq (.steps [⟨.loadN 2, [.tmp 6], some 35, none⟩,⟨.move, [.tmp 1], some 36, none⟩,⟨.callF 63, [.tmp 35, .tmp 36], some 37, none⟩,⟨.callF 60, [.tmp 37], some 38, none⟩,⟨.store 2, [.tmp 4, .tmp 38], none, none⟩,⟨.move, [.const (.int .i64 0)], some 5, none⟩]) (.ret))))) [.cellN 4 2, .tmp 5]
theorem c40_ok : compF Tryz.prog 40 = some c40 := by kernel_rfl
theorem multiply_ok {p x : Int} {l : List Int} {i : Nat} (hll : l.length ≤ 1000000) {H : Heap} {n : Nat} (hg : aget H 0 = some gl) (hrow : OldRow H n i l) (hfr : Fresh H n) (hn : n + 500 < lim) (hn0 : 0 < n) :
 F Tryz.prog [0] 40 [sealV p i l, .int .i64 x] H n (fun v H' n' => Fin H n 300 H' n' ∧ ∃ (q e : Int) (lo : List Int) (io : Nat), v = .tuple #[.agg #[.int .i64 q, gsl io lo.length], .int .i64 e] ∧ lo.length ≤ 21 ∧ RowI H' n n' io lo) := by
 refine F_of_comp c40_ok rfl ?_
 have hlim := limv
 refine WC_go hE hm ?_
 refine xNew (ob := .cells [.int .i64 p, gsl (i) (l.length)] 24 none) (mk := .ptr) hfr (by omega) rfl rfl rfl (by simp [semA, aBox, Value.cells, sealV]) ?_
 intro H1 a2 a3 a4
 have f5 := (a3 _ (by omega)).trans hg
 have f6 : l ≠ [] → aget H1 i = some (.cells (ints l) 3 (some 1)) := fun hne => by have hdm := (hrow hne).2; exact (a3 _ (by omega)).trans ((fun h => (hrow h).1) hne)
 refine xNew (ob := .cells [.int .i64 0, .slice none 0 0] 24 none) (mk := .ptr) a4 (by omega) rfl rfl rfl rfl ?_
 intro H7 a8 a9 a10
 have f11 := (a9 _ (by omega)).trans f5
 have f12 : l ≠ [] → aget H7 i = some (.cells (ints l) 3 (some 1)) := fun hne => by have hdm := (hrow hne).2; exact (a9 _ (by omega)).trans (f6 hne)
 have f13 := (a9 _ (by omega)).trans a2
 refine xP rfl rfl rfl rfl ?_
 refine RXn ?_
 refine WLv (lv1 1 rfl (lv1 2 rfl (lv1 4 rfl lv0))) ?_
 refine WC_go hE hm ?_
 refine xR (v := .agg #[.int .i64 p, gsl (i) (l.length)]) rfl rfl rfl (loadBox (xs := [.int .i64 p, gsl (i) (l.length)]) f13 rfl) ?_
 refine xC rfl rfl rfl rfl (opened_ok hll f11 (fun hne => ⟨f12 hne, by have := (hrow hne).2; omega⟩) a10 (by omega) (by omega)) ?_
 rintro _ H14 n14 ⟨F14, e14, p14, u14, rfl, hu14, hop14⟩
 have le14 := F14.le
 have rm14 := F14.room
 have f15 := (F14.keep _ (by omega)).trans f11
 have f16 : l ≠ [] → aget H14 i = some (.cells (ints l) 3 (some 1)) := fun hne => by have hdm := (hrow hne).2; exact (F14.keep _ (by omega)).trans (f12 hne)
 have f17 := (F14.keep _ (by omega)).trans f13
 have f18 := (F14.keep _ (by omega)).trans a8
 refine xP rfl rfl rfl rfl ?_
 refine xP rfl rfl rfl rfl ?_
 refine xP rfl rfl rfl rfl ?_
 refine xNew (ob := .cells [.int .i64 0, .int .u32 0] 75 none) (mk := .ptr) F14.fresh (by omega) rfl rfl rfl rfl ?_
 intro H19 a20 a21 a22
 have f23 := (a21 _ (by omega)).trans f15
 have f24 : l ≠ [] → aget H19 i = some (.cells (ints l) 3 (some 1)) := fun hne => by have hdm := (hrow hne).2; exact (a21 _ (by omega)).trans (f16 hne)
 have f25 := (a21 _ (by omega)).trans f17
 have f26 := (a21 _ (by omega)).trans f18
 refine xFill (ys := [.int .i64 p14, .int .u32 (u14 : Int)]) a20 rfl rfl (by simp only [List.all_cons, List.all_nil, gsl_cell1]; rfl) rfl rfl (by omega) ?_
 intro H27 b28 b29
 have f30 := (b29 _ (by omega)).trans f23
 have f31 : l ≠ [] → aget H27 i = some (.cells (ints l) 3 (some 1)) := fun hne => by have hdm := (hrow hne).2; exact (b29 _ (by omega)).trans (f24 hne)
 have f32 := (b29 _ (by omega)).trans f25
 have f33 := (b29 _ (by omega)).trans f26
 have g34 : Fresh H27 (n14 + 1) := fun q h1 h2 => by rw [b29 q (by omega)]; exact a22 q h1 h2
 refine xP rfl rfl rfl rfl ?_
 refine RXn ?_
 refine WLv (lv1 1 rfl (lv1 2 rfl (lv1 4 rfl (lv1 6 rfl (lv1 7 rfl lv0))))) ?_
 refine WC_seq ?_
 refine WC_block ?_
 refine WC_go hE hm ?_
 refine xP rfl rfl rfl rfl ?_
 refine xNe rfl rfl ?_ ?_ <;> intro h15
 · skip
   refine xP rfl rfl rfl rfl ?_
   refine RXn ?_
   refine WLv (lv1 1 rfl (lv1 2 rfl (lv1 4 rfl (lv1 6 rfl (lv1 7 rfl (lv1 13 rfl lv0)))))) ?_
   refine WC_condT rfl ?_
   refine WC_go hE hm ?_
   refine xBuild [.int .i64 0, .slice none 0 0] rfl rfl rfl ?_
   refine xP rfl rfl rfl rfl ?_
   refine xFill (ys := [.int .i64 0, .slice none 0 0]) f33 rfl rfl (by simp only [List.all_cons, List.all_nil, gsl_cell1]; rfl) rfl rfl (by omega) ?_
   intro H35 b36 b37
   have f38 := (b37 _ (by omega)).trans f30
   have f39 : l ≠ [] → aget H35 i = some (.cells (ints l) 3 (some 1)) := fun hne => by have hdm := (hrow hne).2; exact (b37 _ (by omega)).trans (f31 hne)
   have f40 := (b37 _ (by omega)).trans f32
   have f41 := (b37 _ (by omega)).trans b28
   have g42 : Fresh H35 (n14 + 1) := fun q h1 h2 => by rw [b37 q (by omega)]; exact g34 q h1 h2
   refine xP rfl rfl rfl rfl ?_
   refine RXn ?_
   refine WLv (lv1 4 rfl (lv1 5 rfl lv0)) ?_
   refine WC_ret ?_
   refine blockR ?_
   refine thenR ?_
   refine endR (rvs2 (rv_cellN (b := n + 1) rfl b36 rfl) rfl) ?_
   exact ⟨⟨fun q hq => ((b37 q (by omega)).trans ((b29 q (by omega)).trans ((a21 q (by omega)).trans ((F14.keep q (by omega)).trans ((a9 q (by omega)).trans (a3 q (by omega))))))), g42, by omega, by omega⟩, 0, _, [], 0, rfl, by decide, fun h => absurd rfl h⟩
 · skip
   obtain ⟨hpe14, hp, hl614, hxx14⟩ := hop14 h15
   obtain rfl := hpe14.symm
   refine xP rfl rfl rfl rfl ?_
   refine RXn ?_
   refine WLv (lv1 1 rfl (lv1 2 rfl (lv1 4 rfl (lv1 6 rfl (lv1 7 rfl (lv1 13 rfl lv0)))))) ?_
   refine WC_condF rfl ?_
   refine WC_go hE hm ?_
   refine xP rfl rfl rfl rfl ?_
   refine xCmp rfl rfl rfl rfl ?_ ?_ <;> intro h20
   · skip
     refine xP rfl rfl rfl rfl ?_
     refine xS rfl ?_
     refine xS rfl ?_
     refine xS rfl ?_
     refine xS rfl ?_
     refine xP rfl rfl rfl rfl ?_
     refine xP rfl rfl rfl rfl ?_
     refine RXn ?_
     refine WLv (lv1 1 rfl (lv1 2 rfl (lv1 4 rfl (lv1 6 rfl (lv1 18 rfl lv0))))) ?_
     refine WC_condT rfl ?_
     refine WC_go hE hm ?_
     refine xBuild [.int .i64 0, .slice none 0 0] rfl rfl rfl ?_
     refine xFill (ys := [.int .i64 0, .slice none 0 0]) f33 rfl rfl (by simp only [List.all_cons, List.all_nil, gsl_cell1]; rfl) rfl rfl (by omega) ?_
     intro H43 b44 b45
     have f46 := (b45 _ (by omega)).trans f30
     have f47 : l ≠ [] → aget H43 i = some (.cells (ints l) 3 (some 1)) := fun hne => by have hdm := (hrow hne).2; exact (b45 _ (by omega)).trans (f31 hne)
     have f48 := (b45 _ (by omega)).trans f32
     have f49 := (b45 _ (by omega)).trans b28
     have g50 : Fresh H43 (n14 + 1) := fun q h1 h2 => by rw [b45 q (by omega)]; exact g34 q h1 h2
     refine xP rfl rfl rfl rfl ?_
     refine RXn ?_
     refine WLv (lv1 4 rfl (lv1 5 rfl lv0)) ?_
     refine WC_ret ?_
     refine blockR ?_
     refine thenR ?_
     refine endR (rvs2 (rv_cellN (b := n + 1) rfl b44 rfl) rfl) ?_
     exact ⟨⟨fun q hq => ((b45 q (by omega)).trans ((b29 q (by omega)).trans ((a21 q (by omega)).trans ((F14.keep q (by omega)).trans ((a9 q (by omega)).trans (a3 q (by omega))))))), g50, by omega, by omega⟩, 0, _, [], 0, rfl, by decide, fun h => absurd rfl h⟩
   · skip
     refine xP rfl rfl rfl rfl ?_
     refine xP rfl rfl rfl rfl ?_
     refine xP rfl rfl rfl rfl ?_
     refine xR (v := .int .i64 p) rfl rfl rfl (ld1 (o := 0 + 0) f32 rfl) ?_
     refine xCmp rfl rfl rfl rfl ?_ ?_ <;> intro h25
     · skip
       refine xP rfl rfl rfl rfl ?_
       refine xP rfl rfl rfl rfl ?_
       refine RXn ?_
       refine WLv (lv1 1 rfl (lv1 2 rfl (lv1 4 rfl (lv1 6 rfl (lv1 18 rfl lv0))))) ?_
       refine WC_condT rfl ?_
       refine WC_go hE hm ?_
       refine xBuild [.int .i64 0, .slice none 0 0] rfl rfl rfl ?_
       refine xFill (ys := [.int .i64 0, .slice none 0 0]) f33 rfl rfl (by simp only [List.all_cons, List.all_nil, gsl_cell1]; rfl) rfl rfl (by omega) ?_
       intro H51 b52 b53
       have f54 := (b53 _ (by omega)).trans f30
       have f55 : l ≠ [] → aget H51 i = some (.cells (ints l) 3 (some 1)) := fun hne => by have hdm := (hrow hne).2; exact (b53 _ (by omega)).trans (f31 hne)
       have f56 := (b53 _ (by omega)).trans f32
       have f57 := (b53 _ (by omega)).trans b28
       have g58 : Fresh H51 (n14 + 1) := fun q h1 h2 => by rw [b53 q (by omega)]; exact g34 q h1 h2
       refine xP rfl rfl rfl rfl ?_
       refine RXn ?_
       refine WLv (lv1 4 rfl (lv1 5 rfl lv0)) ?_
       refine WC_ret ?_
       refine blockR ?_
       refine thenR ?_
       refine endR (rvs2 (rv_cellN (b := n + 1) rfl b52 rfl) rfl) ?_
       exact ⟨⟨fun q hq => ((b53 q (by omega)).trans ((b29 q (by omega)).trans ((a21 q (by omega)).trans ((F14.keep q (by omega)).trans ((a9 q (by omega)).trans (a3 q (by omega))))))), g58, by omega, by omega⟩, 0, _, [], 0, rfl, by decide, fun h => absurd rfl h⟩
     · skip
       refine xP rfl rfl rfl rfl ?_
       refine xP rfl rfl rfl rfl ?_
       refine RXn ?_
       refine WLv (lv1 1 rfl (lv1 2 rfl (lv1 4 rfl (lv1 6 rfl (lv1 18 rfl lv0))))) ?_
       refine WC_condF rfl ?_
       refine WC_go hE hm ?_
       refine xP rfl rfl rfl rfl ?_
       refine xP rfl rfl rfl rfl ?_
       refine xR (v := .int .i64 p) rfl rfl rfl (ld1 (o := 0 + 0) f32 rfl) ?_
       refine xC rfl rfl rfl rfl (prime_ok ⟨by omega, by omega⟩ ⟨by omega, by omega⟩ f30) ?_
       rintro _ H9 n9 ⟨⟨c59, rfl⟩, hH9, hn9⟩
       obtain rfl := hH9.symm
       obtain rfl := hn9.symm
       refine xP rfl rfl rfl rfl ?_
       refine xP rfl rfl rfl rfl ?_
       refine RXn ?_
       refine WLv (lv1 1 rfl (lv1 4 rfl (lv1 6 rfl (lv1 28 rfl lv0)))) ?_
       refine WC_cond rfl (fun h => ?_) (fun h => ?_)
       · skip
         refine WC_go hE hm ?_
         refine xBuild [.int .i64 0, .slice none 0 0] rfl rfl rfl ?_
         refine xFill (ys := [.int .i64 0, .slice none 0 0]) f33 rfl rfl (by simp only [List.all_cons, List.all_nil, gsl_cell1]; rfl) rfl rfl (by omega) ?_
         intro H60 b61 b62
         have f63 := (b62 _ (by omega)).trans f30
         have f64 : l ≠ [] → aget H60 i = some (.cells (ints l) 3 (some 1)) := fun hne => by have hdm := (hrow hne).2; exact (b62 _ (by omega)).trans (f31 hne)
         have f65 := (b62 _ (by omega)).trans f32
         have f66 := (b62 _ (by omega)).trans b28
         have g67 : Fresh H60 (n14 + 1) := fun q h1 h2 => by rw [b62 q (by omega)]; exact g34 q h1 h2
         refine xP rfl rfl rfl rfl ?_
         refine RXn ?_
         refine WLv (lv1 4 rfl (lv1 5 rfl lv0)) ?_
         refine WC_ret ?_
         refine blockR ?_
         refine thenR ?_
         refine endR (rvs2 (rv_cellN (b := n + 1) rfl b61 rfl) rfl) ?_
         exact ⟨⟨fun q hq => ((b62 q (by omega)).trans ((b29 q (by omega)).trans ((a21 q (by omega)).trans ((F14.keep q (by omega)).trans ((a9 q (by omega)).trans (a3 q (by omega))))))), g67, by omega, by omega⟩, 0, _, [], 0, rfl, by decide, fun h => absurd rfl h⟩
       · skip
         refine WC_skip ?_
         refine blockN ?_
         refine thenN ?_
         refine WLv (lv1 1 rfl (lv1 4 rfl (lv1 6 rfl lv0))) ?_
         refine WC_go hE hm ?_
         refine xR (v := .agg #[.int .i64 p, .int .u32 (u14 : Int)]) rfl rfl rfl (loadBox (xs := [.int .i64 p, .int .u32 (u14 : Int)]) b28 rfl) ?_
         refine xP rfl rfl rfl rfl ?_
         refine xC rfl rfl rfl rfl (times_ok hp hu14 f30) ?_
         rintro _ H9 n9 ⟨⟨w68, hw68, rfl⟩, hH9, hn9⟩
         obtain rfl := hH9.symm
         obtain rfl := hn9.symm
         refine xC rfl rfl rfl rfl (seal_ok hp hw68 f30 g34 (by omega) (by omega)) ?_
         rintro _ H69 n69 ⟨F69, l69, i69, rfl, hl69, hx69, hr69⟩
         have le69 := F69.le
         have rm69 := F69.room
         have f70 := (F69.keep _ (by omega)).trans f30
         have f71 : l ≠ [] → aget H69 i = some (.cells (ints l) 3 (some 1)) := fun hne => by have hdm := (hrow hne).2; exact (F69.keep _ (by omega)).trans (f31 hne)
         have f72 := (F69.keep _ (by omega)).trans f32
         have f73 := (F69.keep _ (by omega)).trans f33
         have f74 := (F69.keep _ (by omega)).trans b28
         refine xFill (ys := [.int .i64 p, gsl (i69) (l69.length)]) f73 rfl rfl (by simp only [List.all_cons, List.all_nil, gsl_cell1]; rfl) rfl rfl (by omega) ?_
         intro H75 b76 b77
         have f78 := (b77 _ (by omega)).trans f70
         have f79 : l ≠ [] → aget H75 i = some (.cells (ints l) 3 (some 1)) := fun hne => by have hdm := (hrow hne).2; exact (b77 _ (by omega)).trans (f71 hne)
         have f80 := (b77 _ (by omega)).trans f72
         have f81 := (b77 _ (by omega)).trans f74
         have f82 : l69 ≠ [] → aget H75 i69 = some (.cells (ints l69) 3 (some 1)) := fun hne => by have hdm := (hr69 hne).2; exact (b77 _ (by omega)).trans ((fun h => (hr69 h).1) hne)
         have g83 : Fresh H75 (n69) := fun q h1 h2 => by rw [b77 q (by omega)]; exact F69.fresh q h1 h2
         refine xP rfl rfl rfl rfl ?_
         refine RXn ?_
         refine WLv (lv1 4 rfl (lv1 5 rfl lv0)) ?_
         refine WC_ret ?_
         refine endR (rvs2 (rv_cellN (b := n + 1) rfl b76 rfl) rfl) ?_
         exact ⟨⟨fun q hq => ((b77 q (by omega)).trans ((F69.keep q (by omega)).trans ((b29 q (by omega)).trans ((a21 q (by omega)).trans ((F14.keep q (by omega)).trans ((a9 q (by omega)).trans (a3 q (by omega)))))))), g83, by omega, by omega⟩, p, _, l69, i69, rfl, hl69, fun h => ⟨f82 h, by have := (hr69 h).2; omega, by have := (hr69 h).2; omega⟩⟩
def c21 : FC := FC.mk 62 (.seq (.steps [⟨.box 24, [.tmp 0], some 2, none⟩,⟨.box 24, [.tmp 1], some 3, none⟩,⟨.move, [.const (.int .i64 0)], some 4, none⟩,⟨.move, [.const (.bool false)], some 5, none⟩,⟨.move, [.const (.int .i64 0)], some 6, none⟩]) (.seq (.steps [⟨.loadN 2, [.tmp 2], some 14, none⟩,⟨.callF 56, [.tmp 14], some 15, none⟩,⟨.move, [.tmp 15], some 13, none⟩,⟨.extract 0, [.tmp 13], some 16, none⟩,⟨.extract 1, [.tmp 13], some 17, none⟩,⟨.alloc 75 [.int .i64 0, .int .u32 0], [], some 7, none⟩,⟨.store 2, [.tmp 7, .tmp 16], none, none⟩,⟨.move, [.tmp 17], some 6, none⟩]) (.seq (.seq (.steps [⟨.move, [.tmp 6], some 18, none⟩,⟨.bin .neq, [.tmp 18, .const (.int .i64 0)], some 19, none⟩]) (.cond (.tmp 19) (.seq (.steps [⟨.move, [.tmp 6], some 20, none⟩,⟨.move, [.const (.int .i64 0)], some 4, none⟩,⟨.move, [.const (.bool false)], some 5, none⟩,⟨.move, [.tmp 20], some 6, none⟩]) (.ret)) (.skip))) (.seq (.steps [⟨.loadN 2, [.tmp 3], some 22, none⟩,⟨.callF 56, [.tmp 22], some 23, none⟩,⟨.move, [.tmp 23], some 21, none⟩,⟨.extract 0, [.tmp 21], some 24, none⟩,⟨.extract 1, [.tmp 21], some 25, none⟩,⟨.alloc 75 [.int .i64 0, .int .u32 0], [], some 8, none⟩,⟨.store 2, [.tmp 8, .tmp 24], none, none⟩,⟨.move, [.tmp 25], some 6, none⟩]) (.seq (.block 0 (.seq (.steps [⟨.move, [.tmp 6], some 27, none⟩,⟨.bin .neq, [.tmp 27, .const (.int .i64 0)], some 28, none⟩,⟨.move, [.tmp 28], some 26, none⟩]) (.cond (.tmp 26) (.seq (.steps [⟨.move, [.tmp 6], some 29, none⟩,⟨.move, [.const (.int .i64 0)], some 4, none⟩,⟨.move, [.const (.bool false)], some 5, none⟩,⟨.move, [.tmp 29], some 6, none⟩]) (.ret)) (.seq (.steps [⟨.fieldAddr 0, [.tmp 7], some 31, none⟩,⟨.load1, [.tmp 31], some 32, none⟩,⟨.fieldAddr 0, [.tmp 8], some 33, none⟩,⟨.load1, [.tmp 33], some 34, none⟩,⟨.bin .neq, [.tmp 32, .tmp 34], some 35, none⟩,⟨.move, [.tmp 35], some 36, none⟩,⟨.fieldAddr 1, [.tmp 2], some 37, some (36, false)⟩,⟨.load1, [.tmp 37], some 38, some (36, false)⟩,⟨.lenS, [.tmp 38], some 39, some (36, false)⟩,⟨.fieldAddr 1, [.tmp 3], some 40, some (36, false)⟩,⟨.load1, [.tmp 40], some 41, some (36, false)⟩,⟨.lenS, [.tmp 41], some 42, some (36, false)⟩,⟨.bin .neq, [.tmp 39, .tmp 42], some 43, some (36, false)⟩,⟨.pick, [.tmp 36, .const (.bool true), .tmp 43], some 44, none⟩,⟨.move, [.tmp 44], some 30, none⟩]) (.cond (.tmp 30) (.seq (.steps [⟨.move, [.const (.int .i64 0)], some 4, none⟩,⟨.move, [.const (.bool false)], some 5, none⟩,⟨.move, [.const (.int .i64 5)], some 6, none⟩]) (.ret)) (.skip)))))) (.seq (.seq (.steps [⟨.loadN 2, [.tmp 7], some 46, none⟩,⟨.loadN 2, [.tmp 8], some 47, none⟩,⟨.callF 62, [.tmp 46, .tmp 47], some 48, none⟩,⟨.move, [.tmp 48], some 45, none⟩,⟨.extract 0, [.tmp 45], some 49, none⟩,⟨.extract 1, [.tmp 45], some 50, none⟩,⟨.move, [.tmp 49], some 9, none⟩,⟨.move, [.tmp 50], some 10, none⟩]) (.seq (.steps [⟨.move, [.tmp 10], some 51, none⟩]) (.cond (.tmp 51) (.seq (.steps [⟨.move, [.tmp 9], some 52, none⟩,⟨.move, [.tmp 52], some 4, none⟩,⟨.move, [.const (.bool false)], some 5, none⟩,⟨.move, [.const (.int .i64 0)], some 6, none⟩]) (.ret)) (.skip)))) (.seq (.seq (.drawn [(0,⟨.loadN 2, [.tmp 7], some 54, none⟩), (2,⟨.loadN 2, [.tmp 8], some 56, none⟩), (1,⟨.callF 63, [.tmp 54, .const (.int .i64 (-1))], some 55, none⟩), (3,⟨.callF 62, [.tmp 55, .tmp 56], some 57, none⟩), (4,⟨.move, [.tmp 57], some 53, none⟩), (5,⟨.extract 0, [.tmp 53], some 58, none⟩), (6,⟨.extract 1, [.tmp 53], some 59, none⟩), (7,⟨.move, [.tmp 58], some 11, none⟩), (8,⟨.move, [.tmp 59], some 12, none⟩)] [0, 1, 0, 7, 15, 31, 31, 63, 255]) (.seq (.steps [⟨.move, [.tmp 12], some 60, none⟩]) (.cond (.tmp 60) (.seq (.steps [⟨.move, [.tmp 11], some 61, none⟩,⟨.move, [.tmp 61], some 4, none⟩,⟨.move, [.const (.bool true)], some 5, none⟩,⟨.move, [.const (.int .i64 0)], some 6, none⟩]) (.ret)) (.skip)))) (.seq (.steps [⟨.move, [.const (.int .i64 0)], some 4, none⟩,⟨.move, [.const (.bool false)], some 5, none⟩,⟨.move, [.const (.int .i64 12)], some 6, none⟩]) (.ret))))))))) [.tmp 4, .tmp 5, .tmp 6]
theorem c21_ok : compF Tryz.prog 21 = some c21 := by kernel_rfl
theorem alike_ok' {p q : Int} {l l2 : List Int} {i j : Nat} (hll : l.length ≤ 1000000) (hll2 : l2.length ≤ 1000000) {H : Heap} {n : Nat} (hg : aget H 0 = some gl) (hrow : OldRow H n i l) (hrow2 : OldRow H n j l2) (hfr : Fresh H n) (hn : n + 500 < lim) (hn0 : 0 < n) :
 F Tryz.prog [0] 21 [sealV p i l, sealV q j l2] H n (fun v H' n' => Fin H n 200 H' n') := by
 refine F_of_comp c21_ok rfl ?_
 have hlim := limv
 refine WC_go hE hm ?_
 refine xNew (ob := .cells [.int .i64 p, gsl (i) (l.length)] 24 none) (mk := .ptr) hfr (by omega) rfl rfl rfl (by simp [semA, aBox, Value.cells, sealV]) ?_
 intro H1 a2 a3 a4
 have f5 := (a3 _ (by omega)).trans hg
 have f6 : l ≠ [] → aget H1 i = some (.cells (ints l) 3 (some 1)) := fun hne => by have hdm := (hrow hne).2; exact (a3 _ (by omega)).trans ((fun h => (hrow h).1) hne)
 have f7 : l2 ≠ [] → aget H1 j = some (.cells (ints l2) 3 (some 1)) := fun hne => by have hdm := (hrow2 hne).2; exact (a3 _ (by omega)).trans ((fun h => (hrow2 h).1) hne)
 refine xNew (ob := .cells [.int .i64 q, gsl (j) (l2.length)] 24 none) (mk := .ptr) a4 (by omega) rfl rfl rfl (by simp [semA, aBox, Value.cells, sealV]) ?_
 intro H8 a9 a10 a11
 have f12 := (a10 _ (by omega)).trans f5
 have f13 : l ≠ [] → aget H8 i = some (.cells (ints l) 3 (some 1)) := fun hne => by have hdm := (hrow hne).2; exact (a10 _ (by omega)).trans (f6 hne)
 have f14 : l2 ≠ [] → aget H8 j = some (.cells (ints l2) 3 (some 1)) := fun hne => by have hdm := (hrow2 hne).2; exact (a10 _ (by omega)).trans (f7 hne)
 have f15 := (a10 _ (by omega)).trans a2
 refine xP rfl rfl rfl rfl ?_
 refine xP rfl rfl rfl rfl ?_
 refine xP rfl rfl rfl rfl ?_
 refine RXn ?_
 refine WLv (lv1 2 rfl (lv1 3 rfl lv0)) ?_
 refine WC_go hE hm ?_
 refine xR (v := .agg #[.int .i64 p, gsl (i) (l.length)]) rfl rfl rfl (loadBox (xs := [.int .i64 p, gsl (i) (l.length)]) f15 rfl) ?_
 refine xC rfl rfl rfl rfl (opened_ok hll f12 (fun hne => ⟨f13 hne, by have := (hrow hne).2; omega⟩) a11 (by omega) (by omega)) ?_
 rintro _ H16 n16 ⟨F16, e16, p16, u16, rfl, hu16, hop16⟩
 have le16 := F16.le
 have rm16 := F16.room
 have f17 := (F16.keep _ (by omega)).trans f12
 have f18 : l ≠ [] → aget H16 i = some (.cells (ints l) 3 (some 1)) := fun hne => by have hdm := (hrow hne).2; exact (F16.keep _ (by omega)).trans (f13 hne)
 have f19 : l2 ≠ [] → aget H16 j = some (.cells (ints l2) 3 (some 1)) := fun hne => by have hdm := (hrow2 hne).2; exact (F16.keep _ (by omega)).trans (f14 hne)
 have f20 := (F16.keep _ (by omega)).trans f15
 have f21 := (F16.keep _ (by omega)).trans a9
 refine xP rfl rfl rfl rfl ?_
 refine xP rfl rfl rfl rfl ?_
 refine xP rfl rfl rfl rfl ?_
 refine xNew (ob := .cells [.int .i64 0, .int .u32 0] 75 none) (mk := .ptr) F16.fresh (by omega) rfl rfl rfl rfl ?_
 intro H22 a23 a24 a25
 have f26 := (a24 _ (by omega)).trans f17
 have f27 : l ≠ [] → aget H22 i = some (.cells (ints l) 3 (some 1)) := fun hne => by have hdm := (hrow hne).2; exact (a24 _ (by omega)).trans (f18 hne)
 have f28 : l2 ≠ [] → aget H22 j = some (.cells (ints l2) 3 (some 1)) := fun hne => by have hdm := (hrow2 hne).2; exact (a24 _ (by omega)).trans (f19 hne)
 have f29 := (a24 _ (by omega)).trans f20
 have f30 := (a24 _ (by omega)).trans f21
 refine xFill (ys := [.int .i64 p16, .int .u32 (u16 : Int)]) a23 rfl rfl (by simp only [List.all_cons, List.all_nil, gsl_cell1]; rfl) rfl rfl (by omega) ?_
 intro H31 b32 b33
 have f34 := (b33 _ (by omega)).trans f26
 have f35 : l ≠ [] → aget H31 i = some (.cells (ints l) 3 (some 1)) := fun hne => by have hdm := (hrow hne).2; exact (b33 _ (by omega)).trans (f27 hne)
 have f36 : l2 ≠ [] → aget H31 j = some (.cells (ints l2) 3 (some 1)) := fun hne => by have hdm := (hrow2 hne).2; exact (b33 _ (by omega)).trans (f28 hne)
 have f37 := (b33 _ (by omega)).trans f29
 have f38 := (b33 _ (by omega)).trans f30
 have g39 : Fresh H31 (n16 + 1) := fun q h1 h2 => by rw [b33 q (by omega)]; exact a25 q h1 h2
 refine xP rfl rfl rfl rfl ?_
 refine RXn ?_
 refine WLv (lv1 2 rfl (lv1 3 rfl (lv1 6 rfl (lv1 7 rfl lv0)))) ?_
 refine WC_seq ?_
 refine WC_go hE hm ?_
 refine xP rfl rfl rfl rfl ?_
 refine xNe rfl rfl ?_ ?_ <;> intro h19
 · skip
   refine RXn ?_
   refine WLv (lv1 2 rfl (lv1 3 rfl (lv1 6 rfl (lv1 7 rfl (lv1 19 rfl lv0))))) ?_
   refine WC_condT rfl ?_
   refine WC_go hE hm ?_
   refine xP rfl rfl rfl rfl ?_
   refine xP rfl rfl rfl rfl ?_
   refine xP rfl rfl rfl rfl ?_
   refine xP rfl rfl rfl rfl ?_
   refine RXn ?_
   refine WLv (lv1 4 rfl (lv1 5 rfl (lv1 6 rfl lv0))) ?_
   refine WC_ret ?_
   refine thenR ?_
   refine endR rfl ?_
   exact ⟨fun q hq => ((b33 q (by omega)).trans ((a24 q (by omega)).trans ((F16.keep q (by omega)).trans ((a10 q (by omega)).trans (a3 q (by omega)))))), g39, by omega, by omega⟩
 · skip
   obtain ⟨hpe16, hp, hl616, hxx16⟩ := hop16 h19
   obtain rfl := hpe16.symm
   refine RXn ?_
   refine WLv (lv1 2 rfl (lv1 3 rfl (lv1 6 rfl (lv1 7 rfl (lv1 19 rfl lv0))))) ?_
   refine WC_condF rfl ?_
   refine WC_skip ?_
   refine thenN ?_
   refine WLv (lv1 2 rfl (lv1 3 rfl (lv1 7 rfl lv0))) ?_
   refine WC_go hE hm ?_
   refine xR (v := .agg #[.int .i64 q, gsl (j) (l2.length)]) rfl rfl rfl (loadBox (xs := [.int .i64 q, gsl (j) (l2.length)]) f38 rfl) ?_
   refine xC rfl rfl rfl rfl (opened_ok hll2 f34 (fun hne => ⟨f36 hne, by have := (hrow2 hne).2; omega⟩) g39 (by omega) (by omega)) ?_
   rintro _ H40 n40 ⟨F40, e40, p40, u40, rfl, hu40, hop40⟩
   have le40 := F40.le
   have rm40 := F40.room
   have f41 := (F40.keep _ (by omega)).trans f34
   have f42 : l ≠ [] → aget H40 i = some (.cells (ints l) 3 (some 1)) := fun hne => by have hdm := (hrow hne).2; exact (F40.keep _ (by omega)).trans (f35 hne)
   have f43 : l2 ≠ [] → aget H40 j = some (.cells (ints l2) 3 (some 1)) := fun hne => by have hdm := (hrow2 hne).2; exact (F40.keep _ (by omega)).trans (f36 hne)
   have f44 := (F40.keep _ (by omega)).trans f37
   have f45 := (F40.keep _ (by omega)).trans f38
   have f46 := (F40.keep _ (by omega)).trans b32
   refine xP rfl rfl rfl rfl ?_
   refine xP rfl rfl rfl rfl ?_
   refine xP rfl rfl rfl rfl ?_
   refine xNew (ob := .cells [.int .i64 0, .int .u32 0] 75 none) (mk := .ptr) F40.fresh (by omega) rfl rfl rfl rfl ?_
   intro H47 a48 a49 a50
   have f51 := (a49 _ (by omega)).trans f41
   have f52 : l ≠ [] → aget H47 i = some (.cells (ints l) 3 (some 1)) := fun hne => by have hdm := (hrow hne).2; exact (a49 _ (by omega)).trans (f42 hne)
   have f53 : l2 ≠ [] → aget H47 j = some (.cells (ints l2) 3 (some 1)) := fun hne => by have hdm := (hrow2 hne).2; exact (a49 _ (by omega)).trans (f43 hne)
   have f54 := (a49 _ (by omega)).trans f44
   have f55 := (a49 _ (by omega)).trans f45
   have f56 := (a49 _ (by omega)).trans f46
   refine xFill (ys := [.int .i64 p40, .int .u32 (u40 : Int)]) a48 rfl rfl (by simp only [List.all_cons, List.all_nil, gsl_cell1]; rfl) rfl rfl (by omega) ?_
   intro H57 b58 b59
   have f60 := (b59 _ (by omega)).trans f51
   have f61 : l ≠ [] → aget H57 i = some (.cells (ints l) 3 (some 1)) := fun hne => by have hdm := (hrow hne).2; exact (b59 _ (by omega)).trans (f52 hne)
   have f62 : l2 ≠ [] → aget H57 j = some (.cells (ints l2) 3 (some 1)) := fun hne => by have hdm := (hrow2 hne).2; exact (b59 _ (by omega)).trans (f53 hne)
   have f63 := (b59 _ (by omega)).trans f54
   have f64 := (b59 _ (by omega)).trans f55
   have f65 := (b59 _ (by omega)).trans f56
   have g66 : Fresh H57 (n40 + 1) := fun q h1 h2 => by rw [b59 q (by omega)]; exact a50 q h1 h2
   refine xP rfl rfl rfl rfl ?_
   refine RXn ?_
   refine WLv (lv1 2 rfl (lv1 3 rfl (lv1 6 rfl (lv1 7 rfl (lv1 8 rfl lv0))))) ?_
   refine WC_seq ?_
   refine WC_block ?_
   refine WC_go hE hm ?_
   refine xP rfl rfl rfl rfl ?_
   refine xNe rfl rfl ?_ ?_ <;> intro h28
   · skip
     refine xP rfl rfl rfl rfl ?_
     refine RXn ?_
     refine WLv (lv1 2 rfl (lv1 3 rfl (lv1 6 rfl (lv1 7 rfl (lv1 8 rfl (lv1 26 rfl lv0)))))) ?_
     refine WC_condT rfl ?_
     refine WC_go hE hm ?_
     refine xP rfl rfl rfl rfl ?_
     refine xP rfl rfl rfl rfl ?_
     refine xP rfl rfl rfl rfl ?_
     refine xP rfl rfl rfl rfl ?_
     refine RXn ?_
     refine WLv (lv1 4 rfl (lv1 5 rfl (lv1 6 rfl lv0))) ?_
     refine WC_ret ?_
     refine blockR ?_
     refine thenR ?_
     refine endR rfl ?_
     exact ⟨fun q hq => ((b59 q (by omega)).trans ((a49 q (by omega)).trans ((F40.keep q (by omega)).trans ((b33 q (by omega)).trans ((a24 q (by omega)).trans ((F16.keep q (by omega)).trans ((a10 q (by omega)).trans (a3 q (by omega))))))))), g66, by omega, by omega⟩
   · skip
     obtain ⟨hpe40, hq, hl640, hxx40⟩ := hop40 h28
     obtain rfl := hpe40.symm
     refine xP rfl rfl rfl rfl ?_
     refine RXn ?_
     refine WLv (lv1 2 rfl (lv1 3 rfl (lv1 6 rfl (lv1 7 rfl (lv1 8 rfl (lv1 26 rfl lv0)))))) ?_
     refine WC_condF rfl ?_
     refine WC_go hE hm ?_
     refine xP rfl rfl rfl rfl ?_
     refine xR (v := .int .i64 p) rfl rfl rfl (ld1 (o := 0 + 0) f65 rfl) ?_
     refine xP rfl rfl rfl rfl ?_
     refine xR (v := .int .i64 q) rfl rfl rfl (ld1 (o := 0 + 0) b58 rfl) ?_
     refine xNe rfl rfl ?_ ?_ <;> intro h35
     · skip
       refine xP rfl rfl rfl rfl ?_
       refine xS rfl ?_
       refine xS rfl ?_
       refine xS rfl ?_
       refine xS rfl ?_
       refine xS rfl ?_
       refine xS rfl ?_
       refine xS rfl ?_
       refine xP rfl rfl rfl rfl ?_
       refine xP rfl rfl rfl rfl ?_
       refine RXn ?_
       refine WLv (lv1 7 rfl (lv1 8 rfl (lv1 30 rfl lv0))) ?_
       refine WC_condT rfl ?_
       refine WC_go hE hm ?_
       refine xP rfl rfl rfl rfl ?_
       refine xP rfl rfl rfl rfl ?_
       refine xP rfl rfl rfl rfl ?_
       refine RXn ?_
       refine WLv (lv1 4 rfl (lv1 5 rfl (lv1 6 rfl lv0))) ?_
       refine WC_ret ?_
       refine blockR ?_
       refine thenR ?_
       refine endR rfl ?_
       exact ⟨fun q hq => ((b59 q (by omega)).trans ((a49 q (by omega)).trans ((F40.keep q (by omega)).trans ((b33 q (by omega)).trans ((a24 q (by omega)).trans ((F16.keep q (by omega)).trans ((a10 q (by omega)).trans (a3 q (by omega))))))))), g66, by omega, by omega⟩
     · skip
       refine xP rfl rfl rfl rfl ?_
       refine xP rfl rfl rfl rfl ?_
       refine xR (v := gsl (i) (l.length)) rfl rfl rfl (ld1 (o := 0 + 1) f63 rfl) ?_
       refine xP (v := .int .i64 ((l.length : Nat) : Int)) rfl rfl rfl (SliceAt.gsl _ _).lenS ?_
       refine xP rfl rfl rfl rfl ?_
       refine xR (v := gsl (j) (l2.length)) rfl rfl rfl (ld1 (o := 0 + 1) f64 rfl) ?_
       refine xP (v := .int .i64 ((l2.length : Nat) : Int)) rfl rfl rfl (SliceAt.gsl _ _).lenS ?_
       refine xNe rfl rfl ?_ ?_ <;> intro h43
       · skip
         refine xP rfl rfl rfl rfl ?_
         refine xP rfl rfl rfl rfl ?_
         refine RXn ?_
         refine WLv (lv1 7 rfl (lv1 8 rfl (lv1 30 rfl lv0))) ?_
         refine WC_condT rfl ?_
         refine WC_go hE hm ?_
         refine xP rfl rfl rfl rfl ?_
         refine xP rfl rfl rfl rfl ?_
         refine xP rfl rfl rfl rfl ?_
         refine RXn ?_
         refine WLv (lv1 4 rfl (lv1 5 rfl (lv1 6 rfl lv0))) ?_
         refine WC_ret ?_
         refine blockR ?_
         refine thenR ?_
         refine endR rfl ?_
         exact ⟨fun q hq => ((b59 q (by omega)).trans ((a49 q (by omega)).trans ((F40.keep q (by omega)).trans ((b33 q (by omega)).trans ((a24 q (by omega)).trans ((F16.keep q (by omega)).trans ((a10 q (by omega)).trans (a3 q (by omega))))))))), g66, by omega, by omega⟩
       · skip
         refine xP rfl rfl rfl rfl ?_
         refine xP rfl rfl rfl rfl ?_
         refine RXn ?_
         refine WLv (lv1 7 rfl (lv1 8 rfl (lv1 30 rfl lv0))) ?_
         refine WC_condF rfl ?_
         refine WC_skip ?_
         refine blockN ?_
         refine thenN ?_
         refine WLv (lv1 7 rfl (lv1 8 rfl lv0)) ?_
         refine WC_seq ?_
         refine WC_go hE hm ?_
         refine xR (v := .agg #[.int .i64 p, .int .u32 (u16 : Int)]) rfl rfl rfl (loadBox (xs := [.int .i64 p, .int .u32 (u16 : Int)]) f65 rfl) ?_
         refine xR (v := .agg #[.int .i64 q, .int .u32 (u40 : Int)]) rfl rfl rfl (loadBox (xs := [.int .i64 q, .int .u32 (u40 : Int)]) b58 rfl) ?_
         refine xC rfl rfl rfl rfl (reaches_ok hp hu16 hu40 f60) ?_
         rintro _ H9 n9 ⟨⟨c67y, c67b, rfl⟩, hH9, hn9⟩
         obtain rfl := hH9.symm
         obtain rfl := hn9.symm
         refine xP rfl rfl rfl rfl ?_
         refine xP rfl rfl rfl rfl ?_
         refine xP rfl rfl rfl rfl ?_
         refine xP rfl rfl rfl rfl ?_
         refine xP rfl rfl rfl rfl ?_
         refine RXn ?_
         refine WLv (lv1 7 rfl (lv1 8 rfl (lv1 9 rfl (lv1 10 rfl lv0)))) ?_
         refine WC_go hE hm ?_
         refine xP rfl rfl rfl rfl ?_
         refine RXn ?_
         refine WLv (lv1 7 rfl (lv1 8 rfl (lv1 9 rfl (lv1 51 rfl lv0)))) ?_
         refine WC_cond rfl (fun h => ?_) (fun h => ?_)
         · skip
           refine WC_go hE hm ?_
           refine xP rfl rfl rfl rfl ?_
           refine xP rfl rfl rfl rfl ?_
           refine xP rfl rfl rfl rfl ?_
           refine xP rfl rfl rfl rfl ?_
           refine RXn ?_
           refine WLv (lv1 4 rfl (lv1 5 rfl (lv1 6 rfl lv0))) ?_
           refine WC_ret ?_
           refine thenR ?_
           refine endR rfl ?_
           exact ⟨fun q hq => ((b59 q (by omega)).trans ((a49 q (by omega)).trans ((F40.keep q (by omega)).trans ((b33 q (by omega)).trans ((a24 q (by omega)).trans ((F16.keep q (by omega)).trans ((a10 q (by omega)).trans (a3 q (by omega))))))))), g66, by omega, by omega⟩
         · skip
           refine WC_skip ?_
           refine thenN ?_
           refine WLv (lv1 7 rfl (lv1 8 rfl lv0)) ?_
           refine WC_seq ?_
           refine WC_goD hE hm ?_
           refine dR (v := .agg #[.int .i64 p, .int .u32 (u16 : Int)]) rfl rfl rfl (loadBox (xs := [.int .i64 p, .int .u32 (u16 : Int)]) f65 rfl) ?_
           refine dR (v := .agg #[.int .i64 q, .int .u32 (u40 : Int)]) rfl rfl rfl (loadBox (xs := [.int .i64 q, .int .u32 (u40 : Int)]) b58 rfl) ?_
           refine dC (f := 63) (args := [.agg #[.int .i64 p, .int .u32 (u16 : Int)], .int .i64 (-1)]) rfl rfl rfl rfl (times_ok hp hu16 f60) ?_
           rintro _ H9 n9 ⟨⟨w68, hw68, rfl⟩, hH9, hn9⟩
           obtain rfl := hH9.symm
           obtain rfl := hn9.symm
           refine ⟨stabSame, ?_⟩
           refine dC (f := 62) (args := [stampV p w68, .agg #[.int .i64 q, .int .u32 (u40 : Int)]]) rfl rfl rfl rfl (reaches_ok hp hw68 hu40 f60) ?_
           rintro _ H9 n9 ⟨⟨c69y, c69b, rfl⟩, hH9, hn9⟩
           obtain rfl := hH9.symm
           obtain rfl := hn9.symm
           refine ⟨stabSame, ?_⟩
           refine dX rfl (xP rfl rfl rfl rfl (RXn ?_))
           refine dX rfl (xP rfl rfl rfl rfl (RXn ?_))
           refine dX rfl (xP rfl rfl rfl rfl (RXn ?_))
           refine dX rfl (xP rfl rfl rfl rfl (RXn ?_))
           refine dX rfl (xP rfl rfl rfl rfl (RXn ?_))
           refine dNil ?_
           refine WLv (lv1 11 rfl (lv1 12 rfl lv0)) ?_
           refine WC_go hE hm ?_
           refine xP rfl rfl rfl rfl ?_
           refine RXn ?_
           refine WLv (lv1 11 rfl (lv1 60 rfl lv0)) ?_
           refine WC_cond rfl (fun h => ?_) (fun h => ?_)
           · skip
             refine WC_go hE hm ?_
             refine xP rfl rfl rfl rfl ?_
             refine xP rfl rfl rfl rfl ?_
             refine xP rfl rfl rfl rfl ?_
             refine xP rfl rfl rfl rfl ?_
             refine RXn ?_
             refine WLv (lv1 4 rfl (lv1 5 rfl (lv1 6 rfl lv0))) ?_
             refine WC_ret ?_
             refine thenR ?_
             refine endR rfl ?_
             exact ⟨fun q hq => ((b59 q (by omega)).trans ((a49 q (by omega)).trans ((F40.keep q (by omega)).trans ((b33 q (by omega)).trans ((a24 q (by omega)).trans ((F16.keep q (by omega)).trans ((a10 q (by omega)).trans (a3 q (by omega))))))))), g66, by omega, by omega⟩
           · skip
             refine WC_skip ?_
             refine thenN ?_
             refine WLv lv0 ?_
             refine WC_go hE hm ?_
             refine xP rfl rfl rfl rfl ?_
             refine xP rfl rfl rfl rfl ?_
             refine xP rfl rfl rfl rfl ?_
             refine RXn ?_
             refine WLv (lv1 4 rfl (lv1 5 rfl (lv1 6 rfl lv0))) ?_
             refine WC_ret ?_
             refine endR rfl ?_
             exact ⟨fun q hq => ((b59 q (by omega)).trans ((a49 q (by omega)).trans ((F40.keep q (by omega)).trans ((b33 q (by omega)).trans ((a24 q (by omega)).trans ((F16.keep q (by omega)).trans ((a10 q (by omega)).trans (a3 q (by omega))))))))), g66, by omega, by omega⟩
end Go.Proofs.YtmpogedhilfjgaaGreatDoor
set_option maxRecDepth 1000000
set_option maxHeartbeats 4000000
open Go Go.Cs
namespace Go.Proofs.YtmpogedhilfjgaaGreatDoor
def c43 : FC := FC.mk 43 (.seq (.steps [⟨.box 24, [.tmp 0], some 1, none⟩,⟨.move, [.const (.slice none 0 0)], some 2, none⟩,⟨.move, [.const (.int .i64 0)], some 3, none⟩]) (.seq (.steps [⟨.loadN 2, [.tmp 1], some 11, none⟩,⟨.callF 56, [.tmp 11], some 12, none⟩,⟨.move, [.tmp 12], some 10, none⟩,⟨.extract 0, [.tmp 10], some 13, none⟩,⟨.extract 1, [.tmp 10], some 14, none⟩,⟨.alloc 75 [.int .i64 0, .int .u32 0], [], some 4, none⟩,⟨.store 2, [.tmp 4, .tmp 13], none, none⟩,⟨.move, [.tmp 14], some 5, none⟩]) (.seq (.seq (.steps [⟨.move, [.tmp 5], some 15, none⟩,⟨.bin .neq, [.tmp 15, .const (.int .i64 0)], some 16, none⟩]) (.cond (.tmp 16) (.seq (.steps [⟨.move, [.tmp 5], some 17, none⟩,⟨.move, [.const (.slice none 0 0)], some 2, none⟩,⟨.move, [.tmp 17], some 3, none⟩]) (.ret)) (.skip))) (.seq (.steps [⟨.move, [.const (.slice none 0 0)], some 6, none⟩]) (.seq (.seq (.steps [⟨.move, [.const (.int .i64 1)], some 7, none⟩]) (.block 0 (.loop (.seq (.seq (.steps [⟨.move, [.tmp 7], some 18, none⟩,⟨.fieldAddr 0, [.tmp 1], some 19, none⟩,⟨.load1, [.tmp 19], some 20, none⟩,⟨.bin .leq, [.tmp 18, .tmp 20], some 21, none⟩]) (.cond (.tmp 21) (.skip) (.exit 0))) (.seq (.block 1 (.seq (.seq (.steps [⟨.move, [.tmp 7], some 24, none⟩,⟨.fieldAddr 0, [.tmp 1], some 25, none⟩,⟨.load1, [.tmp 25], some 26, none⟩,⟨.callF 76, [.tmp 24, .tmp 26], some 27, none⟩,⟨.un .not, [.tmp 27], some 28, none⟩]) (.cond (.tmp 28) (.exit 1) (.skip))) (.seq (.drawn [(0,⟨.loadN 2, [.tmp 4], some 30, none⟩), (1,⟨.move, [.tmp 7], some 31, none⟩), (3,⟨.loadN 2, [.tmp 4], some 33, none⟩), (2,⟨.callF 63, [.tmp 30, .tmp 31], some 32, none⟩), (4,⟨.callF 62, [.tmp 32, .tmp 33], some 34, none⟩), (5,⟨.move, [.tmp 34], some 29, none⟩), (6,⟨.extract 0, [.tmp 29], some 35, none⟩), (7,⟨.extract 1, [.tmp 29], some 36, none⟩), (8,⟨.move, [.tmp 35], some 8, none⟩), (9,⟨.move, [.tmp 36], some 9, none⟩)] [0, 0, 3, 0, 15, 31, 63, 63, 127, 511]) (.seq (.steps [⟨.move, [.tmp 9], some 37, none⟩]) (.cond (.tmp 37) (.steps [⟨.move, [.tmp 6], some 38, none⟩,⟨.move, [.tmp 7], some 39, none⟩,⟨.buildSlice 3 1 [.int .i64 0] [(0, 1)], [.tmp 39], some 40, none⟩,⟨.append 3 1 8 [.int .i64 0], [.tmp 38, .tmp 40], some 41, none⟩,⟨.move, [.tmp 41], some 6, none⟩]) (.skip)))))) (.steps [⟨.move, [.tmp 7], some 22, none⟩,⟨.bin .add, [.tmp 22, .const (.int .i64 1)], some 23, none⟩,⟨.move, [.tmp 23], some 7, none⟩])))))) (.seq (.steps [⟨.move, [.tmp 6], some 42, none⟩,⟨.move, [.tmp 42], some 2, none⟩,⟨.move, [.const (.int .i64 0)], some 3, none⟩]) (.ret))))))) [.tmp 2, .tmp 3]
theorem c43_ok : compF Tryz.prog 43 = some c43 := by kernel_rfl
theorem multipliers_ok {p : Int} {l : List Int} {i : Nat} (hll : l.length ≤ 1000000) {H : Heap} {n : Nat} (hg : aget H 0 = some gl) (hrow : OldRow H n i l) (hfr : Fresh H n) (hn : n + 20000 < lim) (hn0 : 0 < n) :
 F Tryz.prog [0] 43 [sealV p i l] H n (fun v H' n' => Fin H n 5000 H' n' ∧ ∃ (e : Int) (s : Value) (lo : List Int) (io : Nat) (gr : Option Nat), v = .tuple #[s, .int .i64 e] ∧ SliceAt s io 0 lo.length ∧ isHdr s = true ∧ s.cells.toList = [s] ∧ cell1 s = true ∧ lo.length ≤ 100 ∧ (lo ≠ [] → aget H' io = some (.cells (ints lo) 3 gr) ∧ n ≤ io ∧ io < n')) := by
 refine F_of_comp c43_ok rfl ?_
 have hlim := limv
 refine WC_go hE hm ?_
 refine xNew (ob := .cells [.int .i64 p, gsl (i) (l.length)] 24 none) (mk := .ptr) hfr (by omega) rfl rfl rfl (by simp [semA, aBox, Value.cells, sealV]) ?_
 intro H1 a2 a3 a4
 have f5 := (a3 _ (by omega)).trans hg
 have f6 : l ≠ [] → aget H1 i = some (.cells (ints l) 3 (some 1)) := fun hne => by have hdm := (hrow hne).2; exact (a3 _ (by omega)).trans ((fun h => (hrow h).1) hne)
 refine xP rfl rfl rfl rfl ?_
 refine xP rfl rfl rfl rfl ?_
 refine RXn ?_
 refine WLv (lv1 1 rfl lv0) ?_
 refine WC_go hE hm ?_
 refine xR (v := .agg #[.int .i64 p, gsl (i) (l.length)]) rfl rfl rfl (loadBox (xs := [.int .i64 p, gsl (i) (l.length)]) a2 rfl) ?_
 refine xC rfl rfl rfl rfl (opened_ok hll f5 (fun hne => ⟨f6 hne, by have := (hrow hne).2; omega⟩) a4 (by omega) (by omega)) ?_
 rintro _ H7 n7 ⟨F7, e7, p7, u7, rfl, hu7, hop7⟩
 have le7 := F7.le
 have rm7 := F7.room
 have f8 := (F7.keep _ (by omega)).trans f5
 have f9 : l ≠ [] → aget H7 i = some (.cells (ints l) 3 (some 1)) := fun hne => by have hdm := (hrow hne).2; exact (F7.keep _ (by omega)).trans (f6 hne)
 have f10 := (F7.keep _ (by omega)).trans a2
 refine xP rfl rfl rfl rfl ?_
 refine xP rfl rfl rfl rfl ?_
 refine xP rfl rfl rfl rfl ?_
 refine xNew (ob := .cells [.int .i64 0, .int .u32 0] 75 none) (mk := .ptr) F7.fresh (by omega) rfl rfl rfl rfl ?_
 intro H11 a12 a13 a14
 have f15 := (a13 _ (by omega)).trans f8
 have f16 : l ≠ [] → aget H11 i = some (.cells (ints l) 3 (some 1)) := fun hne => by have hdm := (hrow hne).2; exact (a13 _ (by omega)).trans (f9 hne)
 have f17 := (a13 _ (by omega)).trans f10
 refine xFill (ys := [.int .i64 p7, .int .u32 (u7 : Int)]) a12 rfl rfl (by simp only [List.all_cons, List.all_nil, gsl_cell1]; rfl) rfl rfl (by omega) ?_
 intro H18 b19 b20
 have f21 := (b20 _ (by omega)).trans f15
 have f22 : l ≠ [] → aget H18 i = some (.cells (ints l) 3 (some 1)) := fun hne => by have hdm := (hrow hne).2; exact (b20 _ (by omega)).trans (f16 hne)
 have f23 := (b20 _ (by omega)).trans f17
 have g24 : Fresh H18 (n7 + 1) := fun q h1 h2 => by rw [b20 q (by omega)]; exact a14 q h1 h2
 refine xP rfl rfl rfl rfl ?_
 refine RXn ?_
 refine WLv (lv1 1 rfl (lv1 4 rfl (lv1 5 rfl lv0))) ?_
 refine WC_seq ?_
 refine WC_go hE hm ?_
 refine xP rfl rfl rfl rfl ?_
 refine xNe rfl rfl ?_ ?_ <;> intro h16
 · skip
   refine RXn ?_
   refine WLv (lv1 1 rfl (lv1 4 rfl (lv1 5 rfl (lv1 16 rfl lv0)))) ?_
   refine WC_condT rfl ?_
   refine WC_go hE hm ?_
   refine xP rfl rfl rfl rfl ?_
   refine xP rfl rfl rfl rfl ?_
   refine xP rfl rfl rfl rfl ?_
   refine RXn ?_
   refine WLv (lv1 2 rfl (lv1 3 rfl lv0)) ?_
   refine WC_ret ?_
   refine thenR ?_
   refine endR rfl ?_
   exact ⟨⟨fun q hq => ((b20 q (by omega)).trans ((a13 q (by omega)).trans ((F7.keep q (by omega)).trans (a3 q (by omega))))), g24, by omega, by omega⟩, _, .slice none 0 0, [], 0, none, rfl, .nil 0 0, rfl, rfl, rfl, by decide, fun h => absurd rfl h⟩
 · skip
   obtain ⟨hpe7, hp, hl67, hxx7⟩ := hop7 h16
   obtain rfl := hpe7.symm
   refine RXn ?_
   refine WLv (lv1 1 rfl (lv1 4 rfl (lv1 5 rfl (lv1 16 rfl lv0)))) ?_
   refine WC_condF rfl ?_
   refine WC_skip ?_
   refine thenN ?_
   refine WLv (lv1 1 rfl (lv1 4 rfl lv0)) ?_
   refine WC_go hE hm ?_
   refine xP rfl rfl rfl rfl ?_
   refine RXn ?_
   refine WLv (lv1 1 rfl (lv1 4 rfl (lv1 6 rfl lv0))) ?_
   refine WC_seq ?_
   refine WC_go hE hm ?_
   refine xP rfl rfl rfl rfl ?_
   refine RXn ?_
   refine WLv (lv1 1 rfl (lv1 4 rfl (lv1 6 rfl (lv1 7 rfl lv0)))) ?_
   refine WC_block ?_
   refine WC_loopX (X := Nat × List Int × Nat × Heap × Nat) (fun y => { T := ofL [(1, .pointer (some ⟨n, 0, none⟩)), (4, .pointer (some ⟨n7, 0, none⟩)), (6, gsl y.2.2.1 y.2.1.length), (7, .int .i64 (y.1 : Int))], D := [], H := y.2.2.2.1, n := y.2.2.2.2 })
    (fun y => (1 ≤ y.1 ∧ (y.1 : Int) ≤ p + 1) ∧ y.2.1.length ≤ y.1 ∧ (y.2.1 ≠ [] → aget y.2.2.2.1 y.2.2.1 = some (.cells (ints y.2.1) 3 (some 1)) ∧ n7 + 1 ≤ y.2.2.1 ∧ y.2.2.1 < y.2.2.2.2) ∧ (y.2.1 = [] → lim ≤ y.2.2.1) ∧ (∀ q, q < n7 + 1 → aget y.2.2.2.1 q = aget H18 q) ∧ Fresh y.2.2.2.1 y.2.2.2.2 ∧ n7 + 1 ≤ y.2.2.2.2 ∧ y.2.2.2.2 ≤ n7 + 1 + 20 * y.1)
    (fun y => (p + 1).toNat - y.1) (1, [], lim, H18, n7 + 1) ⟨by dsimp only; omega, Nat.zero_le _, (fun h => absurd rfl h), (fun _ => Nat.le_refl _), (fun _ _ => rfl), g24, Nat.le_refl _, by dsimp only; omega⟩ ?_
   rintro ⟨k, lo, b, Hl, nl⟩ ⟨i1, i2, i4, i5, i6, i7, i8, i9⟩
   dsimp only at *
   have hbq : ∀ q, q < n7 + 1 → q ≠ b := fun q hq => by
    by_cases h0 : lo = []
    · have := i5 h0; omega
    · have := (i4 h0).2.1; omega
   have hbl25 := hbq (0) (by omega)
   have l25 := (i6 (0) (by omega)).trans f21
   have l26 : l ≠ [] → aget Hl i = some (.cells (ints l) 3 (some 1)) := fun hne => by have hdm := (hrow hne).2; exact (i6 _ (by omega)).trans (f22 hne)
   have hbl27 := hbq (n) (by omega)
   have l27 := (i6 (n) (by omega)).trans f23
   have hbl28 := hbq (n7) (by omega)
   have l28 := (i6 (n7) (by omega)).trans b19
   refine WC_seq ?_
   refine WC_go hE hm ?_
   refine xP rfl rfl rfl rfl ?_
   refine xP rfl rfl rfl rfl ?_
   refine xR (v := .int .i64 p) rfl rfl rfl (ld1 (o := 0 + 0) l27 rfl) ?_
   refine xCmp rfl rfl rfl rfl ?_ ?_ <;> intro h21
   · skip
     refine RXn ?_
     refine WLv (lv1 1 rfl (lv1 4 rfl (lv1 6 rfl (lv1 7 rfl (lv1 21 rfl lv0))))) ?_
     refine WC_condT rfl ?_
     refine WC_skip ?_
     refine thenN ?_
     refine WLv (lv1 1 rfl (lv1 4 rfl (lv1 6 rfl (lv1 7 rfl lv0)))) ?_
     refine WC_seq ?_
     refine WC_block ?_
     refine WC_seq ?_
     refine WC_go hE hm ?_
     refine xP rfl rfl rfl rfl ?_
     refine xP rfl rfl rfl rfl ?_
     refine xR (v := .int .i64 p) rfl rfl rfl (ld1 (o := 0 + 0) l27 rfl) ?_
     refine xC rfl rfl rfl rfl (prime_ok ⟨by omega, by omega⟩ ⟨by omega, by omega⟩ l25) ?_
     rintro _ H9 n9 ⟨⟨c29, rfl⟩, hH9, hn9⟩
     obtain rfl := hH9.symm
     obtain rfl := hn9.symm
     refine xP rfl rfl rfl rfl ?_
     refine RXn ?_
     refine WLv (lv1 1 rfl (lv1 4 rfl (lv1 6 rfl (lv1 7 rfl (lv1 28 rfl lv0))))) ?_
     refine WC_cond rfl (fun h => ?_) (fun h => ?_)
     · skip
       refine WC_exit ?_
       refine thenE ?_
       refine blockE ?_
       refine thenN ?_
       refine WLv (lv1 1 rfl (lv1 4 rfl (lv1 6 rfl (lv1 7 rfl lv0)))) ?_
       refine WC_steps hE hm ?_
       refine xP rfl rfl rfl rfl ?_
       refine xAdd rfl rfl (by omega) ?_
       refine xP rfl rfl rfl rfl ?_
       refine RXn ?_
       refine thenN ⟨(k + 1, lo, b, Hl, nl), ⟨by dsimp only; omega, by dsimp only; omega, (fun h => ⟨(fun h => (i4 h).1) h, (i4 h).2.1, by have := (i4 h).2.2; dsimp only; omega⟩), i5, (fun q hq => by have hbq2 := hbq q hq; exact (i6 q (by omega))), i7, by dsimp only; omega, by dsimp only; omega⟩, by dsimp only; omega, Le.live (lv1 1 rfl (lv1 4 rfl (lv1 6 rfl (lv1 7 rfl lv0))))⟩
     · skip
       refine WC_skip ?_
       refine thenN ?_
       refine WLv (lv1 1 rfl (lv1 4 rfl (lv1 6 rfl (lv1 7 rfl lv0)))) ?_
       refine WC_goD hE hm ?_
       refine dR (v := .agg #[.int .i64 p, .int .u32 (u7 : Int)]) rfl rfl rfl (loadBox (xs := [.int .i64 p, .int .u32 (u7 : Int)]) l28 rfl) ?_
       refine dX rfl (xP rfl rfl rfl rfl (RXn ?_))
       refine dR (v := .agg #[.int .i64 p, .int .u32 (u7 : Int)]) rfl rfl rfl (loadBox (xs := [.int .i64 p, .int .u32 (u7 : Int)]) l28 rfl) ?_
       refine dC (f := 63) (args := [.agg #[.int .i64 p, .int .u32 (u7 : Int)], .int .i64 (k : Int)]) rfl rfl rfl rfl (times_ok hp hu7 l25) ?_
       rintro _ H9 n9 ⟨⟨w30, hw30, rfl⟩, hH9, hn9⟩
       obtain rfl := hH9.symm
       obtain rfl := hn9.symm
       refine ⟨stabSame, ?_⟩
       refine dC (f := 62) (args := [stampV p w30, .agg #[.int .i64 p, .int .u32 (u7 : Int)]]) rfl rfl rfl rfl (reaches_ok hp hw30 hu7 l25) ?_
       rintro _ H9 n9 ⟨⟨c31y, c31b, rfl⟩, hH9, hn9⟩
       obtain rfl := hH9.symm
       obtain rfl := hn9.symm
       refine ⟨stabSame, ?_⟩
       refine dX rfl (xP rfl rfl rfl rfl (RXn ?_))
       refine dX rfl (xP rfl rfl rfl rfl (RXn ?_))
       refine dX rfl (xP rfl rfl rfl rfl (RXn ?_))
       refine dX rfl (xP rfl rfl rfl rfl (RXn ?_))
       refine dX rfl (xP rfl rfl rfl rfl (RXn ?_))
       refine dNil ?_
       refine WLv (lv1 1 rfl (lv1 4 rfl (lv1 6 rfl (lv1 7 rfl (lv1 9 rfl lv0))))) ?_
       refine WC_go hE hm ?_
       refine xP rfl rfl rfl rfl ?_
       refine RXn ?_
       refine WLv (lv1 1 rfl (lv1 4 rfl (lv1 6 rfl (lv1 7 rfl (lv1 37 rfl lv0))))) ?_
       refine WC_cond rfl (fun h => ?_) (fun h => ?_)
       · skip
         refine WC_steps hE hm ?_
         refine xP rfl rfl rfl rfl ?_
         refine xP rfl rfl rfl rfl ?_
         refine eye_app (t := 3) (i := b) (l := lo) (x := (k : Int)) rfl i7 (by omega) (fun h => ⟨(fun h => (i4 h).1) h, by have := (i4 h).2; omega⟩) i5 (by omega) rfl (fun v => rfl) ?_
         intro H32 e33 e34 e35
         have f36 := (e34 _ (by omega) (by omega)).trans l25
         have f37 : l ≠ [] → aget H32 i = some (.cells (ints l) 3 (some 1)) := fun hne => by have hdm := (hrow hne).2; have hbl := hbq (i) (by omega); exact (e34 _ (by omega) (by omega)).trans (l26 hne)
         have f38 := (e34 _ (by omega) (by omega)).trans l27
         have f39 := (e34 _ (by omega) (by omega)).trans l28
         refine xP rfl rfl rfl rfl ?_
         refine RXn ?_
         refine blockN ?_
         refine thenN ?_
         refine WLv (lv1 1 rfl (lv1 4 rfl (lv1 6 rfl (lv1 7 rfl lv0)))) ?_
         refine WC_steps hE hm ?_
         refine xP rfl rfl rfl rfl ?_
         refine xAdd rfl rfl (by omega) ?_
         refine xP rfl rfl rfl rfl ?_
         refine RXn ?_
         refine thenN ⟨(k + 1, (lo ++ [(k : Int)]), nl + 1, H32, nl + 2), ⟨by dsimp only; omega, by simp only [List.length_append, List.length_cons, List.length_nil]; omega, (fun _ => ⟨e33, by dsimp only; omega, by dsimp only; omega⟩), (fun h => by simp at h), (fun q hq => by have hbq2 := hbq q hq; exact ((e34 q (by omega) (by omega)).trans (i6 q (by omega)))), e35, by dsimp only; omega, by dsimp only; omega⟩, by dsimp only; omega, Le.live (lv1 1 rfl (lv1 4 rfl (lv1 6 (by simp only [List.length_append]; rfl) (lv1 7 rfl lv0))))⟩
       · skip
         refine WC_skip ?_
         refine blockN ?_
         refine thenN ?_
         refine WLv (lv1 1 rfl (lv1 4 rfl (lv1 6 rfl (lv1 7 rfl lv0)))) ?_
         refine WC_steps hE hm ?_
         refine xP rfl rfl rfl rfl ?_
         refine xAdd rfl rfl (by omega) ?_
         refine xP rfl rfl rfl rfl ?_
         refine RXn ?_
         refine thenN ⟨(k + 1, lo, b, Hl, nl), ⟨by dsimp only; omega, by dsimp only; omega, (fun h => ⟨(fun h => (i4 h).1) h, (i4 h).2.1, by have := (i4 h).2.2; dsimp only; omega⟩), i5, (fun q hq => by have hbq2 := hbq q hq; exact (i6 q (by omega))), i7, by dsimp only; omega, by dsimp only; omega⟩, by dsimp only; omega, Le.live (lv1 1 rfl (lv1 4 rfl (lv1 6 rfl (lv1 7 rfl lv0))))⟩
   · skip
     refine RXn ?_
     refine WLv (lv1 1 rfl (lv1 4 rfl (lv1 6 rfl (lv1 7 rfl (lv1 21 rfl lv0))))) ?_
     refine WC_condF rfl ?_
     refine WC_exit ?_
     refine thenE ?_
     refine thenE ?_
     refine blockE ?_
     refine thenN ?_
     refine WLv (lv1 6 rfl lv0) ?_
     refine WC_go hE hm ?_
     refine xP rfl rfl rfl rfl ?_
     refine xP rfl rfl rfl rfl ?_
     refine xP rfl rfl rfl rfl ?_
     refine RXn ?_
     refine WLv (lv1 2 rfl (lv1 3 rfl lv0)) ?_
     refine WC_ret ?_
     refine endR rfl ?_
     have isH : isHdr (gsl b lo.length) = true := by generalize lo.length = kk; cases kk <;> rfl
     exact ⟨⟨fun q hq => ((i6 q (by omega)).trans ((b20 q (by omega)).trans ((a13 q (by omega)).trans ((F7.keep q (by omega)).trans (a3 q (by omega)))))), i7, by omega, by omega⟩, _, gsl b lo.length, lo, b, some 1, rfl, .gsl _ _, isH, gsl_cells _ _, gsl_cell1 _ _, by omega, fun h => ⟨(fun h => (i4 h).1) h, by have := (i4 h); omega, by have := (i4 h); omega⟩⟩
end Go.Proofs.YtmpogedhilfjgaaGreatDoor
set_option maxRecDepth 1000000
set_option maxHeartbeats 4000000
open Go Go.Cs
namespace Go.Proofs.YtmpogedhilfjgaaGreatDoor
def c23 : FC := FC.mk 16 (.seq (.steps [⟨.box 24, [.tmp 0], some 1, none⟩,⟨.move, [.const (.slice none 0 0)], some 2, none⟩,⟨.move, [.const (.int .i64 0)], some 3, none⟩]) (.seq (.steps [⟨.loadN 2, [.tmp 1], some 7, none⟩,⟨.callF 56, [.tmp 7], some 8, none⟩,⟨.move, [.tmp 8], some 6, none⟩,⟨.extract 0, [.tmp 6], some 9, none⟩,⟨.extract 1, [.tmp 6], some 10, none⟩,⟨.alloc 75 [.int .i64 0, .int .u32 0], [], some 4, none⟩,⟨.store 2, [.tmp 4, .tmp 9], none, none⟩,⟨.move, [.tmp 10], some 5, none⟩]) (.seq (.seq (.steps [⟨.move, [.tmp 5], some 11, none⟩,⟨.bin .neq, [.tmp 11, .const (.int .i64 0)], some 12, none⟩]) (.cond (.tmp 12) (.seq (.steps [⟨.move, [.tmp 5], some 13, none⟩,⟨.move, [.const (.slice none 0 0)], some 2, none⟩,⟨.move, [.tmp 13], some 3, none⟩]) (.ret)) (.skip))) (.seq (.steps [⟨.loadN 2, [.tmp 4], some 14, none⟩,⟨.callF 64, [.tmp 14], some 15, none⟩,⟨.move, [.tmp 15], some 2, none⟩,⟨.move, [.const (.int .i64 0)], some 3, none⟩]) (.ret))))) [.tmp 2, .tmp 3]
theorem c23_ok : compF Tryz.prog 23 = some c23 := by kernel_rfl
theorem distancesOf_ok {p : Int} {l : List Int} {i : Nat} (hll : l.length ≤ 1000000) {H : Heap} {n : Nat} (hg : aget H 0 = some gl) (hrow : OldRow H n i l) (hfr : Fresh H n) (hn : n + 20000 < lim) (hn0 : 0 < n) :
 F Tryz.prog [0] 23 [sealV p i l] H n (fun v H' n' => Fin H n 5000 H' n' ∧ ∃ (e : Int) (s : Value) (lo : List Int) (io : Nat) (gr : Option Nat), v = .tuple #[s, .int .i64 e] ∧ SliceAt s io 0 lo.length ∧ isHdr s = true ∧ s.cells.toList = [s] ∧ cell1 s = true ∧ lo.length ≤ 100 ∧ (lo ≠ [] → aget H' io = some (.cells (ints lo) 3 gr) ∧ n ≤ io ∧ io < n')) := by
 refine F_of_comp c23_ok rfl ?_
 have hlim := limv
 refine WC_go hE hm ?_
 refine xNew (ob := .cells [.int .i64 p, gsl (i) (l.length)] 24 none) (mk := .ptr) hfr (by omega) rfl rfl rfl (by simp [semA, aBox, Value.cells, sealV]) ?_
 intro H1 a2 a3 a4
 have f5 := (a3 _ (by omega)).trans hg
 have f6 : l ≠ [] → aget H1 i = some (.cells (ints l) 3 (some 1)) := fun hne => by have hdm := (hrow hne).2; exact (a3 _ (by omega)).trans ((fun h => (hrow h).1) hne)
 refine xP rfl rfl rfl rfl ?_
 refine xP rfl rfl rfl rfl ?_
 refine RXn ?_
 refine WLv (lv1 1 rfl lv0) ?_
 refine WC_go hE hm ?_
 refine xR (v := .agg #[.int .i64 p, gsl (i) (l.length)]) rfl rfl rfl (loadBox (xs := [.int .i64 p, gsl (i) (l.length)]) a2 rfl) ?_
 refine xC rfl rfl rfl rfl (opened_ok hll f5 (fun hne => ⟨f6 hne, by have := (hrow hne).2; omega⟩) a4 (by omega) (by omega)) ?_
 rintro _ H7 n7 ⟨F7, e7, p7, u7, rfl, hu7, hop7⟩
 have le7 := F7.le
 have rm7 := F7.room
 have f8 := (F7.keep _ (by omega)).trans f5
 have f9 : l ≠ [] → aget H7 i = some (.cells (ints l) 3 (some 1)) := fun hne => by have hdm := (hrow hne).2; exact (F7.keep _ (by omega)).trans (f6 hne)
 have f10 := (F7.keep _ (by omega)).trans a2
 refine xP rfl rfl rfl rfl ?_
 refine xP rfl rfl rfl rfl ?_
 refine xP rfl rfl rfl rfl ?_
 refine xNew (ob := .cells [.int .i64 0, .int .u32 0] 75 none) (mk := .ptr) F7.fresh (by omega) rfl rfl rfl rfl ?_
 intro H11 a12 a13 a14
 have f15 := (a13 _ (by omega)).trans f8
 have f16 : l ≠ [] → aget H11 i = some (.cells (ints l) 3 (some 1)) := fun hne => by have hdm := (hrow hne).2; exact (a13 _ (by omega)).trans (f9 hne)
 have f17 := (a13 _ (by omega)).trans f10
 refine xFill (ys := [.int .i64 p7, .int .u32 (u7 : Int)]) a12 rfl rfl (by simp only [List.all_cons, List.all_nil, gsl_cell1]; rfl) rfl rfl (by omega) ?_
 intro H18 b19 b20
 have f21 := (b20 _ (by omega)).trans f15
 have f22 : l ≠ [] → aget H18 i = some (.cells (ints l) 3 (some 1)) := fun hne => by have hdm := (hrow hne).2; exact (b20 _ (by omega)).trans (f16 hne)
 have f23 := (b20 _ (by omega)).trans f17
 have g24 : Fresh H18 (n7 + 1) := fun q h1 h2 => by rw [b20 q (by omega)]; exact a14 q h1 h2
 refine xP rfl rfl rfl rfl ?_
 refine RXn ?_
 refine WLv (lv1 4 rfl (lv1 5 rfl lv0)) ?_
 refine WC_seq ?_
 refine WC_go hE hm ?_
 refine xP rfl rfl rfl rfl ?_
 refine xNe rfl rfl ?_ ?_ <;> intro h12
 · skip
   refine RXn ?_
   refine WLv (lv1 4 rfl (lv1 5 rfl (lv1 12 rfl lv0))) ?_
   refine WC_condT rfl ?_
   refine WC_go hE hm ?_
   refine xP rfl rfl rfl rfl ?_
   refine xP rfl rfl rfl rfl ?_
   refine xP rfl rfl rfl rfl ?_
   refine RXn ?_
   refine WLv (lv1 2 rfl (lv1 3 rfl lv0)) ?_
   refine WC_ret ?_
   refine thenR ?_
   refine endR rfl ?_
   exact ⟨⟨fun q hq => ((b20 q (by omega)).trans ((a13 q (by omega)).trans ((F7.keep q (by omega)).trans (a3 q (by omega))))), g24, by omega, by omega⟩, _, .slice none 0 0, [], 0, none, rfl, .nil 0 0, rfl, rfl, rfl, by decide, fun h => absurd rfl h⟩
 · skip
   obtain ⟨hpe7, hp, hl67, hxx7⟩ := hop7 h12
   obtain rfl := hpe7.symm
   refine RXn ?_
   refine WLv (lv1 4 rfl (lv1 5 rfl (lv1 12 rfl lv0))) ?_
   refine WC_condF rfl ?_
   refine WC_skip ?_
   refine thenN ?_
   refine WLv (lv1 4 rfl lv0) ?_
   refine WC_go hE hm ?_
   refine xR (v := .agg #[.int .i64 p, .int .u32 (u7 : Int)]) rfl rfl rfl (loadBox (xs := [.int .i64 p, .int .u32 (u7 : Int)]) b19 rfl) ?_
   refine xC rfl rfl rfl rfl (distances_ok (p := p) (by omega) hu7 f21 g24 (by omega) (by omega)) ?_
   rintro _ H25 n25 ⟨F25, l25, i25, rfl, hl25, g25, hx25, hy25⟩
   have le25 := F25.le
   have rm25 := F25.room
   have f26 := (F25.keep _ (by omega)).trans f21
   have f27 : l ≠ [] → aget H25 i = some (.cells (ints l) 3 (some 1)) := fun hne => by have hdm := (hrow hne).2; exact (F25.keep _ (by omega)).trans (f22 hne)
   have f28 := (F25.keep _ (by omega)).trans f23
   have f29 := (F25.keep _ (by omega)).trans b19
   refine xP rfl rfl rfl rfl ?_
   refine xP rfl rfl rfl rfl ?_
   refine RXn ?_
   refine WLv (lv1 2 rfl (lv1 3 rfl lv0)) ?_
   refine WC_ret ?_
   refine endR rfl ?_
   exact ⟨⟨fun q hq => ((F25.keep q (by omega)).trans ((b20 q (by omega)).trans ((a13 q (by omega)).trans ((F7.keep q (by omega)).trans (a3 q (by omega)))))), F25.fresh, by omega, by omega⟩, _, .slice (some ⟨i25, 0, none⟩) l25.length l25.length, l25, i25, none, rfl, .mk .. , rfl, rfl, rfl, by omega, fun _ => ⟨g25, by omega, by omega⟩⟩
end Go.Proofs.YtmpogedhilfjgaaGreatDoor
set_option maxRecDepth 1000000
set_option maxHeartbeats 4000000
open Go Go.Cs
namespace Go.Proofs.YtmpogedhilfjgaaGreatDoor
def c10 : FC := FC.mk 53 (.seq (.steps [⟨.box 24, [.tmp 0], some 1, none⟩,⟨.move, [.const (.slice none 0 0)], some 2, none⟩,⟨.move, [.const (.int .i64 0)], some 3, none⟩]) (.seq (.steps [⟨.loadN 2, [.tmp 1], some 11, none⟩,⟨.callF 56, [.tmp 11], some 12, none⟩,⟨.move, [.tmp 12], some 10, none⟩,⟨.extract 0, [.tmp 10], some 13, none⟩,⟨.extract 1, [.tmp 10], some 14, none⟩,⟨.alloc 75 [.int .i64 0, .int .u32 0], [], some 4, none⟩,⟨.store 2, [.tmp 4, .tmp 13], none, none⟩,⟨.move, [.tmp 14], some 5, none⟩]) (.seq (.block 0 (.seq (.steps [⟨.move, [.tmp 5], some 16, none⟩,⟨.bin .neq, [.tmp 16, .const (.int .i64 0)], some 17, none⟩,⟨.move, [.tmp 17], some 15, none⟩]) (.cond (.tmp 15) (.seq (.steps [⟨.move, [.tmp 5], some 18, none⟩,⟨.move, [.const (.slice none 0 0)], some 2, none⟩,⟨.move, [.tmp 18], some 3, none⟩]) (.ret)) (.seq (.steps [⟨.fieldAddr 1, [.tmp 4], some 20, none⟩,⟨.load1, [.tmp 20], some 21, none⟩,⟨.bin .eql, [.tmp 21, .const (.int .u32 0)], some 22, none⟩,⟨.move, [.tmp 22], some 19, none⟩]) (.cond (.tmp 19) (.seq (.steps [⟨.move, [.const (.slice none 0 0)], some 2, none⟩,⟨.move, [.const (.int .i64 4)], some 3, none⟩]) (.ret)) (.skip)))))) (.seq (.steps [⟨.move, [.const (.slice none 0 0)], some 6, none⟩]) (.seq (.seq (.steps [⟨.fieldAddr 1, [.tmp 1], some 23, none⟩,⟨.load1, [.tmp 23], some 24, none⟩,⟨.lenS, [.tmp 24], some 25, none⟩,⟨.move, [.const (.int .i64 0)], some 26, none⟩]) (.block 1 (.loop (.seq (.steps [⟨.bin .lss, [.tmp 26, .tmp 25], some 27, none⟩]) (.seq (.cond (.tmp 27) (.skip) (.exit 1)) (.seq (.block 2 (.seq (.steps [⟨.move, [.tmp 26], some 28, none⟩,⟨.indexAddrS 1, [.tmp 24, .tmp 26], some 29, none⟩,⟨.load1, [.tmp 29], some 30, none⟩,⟨.move, [.tmp 28], some 7, none⟩,⟨.move, [.tmp 30], some 8, none⟩]) (.seq (.steps [⟨.fieldAddr 1, [.tmp 1], some 31, none⟩,⟨.load1, [.tmp 31], some 32, none⟩,⟨.move, [.tmp 7], some 33, none⟩,⟨.bin .add, [.tmp 33, .const (.int .i64 1)], some 34, none⟩,⟨.fieldAddr 1, [.tmp 1], some 35, none⟩,⟨.load1, [.tmp 35], some 36, none⟩,⟨.lenS, [.tmp 36], some 37, none⟩,⟨.bin .rem, [.tmp 34, .tmp 37], some 38, none⟩,⟨.indexAddrS 1, [.tmp 32, .tmp 38], some 39, none⟩,⟨.load1, [.tmp 39], some 40, none⟩,⟨.move, [.tmp 40], some 9, none⟩]) (.steps [⟨.move, [.tmp 6], some 41, none⟩,⟨.loadN 2, [.tmp 4], some 42, none⟩,⟨.move, [.tmp 9], some 43, none⟩,⟨.move, [.tmp 8], some 44, none⟩,⟨.bin .sub, [.tmp 43, .tmp 44], some 45, none⟩,⟨.bin .sub, [.tmp 45, .const (.int .i64 1)], some 46, none⟩,⟨.callF 57, [.tmp 42, .tmp 46], some 47, none⟩,⟨.bin .add, [.tmp 47, .const (.int .i64 1)], some 48, none⟩,⟨.buildSlice 3 1 [.int .i64 0] [(0, 1)], [.tmp 48], some 49, none⟩,⟨.append 3 1 8 [.int .i64 0], [.tmp 41, .tmp 49], some 50, none⟩,⟨.move, [.tmp 50], some 6, none⟩])))) (.steps [⟨.bin .add, [.tmp 26, .const (.int .i64 1)], some 51, none⟩,⟨.move, [.tmp 51], some 26, none⟩]))))))) (.seq (.steps [⟨.move, [.tmp 6], some 52, none⟩,⟨.move, [.tmp 52], some 2, none⟩,⟨.move, [.const (.int .i64 0)], some 3, none⟩]) (.ret))))))) [.tmp 2, .tmp 3]
theorem c10_ok : compF Tryz.prog 10 = some c10 := by kernel_rfl
theorem gaps_ok {p : Int} {l : List Int} {i : Nat} (hll : l.length ≤ 1000000) {H : Heap} {n : Nat} (hg : aget H 0 = some gl) (hrow : OldRow H n i l) (hfr : Fresh H n) (hn : n + 20000 < lim) (hn0 : 0 < n) :
 F Tryz.prog [0] 10 [sealV p i l] H n (fun v H' n' => Fin H n 5000 H' n' ∧ ∃ (e : Int) (s : Value) (lo : List Int) (io : Nat) (gr : Option Nat), v = .tuple #[s, .int .i64 e] ∧ SliceAt s io 0 lo.length ∧ isHdr s = true ∧ s.cells.toList = [s] ∧ cell1 s = true ∧ lo.length ≤ 100 ∧ (lo ≠ [] → aget H' io = some (.cells (ints lo) 3 gr) ∧ n ≤ io ∧ io < n')) := by
 refine F_of_comp c10_ok rfl ?_
 have hlim := limv
 refine WC_go hE hm ?_
 refine xNew (ob := .cells [.int .i64 p, gsl (i) (l.length)] 24 none) (mk := .ptr) hfr (by omega) rfl rfl rfl (by simp [semA, aBox, Value.cells, sealV]) ?_
 intro H1 a2 a3 a4
 have f5 := (a3 _ (by omega)).trans hg
 have f6 : l ≠ [] → aget H1 i = some (.cells (ints l) 3 (some 1)) := fun hne => by have hdm := (hrow hne).2; exact (a3 _ (by omega)).trans ((fun h => (hrow h).1) hne)
 refine xP rfl rfl rfl rfl ?_
 refine xP rfl rfl rfl rfl ?_
 refine RXn ?_
 refine WLv (lv1 1 rfl lv0) ?_
 refine WC_go hE hm ?_
 refine xR (v := .agg #[.int .i64 p, gsl (i) (l.length)]) rfl rfl rfl (loadBox (xs := [.int .i64 p, gsl (i) (l.length)]) a2 rfl) ?_
 refine xC rfl rfl rfl rfl (opened_ok hll f5 (fun hne => ⟨f6 hne, by have := (hrow hne).2; omega⟩) a4 (by omega) (by omega)) ?_
 rintro _ H7 n7 ⟨F7, e7, p7, u7, rfl, hu7, hop7⟩
 have le7 := F7.le
 have rm7 := F7.room
 have f8 := (F7.keep _ (by omega)).trans f5
 have f9 : l ≠ [] → aget H7 i = some (.cells (ints l) 3 (some 1)) := fun hne => by have hdm := (hrow hne).2; exact (F7.keep _ (by omega)).trans (f6 hne)
 have f10 := (F7.keep _ (by omega)).trans a2
 refine xP rfl rfl rfl rfl ?_
 refine xP rfl rfl rfl rfl ?_
 refine xP rfl rfl rfl rfl ?_
 refine xNew (ob := .cells [.int .i64 0, .int .u32 0] 75 none) (mk := .ptr) F7.fresh (by omega) rfl rfl rfl rfl ?_
 intro H11 a12 a13 a14
 have f15 := (a13 _ (by omega)).trans f8
 have f16 : l ≠ [] → aget H11 i = some (.cells (ints l) 3 (some 1)) := fun hne => by have hdm := (hrow hne).2; exact (a13 _ (by omega)).trans (f9 hne)
 have f17 := (a13 _ (by omega)).trans f10
 refine xFill (ys := [.int .i64 p7, .int .u32 (u7 : Int)]) a12 rfl rfl (by simp only [List.all_cons, List.all_nil, gsl_cell1]; rfl) rfl rfl (by omega) ?_
 intro H18 b19 b20
 have f21 := (b20 _ (by omega)).trans f15
 have f22 : l ≠ [] → aget H18 i = some (.cells (ints l) 3 (some 1)) := fun hne => by have hdm := (hrow hne).2; exact (b20 _ (by omega)).trans (f16 hne)
 have f23 := (b20 _ (by omega)).trans f17
 have g24 : Fresh H18 (n7 + 1) := fun q h1 h2 => by rw [b20 q (by omega)]; exact a14 q h1 h2
 refine xP rfl rfl rfl rfl ?_
 refine RXn ?_
 refine WLv (lv1 1 rfl (lv1 4 rfl (lv1 5 rfl lv0))) ?_
 refine WC_seq ?_
 refine WC_block ?_
 refine WC_go hE hm ?_
 refine xP rfl rfl rfl rfl ?_
 refine xNe rfl rfl ?_ ?_ <;> intro h17
 · skip
   refine xP rfl rfl rfl rfl ?_
   refine RXn ?_
   refine WLv (lv1 1 rfl (lv1 4 rfl (lv1 5 rfl (lv1 15 rfl lv0)))) ?_
   refine WC_condT rfl ?_
   refine WC_go hE hm ?_
   refine xP rfl rfl rfl rfl ?_
   refine xP rfl rfl rfl rfl ?_
   refine xP rfl rfl rfl rfl ?_
   refine RXn ?_
   refine WLv (lv1 2 rfl (lv1 3 rfl lv0)) ?_
   refine WC_ret ?_
   refine blockR ?_
   refine thenR ?_
   refine endR rfl ?_
   exact ⟨⟨fun q hq => ((b20 q (by omega)).trans ((a13 q (by omega)).trans ((F7.keep q (by omega)).trans (a3 q (by omega))))), g24, by omega, by omega⟩, _, .slice none 0 0, [], 0, none, rfl, .nil 0 0, rfl, rfl, rfl, by decide, fun h => absurd rfl h⟩
 · skip
   obtain ⟨hpe7, hp, hl67, hxx7⟩ := hop7 h17
   obtain rfl := hpe7.symm
   refine xP rfl rfl rfl rfl ?_
   refine RXn ?_
   refine WLv (lv1 1 rfl (lv1 4 rfl (lv1 5 rfl (lv1 15 rfl lv0)))) ?_
   refine WC_condF rfl ?_
   refine WC_go hE hm ?_
   refine xP rfl rfl rfl rfl ?_
   refine xR (v := .int .u32 (u7 : Int)) rfl rfl rfl (ld1 (o := 0 + 1) b19 rfl) ?_
   refine xEq rfl rfl ?_ ?_ <;> intro h22
   · skip
     refine xP rfl rfl rfl rfl ?_
     refine RXn ?_
     refine WLv (lv1 1 rfl (lv1 4 rfl (lv1 19 rfl lv0))) ?_
     refine WC_condT rfl ?_
     refine WC_go hE hm ?_
     refine xP rfl rfl rfl rfl ?_
     refine xP rfl rfl rfl rfl ?_
     refine RXn ?_
     refine WLv (lv1 2 rfl (lv1 3 rfl lv0)) ?_
     refine WC_ret ?_
     refine blockR ?_
     refine thenR ?_
     refine endR rfl ?_
     exact ⟨⟨fun q hq => ((b20 q (by omega)).trans ((a13 q (by omega)).trans ((F7.keep q (by omega)).trans (a3 q (by omega))))), g24, by omega, by omega⟩, _, .slice none 0 0, [], 0, none, rfl, .nil 0 0, rfl, rfl, rfl, by decide, fun h => absurd rfl h⟩
   · skip
     refine xP rfl rfl rfl rfl ?_
     refine RXn ?_
     refine WLv (lv1 1 rfl (lv1 4 rfl (lv1 19 rfl lv0))) ?_
     refine WC_condF rfl ?_
     refine WC_skip ?_
     refine blockN ?_
     refine thenN ?_
     refine WLv (lv1 1 rfl (lv1 4 rfl lv0)) ?_
     refine WC_go hE hm ?_
     refine xP rfl rfl rfl rfl ?_
     refine RXn ?_
     refine WLv (lv1 1 rfl (lv1 4 rfl (lv1 6 rfl lv0))) ?_
     refine WC_seq ?_
     refine WC_go hE hm ?_
     refine xP rfl rfl rfl rfl ?_
     refine xR (v := gsl (i) (l.length)) rfl rfl rfl (ld1 (o := 0 + 1) f23 rfl) ?_
     refine xP (v := .int .i64 ((l.length : Nat) : Int)) rfl rfl rfl (SliceAt.gsl _ _).lenS ?_
     refine xP rfl rfl rfl rfl ?_
     refine RXn ?_
     refine WLv (lv1 1 rfl (lv1 4 rfl (lv1 6 rfl (lv1 24 rfl (lv1 25 rfl (lv1 26 rfl lv0)))))) ?_
     refine WC_block ?_
     refine WC_loopX (X := Nat × List Int × Nat × Heap × Nat) (fun y => { T := ofL [(1, .pointer (some ⟨n, 0, none⟩)), (4, .pointer (some ⟨n7, 0, none⟩)), (6, gsl y.2.2.1 y.2.1.length), (24, gsl (i) (l.length)), (25, .int .i64 ((l.length : Nat) : Int)), (26, .int .i64 (y.1 : Int))], D := [], H := y.2.2.2.1, n := y.2.2.2.2 })
      (fun y => (y.1 ≤ l.length) ∧ y.2.1.length ≤ y.1 ∧ (y.2.1 ≠ [] → aget y.2.2.2.1 y.2.2.1 = some (.cells (ints y.2.1) 3 (some 1)) ∧ n7 + 1 ≤ y.2.2.1 ∧ y.2.2.1 < y.2.2.2.2) ∧ (y.2.1 = [] → lim ≤ y.2.2.1) ∧ (∀ q, q < n7 + 1 → aget y.2.2.2.1 q = aget H18 q) ∧ Fresh y.2.2.2.1 y.2.2.2.2 ∧ n7 + 1 ≤ y.2.2.2.2 ∧ y.2.2.2.2 ≤ n7 + 1 + 20 * y.1)
      (fun y => l.length - y.1) (0, [], lim, H18, n7 + 1) ⟨by dsimp only; omega, Nat.zero_le _, (fun h => absurd rfl h), (fun _ => Nat.le_refl _), (fun _ _ => rfl), g24, Nat.le_refl _, by dsimp only; omega⟩ ?_
     rintro ⟨k, lo, b, Hl, nl⟩ ⟨i1, i2, i4, i5, i6, i7, i8, i9⟩
     dsimp only at *
     have hbq : ∀ q, q < n7 + 1 → q ≠ b := fun q hq => by
      by_cases h0 : lo = []
      · have := i5 h0; omega
      · have := (i4 h0).2.1; omega
     have hbl25 := hbq (0) (by omega)
     have l25 := (i6 (0) (by omega)).trans f21
     have l26 : l ≠ [] → aget Hl i = some (.cells (ints l) 3 (some 1)) := fun hne => by have hdm := (hrow hne).2; exact (i6 _ (by omega)).trans (f22 hne)
     have hbl27 := hbq (n) (by omega)
     have l27 := (i6 (n) (by omega)).trans f23
     have hbl28 := hbq (n7) (by omega)
     have l28 := (i6 (n7) (by omega)).trans b19
     refine WC_go hE hm ?_
     refine xCmp rfl rfl rfl rfl ?_ ?_ <;> intro h27
     · skip
       refine RXn ?_
       refine WLv (lv1 1 rfl (lv1 4 rfl (lv1 6 rfl (lv1 24 rfl (lv1 25 rfl (lv1 26 rfl (lv1 27 rfl lv0))))))) ?_
       refine WC_seq ?_
       refine WC_condT rfl ?_
       refine WC_skip ?_
       refine thenN ?_
       refine WLv (lv1 1 rfl (lv1 4 rfl (lv1 6 rfl (lv1 24 rfl (lv1 25 rfl (lv1 26 rfl lv0)))))) ?_
       refine WC_seq ?_
       refine WC_block ?_
       refine WC_go hE hm ?_
       refine xP rfl rfl rfl rfl ?_
       refine xIdxG rfl rfl ⟨by omega, by omega⟩ ?_
       refine xLdI rfl rfl (l26 (by intro hnil; simp [hnil] at *; omega)) (by omega) ?_
       refine xP rfl rfl rfl rfl ?_
       refine xP rfl rfl rfl rfl ?_
       refine RXn ?_
       refine WLv (lv1 1 rfl (lv1 4 rfl (lv1 6 rfl (lv1 7 rfl (lv1 8 rfl (lv1 24 rfl (lv1 25 rfl (lv1 26 rfl lv0)))))))) ?_
       refine WC_go hE hm ?_
       refine xP rfl rfl rfl rfl ?_
       refine xR (v := gsl (i) (l.length)) rfl rfl rfl (ld1 (o := 0 + 1) l27 rfl) ?_
       refine xP rfl rfl rfl rfl ?_
       refine xAdd rfl rfl (by omega) ?_
       refine xP rfl rfl rfl rfl ?_
       refine xR (v := gsl (i) (l.length)) rfl rfl rfl (ld1 (o := 0 + 1) l27 rfl) ?_
       refine xP (v := .int .i64 ((l.length : Nat) : Int)) rfl rfl rfl (SliceAt.gsl _ _).lenS ?_
       refine xRem rfl rfl ⟨by omega, by omega⟩ ?_
       have hr29 : 0 ≤ (((k : Int) + 1)) % (((l.length : Nat) : Int)) ∧ (((k : Int) + 1)) % (((l.length : Nat) : Int)) < (l.length : Int) := ⟨Int.emod_nonneg _ (by omega), Int.emod_lt_of_pos _ (by omega)⟩
       generalize (((k : Int) + 1)) % (((l.length : Nat) : Int)) = r29 at hr29 ⊢
       refine xIdxG rfl rfl ⟨by omega, by omega⟩ ?_
       refine xLdI rfl rfl (l26 (by intro hnil; simp [hnil] at *; omega)) (by omega) ?_
       refine xP rfl rfl rfl rfl ?_
       refine RXn ?_
       refine WLv (lv1 1 rfl (lv1 4 rfl (lv1 6 rfl (lv1 8 rfl (lv1 9 rfl (lv1 24 rfl (lv1 25 rfl (lv1 26 rfl lv0)))))))) ?_
       refine WC_steps hE hm ?_
       refine xP rfl rfl rfl rfl ?_
       refine xR (v := .agg #[.int .i64 p, .int .u32 (u7 : Int)]) rfl rfl rfl (loadBox (xs := [.int .i64 p, .int .u32 (u7 : Int)]) l28 rfl) ?_
       refine xP rfl rfl rfl rfl ?_
       refine xP rfl rfl rfl rfl ?_
       refine xP (v := .int .i64 (IntKind.i64.wrap ((l).getD (r29).toNat 0 - (l).getD ((k : Int)).toNat 0))) rfl rfl rfl rfl ?_
       refine xP (v := .int .i64 (IntKind.i64.wrap ((IntKind.i64.wrap ((l).getD (r29).toNat 0 - (l).getD ((k : Int)).toNat 0)) - 1))) rfl rfl rfl rfl ?_
       refine xC rfl rfl rfl rfl (on_ok hp l25) ?_
       rintro _ H9 n9 ⟨⟨y30, rfl, hy30a, hy30b, hy30c⟩, hH9, hn9⟩
       obtain rfl := hH9.symm
       obtain rfl := hn9.symm
       refine xAdd rfl rfl (by omega) ?_
       refine eye_app (t := 3) (i := b) (l := lo) (x := (y30 + 1)) rfl i7 (by omega) (fun h => ⟨(fun h => (i4 h).1) h, by have := (i4 h).2; omega⟩) i5 (by omega) rfl (fun v => rfl) ?_
       intro H31 e32 e33 e34
       have f35 := (e33 _ (by omega) (by omega)).trans l25
       have f36 : l ≠ [] → aget H31 i = some (.cells (ints l) 3 (some 1)) := fun hne => by have hdm := (hrow hne).2; have hbl := hbq (i) (by omega); exact (e33 _ (by omega) (by omega)).trans (l26 hne)
       have f37 := (e33 _ (by omega) (by omega)).trans l27
       have f38 := (e33 _ (by omega) (by omega)).trans l28
       refine xP rfl rfl rfl rfl ?_
       refine RXn ?_
       refine blockN ?_
       refine thenN ?_
       refine WLv (lv1 1 rfl (lv1 4 rfl (lv1 6 rfl (lv1 24 rfl (lv1 25 rfl (lv1 26 rfl lv0)))))) ?_
       refine WC_steps hE hm ?_
       refine xAdd rfl rfl (by omega) ?_
       refine xP rfl rfl rfl rfl ?_
       refine RXn ?_
       refine thenN ⟨(k + 1, (lo ++ [(y30 + 1)]), nl + 1, H31, nl + 2), ⟨by dsimp only; omega, by simp only [List.length_append, List.length_cons, List.length_nil]; omega, (fun _ => ⟨e32, by dsimp only; omega, by dsimp only; omega⟩), (fun h => by simp at h), (fun q hq => by have hbq2 := hbq q hq; exact ((e33 q (by omega) (by omega)).trans (i6 q (by omega)))), e34, by dsimp only; omega, by dsimp only; omega⟩, by dsimp only; omega, Le.live (lv1 1 rfl (lv1 4 rfl (lv1 6 (by simp only [List.length_append]; rfl) (lv1 24 rfl (lv1 25 rfl (lv1 26 rfl lv0))))))⟩
     · skip
       refine RXn ?_
       refine WLv (lv1 1 rfl (lv1 4 rfl (lv1 6 rfl (lv1 24 rfl (lv1 25 rfl (lv1 26 rfl (lv1 27 rfl lv0))))))) ?_
       refine WC_seq ?_
       refine WC_condF rfl ?_
       refine WC_exit ?_
       refine thenE ?_
       refine thenE ?_
       refine blockE ?_
       refine thenN ?_
       refine WLv (lv1 6 rfl lv0) ?_
       refine WC_go hE hm ?_
       refine xP rfl rfl rfl rfl ?_
       refine xP rfl rfl rfl rfl ?_
       refine xP rfl rfl rfl rfl ?_
       refine RXn ?_
       refine WLv (lv1 2 rfl (lv1 3 rfl lv0)) ?_
       refine WC_ret ?_
       refine endR rfl ?_
       have isH : isHdr (gsl b lo.length) = true := by generalize lo.length = kk; cases kk <;> rfl
       exact ⟨⟨fun q hq => ((i6 q (by omega)).trans ((b20 q (by omega)).trans ((a13 q (by omega)).trans ((F7.keep q (by omega)).trans (a3 q (by omega)))))), i7, by omega, by omega⟩, _, gsl b lo.length, lo, b, some 1, rfl, .gsl _ _, isH, gsl_cells _ _, gsl_cell1 _ _, by omega, fun h => ⟨(fun h => (i4 h).1) h, by have := (i4 h); omega, by have := (i4 h); omega⟩⟩
end Go.Proofs.YtmpogedhilfjgaaGreatDoor
set_option maxRecDepth 1000000
set_option maxHeartbeats 4000000
open Go Go.Cs
namespace Go.Proofs.YtmpogedhilfjgaaGreatDoor
section
variable {P : Program} {G : List Nat} {E : Env} {r : List Step} {Q : St → Prop} {ar : List Operand} {d : Option Tmp} {g : Option (Tmp × Bool)} {L : List (Nat × Value)} {D : List Value} {H : Heap} {n : Nat}
theorem xIdxStr {s : ByteArray} {q : IntKind} {k : Nat} (hw : wantT (.lst L) g = some true) (ha : evs G (.lst L) ar = some [.string s, .int q (k : Int)]) (hk : k < 256) (hl : s.data.toList.length = 256)
 (h : ∀ x : Int, RX P G E r Q { T := .lst (putL d (.int .u8 x) L), D := D, H := H, n := n }) : RX P G E (⟨.indexStr, ar, d, g⟩ :: r) Q { T := .lst L, D := D, H := H, n := n } := by
 refine xP (v := .int .u8 ((s.data.toList[k]'(by omega)).toNat : Int)) rfl hw ha ?_ (h _)
 show (if 0 ≤ (k : Int) then (s.data.toList[(k : Int).toNat]?).map (fun c => Value.int .u8 c.toNat) else none) = _
 rw [if_pos (by omega), Int.toNat_natCast, List.getElem?_eq_getElem (by omega)]; rfl
end
def c77 : FC := FC.mk 21 (.seq (.steps [⟨.move, [.const (.int .i64 0)], some 2, none⟩]) (.seq (.steps [⟨.move, [.tmp 0], some 3, none⟩,⟨.bin .shr, [.tmp 3, .const (.int .u64 24)], some 4, none⟩,⟨.indexStr, [.const (.string ⟨#[0, 1, 1, 2, 1, 2, 2, 3, 1, 2, 2, 3, 2, 3, 3, 4, 1, 2, 2, 3, 2, 3, 3, 4, 2, 3, 3, 4, 3, 4, 4, 5, 1, 2, 2, 3, 2, 3, 3, 4, 2, 3, 3, 4, 3, 4, 4, 5, 2, 3, 3, 4, 3, 4, 4, 5, 3, 4, 4, 5, 4, 5, 5, 6, 1, 2, 2, 3, 2, 3, 3, 4, 2, 3, 3, 4, 3, 4, 4, 5, 2, 3, 3, 4, 3, 4, 4, 5, 3, 4, 4, 5, 4, 5, 5, 6, 2, 3, 3, 4, 3, 4, 4, 5, 3, 4, 4, 5, 4, 5, 5, 6, 3, 4, 4, 5, 4, 5, 5, 6, 4, 5, 5, 6, 5, 6, 6, 7, 1, 2, 2, 3, 2, 3, 3, 4, 2, 3, 3, 4, 3, 4, 4, 5, 2, 3, 3, 4, 3, 4, 4, 5, 3, 4, 4, 5, 4, 5, 5, 6, 2, 3, 3, 4, 3, 4, 4, 5, 3, 4, 4, 5, 4, 5, 5, 6, 3, 4, 4, 5, 4, 5, 5, 6, 4, 5, 5, 6, 5, 6, 6, 7, 2, 3, 3, 4, 3, 4, 4, 5, 3, 4, 4, 5, 4, 5, 5, 6, 3, 4, 4, 5, 4, 5, 5, 6, 4, 5, 5, 6, 5, 6, 6, 7, 3, 4, 4, 5, 4, 5, 5, 6, 4, 5, 5, 6, 5, 6, 6, 7, 4, 5, 5, 6, 5, 6, 6, 7, 5, 6, 6, 7, 6, 7, 7, 8]⟩), .tmp 4], some 5, none⟩,⟨.move, [.tmp 0], some 6, none⟩,⟨.bin .shr, [.tmp 6, .const (.int .u64 16)], some 7, none⟩,⟨.bin .and, [.tmp 7, .const (.int .u32 255)], some 8, none⟩,⟨.indexStr, [.const (.string ⟨#[0, 1, 1, 2, 1, 2, 2, 3, 1, 2, 2, 3, 2, 3, 3, 4, 1, 2, 2, 3, 2, 3, 3, 4, 2, 3, 3, 4, 3, 4, 4, 5, 1, 2, 2, 3, 2, 3, 3, 4, 2, 3, 3, 4, 3, 4, 4, 5, 2, 3, 3, 4, 3, 4, 4, 5, 3, 4, 4, 5, 4, 5, 5, 6, 1, 2, 2, 3, 2, 3, 3, 4, 2, 3, 3, 4, 3, 4, 4, 5, 2, 3, 3, 4, 3, 4, 4, 5, 3, 4, 4, 5, 4, 5, 5, 6, 2, 3, 3, 4, 3, 4, 4, 5, 3, 4, 4, 5, 4, 5, 5, 6, 3, 4, 4, 5, 4, 5, 5, 6, 4, 5, 5, 6, 5, 6, 6, 7, 1, 2, 2, 3, 2, 3, 3, 4, 2, 3, 3, 4, 3, 4, 4, 5, 2, 3, 3, 4, 3, 4, 4, 5, 3, 4, 4, 5, 4, 5, 5, 6, 2, 3, 3, 4, 3, 4, 4, 5, 3, 4, 4, 5, 4, 5, 5, 6, 3, 4, 4, 5, 4, 5, 5, 6, 4, 5, 5, 6, 5, 6, 6, 7, 2, 3, 3, 4, 3, 4, 4, 5, 3, 4, 4, 5, 4, 5, 5, 6, 3, 4, 4, 5, 4, 5, 5, 6, 4, 5, 5, 6, 5, 6, 6, 7, 3, 4, 4, 5, 4, 5, 5, 6, 4, 5, 5, 6, 5, 6, 6, 7, 4, 5, 5, 6, 5, 6, 6, 7, 5, 6, 6, 7, 6, 7, 7, 8]⟩), .tmp 8], some 9, none⟩,⟨.bin .add, [.tmp 5, .tmp 9], some 10, none⟩,⟨.move, [.tmp 0], some 11, none⟩,⟨.bin .shr, [.tmp 11, .const (.int .u64 8)], some 12, none⟩,⟨.bin .and, [.tmp 12, .const (.int .u32 255)], some 13, none⟩,⟨.indexStr, [.const (.string ⟨#[0, 1, 1, 2, 1, 2, 2, 3, 1, 2, 2, 3, 2, 3, 3, 4, 1, 2, 2, 3, 2, 3, 3, 4, 2, 3, 3, 4, 3, 4, 4, 5, 1, 2, 2, 3, 2, 3, 3, 4, 2, 3, 3, 4, 3, 4, 4, 5, 2, 3, 3, 4, 3, 4, 4, 5, 3, 4, 4, 5, 4, 5, 5, 6, 1, 2, 2, 3, 2, 3, 3, 4, 2, 3, 3, 4, 3, 4, 4, 5, 2, 3, 3, 4, 3, 4, 4, 5, 3, 4, 4, 5, 4, 5, 5, 6, 2, 3, 3, 4, 3, 4, 4, 5, 3, 4, 4, 5, 4, 5, 5, 6, 3, 4, 4, 5, 4, 5, 5, 6, 4, 5, 5, 6, 5, 6, 6, 7, 1, 2, 2, 3, 2, 3, 3, 4, 2, 3, 3, 4, 3, 4, 4, 5, 2, 3, 3, 4, 3, 4, 4, 5, 3, 4, 4, 5, 4, 5, 5, 6, 2, 3, 3, 4, 3, 4, 4, 5, 3, 4, 4, 5, 4, 5, 5, 6, 3, 4, 4, 5, 4, 5, 5, 6, 4, 5, 5, 6, 5, 6, 6, 7, 2, 3, 3, 4, 3, 4, 4, 5, 3, 4, 4, 5, 4, 5, 5, 6, 3, 4, 4, 5, 4, 5, 5, 6, 4, 5, 5, 6, 5, 6, 6, 7, 3, 4, 4, 5, 4, 5, 5, 6, 4, 5, 5, 6, 5, 6, 6, 7, 4, 5, 5, 6, 5, 6, 6, 7, 5, 6, 6, 7, 6, 7, 7, 8]⟩), .tmp 13], some 14, none⟩,⟨.bin .add, [.tmp 10, .tmp 14], some 15, none⟩,⟨.move, [.tmp 0], some 16, none⟩,⟨.bin .and, [.tmp 16, .const (.int .u32 255)], some 17, none⟩,⟨.indexStr, [.const (.string ⟨#[0, 1, 1, 2, 1, 2, 2, 3, 1, 2, 2, 3, 2, 3, 3, 4, 1, 2, 2, 3, 2, 3, 3, 4, 2, 3, 3, 4, 3, 4, 4, 5, 1, 2, 2, 3, 2, 3, 3, 4, 2, 3, 3, 4, 3, 4, 4, 5, 2, 3, 3, 4, 3, 4, 4, 5, 3, 4, 4, 5, 4, 5, 5, 6, 1, 2, 2, 3, 2, 3, 3, 4, 2, 3, 3, 4, 3, 4, 4, 5, 2, 3, 3, 4, 3, 4, 4, 5, 3, 4, 4, 5, 4, 5, 5, 6, 2, 3, 3, 4, 3, 4, 4, 5, 3, 4, 4, 5, 4, 5, 5, 6, 3, 4, 4, 5, 4, 5, 5, 6, 4, 5, 5, 6, 5, 6, 6, 7, 1, 2, 2, 3, 2, 3, 3, 4, 2, 3, 3, 4, 3, 4, 4, 5, 2, 3, 3, 4, 3, 4, 4, 5, 3, 4, 4, 5, 4, 5, 5, 6, 2, 3, 3, 4, 3, 4, 4, 5, 3, 4, 4, 5, 4, 5, 5, 6, 3, 4, 4, 5, 4, 5, 5, 6, 4, 5, 5, 6, 5, 6, 6, 7, 2, 3, 3, 4, 3, 4, 4, 5, 3, 4, 4, 5, 4, 5, 5, 6, 3, 4, 4, 5, 4, 5, 5, 6, 4, 5, 5, 6, 5, 6, 6, 7, 3, 4, 4, 5, 4, 5, 5, 6, 4, 5, 5, 6, 5, 6, 6, 7, 4, 5, 5, 6, 5, 6, 6, 7, 5, 6, 6, 7, 6, 7, 7, 8]⟩), .tmp 17], some 18, none⟩,⟨.bin .add, [.tmp 15, .tmp 18], some 19, none⟩,⟨.conv .i64, [.tmp 19], some 20, none⟩,⟨.move, [.tmp 20], some 2, none⟩]) (.ret))) [.tmp 2]
theorem c77_ok : compF Tryz.prog 77 = some c77 := by kernel_rfl
theorem ones_ok {s : Nat} (hs : s < 2 ^ 32) {H : Heap} {n : Nat} (hg : aget H 0 = some gl) : F Tryz.prog [0] 77 [.int .u32 (s : Int)] H n (fun v H' n' => (∃ c, v = .int .i64 c) ∧ H' = H ∧ n' = n) := by
 refine pureF rfl ?_ hg
 refine F_of_comp c77_ok rfl ?_
 have hlim := limv
 have g0 : aget (ofL [(0, gl)]) 0 = some gl := rfl
 refine WC_go hE hm ?_
 refine xP rfl rfl rfl rfl ?_
 refine RXn ?_
 refine WLv (lv1 0 rfl lv0) ?_
 refine WC_go hE hm ?_
 refine xP rfl rfl rfl rfl ?_
 refine xShr rfl rfl rfl (by omega) ?_
 refine xIdxStr rfl rfl (show s >>> 24 < 256 by rw [Nat.shiftRight_eq_div_pow]; omega) rfl ?_
 intro x1
 refine xP rfl rfl rfl rfl ?_
 refine xShr rfl rfl rfl (by omega) ?_
 refine xAnd rfl rfl rfl (Nat.lt_of_le_of_lt (Nat.shiftRight_le _ _) hs) (by decide) ?_
 refine xIdxStr rfl rfl (Nat.lt_of_le_of_lt Nat.and_le_right (by decide)) rfl ?_
 intro x2
 refine xP (v := .int .u8 (IntKind.u8.wrap (x1 + x2))) rfl rfl rfl rfl ?_
 generalize (IntKind.u8.wrap (x1 + x2)) = y3
 refine xP rfl rfl rfl rfl ?_
 refine xShr rfl rfl rfl (by omega) ?_
 refine xAnd rfl rfl rfl (Nat.lt_of_le_of_lt (Nat.shiftRight_le _ _) hs) (by decide) ?_
 refine xIdxStr rfl rfl (Nat.lt_of_le_of_lt Nat.and_le_right (by decide)) rfl ?_
 intro x4
 refine xP (v := .int .u8 (IntKind.u8.wrap (y3 + x4))) rfl rfl rfl rfl ?_
 generalize (IntKind.u8.wrap (y3 + x4)) = y5
 refine xP rfl rfl rfl rfl ?_
 refine xAnd rfl rfl rfl hs (by decide) ?_
 refine xIdxStr rfl rfl (Nat.lt_of_le_of_lt Nat.and_le_right (by decide)) rfl ?_
 intro x6
 refine xP (v := .int .u8 (IntKind.u8.wrap (y5 + x6))) rfl rfl rfl rfl ?_
 generalize (IntKind.u8.wrap (y5 + x6)) = y7
 refine xP (v := .int .i64 (IntKind.i64.wrap y7)) rfl rfl rfl rfl ?_
 refine xP rfl rfl rfl rfl ?_
 refine RXn ?_
 refine WLv (lv1 2 rfl lv0) ?_
 refine WC_ret ?_
 refine endR rfl ?_
 exact ⟨⟨_, rfl⟩, rfl, g0⟩
end Go.Proofs.YtmpogedhilfjgaaGreatDoor
