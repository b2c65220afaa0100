/- A part of the proof that the law spadilletop.TopSharedRing answers true and leaves its argument as it was (D1) -/
import Derived.Test.YtmpogedhilfjgaaGreatDoorC5
import Derived.Test.YtmpogedhilfjgaaGreatDoorK8
import Derived.Test.YtmpogedhilfjgaaGreatDoorCsN
set_option linter.all false
set_option maxRecDepth 1000000
set_option maxHeartbeats 4000000
open Go Go.Cs
namespace Go.Proofs.YtmpogedhilfjgaaGreatDoor
def t24 : Ty := (.pair .int (.pair (.slice .int) .unit))
def t26 : Ty := (.pair t24 (.pair .int (.pair t24 (.pair t24 (.pair (.slice .int) (.pair .int (.pair .int (.pair (.slice .int) (.pair .int .unit)))))))))
theorem sT55 : SeesTy Tryz.prog [0] 3 .int 55 := seesInt hE hm (by kernel_rfl)
theorem sT12 : SeesTy Tryz.prog [0] 3 (.slice .int) 12 := seesRow hE hm (ev := 58) (g := 55) (by kernel_rfl) (by kernel_rfl) sT55
theorem sT16 : SeesTy Tryz.prog [0] 3 t24 16 := seesStruct hE hm (fs := [(0, 55), (1, 12)]) (by kernel_rfl) ⟨rfl, sT55, rfl, sT12, trivial⟩
theorem sT6 : SeesTy Tryz.prog [0] 3 t26 6 := seesStruct hE hm (fs := [(0, 16), (2, 55), (3, 16), (5, 16), (7, 12), (8, 55), (9, 55), (10, 12), (11, 55)]) (by kernel_rfl) ⟨rfl, sT16, rfl, sT55, rfl, sT16, rfl, sT16, rfl, sT12, rfl, sT55, rfl, sT55, rfl, sT12, rfl, sT55, trivial⟩
theorem sT38 : SeesTy Tryz.prog [0] 3 (.slice t24) 38 := seesRow hE hm (ev := 75) (g := 16) (by kernel_rfl) (by kernel_rfl) sT16
theorem e11 : compF Tryz.prog 11 = some (cClo 12) := by kernel_rfl
theorem e15 : compF Tryz.prog 15 = some (cClo 16) := by kernel_rfl
theorem e19 : compF Tryz.prog 19 = some (cClo 16) := by kernel_rfl
theorem e24 : compF Tryz.prog 24 = some (cClo 12) := by kernel_rfl
theorem e29 : compF Tryz.prog 29 = some (cClo 12) := by kernel_rfl
theorem e34 : compF Tryz.prog 34 = some (cClo 16) := by kernel_rfl
theorem e37 : compF Tryz.prog 37 = some (cClo 38) := by kernel_rfl
theorem e41 : compF Tryz.prog 41 = some (cClo 16) := by kernel_rfl
theorem e44 : compF Tryz.prog 44 = some (cClo 12) := by kernel_rfl
theorem e47 : compF Tryz.prog 47 = some (cClo 12) := by kernel_rfl
theorem r3 : ReadsTy Tryz.prog .int 3 := readsInt Tryz.underlying3
theorem r22 : ReadsTy Tryz.prog (.slice .int) 22 := readsSlice Tryz.underlying22 r3 (by kernel_rfl) (by decide)
theorem r24 : ReadsTy Tryz.prog t24 24 := readsStruct (ty := t24) Tryz.underlying24 (by kernel_rfl) ⟨rfl, by kernel_rfl, r3, rfl, by kernel_rfl, r22, trivial⟩
theorem r26 : ReadsTy Tryz.prog t26 26 := readsStruct (ty := t26) Tryz.underlying26 (by kernel_rfl) ⟨rfl, by kernel_rfl, r24, rfl, by kernel_rfl, r3, rfl, by kernel_rfl, r24, rfl, by kernel_rfl, r24, rfl, by kernel_rfl, r22, rfl, by kernel_rfl, r3, rfl, by kernel_rfl, r3, rfl, by kernel_rfl, r22, rfl, by kernel_rfl, r3, trivial⟩
def xD (x0 : Int) (L1 : List Int) (x2 : Int) (x3 : Int) (L4 : List Int) (x5 : Int) (L6 : List Int) (L7 : List Int) (x8 : Int) (x9 : Int) (L10 : List Int) (x11 : Int) : Dv := (.pair (.pair (.int x0) (.pair (Dv.row L1 .int) .unit)) (.pair (.int x2) (.pair (.pair (.int x3) (.pair (Dv.row L4 .int) .unit)) (.pair (.pair (.int x5) (.pair (Dv.row L6 .int) .unit)) (.pair (Dv.row L7 .int) (.pair (.int x8) (.pair (.int x9) (.pair (Dv.row L10 .int) (.pair (.int x11) .unit)))))))))
def xsV (x0 : Int) (s1 : Value) (x2 : Int) (x3 : Int) (s4 : Value) (x5 : Int) (s6 : Value) (s7 : Value) (x8 : Int) (x9 : Int) (s10 : Value) (x11 : Int) : List Value := [.int .i64 x0, s1, .int .i64 x2, .int .i64 x3, s4, .int .i64 x5, s6, s7, .int .i64 x8, .int .i64 x9, s10, .int .i64 x11]
def ysV (x0 : Int) (i1 : Nat) (L1 : List Int) (x2 : Int) (x3 : Int) (i4 : Nat) (L4 : List Int) (x5 : Int) (i6 : Nat) (L6 : List Int) (i7 : Nat) (L7 : List Int) (x8 : Int) (x9 : Int) (i10 : Nat) (L10 : List Int) (x11 : Int) : List Value := [.int .i64 x0, gsl i1 L1.length, .int .i64 x2, .int .i64 x3, gsl i4 L4.length, .int .i64 x5, gsl i6 L6.length, gsl i7 L7.length, .int .i64 x8, .int .i64 x9, gsl i10 L10.length, .int .i64 x11]
theorem xInv {rd : Nat → Nat → Option Value} {S : Nat → Prop} {l : Cs.Loc} {vs : List Value} {dv : Dv} (h : Rep rd S t26 l vs dv) (hw : dv.tell.length ≤ 1048576) : ∃ (x0 : Int) (s1 : Value) (q1 j1 : Nat) (L1 : List Int) (x2 : Int) (x3 : Int) (s4 : Value) (q4 j4 : Nat) (L4 : List Int) (x5 : Int) (s6 : Value) (q6 j6 : Nat) (L6 : List Int) (s7 : Value) (q7 j7 : Nat) (L7 : List Int) (x8 : Int) (x9 : Int) (s10 : Value) (q10 j10 : Nat) (L10 : List Int) (x11 : Int), vs = xsV x0 s1 x2 x3 s4 x5 s6 s7 x8 x9 s10 x11 ∧ dv.tell = (xD x0 L1 x2 x3 L4 x5 L6 L7 x8 x9 L10 x11).tell ∧ IRow rd S s1 q1 j1 L1 ∧ IRow rd S s4 q4 j4 L4 ∧ IRow rd S s6 q6 j6 L6 ∧ IRow rd S s7 q7 j7 L7 ∧ IRow rd S s10 q10 j10 L10 := by
 cases h with
 | pair a1 b1 =>
 cases a1 with
 | pair a2 b2 =>
 cases a2 with
 | int x0 =>
 cases b2 with
 | pair a3 b3 =>
 obtain ⟨s1, q1, j1, L1, rfl, e1, n1, g1⟩ := a3.irow
 cases b3 with
 | unit =>
 cases b1 with
 | pair a4 b4 =>
 cases a4 with
 | int x2 =>
 cases b4 with
 | pair a5 b5 =>
 cases a5 with
 | pair a6 b6 =>
 cases a6 with
 | int x3 =>
 cases b6 with
 | pair a7 b7 =>
 obtain ⟨s4, q4, j4, L4, rfl, e4, n4, g4⟩ := a7.irow
 cases b7 with
 | unit =>
 cases b5 with
 | pair a8 b8 =>
 cases a8 with
 | pair a9 b9 =>
 cases a9 with
 | int x5 =>
 cases b9 with
 | pair a10 b10 =>
 obtain ⟨s6, q6, j6, L6, rfl, e6, n6, g6⟩ := a10.irow
 cases b10 with
 | unit =>
 cases b8 with
 | pair a11 b11 =>
 obtain ⟨s7, q7, j7, L7, rfl, e7, n7, g7⟩ := a11.irow
 cases b11 with
 | pair a12 b12 =>
 cases a12 with
 | int x8 =>
 cases b12 with
 | pair a13 b13 =>
 cases a13 with
 | int x9 =>
 cases b13 with
 | pair a14 b14 =>
 obtain ⟨s10, q10, j10, L10, rfl, e10, n10, g10⟩ := a14.irow
 cases b14 with
 | pair a15 b15 =>
 cases a15 with
 | int x11 =>
 cases b15 with
 | unit =>
 simp only [Dv.tell, List.length_append, List.length_cons, List.length_nil] at hw
 exact ⟨x0, s1, q1, j1, L1, x2, x3, s4, q4, j4, L4, x5, s6, q6, j6, L6, s7, q7, j7, L7, x8, x9, s10, q10, j10, L10, x11, rfl, by simp only [xD, Dv.tell, e1, e4, e6, e7, e10], g1 (by omega), g4 (by omega), g6 (by omega), g7 (by omega), g10 (by omega)⟩
theorem xRep {rd : Nat → Nat → Option Value} {S : Nat → Prop} {x0 : Int} {s1 : Value} {L1 : List Int} {x2 : Int} {x3 : Int} {s4 : Value} {L4 : List Int} {x5 : Int} {s6 : Value} {L6 : List Int} {s7 : Value} {L7 : List Int} {x8 : Int} {x9 : Int} {s10 : Value} {L10 : List Int} {x11 : Int} {q1 j1 : Nat} {q4 j4 : Nat} {q6 j6 : Nat} {q7 j7 : Nat} {q10 j10 : Nat} (g1 : IRow rd S s1 q1 j1 L1) (g4 : IRow rd S s4 q4 j4 L4) (g6 : IRow rd S s6 q6 j6 L6) (g7 : IRow rd S s7 q7 j7 L7) (g10 : IRow rd S s10 q10 j10 L10) : ∃ l, Rep rd S t26 l (xsV x0 s1 x2 x3 s4 x5 s6 s7 x8 x9 s10 x11) (xD x0 L1 x2 x3 L4 x5 L6 L7 x8 x9 L10 x11) := by
 obtain ⟨_, k1⟩ := g1.rep
 obtain ⟨_, k4⟩ := g4.rep
 obtain ⟨_, k6⟩ := g6.rep
 obtain ⟨_, k7⟩ := g7.rep
 obtain ⟨_, k10⟩ := g10.rep
 exact ⟨_, (.pair (.pair (.int x0) (.pair k1 .unit)) (.pair (.int x2) (.pair (.pair (.int x3) (.pair k4 .unit)) (.pair (.pair (.int x5) (.pair k6 .unit)) (.pair k7 (.pair (.int x8) (.pair (.int x9) (.pair k10 (.pair (.int x11) .unit)))))))))⟩
end Go.Proofs.YtmpogedhilfjgaaGreatDoor
set_option maxRecDepth 1000000
set_option maxHeartbeats 4000000
open Go Go.Cs
namespace Go.Proofs.YtmpogedhilfjgaaGreatDoor
theorem c54_cp : compF Tryz.prog 54 = some (cCopy 3 1 8 [.int .i64 0]) := by kernel_rfl
def c53 : FC := FC.mk 8 (.seq (.steps [⟨.box 24, [.tmp 0], some 1, none⟩,⟨.alloc 24 [.int .i64 0, .slice none 0 0], [], some 2, none⟩]) (.seq (.steps [⟨.fieldAddr 1, [.tmp 1], some 3, none⟩,⟨.load1, [.tmp 3], some 4, none⟩,⟨.callF 54, [.tmp 4], some 5, none⟩,⟨.fieldAddr 1, [.tmp 1], some 6, none⟩,⟨.store 1, [.tmp 6, .tmp 5], none, none⟩]) (.seq (.steps [⟨.loadN 2, [.tmp 1], some 7, none⟩,⟨.store 2, [.tmp 2, .tmp 7], none, none⟩]) (.ret)))) [.cellN 2 2]
theorem c53_ok : compF Tryz.prog 53 = some c53 := by kernel_rfl
theorem own53 {x0 : Int} {s1 : Value} {L1 : List Int} {q1 j1 : Nat} {H : Heap} {n0 n : Nat} (g1 : IRow (rdAt H) (fun q => q < n0) s1 q1 j1 L1) (hn0 : n0 ≤ n) (hfr : Fresh H n) (hn : n + 70 < lim) :
 F Tryz.prog [0] 53 [.agg #[.int .i64 x0, s1]] H n (fun v H' n' => Fin H n 20 H' n' ∧ ∃ (i1 : Nat), v = .agg #[.int .i64 x0, gsl i1 L1.length] ∧ (L1 ≠ [] → aget H' i1 = some (.cells (ints L1) 3 (some 1)) ∧ n ≤ i1 ∧ i1 < n')) := by
 refine F_of_comp c53_ok rfl ?_
 have hlim := limv
 refine WC_go hE hm ?_
 refine xNew (ob := .cells [.int .i64 x0, s1] 24 none) (mk := .ptr) hfr (by omega) rfl rfl rfl (by have h1 := g1.sl.hdr.2.2; simp [semA, aBox, Value.cells, h1]) ?_
 intro H1 a2 a3 a4
 refine xNew (ob := .cells [.int .i64 0, .slice none 0 0] 24 none) (mk := .ptr) a4 (by omega) rfl rfl rfl rfl ?_
 intro H5 a6 a7 a8
 have f9 := (a7 _ (by omega)).trans a2
 refine RXn ?_
 refine WLv (lv1 1 rfl (lv1 2 rfl lv0)) ?_
 refine WC_go hE hm ?_
 refine xP rfl rfl rfl rfl ?_
 refine xR (v := s1) rfl rfl rfl (ld1 (o := 0 + 1) f9 rfl) ?_
 refine xC rfl rfl rfl rfl (copyInts hE hm c54_cp (g1.keep (fun q (hq : q < n0) => ((a7 q (by omega)).trans (a3 q (by omega))))) a8 (by omega)) ?_
 rintro _ H10 n10 ⟨F10, rfl, r10⟩
 have le10 := F10.le
 have rm10 := F10.room
 have f11 := (F10.keep _ (by omega)).trans f9
 have f12 := (F10.keep _ (by omega)).trans a6
 refine xP rfl rfl rfl rfl ?_
 refine xStO (u := gsl ((n + 1 + 1)) (L1.length)) [.int .i64 x0, gsl ((n + 1 + 1)) (L1.length)] f11 (by show _ ≤ _; simp) (gsl_cells _ _) (gsl_cell1 _ _) rfl rfl rfl (by omega) ?_
 intro H13 b14 b15
 have f16 := (b15 _ (by omega)).trans f12
 have f17 : L1 ≠ [] → aget H13 (n + 1 + 1) = some (.cells (ints L1) 3 (some 1)) := fun hne => by have hdm := (r10 hne).2; exact (b15 _ (by omega)).trans ((fun h => (r10 h).1) hne)
 have g18 : Fresh H13 (n10) := fun q h1 h2 => by rw [b15 q (by omega)]; exact F10.fresh q h1 h2
 refine RXn ?_
 refine WLv (lv1 1 rfl (lv1 2 rfl lv0)) ?_
 refine WC_go hE hm ?_
 refine xR (v := .agg #[.int .i64 x0, gsl ((n + 1 + 1)) (L1.length)]) rfl rfl rfl (loadBox (xs := [.int .i64 x0, gsl ((n + 1 + 1)) (L1.length)]) b14 rfl) ?_
 refine xFill (ys := [.int .i64 x0, gsl ((n + 1 + 1)) (L1.length)]) f16 rfl rfl (by simp only [List.all_cons, List.all_nil, gsl_cell1]; rfl) rfl rfl (by omega) ?_
 intro H19 b20 b21
 have f22 := (b21 _ (by omega)).trans b14
 have f23 : L1 ≠ [] → aget H19 (n + 1 + 1) = some (.cells (ints L1) 3 (some 1)) := fun hne => by have hdm := (r10 hne).2; exact (b21 _ (by omega)).trans (f17 hne)
 have g24 : Fresh H19 (n10) := fun q h1 h2 => by rw [b21 q (by omega)]; exact g18 q h1 h2
 refine RXn ?_
 refine WLv (lv1 2 rfl lv0) ?_
 refine WC_ret ?_
 refine endR (rvs1 (rv_cellN (b := n + 1) rfl b20 rfl)) ?_
 exact ⟨⟨fun q hq => ((b21 q (by omega)).trans ((b15 q (by omega)).trans ((F10.keep q (by omega)).trans ((a7 q (by omega)).trans (a3 q (by omega)))))), g24, by omega, by omega⟩, (n + 1 + 1), rfl, (fun h => ⟨f23 h, by have := (r10 h).2; omega, by have := (r10 h).2; omega⟩)⟩
def c5 : FC := FC.mk 24 (.seq (.steps [⟨.box 26, [.tmp 0], some 1, none⟩,⟨.alloc 26 [.int .i64 0, .slice none 0 0, .int .i64 0, .int .i64 0, .slice none 0 0, .int .i64 0, .slice none 0 0, .slice none 0 0, .int .i64 0, .int .i64 0, .slice none 0 0, .int .i64 0], [], some 2, none⟩]) (.seq (.steps [⟨.fieldAddr 0, [.tmp 1], some 3, none⟩,⟨.loadN 2, [.tmp 3], some 4, none⟩,⟨.callF 53, [.tmp 4], some 5, none⟩,⟨.fieldAddr 0, [.tmp 1], some 6, none⟩,⟨.store 2, [.tmp 6, .tmp 5], none, none⟩]) (.seq (.steps [⟨.fieldAddr 3, [.tmp 1], some 7, none⟩,⟨.loadN 2, [.tmp 7], some 8, none⟩,⟨.callF 53, [.tmp 8], some 9, none⟩,⟨.fieldAddr 3, [.tmp 1], some 10, none⟩,⟨.store 2, [.tmp 10, .tmp 9], none, none⟩]) (.seq (.steps [⟨.fieldAddr 5, [.tmp 1], some 11, none⟩,⟨.loadN 2, [.tmp 11], some 12, none⟩,⟨.callF 53, [.tmp 12], some 13, none⟩,⟨.fieldAddr 5, [.tmp 1], some 14, none⟩,⟨.store 2, [.tmp 14, .tmp 13], none, none⟩]) (.seq (.steps [⟨.fieldAddr 7, [.tmp 1], some 15, none⟩,⟨.load1, [.tmp 15], some 16, none⟩,⟨.callF 54, [.tmp 16], some 17, none⟩,⟨.fieldAddr 7, [.tmp 1], some 18, none⟩,⟨.store 1, [.tmp 18, .tmp 17], none, none⟩]) (.seq (.steps [⟨.fieldAddr 10, [.tmp 1], some 19, none⟩,⟨.load1, [.tmp 19], some 20, none⟩,⟨.callF 54, [.tmp 20], some 21, none⟩,⟨.fieldAddr 10, [.tmp 1], some 22, none⟩,⟨.store 1, [.tmp 22, .tmp 21], none, none⟩]) (.seq (.steps [⟨.loadN 12, [.tmp 1], some 23, none⟩,⟨.store 12, [.tmp 2, .tmp 23], none, none⟩]) (.ret)))))))) [.cellN 2 12]
theorem c5_ok : compF Tryz.prog 5 = some c5 := by kernel_rfl
theorem own5 {x0 : Int} {s1 : Value} {L1 : List Int} {x2 : Int} {x3 : Int} {s4 : Value} {L4 : List Int} {x5 : Int} {s6 : Value} {L6 : List Int} {s7 : Value} {L7 : List Int} {x8 : Int} {x9 : Int} {s10 : Value} {L10 : List Int} {x11 : Int} {q1 j1 : Nat} {q4 j4 : Nat} {q6 j6 : Nat} {q7 j7 : Nat} {q10 j10 : Nat} {H : Heap} {n0 n : Nat} (g1 : IRow (rdAt H) (fun q => q < n0) s1 q1 j1 L1) (g4 : IRow (rdAt H) (fun q => q < n0) s4 q4 j4 L4) (g6 : IRow (rdAt H) (fun q => q < n0) s6 q6 j6 L6) (g7 : IRow (rdAt H) (fun q => q < n0) s7 q7 j7 L7) (g10 : IRow (rdAt H) (fun q => q < n0) s10 q10 j10 L10) (hn0 : n0 ≤ n) (hfr : Fresh H n) (hn : n + 250 < lim) :
 F Tryz.prog [0] 5 [.agg #[.int .i64 x0, s1, .int .i64 x2, .int .i64 x3, s4, .int .i64 x5, s6, s7, .int .i64 x8, .int .i64 x9, s10, .int .i64 x11]] H n (fun v H' n' => Fin H n 200 H' n' ∧ ∃ (i1 : Nat) (i4 : Nat) (i6 : Nat) (i7 : Nat) (i10 : Nat), v = .agg #[.int .i64 x0, gsl i1 L1.length, .int .i64 x2, .int .i64 x3, gsl i4 L4.length, .int .i64 x5, gsl i6 L6.length, gsl i7 L7.length, .int .i64 x8, .int .i64 x9, gsl i10 L10.length, .int .i64 x11] ∧ (L1 ≠ [] → aget H' i1 = some (.cells (ints L1) 3 (some 1)) ∧ n ≤ i1 ∧ i1 < n') ∧ (L4 ≠ [] → aget H' i4 = some (.cells (ints L4) 3 (some 1)) ∧ n ≤ i4 ∧ i4 < n') ∧ (L6 ≠ [] → aget H' i6 = some (.cells (ints L6) 3 (some 1)) ∧ n ≤ i6 ∧ i6 < n') ∧ (L7 ≠ [] → aget H' i7 = some (.cells (ints L7) 3 (some 1)) ∧ n ≤ i7 ∧ i7 < n') ∧ (L10 ≠ [] → aget H' i10 = some (.cells (ints L10) 3 (some 1)) ∧ n ≤ i10 ∧ i10 < n')) := by
 refine F_of_comp c5_ok rfl ?_
 have hlim := limv
 refine WC_go hE hm ?_
 refine xNew (ob := .cells [.int .i64 x0, s1, .int .i64 x2, .int .i64 x3, s4, .int .i64 x5, s6, s7, .int .i64 x8, .int .i64 x9, s10, .int .i64 x11] 26 none) (mk := .ptr) hfr (by omega) rfl rfl rfl (by have h1 := g1.sl.hdr.2.2; have h4 := g4.sl.hdr.2.2; have h6 := g6.sl.hdr.2.2; have h7 := g7.sl.hdr.2.2; have h10 := g10.sl.hdr.2.2; simp [semA, aBox, Value.cells, h1, h4, h6, h7, h10]) ?_
 intro H1 a2 a3 a4
 refine xNew (ob := .cells [.int .i64 0, .slice none 0 0, .int .i64 0, .int .i64 0, .slice none 0 0, .int .i64 0, .slice none 0 0, .slice none 0 0, .int .i64 0, .int .i64 0, .slice none 0 0, .int .i64 0] 26 none) (mk := .ptr) a4 (by omega) rfl rfl rfl rfl ?_
 intro H5 a6 a7 a8
 have f9 := (a7 _ (by omega)).trans a2
 refine RXn ?_
 refine WLv (lv1 1 rfl (lv1 2 rfl lv0)) ?_
 refine WC_go hE hm ?_
 refine xP rfl rfl rfl rfl ?_
 refine xR (v := .agg #[.int .i64 x0, s1]) rfl rfl rfl (ldN (o := 0 + 0) (ys := [.int .i64 x0, s1]) f9 rfl rfl) ?_
 refine xC rfl rfl rfl rfl (own53 (g1.keep (fun q (hq : q < n0) => ((a7 q (by omega)).trans (a3 q (by omega))))) (by omega) a8 (by omega)) ?_
 rintro _ H10 n10 ⟨F10, i10_1, rfl, ri10_1⟩
 have le10 := F10.le
 have rm10 := F10.room
 have f11 := (F10.keep _ (by omega)).trans f9
 have f12 := (F10.keep _ (by omega)).trans a6
 refine xP rfl rfl rfl rfl ?_
 refine xStP (o := 0 + 0) (ys := [.int .i64 x0, gsl (i10_1) (L1.length)]) [.int .i64 x0, gsl (i10_1) (L1.length), .int .i64 x2, .int .i64 x3, s4, .int .i64 x5, s6, s7, .int .i64 x8, .int .i64 x9, s10, .int .i64 x11] f11 rfl rfl rfl (by simp only [List.all_cons, List.all_nil, gsl_cell1]; rfl) rfl rfl (by omega) ?_
 intro H13 b14 b15
 have f16 := (b15 _ (by omega)).trans f12
 have f17 : L1 ≠ [] → aget H13 i10_1 = some (.cells (ints L1) 3 (some 1)) := fun hne => by have hdm := (ri10_1 hne).2; exact (b15 _ (by omega)).trans ((fun h => (ri10_1 h).1) hne)
 have g18 : Fresh H13 (n10) := fun q h1 h2 => by rw [b15 q (by omega)]; exact F10.fresh q h1 h2
 refine RXn ?_
 refine WLv (lv1 1 rfl (lv1 2 rfl lv0)) ?_
 refine WC_go hE hm ?_
 refine xP rfl rfl rfl rfl ?_
 refine xR (v := .agg #[.int .i64 x3, s4]) rfl rfl rfl (ldN (o := 0 + 3) (ys := [.int .i64 x3, s4]) b14 rfl rfl) ?_
 refine xC rfl rfl rfl rfl (own53 (g4.keep (fun q (hq : q < n0) => ((b15 q (by omega)).trans ((F10.keep q (by omega)).trans ((a7 q (by omega)).trans (a3 q (by omega))))))) (by omega) g18 (by omega)) ?_
 rintro _ H19 n19 ⟨F19, i19_1, rfl, ri19_1⟩
 have le19 := F19.le
 have rm19 := F19.room
 have f20 := (F19.keep _ (by omega)).trans b14
 have f21 := (F19.keep _ (by omega)).trans f16
 have f22 : L1 ≠ [] → aget H19 i10_1 = some (.cells (ints L1) 3 (some 1)) := fun hne => by have hdm := (ri10_1 hne).2; exact (F19.keep _ (by omega)).trans (f17 hne)
 refine xP rfl rfl rfl rfl ?_
 refine xStP (o := 0 + 3) (ys := [.int .i64 x3, gsl (i19_1) (L4.length)]) [.int .i64 x0, gsl (i10_1) (L1.length), .int .i64 x2, .int .i64 x3, gsl (i19_1) (L4.length), .int .i64 x5, s6, s7, .int .i64 x8, .int .i64 x9, s10, .int .i64 x11] f20 rfl rfl rfl (by simp only [List.all_cons, List.all_nil, gsl_cell1]; rfl) rfl rfl (by omega) ?_
 intro H23 b24 b25
 have f26 := (b25 _ (by omega)).trans f21
 have f27 : L1 ≠ [] → aget H23 i10_1 = some (.cells (ints L1) 3 (some 1)) := fun hne => by have hdm := (ri10_1 hne).2; exact (b25 _ (by omega)).trans (f22 hne)
 have f28 : L4 ≠ [] → aget H23 i19_1 = some (.cells (ints L4) 3 (some 1)) := fun hne => by have hdm := (ri19_1 hne).2; exact (b25 _ (by omega)).trans ((fun h => (ri19_1 h).1) hne)
 have g29 : Fresh H23 (n19) := fun q h1 h2 => by rw [b25 q (by omega)]; exact F19.fresh q h1 h2
 refine RXn ?_
 refine WLv (lv1 1 rfl (lv1 2 rfl lv0)) ?_
 refine WC_go hE hm ?_
 refine xP rfl rfl rfl rfl ?_
 refine xR (v := .agg #[.int .i64 x5, s6]) rfl rfl rfl (ldN (o := 0 + 5) (ys := [.int .i64 x5, s6]) b24 rfl rfl) ?_
 refine xC rfl rfl rfl rfl (own53 (g6.keep (fun q (hq : q < n0) => ((b25 q (by omega)).trans ((F19.keep q (by omega)).trans ((b15 q (by omega)).trans ((F10.keep q (by omega)).trans ((a7 q (by omega)).trans (a3 q (by omega))))))))) (by omega) g29 (by omega)) ?_
 rintro _ H30 n30 ⟨F30, i30_1, rfl, ri30_1⟩
 have le30 := F30.le
 have rm30 := F30.room
 have f31 := (F30.keep _ (by omega)).trans b24
 have f32 := (F30.keep _ (by omega)).trans f26
 have f33 : L1 ≠ [] → aget H30 i10_1 = some (.cells (ints L1) 3 (some 1)) := fun hne => by have hdm := (ri10_1 hne).2; exact (F30.keep _ (by omega)).trans (f27 hne)
 have f34 : L4 ≠ [] → aget H30 i19_1 = some (.cells (ints L4) 3 (some 1)) := fun hne => by have hdm := (ri19_1 hne).2; exact (F30.keep _ (by omega)).trans (f28 hne)
 refine xP rfl rfl rfl rfl ?_
 refine xStP (o := 0 + 5) (ys := [.int .i64 x5, gsl (i30_1) (L6.length)]) [.int .i64 x0, gsl (i10_1) (L1.length), .int .i64 x2, .int .i64 x3, gsl (i19_1) (L4.length), .int .i64 x5, gsl (i30_1) (L6.length), s7, .int .i64 x8, .int .i64 x9, s10, .int .i64 x11] f31 rfl rfl rfl (by simp only [List.all_cons, List.all_nil, gsl_cell1]; rfl) rfl rfl (by omega) ?_
 intro H35 b36 b37
 have f38 := (b37 _ (by omega)).trans f32
 have f39 : L1 ≠ [] → aget H35 i10_1 = some (.cells (ints L1) 3 (some 1)) := fun hne => by have hdm := (ri10_1 hne).2; exact (b37 _ (by omega)).trans (f33 hne)
 have f40 : L4 ≠ [] → aget H35 i19_1 = some (.cells (ints L4) 3 (some 1)) := fun hne => by have hdm := (ri19_1 hne).2; exact (b37 _ (by omega)).trans (f34 hne)
 have f41 : L6 ≠ [] → aget H35 i30_1 = some (.cells (ints L6) 3 (some 1)) := fun hne => by have hdm := (ri30_1 hne).2; exact (b37 _ (by omega)).trans ((fun h => (ri30_1 h).1) hne)
 have g42 : Fresh H35 (n30) := fun q h1 h2 => by rw [b37 q (by omega)]; exact F30.fresh q h1 h2
 refine RXn ?_
 refine WLv (lv1 1 rfl (lv1 2 rfl lv0)) ?_
 refine WC_go hE hm ?_
 refine xP rfl rfl rfl rfl ?_
 refine xR (v := s7) rfl rfl rfl (ld1 (o := 0 + 7) b36 rfl) ?_
 refine xC rfl rfl rfl rfl (copyInts hE hm c54_cp (g7.keep (fun q (hq : q < n0) => ((b37 q (by omega)).trans ((F30.keep q (by omega)).trans ((b25 q (by omega)).trans ((F19.keep q (by omega)).trans ((b15 q (by omega)).trans ((F10.keep q (by omega)).trans ((a7 q (by omega)).trans (a3 q (by omega))))))))))) g42 (by omega)) ?_
 rintro _ H43 n43 ⟨F43, rfl, r43⟩
 have le43 := F43.le
 have rm43 := F43.room
 have f44 := (F43.keep _ (by omega)).trans b36
 have f45 := (F43.keep _ (by omega)).trans f38
 have f46 : L1 ≠ [] → aget H43 i10_1 = some (.cells (ints L1) 3 (some 1)) := fun hne => by have hdm := (ri10_1 hne).2; exact (F43.keep _ (by omega)).trans (f39 hne)
 have f47 : L4 ≠ [] → aget H43 i19_1 = some (.cells (ints L4) 3 (some 1)) := fun hne => by have hdm := (ri19_1 hne).2; exact (F43.keep _ (by omega)).trans (f40 hne)
 have f48 : L6 ≠ [] → aget H43 i30_1 = some (.cells (ints L6) 3 (some 1)) := fun hne => by have hdm := (ri30_1 hne).2; exact (F43.keep _ (by omega)).trans (f41 hne)
 refine xP rfl rfl rfl rfl ?_
 refine xStO (u := gsl ((n30)) (L7.length)) [.int .i64 x0, gsl (i10_1) (L1.length), .int .i64 x2, .int .i64 x3, gsl (i19_1) (L4.length), .int .i64 x5, gsl (i30_1) (L6.length), gsl ((n30)) (L7.length), .int .i64 x8, .int .i64 x9, s10, .int .i64 x11] f44 (by show _ ≤ _; simp) (gsl_cells _ _) (gsl_cell1 _ _) rfl rfl rfl (by omega) ?_
 intro H49 b50 b51
 have f52 := (b51 _ (by omega)).trans f45
 have f53 : L1 ≠ [] → aget H49 i10_1 = some (.cells (ints L1) 3 (some 1)) := fun hne => by have hdm := (ri10_1 hne).2; exact (b51 _ (by omega)).trans (f46 hne)
 have f54 : L4 ≠ [] → aget H49 i19_1 = some (.cells (ints L4) 3 (some 1)) := fun hne => by have hdm := (ri19_1 hne).2; exact (b51 _ (by omega)).trans (f47 hne)
 have f55 : L6 ≠ [] → aget H49 i30_1 = some (.cells (ints L6) 3 (some 1)) := fun hne => by have hdm := (ri30_1 hne).2; exact (b51 _ (by omega)).trans (f48 hne)
 have f56 : L7 ≠ [] → aget H49 (n30) = some (.cells (ints L7) 3 (some 1)) := fun hne => by have hdm := (r43 hne).2; exact (b51 _ (by omega)).trans ((fun h => (r43 h).1) hne)
 have g57 : Fresh H49 (n43) := fun q h1 h2 => by rw [b51 q (by omega)]; exact F43.fresh q h1 h2
 refine RXn ?_
 refine WLv (lv1 1 rfl (lv1 2 rfl lv0)) ?_
 refine WC_go hE hm ?_
 refine xP rfl rfl rfl rfl ?_
 refine xR (v := s10) rfl rfl rfl (ld1 (o := 0 + 10) b50 rfl) ?_
 refine xC rfl rfl rfl rfl (copyInts hE hm c54_cp (g10.keep (fun q (hq : q < n0) => ((b51 q (by omega)).trans ((F43.keep q (by omega)).trans ((b37 q (by omega)).trans ((F30.keep q (by omega)).trans ((b25 q (by omega)).trans ((F19.keep q (by omega)).trans ((b15 q (by omega)).trans ((F10.keep q (by omega)).trans ((a7 q (by omega)).trans (a3 q (by omega))))))))))))) g57 (by omega)) ?_
 rintro _ H58 n58 ⟨F58, rfl, r58⟩
 have le58 := F58.le
 have rm58 := F58.room
 have f59 := (F58.keep _ (by omega)).trans b50
 have f60 := (F58.keep _ (by omega)).trans f52
 have f61 : L1 ≠ [] → aget H58 i10_1 = some (.cells (ints L1) 3 (some 1)) := fun hne => by have hdm := (ri10_1 hne).2; exact (F58.keep _ (by omega)).trans (f53 hne)
 have f62 : L4 ≠ [] → aget H58 i19_1 = some (.cells (ints L4) 3 (some 1)) := fun hne => by have hdm := (ri19_1 hne).2; exact (F58.keep _ (by omega)).trans (f54 hne)
 have f63 : L6 ≠ [] → aget H58 i30_1 = some (.cells (ints L6) 3 (some 1)) := fun hne => by have hdm := (ri30_1 hne).2; exact (F58.keep _ (by omega)).trans (f55 hne)
 have f64 : L7 ≠ [] → aget H58 (n30) = some (.cells (ints L7) 3 (some 1)) := fun hne => by have hdm := (r43 hne).2; exact (F58.keep _ (by omega)).trans (f56 hne)
 refine xP rfl rfl rfl rfl ?_
 refine xStO (u := gsl ((n43)) (L10.length)) [.int .i64 x0, gsl (i10_1) (L1.length), .int .i64 x2, .int .i64 x3, gsl (i19_1) (L4.length), .int .i64 x5, gsl (i30_1) (L6.length), gsl ((n30)) (L7.length), .int .i64 x8, .int .i64 x9, gsl ((n43)) (L10.length), .int .i64 x11] f59 (by show _ ≤ _; simp) (gsl_cells _ _) (gsl_cell1 _ _) rfl rfl rfl (by omega) ?_
 intro H65 b66 b67
 have f68 := (b67 _ (by omega)).trans f60
 have f69 : L1 ≠ [] → aget H65 i10_1 = some (.cells (ints L1) 3 (some 1)) := fun hne => by have hdm := (ri10_1 hne).2; exact (b67 _ (by omega)).trans (f61 hne)
 have f70 : L4 ≠ [] → aget H65 i19_1 = some (.cells (ints L4) 3 (some 1)) := fun hne => by have hdm := (ri19_1 hne).2; exact (b67 _ (by omega)).trans (f62 hne)
 have f71 : L6 ≠ [] → aget H65 i30_1 = some (.cells (ints L6) 3 (some 1)) := fun hne => by have hdm := (ri30_1 hne).2; exact (b67 _ (by omega)).trans (f63 hne)
 have f72 : L7 ≠ [] → aget H65 (n30) = some (.cells (ints L7) 3 (some 1)) := fun hne => by have hdm := (r43 hne).2; exact (b67 _ (by omega)).trans (f64 hne)
 have f73 : L10 ≠ [] → aget H65 (n43) = some (.cells (ints L10) 3 (some 1)) := fun hne => by have hdm := (r58 hne).2; exact (b67 _ (by omega)).trans ((fun h => (r58 h).1) hne)
 have g74 : Fresh H65 (n58) := fun q h1 h2 => by rw [b67 q (by omega)]; exact F58.fresh q h1 h2
 refine RXn ?_
 refine WLv (lv1 1 rfl (lv1 2 rfl lv0)) ?_
 refine WC_go hE hm ?_
 refine xR (v := .agg #[.int .i64 x0, gsl (i10_1) (L1.length), .int .i64 x2, .int .i64 x3, gsl (i19_1) (L4.length), .int .i64 x5, gsl (i30_1) (L6.length), gsl ((n30)) (L7.length), .int .i64 x8, .int .i64 x9, gsl ((n43)) (L10.length), .int .i64 x11]) rfl rfl rfl (loadBox (xs := [.int .i64 x0, gsl (i10_1) (L1.length), .int .i64 x2, .int .i64 x3, gsl (i19_1) (L4.length), .int .i64 x5, gsl (i30_1) (L6.length), gsl ((n30)) (L7.length), .int .i64 x8, .int .i64 x9, gsl ((n43)) (L10.length), .int .i64 x11]) b66 rfl) ?_
 refine xFill (ys := [.int .i64 x0, gsl (i10_1) (L1.length), .int .i64 x2, .int .i64 x3, gsl (i19_1) (L4.length), .int .i64 x5, gsl (i30_1) (L6.length), gsl ((n30)) (L7.length), .int .i64 x8, .int .i64 x9, gsl ((n43)) (L10.length), .int .i64 x11]) f68 rfl rfl (by simp only [List.all_cons, List.all_nil, gsl_cell1]; rfl) rfl rfl (by omega) ?_
 intro H75 b76 b77
 have f78 := (b77 _ (by omega)).trans b66
 have f79 : L1 ≠ [] → aget H75 i10_1 = some (.cells (ints L1) 3 (some 1)) := fun hne => by have hdm := (ri10_1 hne).2; exact (b77 _ (by omega)).trans (f69 hne)
 have f80 : L4 ≠ [] → aget H75 i19_1 = some (.cells (ints L4) 3 (some 1)) := fun hne => by have hdm := (ri19_1 hne).2; exact (b77 _ (by omega)).trans (f70 hne)
 have f81 : L6 ≠ [] → aget H75 i30_1 = some (.cells (ints L6) 3 (some 1)) := fun hne => by have hdm := (ri30_1 hne).2; exact (b77 _ (by omega)).trans (f71 hne)
 have f82 : L7 ≠ [] → aget H75 (n30) = some (.cells (ints L7) 3 (some 1)) := fun hne => by have hdm := (r43 hne).2; exact (b77 _ (by omega)).trans (f72 hne)
 have f83 : L10 ≠ [] → aget H75 (n43) = some (.cells (ints L10) 3 (some 1)) := fun hne => by have hdm := (r58 hne).2; exact (b77 _ (by omega)).trans (f73 hne)
 have g84 : Fresh H75 (n58) := fun q h1 h2 => by rw [b77 q (by omega)]; exact g74 q h1 h2
 refine RXn ?_
 refine WLv (lv1 2 rfl lv0) ?_
 refine WC_ret ?_
 refine endR (rvs1 (rv_cellN (b := n + 1) rfl b76 rfl)) ?_
 exact ⟨⟨fun q hq => ((b77 q (by omega)).trans ((b67 q (by omega)).trans ((F58.keep q (by omega)).trans ((b51 q (by omega)).trans ((F43.keep q (by omega)).trans ((b37 q (by omega)).trans ((F30.keep q (by omega)).trans ((b25 q (by omega)).trans ((F19.keep q (by omega)).trans ((b15 q (by omega)).trans ((F10.keep q (by omega)).trans ((a7 q (by omega)).trans (a3 q (by omega)))))))))))))), g84, by omega, by omega⟩, i10_1, i19_1, i30_1, (n30), (n43), rfl, (fun h => ⟨f79 h, by have := (ri10_1 h).2; omega, by have := (ri10_1 h).2; omega⟩), (fun h => ⟨f80 h, by have := (ri19_1 h).2; omega, by have := (ri19_1 h).2; omega⟩), (fun h => ⟨f81 h, by have := (ri30_1 h).2; omega, by have := (ri30_1 h).2; omega⟩), (fun h => ⟨f82 h, by have := (r43 h).2; omega, by have := (r43 h).2; omega⟩), (fun h => ⟨f83 h, by have := (r58 h).2; omega, by have := (r58 h).2; omega⟩)⟩
end Go.Proofs.YtmpogedhilfjgaaGreatDoor
