/- A part of the proof that the law spadilletop.TopSharedRing answers true and leaves its argument as it was (C4) -/
import Derived.Test.YtmpogedhilfjgaaGreatDoorC3
set_option linter.all false
set_option maxRecDepth 1000000
set_option maxHeartbeats 4000000
open Go Go.Cs
namespace Go.Proofs.YtmpogedhilfjgaaGreatDoor
def c46 : FC := FC.mk 54 (.seq (.steps [⟨.box 24, [.tmp 0], some 1, none⟩,⟨.move, [.const (.slice none 0 0)], some 2, none⟩,⟨.move, [.const (.int .i64 0)], some 3, none⟩]) (.seq (.steps [⟨.loadN 2, [.tmp 1], some 10, none⟩,⟨.callF 56, [.tmp 10], some 11, none⟩,⟨.move, [.tmp 11], some 9, none⟩,⟨.extract 0, [.tmp 9], some 12, none⟩,⟨.extract 1, [.tmp 9], some 13, none⟩,⟨.alloc 75 [.int .i64 0, .int .u32 0], [], some 4, none⟩,⟨.store 2, [.tmp 4, .tmp 12], none, none⟩,⟨.move, [.tmp 13], some 5, none⟩]) (.seq (.block 0 (.seq (.steps [⟨.move, [.tmp 5], some 15, none⟩,⟨.bin .neq, [.tmp 15, .const (.int .i64 0)], some 16, none⟩,⟨.move, [.tmp 16], some 14, none⟩]) (.cond (.tmp 14) (.seq (.steps [⟨.move, [.tmp 5], some 17, none⟩,⟨.move, [.const (.slice none 0 0)], some 2, none⟩,⟨.move, [.tmp 17], some 3, none⟩]) (.ret)) (.seq (.steps [⟨.fieldAddr 1, [.tmp 4], some 19, none⟩,⟨.load1, [.tmp 19], some 20, none⟩,⟨.callF 77, [.tmp 20], some 21, none⟩,⟨.bin .eql, [.tmp 21, .const (.int .i64 6)], some 22, none⟩,⟨.move, [.tmp 22], some 18, none⟩]) (.cond (.tmp 18) (.seq (.steps [⟨.move, [.const (.slice none 0 0)], some 2, none⟩,⟨.move, [.const (.int .i64 3)], some 3, none⟩]) (.ret)) (.seq (.steps [⟨.loadN 2, [.tmp 4], some 24, none⟩,⟨.callF 65, [.tmp 24], some 25, none⟩,⟨.bin .gtr, [.tmp 25, .const (.int .i64 0)], some 26, none⟩,⟨.move, [.tmp 26], some 23, none⟩]) (.cond (.tmp 23) (.seq (.steps [⟨.move, [.const (.slice none 0 0)], some 2, none⟩,⟨.move, [.const (.int .i64 14)], some 3, none⟩]) (.ret)) (.skip)))))))) (.seq (.steps [⟨.move, [.const (.slice none 0 0)], some 6, none⟩]) (.seq (.seq (.steps [⟨.fieldAddr 0, [.tmp 4], some 27, none⟩,⟨.load1, [.tmp 27], some 28, none⟩,⟨.move, [.const (.int .i64 0)], some 29, none⟩]) (.block 1 (.loop (.seq (.steps [⟨.bin .lss, [.tmp 29, .tmp 28], some 30, none⟩]) (.seq (.cond (.tmp 30) (.skip) (.exit 1)) (.seq (.block 2 (.seq (.steps [⟨.move, [.tmp 29], some 31, none⟩,⟨.move, [.tmp 31], some 7, none⟩]) (.seq (.steps [⟨.loadN 2, [.tmp 4], some 32, none⟩,⟨.alloc 75 [.int .i64 0, .int .u32 0], [], some 8, none⟩,⟨.store 2, [.tmp 8, .tmp 32], none, none⟩]) (.seq (.steps [⟨.fieldAddr 1, [.tmp 8], some 33, none⟩,⟨.load1, [.tmp 33], some 34, none⟩,⟨.move, [.tmp 7], some 35, none⟩,⟨.bin .shl, [.const (.int .u32 1), .tmp 35], some 36, none⟩,⟨.bin .or, [.tmp 34, .tmp 36], some 37, none⟩,⟨.fieldAddr 1, [.tmp 8], some 38, none⟩,⟨.store 1, [.tmp 38, .tmp 37], none, none⟩]) (.seq (.steps [⟨.loadN 2, [.tmp 4], some 39, none⟩,⟨.move, [.tmp 7], some 40, none⟩,⟨.callF 78, [.tmp 39, .tmp 40], some 41, none⟩,⟨.un .not, [.tmp 41], some 42, none⟩,⟨.move, [.tmp 42], some 43, none⟩,⟨.loadN 2, [.tmp 8], some 44, some (43, true)⟩,⟨.callF 65, [.tmp 44], some 45, some (43, true)⟩,⟨.bin .eql, [.tmp 45, .const (.int .i64 0)], some 46, some (43, true)⟩,⟨.pick, [.tmp 43, .tmp 46, .const (.bool false)], some 47, none⟩]) (.cond (.tmp 47) (.steps [⟨.move, [.tmp 6], some 48, none⟩,⟨.move, [.tmp 7], some 49, none⟩,⟨.buildSlice 3 1 [.int .i64 0] [(0, 1)], [.tmp 49], some 50, none⟩,⟨.append 3 1 8 [.int .i64 0], [.tmp 48, .tmp 50], some 51, none⟩,⟨.move, [.tmp 51], some 6, none⟩]) (.skip))))))) (.steps [⟨.bin .add, [.tmp 29, .const (.int .i64 1)], some 52, none⟩,⟨.move, [.tmp 52], some 29, none⟩]))))))) (.seq (.steps [⟨.move, [.tmp 6], some 53, none⟩,⟨.move, [.tmp 53], some 2, none⟩,⟨.move, [.const (.int .i64 0)], some 3, none⟩]) (.ret))))))) [.tmp 2, .tmp 3]
theorem c46_ok : compF Tryz.prog 46 = some c46 := by kernel_rfl
theorem room_ok {p : Int} {l : List Int} {i : Nat} (hll : l.length ≤ 1000000) {H : Heap} {n : Nat} (hg : aget H 0 = some gl) (hrow : OldRow H n i l) (hfr : Fresh H n) (hn : n + 20000 < lim) (hn0 : 0 < n) :
 F Tryz.prog [0] 46 [sealV p i l] H n (fun v H' n' => Fin H n 5000 H' n' ∧ ∃ (e : Int) (s : Value) (lo : List Int) (io : Nat) (gr : Option Nat), v = .tuple #[s, .int .i64 e] ∧ SliceAt s io 0 lo.length ∧ isHdr s = true ∧ s.cells.toList = [s] ∧ cell1 s = true ∧ lo.length ≤ 100 ∧ (lo ≠ [] → aget H' io = some (.cells (ints lo) 3 gr) ∧ n ≤ io ∧ io < n')) := by
 refine F_of_comp c46_ok rfl ?_
 have hlim := limv
 refine WC_go hE hm ?_
 refine xNew (ob := .cells [.int .i64 p, gsl (i) (l.length)] 24 none) (mk := .ptr) hfr (by omega) rfl rfl rfl (by simp [semA, aBox, Value.cells, sealV]) ?_
 intro H1 a2 a3 a4
 have f5 := (a3 _ (by omega)).trans hg
 have f6 : l ≠ [] → aget H1 i = some (.cells (ints l) 3 (some 1)) := fun hne => by have hdm := (hrow hne).2; exact (a3 _ (by omega)).trans ((fun h => (hrow h).1) hne)
 refine xP rfl rfl rfl rfl ?_
 refine xP rfl rfl rfl rfl ?_
 refine RXn ?_
 refine WLv (lv1 1 rfl lv0) ?_
 refine WC_go hE hm ?_
 refine xR (v := .agg #[.int .i64 p, gsl (i) (l.length)]) rfl rfl rfl (loadBox (xs := [.int .i64 p, gsl (i) (l.length)]) a2 rfl) ?_
 refine xC rfl rfl rfl rfl (opened_ok hll f5 (fun hne => ⟨f6 hne, by have := (hrow hne).2; omega⟩) a4 (by omega) (by omega)) ?_
 rintro _ H7 n7 ⟨F7, e7, p7, u7, rfl, hu7, hop7⟩
 have le7 := F7.le
 have rm7 := F7.room
 have f8 := (F7.keep _ (by omega)).trans f5
 have f9 : l ≠ [] → aget H7 i = some (.cells (ints l) 3 (some 1)) := fun hne => by have hdm := (hrow hne).2; exact (F7.keep _ (by omega)).trans (f6 hne)
 have f10 := (F7.keep _ (by omega)).trans a2
 refine xP rfl rfl rfl rfl ?_
 refine xP rfl rfl rfl rfl ?_
 refine xP rfl rfl rfl rfl ?_
 refine xNew (ob := .cells [.int .i64 0, .int .u32 0] 75 none) (mk := .ptr) F7.fresh (by omega) rfl rfl rfl rfl ?_
 intro H11 a12 a13 a14
 have f15 := (a13 _ (by omega)).trans f8
 have f16 : l ≠ [] → aget H11 i = some (.cells (ints l) 3 (some 1)) := fun hne => by have hdm := (hrow hne).2; exact (a13 _ (by omega)).trans (f9 hne)
 have f17 := (a13 _ (by omega)).trans f10
 refine xFill (ys := [.int .i64 p7, .int .u32 (u7 : Int)]) a12 rfl rfl (by simp only [List.all_cons, List.all_nil, gsl_cell1]; rfl) rfl rfl (by omega) ?_
 intro H18 b19 b20
 have f21 := (b20 _ (by omega)).trans f15
 have f22 : l ≠ [] → aget H18 i = some (.cells (ints l) 3 (some 1)) := fun hne => by have hdm := (hrow hne).2; exact (b20 _ (by omega)).trans (f16 hne)
 have f23 := (b20 _ (by omega)).trans f17
 have g24 : Fresh H18 (n7 + 1) := fun q h1 h2 => by rw [b20 q (by omega)]; exact a14 q h1 h2
 refine xP rfl rfl rfl rfl ?_
 refine RXn ?_
 refine WLv (lv1 4 rfl (lv1 5 rfl lv0)) ?_
 refine WC_seq ?_
 refine WC_block ?_
 refine WC_go hE hm ?_
 refine xP rfl rfl rfl rfl ?_
 refine xNe rfl rfl ?_ ?_ <;> intro h16
 · skip
   refine xP rfl rfl rfl rfl ?_
   refine RXn ?_
   refine WLv (lv1 4 rfl (lv1 5 rfl (lv1 14 rfl lv0))) ?_
   refine WC_condT rfl ?_
   refine WC_go hE hm ?_
   refine xP rfl rfl rfl rfl ?_
   refine xP rfl rfl rfl rfl ?_
   refine xP rfl rfl rfl rfl ?_
   refine RXn ?_
   refine WLv (lv1 2 rfl (lv1 3 rfl lv0)) ?_
   refine WC_ret ?_
   refine blockR ?_
   refine thenR ?_
   refine endR rfl ?_
   exact ⟨⟨fun q hq => ((b20 q (by omega)).trans ((a13 q (by omega)).trans ((F7.keep q (by omega)).trans (a3 q (by omega))))), g24, by omega, by omega⟩, _, .slice none 0 0, [], 0, none, rfl, .nil 0 0, rfl, rfl, rfl, by decide, fun h => absurd rfl h⟩
 · skip
   obtain ⟨hpe7, hp, hl67, hxx7⟩ := hop7 h16
   obtain rfl := hpe7.symm
   refine xP rfl rfl rfl rfl ?_
   refine RXn ?_
   refine WLv (lv1 4 rfl (lv1 5 rfl (lv1 14 rfl lv0))) ?_
   refine WC_condF rfl ?_
   refine WC_go hE hm ?_
   refine xP rfl rfl rfl rfl ?_
   refine xR (v := .int .u32 (u7 : Int)) rfl rfl rfl (ld1 (o := 0 + 1) b19 rfl) ?_
   refine xC rfl rfl rfl rfl (ones_ok hu7 f21) ?_
   rintro _ H9 n9 ⟨⟨c25, rfl⟩, hH9, hn9⟩
   obtain rfl := hH9.symm
   obtain rfl := hn9.symm
   refine xEq rfl rfl ?_ ?_ <;> intro h22
   · skip
     refine xP rfl rfl rfl rfl ?_
     refine RXn ?_
     refine WLv (lv1 4 rfl (lv1 18 rfl lv0)) ?_
     refine WC_condT rfl ?_
     refine WC_go hE hm ?_
     refine xP rfl rfl rfl rfl ?_
     refine xP rfl rfl rfl rfl ?_
     refine RXn ?_
     refine WLv (lv1 2 rfl (lv1 3 rfl lv0)) ?_
     refine WC_ret ?_
     refine blockR ?_
     refine thenR ?_
     refine endR rfl ?_
     exact ⟨⟨fun q hq => ((b20 q (by omega)).trans ((a13 q (by omega)).trans ((F7.keep q (by omega)).trans (a3 q (by omega))))), g24, by omega, by omega⟩, _, .slice none 0 0, [], 0, none, rfl, .nil 0 0, rfl, rfl, rfl, by decide, fun h => absurd rfl h⟩
   · skip
     refine xP rfl rfl rfl rfl ?_
     refine RXn ?_
     refine WLv (lv1 4 rfl (lv1 18 rfl lv0)) ?_
     refine WC_condF rfl ?_
     refine WC_go hE hm ?_
     refine xR (v := .agg #[.int .i64 p, .int .u32 (u7 : Int)]) rfl rfl rfl (loadBox (xs := [.int .i64 p, .int .u32 (u7 : Int)]) b19 rfl) ?_
     refine xC rfl rfl rfl rfl (clash_ok hp hu7 f21) ?_
     rintro _ H9 n9 ⟨⟨c26, rfl⟩, hH9, hn9⟩
     obtain rfl := hH9.symm
     obtain rfl := hn9.symm
     refine xCmp rfl rfl rfl rfl ?_ ?_ <;> intro h26
     · skip
       refine xP rfl rfl rfl rfl ?_
       refine RXn ?_
       refine WLv (lv1 4 rfl (lv1 23 rfl lv0)) ?_
       refine WC_condT rfl ?_
       refine WC_go hE hm ?_
       refine xP rfl rfl rfl rfl ?_
       refine xP rfl rfl rfl rfl ?_
       refine RXn ?_
       refine WLv (lv1 2 rfl (lv1 3 rfl lv0)) ?_
       refine WC_ret ?_
       refine blockR ?_
       refine thenR ?_
       refine endR rfl ?_
       exact ⟨⟨fun q hq => ((b20 q (by omega)).trans ((a13 q (by omega)).trans ((F7.keep q (by omega)).trans (a3 q (by omega))))), g24, by omega, by omega⟩, _, .slice none 0 0, [], 0, none, rfl, .nil 0 0, rfl, rfl, rfl, by decide, fun h => absurd rfl h⟩
     · skip
       refine xP rfl rfl rfl rfl ?_
       refine RXn ?_
       refine WLv (lv1 4 rfl (lv1 23 rfl lv0)) ?_
       refine WC_condF rfl ?_
       refine WC_skip ?_
       refine blockN ?_
       refine thenN ?_
       refine WLv (lv1 4 rfl lv0) ?_
       refine WC_go hE hm ?_
       refine xP rfl rfl rfl rfl ?_
       refine RXn ?_
       refine WLv (lv1 4 rfl (lv1 6 rfl lv0)) ?_
       refine WC_seq ?_
       refine WC_go hE hm ?_
       refine xP rfl rfl rfl rfl ?_
       refine xR (v := .int .i64 p) rfl rfl rfl (ld1 (o := 0 + 0) b19 rfl) ?_
       refine xP rfl rfl rfl rfl ?_
       refine RXn ?_
       refine WLv (lv1 4 rfl (lv1 6 rfl (lv1 28 rfl (lv1 29 rfl lv0)))) ?_
       refine WC_block ?_
       refine WC_loopX (X := Nat × List Int × Nat × Heap × Nat) (fun y => { T := ofL [(4, .pointer (some ⟨n7, 0, none⟩)), (6, gsl y.2.2.1 y.2.1.length), (28, .int .i64 p), (29, .int .i64 (y.1 : Int))], D := [], H := y.2.2.2.1, n := y.2.2.2.2 })
        (fun y => ((y.1 : Int) ≤ p) ∧ y.2.1.length ≤ y.1 ∧ (y.2.1 ≠ [] → aget y.2.2.2.1 y.2.2.1 = some (.cells (ints y.2.1) 3 (some 1)) ∧ n7 + 1 ≤ y.2.2.1 ∧ y.2.2.1 < y.2.2.2.2) ∧ (y.2.1 = [] → lim ≤ y.2.2.1) ∧ (∀ q, q < n7 + 1 → aget y.2.2.2.1 q = aget H18 q) ∧ Fresh y.2.2.2.1 y.2.2.2.2 ∧ n7 + 1 ≤ y.2.2.2.2 ∧ y.2.2.2.2 ≤ n7 + 1 + 20 * y.1)
        (fun y => p.toNat - y.1) (0, [], lim, H18, n7 + 1) ⟨by dsimp only; omega, Nat.zero_le _, (fun h => absurd rfl h), (fun _ => Nat.le_refl _), (fun _ _ => rfl), g24, Nat.le_refl _, by dsimp only; omega⟩ ?_
       rintro ⟨k, lo, b, Hl, nl⟩ ⟨i1, i2, i4, i5, i6, i7, i8, i9⟩
       dsimp only at *
       have hbq : ∀ q, q < n7 + 1 → q ≠ b := fun q hq => by
        by_cases h0 : lo = []
        · have := i5 h0; omega
        · have := (i4 h0).2.1; omega
       have hbn : b < nl ∨ lim ≤ b := by
        by_cases h0 : lo = []
        · exact .inr (i5 h0)
        · exact .inl (i4 h0).2.2
       have hbl27 := hbq (0) (by omega)
       have l27 := (i6 (0) (by omega)).trans f21
       have l28 : l ≠ [] → aget Hl i = some (.cells (ints l) 3 (some 1)) := fun hne => by have hdm := (hrow hne).2; exact (i6 _ (by omega)).trans (f22 hne)
       have hbl29 := hbq (n) (by omega)
       have l29 := (i6 (n) (by omega)).trans f23
       have hbl30 := hbq (n7) (by omega)
       have l30 := (i6 (n7) (by omega)).trans b19
       refine WC_go hE hm ?_
       refine xCmp rfl rfl rfl rfl ?_ ?_ <;> intro h30
       · skip
         refine RXn ?_
         refine WLv (lv1 4 rfl (lv1 6 rfl (lv1 28 rfl (lv1 29 rfl (lv1 30 rfl lv0))))) ?_
         refine WC_seq ?_
         refine WC_condT rfl ?_
         refine WC_skip ?_
         refine thenN ?_
         refine WLv (lv1 4 rfl (lv1 6 rfl (lv1 28 rfl (lv1 29 rfl lv0)))) ?_
         refine WC_seq ?_
         refine WC_block ?_
         refine WC_go hE hm ?_
         refine xP rfl rfl rfl rfl ?_
         refine xP rfl rfl rfl rfl ?_
         refine RXn ?_
         refine WLv (lv1 4 rfl (lv1 6 rfl (lv1 7 rfl (lv1 28 rfl (lv1 29 rfl lv0))))) ?_
         refine WC_go hE hm ?_
         refine xR (v := .agg #[.int .i64 p, .int .u32 (u7 : Int)]) rfl rfl rfl (loadBox (xs := [.int .i64 p, .int .u32 (u7 : Int)]) l30 rfl) ?_
         refine xNew (ob := .cells [.int .i64 0, .int .u32 0] 75 none) (mk := .ptr) i7 (by omega) rfl rfl rfl rfl ?_
         intro H31 a32 a33 a34
         have f35 := (a33 _ (by omega)).trans l27
         have f36 : l ≠ [] → aget H31 i = some (.cells (ints l) 3 (some 1)) := fun hne => by have hdm := (hrow hne).2; exact (a33 _ (by omega)).trans (l28 hne)
         have f37 := (a33 _ (by omega)).trans l29
         have f38 := (a33 _ (by omega)).trans l30
         have f39 : lo ≠ [] → aget H31 b = some (.cells (ints lo) 3 (some 1)) := fun hne => by have hdm := (i4 hne).2; exact (a33 _ (by omega)).trans ((fun h => (i4 h).1) hne)
         refine xFill (ys := [.int .i64 p, .int .u32 (u7 : Int)]) a32 rfl rfl (by simp only [List.all_cons, List.all_nil, gsl_cell1]; rfl) rfl rfl (by omega) ?_
         intro H40 b41 b42
         have f43 := (b42 _ (by omega)).trans f35
         have f44 : l ≠ [] → aget H40 i = some (.cells (ints l) 3 (some 1)) := fun hne => by have hdm := (hrow hne).2; exact (b42 _ (by omega)).trans (f36 hne)
         have f45 := (b42 _ (by omega)).trans f37
         have f46 := (b42 _ (by omega)).trans f38
         have f47 : lo ≠ [] → aget H40 b = some (.cells (ints lo) 3 (some 1)) := fun hne => by have hdm := (i4 hne).2; exact (b42 _ (by omega)).trans (f39 hne)
         have g48 : Fresh H40 (nl + 1) := fun q h1 h2 => by rw [b42 q (by omega)]; exact a34 q h1 h2
         refine RXn ?_
         refine WLv (lv1 4 rfl (lv1 6 rfl (lv1 7 rfl (lv1 8 rfl (lv1 28 rfl (lv1 29 rfl lv0)))))) ?_
         refine WC_go hE hm ?_
         refine xP rfl rfl rfl rfl ?_
         refine xR (v := .int .u32 (u7 : Int)) rfl rfl rfl (ld1 (o := 0 + 1) b41 rfl) ?_
         refine xP rfl rfl rfl rfl ?_
         refine xShl (x := 1) rfl rfl rfl (by omega) ?_
         refine xOr rfl rfl rfl hu7 (Nat.mod_lt _ (by decide)) ?_
         have hw49 : (u7 ||| (1 <<< min ((k : Int)).toNat IntKind.u32.bits) % 2 ^ IntKind.u32.bits) < 2 ^ 32 := Nat.or_lt_two_pow hu7 (Nat.mod_lt _ (by decide))
         generalize (u7 ||| (1 <<< min ((k : Int)).toNat IntKind.u32.bits) % 2 ^ IntKind.u32.bits) = w49 at hw49 ⊢
         refine xP rfl rfl rfl rfl ?_
         refine xStO (u := .int .u32 (w49 : Int)) [.int .i64 p, .int .u32 (w49 : Int)] b41 (by show _ ≤ _; simp) rfl rfl rfl rfl rfl (by omega) ?_
         intro H50 b51 b52
         have f53 := (b52 _ (by omega)).trans f43
         have f54 : l ≠ [] → aget H50 i = some (.cells (ints l) 3 (some 1)) := fun hne => by have hdm := (hrow hne).2; exact (b52 _ (by omega)).trans (f44 hne)
         have f55 := (b52 _ (by omega)).trans f45
         have f56 := (b52 _ (by omega)).trans f46
         have f57 : lo ≠ [] → aget H50 b = some (.cells (ints lo) 3 (some 1)) := fun hne => by have hdm := (i4 hne).2; exact (b52 _ (by omega)).trans (f47 hne)
         have g58 : Fresh H50 (nl + 1) := fun q h1 h2 => by rw [b52 q (by omega)]; exact g48 q h1 h2
         refine RXn ?_
         refine WLv (lv1 4 rfl (lv1 6 rfl (lv1 7 rfl (lv1 8 rfl (lv1 28 rfl (lv1 29 rfl lv0)))))) ?_
         refine WC_go hE hm ?_
         refine xR (v := .agg #[.int .i64 p, .int .u32 (u7 : Int)]) rfl rfl rfl (loadBox (xs := [.int .i64 p, .int .u32 (u7 : Int)]) f56 rfl) ?_
         refine xP rfl rfl rfl rfl ?_
         refine xC rfl rfl rfl rfl (has_ok hu7 (by omega) f53) ?_
         rintro _ H9 n9 ⟨⟨bb59, rfl⟩, hH9, hn9⟩
         obtain rfl := hH9.symm
         obtain rfl := hn9.symm
         refine xP (v := .bool (!bb59)) rfl rfl rfl rfl ?_
         generalize (!bb59) = nb60
         refine xP rfl rfl rfl rfl ?_
         cases nb60 with
         | false =>
          refine xS rfl ?_
          refine xS rfl ?_
          refine xS rfl ?_
          refine xP rfl rfl rfl rfl ?_
          refine RXn ?_
          refine WLv (lv1 4 rfl (lv1 6 rfl (lv1 7 rfl (lv1 28 rfl (lv1 29 rfl (lv1 47 rfl lv0)))))) ?_
          refine WC_condF rfl ?_
          refine WC_skip ?_
          refine blockN ?_
          refine thenN ?_
          refine WLv (lv1 4 rfl (lv1 6 rfl (lv1 28 rfl (lv1 29 rfl lv0)))) ?_
          refine WC_steps hE hm ?_
          refine xAdd rfl rfl (by omega) ?_
          refine xP rfl rfl rfl rfl ?_
          refine RXn ?_
          refine thenN ⟨(k + 1, lo, b, H50, nl + 1), ⟨by dsimp only; omega, by dsimp only; omega, (fun h => ⟨f57 h, (i4 h).2.1, by have := (i4 h).2.2; dsimp only; omega⟩), i5, (fun q hq => by have hbq2 := hbq q hq; exact ((b52 q (by omega)).trans ((b42 q (by omega)).trans ((a33 q (by omega)).trans (i6 q (by omega)))))), g58, by dsimp only; omega, by dsimp only; omega⟩, by dsimp only; omega, Le.live (lv1 4 rfl (lv1 6 rfl (lv1 28 rfl (lv1 29 rfl lv0))))⟩
         | true =>
          refine xR (v := .agg #[.int .i64 p, .int .u32 (w49 : Int)]) rfl rfl rfl (loadBox (xs := [.int .i64 p, .int .u32 (w49 : Int)]) b51 rfl) ?_
          refine xC rfl rfl rfl rfl (clash_ok hp hw49 f53) ?_
          rintro _ H9 n9 ⟨⟨c61, rfl⟩, hH9, hn9⟩
          obtain rfl := hH9.symm
          obtain rfl := hn9.symm
          refine xEq rfl rfl ?_ ?_ <;> intro h46
          · skip
            refine xP rfl rfl rfl rfl ?_
            refine RXn ?_
            refine WLv (lv1 4 rfl (lv1 6 rfl (lv1 7 rfl (lv1 28 rfl (lv1 29 rfl (lv1 47 rfl lv0)))))) ?_
            refine WC_condT rfl ?_
            refine WC_steps hE hm ?_
            refine xP rfl rfl rfl rfl ?_
            refine xP rfl rfl rfl rfl ?_
            refine eye_app (t := 3) (i := b) (l := lo) (x := (k : Int)) rfl g58 (by omega) (fun h => ⟨f57 h, by have := (i4 h).2; omega⟩) i5 (by omega) rfl (fun v => rfl) ?_
            intro H62 e63 e64 e65
            have f66 := (e64 _ (by omega) (by omega)).trans f53
            have f67 : l ≠ [] → aget H62 i = some (.cells (ints l) 3 (some 1)) := fun hne => by have hdm := (hrow hne).2; have hbl := hbq (i) (by omega); exact (e64 _ (by omega) (by omega)).trans (f54 hne)
            have f68 := (e64 _ (by omega) (by omega)).trans f55
            have f69 := (e64 _ (by omega) (by omega)).trans f56
            have f70 := (e64 _ (by omega) (by omega)).trans b51
            refine xP rfl rfl rfl rfl ?_
            refine RXn ?_
            refine blockN ?_
            refine thenN ?_
            refine WLv (lv1 4 rfl (lv1 6 rfl (lv1 28 rfl (lv1 29 rfl lv0)))) ?_
            refine WC_steps hE hm ?_
            refine xAdd rfl rfl (by omega) ?_
            refine xP rfl rfl rfl rfl ?_
            refine RXn ?_
            refine thenN ⟨(k + 1, (lo ++ [(k : Int)]), nl + 1 + 1, H62, nl + 1 + 2), ⟨by dsimp only; omega, by simp only [List.length_append, List.length_cons, List.length_nil]; omega, (fun _ => ⟨e63, by dsimp only; omega, by dsimp only; omega⟩), (fun h => by simp at h), (fun q hq => by have hbq2 := hbq q hq; exact ((e64 q (by omega) (by omega)).trans ((b52 q (by omega)).trans ((b42 q (by omega)).trans ((a33 q (by omega)).trans (i6 q (by omega))))))), e65, by dsimp only; omega, by dsimp only; omega⟩, by dsimp only; omega, Le.live (lv1 4 rfl (lv1 6 (by simp only [List.length_append]; rfl) (lv1 28 rfl (lv1 29 rfl lv0))))⟩
          · skip
            refine xP rfl rfl rfl rfl ?_
            refine RXn ?_
            refine WLv (lv1 4 rfl (lv1 6 rfl (lv1 7 rfl (lv1 28 rfl (lv1 29 rfl (lv1 47 rfl lv0)))))) ?_
            refine WC_condF rfl ?_
            refine WC_skip ?_
            refine blockN ?_
            refine thenN ?_
            refine WLv (lv1 4 rfl (lv1 6 rfl (lv1 28 rfl (lv1 29 rfl lv0)))) ?_
            refine WC_steps hE hm ?_
            refine xAdd rfl rfl (by omega) ?_
            refine xP rfl rfl rfl rfl ?_
            refine RXn ?_
            refine thenN ⟨(k + 1, lo, b, H50, nl + 1), ⟨by dsimp only; omega, by dsimp only; omega, (fun h => ⟨f57 h, (i4 h).2.1, by have := (i4 h).2.2; dsimp only; omega⟩), i5, (fun q hq => by have hbq2 := hbq q hq; exact ((b52 q (by omega)).trans ((b42 q (by omega)).trans ((a33 q (by omega)).trans (i6 q (by omega)))))), g58, by dsimp only; omega, by dsimp only; omega⟩, by dsimp only; omega, Le.live (lv1 4 rfl (lv1 6 rfl (lv1 28 rfl (lv1 29 rfl lv0))))⟩
       · skip
         refine RXn ?_
         refine WLv (lv1 4 rfl (lv1 6 rfl (lv1 28 rfl (lv1 29 rfl (lv1 30 rfl lv0))))) ?_
         refine WC_seq ?_
         refine WC_condF rfl ?_
         refine WC_exit ?_
         refine thenE ?_
         refine thenE ?_
         refine blockE ?_
         refine thenN ?_
         refine WLv (lv1 6 rfl lv0) ?_
         refine WC_go hE hm ?_
         refine xP rfl rfl rfl rfl ?_
         refine xP rfl rfl rfl rfl ?_
         refine xP rfl rfl rfl rfl ?_
         refine RXn ?_
         refine WLv (lv1 2 rfl (lv1 3 rfl lv0)) ?_
         refine WC_ret ?_
         refine endR rfl ?_
         have isH : isHdr (gsl b lo.length) = true := by generalize lo.length = kk; cases kk <;> rfl
         exact ⟨⟨fun q hq => ((i6 q (by omega)).trans ((b20 q (by omega)).trans ((a13 q (by omega)).trans ((F7.keep q (by omega)).trans (a3 q (by omega)))))), i7, by omega, by omega⟩, _, gsl b lo.length, lo, b, some 1, rfl, .gsl _ _, isH, gsl_cells _ _, gsl_cell1 _ _, by omega, fun h => ⟨(fun h => (i4 h).1) h, by have := (i4 h); omega, by have := (i4 h); omega⟩⟩
end Go.Proofs.YtmpogedhilfjgaaGreatDoor
set_option maxRecDepth 1000000
set_option maxHeartbeats 4000000
open Go Go.Cs
namespace Go.Proofs.YtmpogedhilfjgaaGreatDoor
def c28 : FC := FC.mk 39 (.seq (.steps [⟨.box 24, [.tmp 0], some 2, none⟩,⟨.move, [.const (.slice none 0 0)], some 4, none⟩,⟨.move, [.const (.int .i64 0)], some 5, none⟩]) (.seq (.steps [⟨.loadN 2, [.tmp 2], some 12, none⟩,⟨.callF 56, [.tmp 12], some 13, none⟩,⟨.move, [.tmp 13], some 11, none⟩,⟨.extract 0, [.tmp 11], some 14, none⟩,⟨.extract 1, [.tmp 11], some 15, none⟩,⟨.alloc 75 [.int .i64 0, .int .u32 0], [], some 6, none⟩,⟨.store 2, [.tmp 6, .tmp 14], none, none⟩,⟨.move, [.tmp 15], some 7, none⟩]) (.seq (.seq (.steps [⟨.move, [.tmp 7], some 16, none⟩,⟨.bin .neq, [.tmp 16, .const (.int .i64 0)], some 17, none⟩]) (.cond (.tmp 17) (.seq (.steps [⟨.move, [.tmp 7], some 18, none⟩,⟨.move, [.const (.slice none 0 0)], some 4, none⟩,⟨.move, [.tmp 18], some 5, none⟩]) (.ret)) (.skip))) (.seq (.steps [⟨.loadN 2, [.tmp 6], some 19, none⟩,⟨.alloc 75 [.int .i64 0, .int .u32 0], [], some 8, none⟩,⟨.store 2, [.tmp 8, .tmp 19], none, none⟩]) (.seq (.seq (.steps [⟨.move, [.tmp 1], some 20, none⟩,⟨.lenS, [.tmp 20], some 21, none⟩,⟨.move, [.const (.int .i64 0)], some 22, none⟩]) (.block 0 (.loop (.seq (.steps [⟨.bin .lss, [.tmp 22, .tmp 21], some 23, none⟩]) (.seq (.cond (.tmp 23) (.skip) (.exit 0)) (.seq (.block 1 (.seq (.steps [⟨.indexAddrS 1, [.tmp 20, .tmp 22], some 24, none⟩,⟨.load1, [.tmp 24], some 25, none⟩,⟨.move, [.tmp 25], some 10, none⟩]) (.drawn [(0,⟨.fieldAddr 1, [.tmp 8], some 26, none⟩), (1,⟨.load1, [.tmp 26], some 27, none⟩), (2,⟨.loadN 2, [.tmp 6], some 28, none⟩), (3,⟨.loadN 2, [.tmp 6], some 29, none⟩), (4,⟨.move, [.tmp 10], some 30, none⟩), (5,⟨.callF 57, [.tmp 29, .tmp 30], some 31, none⟩), (6,⟨.callF 59, [.tmp 28, .tmp 31], some 32, none⟩), (7,⟨.field 1 none, [.tmp 32], some 33, none⟩), (8,⟨.bin .and, [.tmp 27, .tmp 33], some 34, none⟩), (9,⟨.fieldAddr 1, [.tmp 8], some 35, none⟩), (10,⟨.store 1, [.tmp 35, .tmp 34], none, none⟩)] [0, 1, 0, 0, 0, 24, 60, 124, 255, 511, 1023]))) (.steps [⟨.bin .add, [.tmp 22, .const (.int .i64 1)], some 36, none⟩,⟨.move, [.tmp 36], some 22, none⟩]))))))) (.seq (.steps [⟨.loadN 2, [.tmp 8], some 37, none⟩,⟨.callF 66, [.tmp 37], some 38, none⟩,⟨.move, [.tmp 38], some 4, none⟩,⟨.move, [.const (.int .i64 0)], some 5, none⟩]) (.ret))))))) [.tmp 4, .tmp 5]
theorem c28_ok : compF Tryz.prog 28 = some c28 := by kernel_rfl
theorem common_ok {p : Int} {l l2 : List Int} {i j : Nat} (hll2 : l2.length ≤ 1000000) (hll : l.length ≤ 1000000) {H : Heap} {n : Nat} (hrow2 : OldRow H n j l2) (hg : aget H 0 = some gl) (hrow : OldRow H n i l) (hfr : Fresh H n) (hn : n + 20000 < lim) (hn0 : 0 < n) :
 F Tryz.prog [0] 28 [sealV p i l, gsl j l2.length] H n (fun v H' n' => Fin H n 5000 H' n' ∧ ∃ (e : Int) (s : Value) (lo : List Int) (io : Nat) (gr : Option Nat), v = .tuple #[s, .int .i64 e] ∧ SliceAt s io 0 lo.length ∧ isHdr s = true ∧ s.cells.toList = [s] ∧ cell1 s = true ∧ lo.length ≤ 100 ∧ (lo ≠ [] → aget H' io = some (.cells (ints lo) 3 gr) ∧ n ≤ io ∧ io < n')) := by
 refine F_of_comp c28_ok rfl ?_
 have hlim := limv
 refine WC_go hE hm ?_
 refine xNew (ob := .cells [.int .i64 p, gsl (i) (l.length)] 24 none) (mk := .ptr) hfr (by omega) rfl rfl rfl (by simp [semA, aBox, Value.cells, sealV]) ?_
 intro H1 a2 a3 a4
 have f5 := (a3 _ (by omega)).trans hg
 have f6 : l ≠ [] → aget H1 i = some (.cells (ints l) 3 (some 1)) := fun hne => by have hdm := (hrow hne).2; exact (a3 _ (by omega)).trans ((fun h => (hrow h).1) hne)
 have f7 : l2 ≠ [] → aget H1 j = some (.cells (ints l2) 3 (some 1)) := fun hne => by have hdm := (hrow2 hne).2; exact (a3 _ (by omega)).trans ((fun h => (hrow2 h).1) hne)
 refine xP rfl rfl rfl rfl ?_
 refine xP rfl rfl rfl rfl ?_
 refine RXn ?_
 refine WLv (lv1 1 rfl (lv1 2 rfl lv0)) ?_
 refine WC_go hE hm ?_
 refine xR (v := .agg #[.int .i64 p, gsl (i) (l.length)]) rfl rfl rfl (loadBox (xs := [.int .i64 p, gsl (i) (l.length)]) a2 rfl) ?_
 refine xC rfl rfl rfl rfl (opened_ok hll f5 (fun hne => ⟨f6 hne, by have := (hrow hne).2; omega⟩) a4 (by omega) (by omega)) ?_
 rintro _ H8 n8 ⟨F8, e8, p8, u8, rfl, hu8, hop8⟩
 have le8 := F8.le
 have rm8 := F8.room
 have f9 := (F8.keep _ (by omega)).trans f5
 have f10 : l ≠ [] → aget H8 i = some (.cells (ints l) 3 (some 1)) := fun hne => by have hdm := (hrow hne).2; exact (F8.keep _ (by omega)).trans (f6 hne)
 have f11 : l2 ≠ [] → aget H8 j = some (.cells (ints l2) 3 (some 1)) := fun hne => by have hdm := (hrow2 hne).2; exact (F8.keep _ (by omega)).trans (f7 hne)
 have f12 := (F8.keep _ (by omega)).trans a2
 refine xP rfl rfl rfl rfl ?_
 refine xP rfl rfl rfl rfl ?_
 refine xP rfl rfl rfl rfl ?_
 refine xNew (ob := .cells [.int .i64 0, .int .u32 0] 75 none) (mk := .ptr) F8.fresh (by omega) rfl rfl rfl rfl ?_
 intro H13 a14 a15 a16
 have f17 := (a15 _ (by omega)).trans f9
 have f18 : l ≠ [] → aget H13 i = some (.cells (ints l) 3 (some 1)) := fun hne => by have hdm := (hrow hne).2; exact (a15 _ (by omega)).trans (f10 hne)
 have f19 : l2 ≠ [] → aget H13 j = some (.cells (ints l2) 3 (some 1)) := fun hne => by have hdm := (hrow2 hne).2; exact (a15 _ (by omega)).trans (f11 hne)
 have f20 := (a15 _ (by omega)).trans f12
 refine xFill (ys := [.int .i64 p8, .int .u32 (u8 : Int)]) a14 rfl rfl (by simp only [List.all_cons, List.all_nil, gsl_cell1]; rfl) rfl rfl (by omega) ?_
 intro H21 b22 b23
 have f24 := (b23 _ (by omega)).trans f17
 have f25 : l ≠ [] → aget H21 i = some (.cells (ints l) 3 (some 1)) := fun hne => by have hdm := (hrow hne).2; exact (b23 _ (by omega)).trans (f18 hne)
 have f26 : l2 ≠ [] → aget H21 j = some (.cells (ints l2) 3 (some 1)) := fun hne => by have hdm := (hrow2 hne).2; exact (b23 _ (by omega)).trans (f19 hne)
 have f27 := (b23 _ (by omega)).trans f20
 have g28 : Fresh H21 (n8 + 1) := fun q h1 h2 => by rw [b23 q (by omega)]; exact a16 q h1 h2
 refine xP rfl rfl rfl rfl ?_
 refine RXn ?_
 refine WLv (lv1 1 rfl (lv1 6 rfl (lv1 7 rfl lv0))) ?_
 refine WC_seq ?_
 refine WC_go hE hm ?_
 refine xP rfl rfl rfl rfl ?_
 refine xNe rfl rfl ?_ ?_ <;> intro h17
 · skip
   refine RXn ?_
   refine WLv (lv1 1 rfl (lv1 6 rfl (lv1 7 rfl (lv1 17 rfl lv0)))) ?_
   refine WC_condT rfl ?_
   refine WC_go hE hm ?_
   refine xP rfl rfl rfl rfl ?_
   refine xP rfl rfl rfl rfl ?_
   refine xP rfl rfl rfl rfl ?_
   refine RXn ?_
   refine WLv (lv1 4 rfl (lv1 5 rfl lv0)) ?_
   refine WC_ret ?_
   refine thenR ?_
   refine endR rfl ?_
   exact ⟨⟨fun q hq => ((b23 q (by omega)).trans ((a15 q (by omega)).trans ((F8.keep q (by omega)).trans (a3 q (by omega))))), g28, by omega, by omega⟩, _, .slice none 0 0, [], 0, none, rfl, .nil 0 0, rfl, rfl, rfl, by decide, fun h => absurd rfl h⟩
 · skip
   obtain ⟨hpe8, hp, hl68, hxx8⟩ := hop8 h17
   obtain rfl := hpe8.symm
   refine RXn ?_
   refine WLv (lv1 1 rfl (lv1 6 rfl (lv1 7 rfl (lv1 17 rfl lv0)))) ?_
   refine WC_condF rfl ?_
   refine WC_skip ?_
   refine thenN ?_
   refine WLv (lv1 1 rfl (lv1 6 rfl lv0)) ?_
   refine WC_go hE hm ?_
   refine xR (v := .agg #[.int .i64 p, .int .u32 (u8 : Int)]) rfl rfl rfl (loadBox (xs := [.int .i64 p, .int .u32 (u8 : Int)]) b22 rfl) ?_
   refine xNew (ob := .cells [.int .i64 0, .int .u32 0] 75 none) (mk := .ptr) g28 (by omega) rfl rfl rfl rfl ?_
   intro H29 a30 a31 a32
   have f33 := (a31 _ (by omega)).trans f24
   have f34 : l ≠ [] → aget H29 i = some (.cells (ints l) 3 (some 1)) := fun hne => by have hdm := (hrow hne).2; exact (a31 _ (by omega)).trans (f25 hne)
   have f35 : l2 ≠ [] → aget H29 j = some (.cells (ints l2) 3 (some 1)) := fun hne => by have hdm := (hrow2 hne).2; exact (a31 _ (by omega)).trans (f26 hne)
   have f36 := (a31 _ (by omega)).trans f27
   have f37 := (a31 _ (by omega)).trans b22
   refine xFill (ys := [.int .i64 p, .int .u32 (u8 : Int)]) a30 rfl rfl (by simp only [List.all_cons, List.all_nil, gsl_cell1]; rfl) rfl rfl (by omega) ?_
   intro H38 b39 b40
   have f41 := (b40 _ (by omega)).trans f33
   have f42 : l ≠ [] → aget H38 i = some (.cells (ints l) 3 (some 1)) := fun hne => by have hdm := (hrow hne).2; exact (b40 _ (by omega)).trans (f34 hne)
   have f43 : l2 ≠ [] → aget H38 j = some (.cells (ints l2) 3 (some 1)) := fun hne => by have hdm := (hrow2 hne).2; exact (b40 _ (by omega)).trans (f35 hne)
   have f44 := (b40 _ (by omega)).trans f36
   have f45 := (b40 _ (by omega)).trans f37
   have g46 : Fresh H38 (n8 + 1 + 1) := fun q h1 h2 => by rw [b40 q (by omega)]; exact a32 q h1 h2
   refine RXn ?_
   refine WLv (lv1 1 rfl (lv1 6 rfl (lv1 8 rfl lv0))) ?_
   refine WC_seq ?_
   refine WC_go hE hm ?_
   refine xP rfl rfl rfl rfl ?_
   refine xP (v := .int .i64 ((l2.length : Nat) : Int)) rfl rfl rfl (SliceAt.gsl _ _).lenS ?_
   refine xP rfl rfl rfl rfl ?_
   refine RXn ?_
   refine WLv (lv1 6 rfl (lv1 8 rfl (lv1 20 rfl (lv1 21 rfl (lv1 22 rfl lv0))))) ?_
   refine WC_block ?_
   refine WC_loopX (X := Nat × Nat × Heap) (fun y => { T := ofL [(6, .pointer (some ⟨n8, 0, none⟩)), (8, .pointer (some ⟨n8 + 1, 0, none⟩)), (20, gsl (j) (l2.length)), (21, .int .i64 ((l2.length : Nat) : Int)), (22, .int .i64 (y.1 : Int))], D := [], H := y.2.2, n := n8 + 1 + 1 })
    (fun y => y.1 ≤ l2.length ∧ y.2.1 < 2 ^ 32 ∧ aget y.2.2 (n8 + 1) = some (.cells [.int .i64 p, .int .u32 (y.2.1 : Int)] 75 none) ∧ (∀ q, q ≠ n8 + 1 → aget y.2.2 q = aget H38 q) ∧ Fresh y.2.2 (n8 + 1 + 1)) (fun y => l2.length - y.1) (0, u8, H38) ⟨by dsimp only; omega, by dsimp only; exact hu8, b39, (fun _ _ => rfl), g46⟩ ?_
   rintro ⟨k, u, Hl⟩ ⟨hk, hu, hb5, hkeep, hfl⟩
   dsimp only at *
   have l47 := (hkeep 0 (by omega)).trans f41
   have l48 : l ≠ [] → aget Hl i = some (.cells (ints l) 3 (some 1)) := fun hne => by have hdm := (hrow hne).2; exact (hkeep _ (by omega)).trans (f42 hne)
   have l49 : l2 ≠ [] → aget Hl j = some (.cells (ints l2) 3 (some 1)) := fun hne => by have hdm := (hrow2 hne).2; exact (hkeep _ (by omega)).trans (f43 hne)
   have l50 := (hkeep (n) (by omega)).trans f44
   have l51 := (hkeep (n8) (by omega)).trans f45
   refine WC_go hE hm ?_
   refine xCmp rfl rfl rfl rfl ?_ ?_ <;> intro h23
   · skip
     refine RXn ?_
     refine WLv (lv1 6 rfl (lv1 8 rfl (lv1 20 rfl (lv1 21 rfl (lv1 22 rfl (lv1 23 rfl lv0)))))) ?_
     refine WC_seq ?_
     refine WC_condT rfl ?_
     refine WC_skip ?_
     refine thenN ?_
     refine WLv (lv1 6 rfl (lv1 8 rfl (lv1 20 rfl (lv1 21 rfl (lv1 22 rfl lv0))))) ?_
     refine WC_seq ?_
     refine WC_block ?_
     refine WC_go hE hm ?_
     refine xIdxG rfl rfl ⟨by omega, by omega⟩ ?_
     refine xLdI rfl rfl (l49 (by intro hnil; simp [hnil] at *; omega)) (by omega) ?_
     refine xP rfl rfl rfl rfl ?_
     refine RXn ?_
     refine WLv (lv1 6 rfl (lv1 8 rfl (lv1 10 rfl (lv1 20 rfl (lv1 21 rfl (lv1 22 rfl lv0)))))) ?_
     refine WC_drawnD hE hm ?_
     refine dX rfl (xP rfl rfl rfl rfl (RXn ?_))
     refine dR (v := .int .u32 (u : Int)) rfl rfl rfl (ld1 (o := 0 + 1) hb5 rfl) ?_
     refine dR (v := .agg #[.int .i64 p, .int .u32 (u8 : Int)]) rfl rfl rfl (loadBox (xs := [.int .i64 p, .int .u32 (u8 : Int)]) l51 rfl) ?_
     refine dR (v := .agg #[.int .i64 p, .int .u32 (u8 : Int)]) rfl rfl rfl (loadBox (xs := [.int .i64 p, .int .u32 (u8 : Int)]) l51 rfl) ?_
     refine dX rfl (xP rfl rfl rfl rfl (RXn ?_))
     refine dC (f := 57) (args := [.agg #[.int .i64 p, .int .u32 (u8 : Int)], .int .i64 ((l2).getD ((k : Int)).toNat 0)]) rfl rfl rfl rfl (on_ok hp l47) ?_
     rintro _ H9 n9 ⟨⟨y52, rfl, hy52a, hy52b, hy52c⟩, hH9, hn9⟩
     obtain rfl := hH9.symm
     obtain rfl := hn9.symm
     refine ⟨stabSame, ?_⟩
     refine dC (f := 59) (args := [.agg #[.int .i64 p, .int .u32 (u8 : Int)], .int .i64 y52]) rfl rfl rfl rfl (turned_ok hp hu8 ⟨by omega, by omega⟩ l47) ?_
     rintro _ H9 n9 ⟨⟨u53, hu53, rfl⟩, hH9, hn9⟩
     obtain rfl := hH9.symm
     obtain rfl := hn9.symm
     refine ⟨stabSame, ?_⟩
     refine dX rfl (xP (v := .int .u32 (u53 : Int)) rfl rfl rfl rfl (RXn ?_))
     refine dX rfl (xAnd rfl rfl rfl hu hu53 (RXn ?_))
     have hw54 : (u &&& u53) < 2 ^ 32 := Nat.lt_of_le_of_lt Nat.and_le_left hu
     generalize (u &&& u53) = w54 at hw54 ⊢
     refine dX rfl (xP rfl rfl rfl rfl (RXn ?_))
     refine dStO (u := .int .u32 (w54 : Int)) [.int .i64 p, .int .u32 (w54 : Int)] hb5 (by show _ ≤ _; simp) rfl rfl rfl rfl rfl (by omega) ?_
     intro H55 b56 b57
     have f58 := (b57 _ (by omega)).trans l47
     have f59 : l ≠ [] → aget H55 i = some (.cells (ints l) 3 (some 1)) := fun hne => by have hdm := (hrow hne).2; exact (b57 _ (by omega)).trans (l48 hne)
     have f60 : l2 ≠ [] → aget H55 j = some (.cells (ints l2) 3 (some 1)) := fun hne => by have hdm := (hrow2 hne).2; exact (b57 _ (by omega)).trans (l49 hne)
     have f61 := (b57 _ (by omega)).trans l50
     have f62 := (b57 _ (by omega)).trans l51
     have g63 : Fresh H55 (n8 + 1 + 1) := fun q h1 h2 => by rw [b57 q (by omega)]; exact hfl q h1 h2
     refine ⟨stabE (by kernel_rfl), ?_⟩
     refine dNil ?_
     refine blockN ?_
     refine thenN ?_
     refine WLv (lv1 6 rfl (lv1 8 rfl (lv1 20 rfl (lv1 21 rfl (lv1 22 rfl lv0))))) ?_
     refine WC_steps hE hm ?_
     refine xAdd rfl rfl (by omega) ?_
     refine xP rfl rfl rfl rfl ?_
     refine RXn ?_
     refine thenN ⟨(k + 1, w54, H55), ⟨by dsimp only; omega, hw54, b56, (fun q hq => ((b57 q hq).trans (hkeep q hq))), g63⟩, by dsimp only; omega, Le.live (lv1 6 rfl (lv1 8 rfl (lv1 20 rfl (lv1 21 rfl (lv1 22 rfl lv0)))))⟩
   · skip
     refine RXn ?_
     refine WLv (lv1 6 rfl (lv1 8 rfl (lv1 20 rfl (lv1 21 rfl (lv1 22 rfl (lv1 23 rfl lv0)))))) ?_
     refine WC_seq ?_
     refine WC_condF rfl ?_
     refine WC_exit ?_
     refine thenE ?_
     refine thenE ?_
     refine blockE ?_
     refine thenN ?_
     refine WLv (lv1 8 rfl lv0) ?_
     refine WC_go hE hm ?_
     refine xR (v := .agg #[.int .i64 p, .int .u32 (u : Int)]) rfl rfl rfl (loadBox (xs := [.int .i64 p, .int .u32 (u : Int)]) hb5 rfl) ?_
     refine xC rfl rfl rfl rfl (marks_ok hp hu l47 hfl (by omega) (by omega)) ?_
     rintro _ H64 n64 ⟨F64, l64, i64, rfl, hl64, hx64, hr64⟩
     have le64 := F64.le
     have rm64 := F64.room
     have f65 := (F64.keep _ (by omega)).trans l47
     have f66 : l ≠ [] → aget H64 i = some (.cells (ints l) 3 (some 1)) := fun hne => by have hdm := (hrow hne).2; exact (F64.keep _ (by omega)).trans (l48 hne)
     have f67 : l2 ≠ [] → aget H64 j = some (.cells (ints l2) 3 (some 1)) := fun hne => by have hdm := (hrow2 hne).2; exact (F64.keep _ (by omega)).trans (l49 hne)
     have f68 := (F64.keep _ (by omega)).trans l50
     have f69 := (F64.keep _ (by omega)).trans l51
     have f70 := (F64.keep _ (by omega)).trans hb5
     refine xP rfl rfl rfl rfl ?_
     refine xP rfl rfl rfl rfl ?_
     refine RXn ?_
     refine WLv (lv1 4 rfl (lv1 5 rfl lv0)) ?_
     refine WC_ret ?_
     refine endR rfl ?_
     have isH : isHdr (gsl i64 l64.length) = true := by generalize l64.length = kk; cases kk <;> rfl
     exact ⟨⟨fun q hq => ((F64.keep q (by omega)).trans ((hkeep q (by omega)).trans ((b40 q (by omega)).trans ((a31 q (by omega)).trans ((b23 q (by omega)).trans ((a15 q (by omega)).trans ((F8.keep q (by omega)).trans (a3 q (by omega))))))))), F64.fresh, by omega, by omega⟩, _, gsl i64 l64.length, l64, i64, some 1, rfl, .gsl _ _, isH, gsl_cells _ _, gsl_cell1 _ _, by omega, fun h => ⟨(fun h => (hr64 h).1) h, by have := (hr64 h).2; omega, by have := (hr64 h).2; omega⟩⟩
end Go.Proofs.YtmpogedhilfjgaaGreatDoor
set_option maxRecDepth 1000000
set_option maxHeartbeats 4000000
open Go Go.Cs
namespace Go.Proofs.YtmpogedhilfjgaaGreatDoor
def c69 : FC := FC.mk 6 (.seq (.steps [⟨.box 75, [.tmp 0], some 1, none⟩,⟨.move, [.const (.bool false)], some 2, none⟩]) (.seq (.steps [⟨.loadN 2, [.tmp 1], some 3, none⟩,⟨.callF 65, [.tmp 3], some 4, none⟩,⟨.bin .eql, [.tmp 4, .const (.int .i64 0)], some 5, none⟩,⟨.move, [.tmp 5], some 2, none⟩]) (.ret))) [.tmp 2]
theorem c69_ok : compF Tryz.prog 69 = some c69 := by kernel_rfl
theorem narrowCb_ok {p : Int} {s : Nat} (hp : 1 ≤ p ∧ p ≤ 21) (hs : s < 2 ^ 32) {H : Heap} {n : Nat} (hg : aget H 0 = some gl) : F Tryz.prog [0] 69 [stampV p s] H n (fun v H' n' => (∃ b, v = .bool b) ∧ H' = H ∧ n' = n) := by
 refine pureF rfl ?_ hg
 refine F_of_comp c69_ok rfl ?_
 have hlim := limv
 have g0 : aget (ofL [(0, gl)]) 0 = some gl := rfl
 refine WC_go hE hm ?_
 refine xNew (ob := .cells [.int .i64 p, .int .u32 (s : Int)] 75 none) (mk := .ptr) fr0 (by omega) rfl rfl rfl rfl ?_
 intro H1 a2 a3 a4
 have f5 := (a3 _ (by omega)).trans g0
 refine xP rfl rfl rfl rfl ?_
 refine RXn ?_
 refine WLv (lv1 1 rfl lv0) ?_
 refine WC_go hE hm ?_
 refine xR (v := .agg #[.int .i64 p, .int .u32 (s : Int)]) rfl rfl rfl (loadBox (xs := [.int .i64 p, .int .u32 (s : Int)]) a2 rfl) ?_
 refine xC rfl rfl rfl rfl (clash_ok hp hs f5) ?_
 rintro _ H9 n9 ⟨⟨c6, rfl⟩, hH9, hn9⟩
 obtain rfl := hH9.symm
 obtain rfl := hn9.symm
 refine xEq rfl rfl ?_ ?_ <;> intro h5
 · skip
   refine xP rfl rfl rfl rfl ?_
   refine RXn ?_
   refine WLv (lv1 2 rfl lv0) ?_
   refine WC_ret ?_
   refine endR rfl ?_
   exact ⟨⟨_, rfl⟩, rfl, f5⟩
 · skip
   refine xP rfl rfl rfl rfl ?_
   refine RXn ?_
   refine WLv (lv1 2 rfl lv0) ?_
   refine WC_ret ?_
   refine endR rfl ?_
   exact ⟨⟨_, rfl⟩, rfl, f5⟩
def c74 : FC := FC.mk 26 (.seq (.steps [⟨.move, [.const (.bool false)], some 4, none⟩]) (.seq (.seq (.steps [⟨.move, [.tmp 0], some 6, none⟩,⟨.lenS, [.tmp 6], some 7, none⟩,⟨.move, [.tmp 1], some 8, none⟩,⟨.lenS, [.tmp 8], some 9, none⟩,⟨.bin .neq, [.tmp 7, .tmp 9], some 10, none⟩]) (.cond (.tmp 10) (.seq (.steps [⟨.move, [.const (.bool false)], some 4, none⟩]) (.ret)) (.skip))) (.seq (.seq (.steps [⟨.move, [.tmp 0], some 11, none⟩,⟨.lenS, [.tmp 11], some 12, none⟩,⟨.move, [.const (.int .i64 0)], some 13, none⟩]) (.block 0 (.loop (.seq (.steps [⟨.bin .lss, [.tmp 13, .tmp 12], some 14, none⟩]) (.seq (.cond (.tmp 14) (.skip) (.exit 0)) (.seq (.block 1 (.seq (.steps [⟨.move, [.tmp 13], some 15, none⟩,⟨.move, [.tmp 15], some 5, none⟩]) (.seq (.steps [⟨.move, [.tmp 0], some 16, none⟩,⟨.move, [.tmp 5], some 17, none⟩,⟨.indexAddrS 1, [.tmp 16, .tmp 17], some 18, none⟩,⟨.load1, [.tmp 18], some 19, none⟩,⟨.move, [.tmp 1], some 20, none⟩,⟨.move, [.tmp 5], some 21, none⟩,⟨.indexAddrS 1, [.tmp 20, .tmp 21], some 22, none⟩,⟨.load1, [.tmp 22], some 23, none⟩,⟨.bin .neq, [.tmp 19, .tmp 23], some 24, none⟩]) (.cond (.tmp 24) (.seq (.steps [⟨.move, [.const (.bool false)], some 4, none⟩]) (.ret)) (.skip))))) (.steps [⟨.bin .add, [.tmp 13, .const (.int .i64 1)], some 25, none⟩,⟨.move, [.tmp 25], some 13, none⟩]))))))) (.seq (.steps [⟨.move, [.const (.bool true)], some 4, none⟩]) (.ret))))) [.tmp 4]
theorem c74_ok : compF Tryz.prog 74 = some c74 := by kernel_rfl
theorem equal_ok {l l2 : List Int} {i j : Nat} (hll : l.length ≤ 1000) (hll2 : l2.length ≤ 1000000) {H : Heap} {n : Nat} (hr1 : aget H i = some (.cells (ints l) 3 none)) (hrow2 : OldRow H n j l2) (hfr : Fresh H n) :
 F Tryz.prog [0] 74 [.slice (some ⟨i, 0, none⟩) l.length l.length, gsl j l2.length] H n (fun v H' n' => (∃ b, v = .bool b) ∧ H' = H ∧ n' = n) := by
 refine F_of_comp c74_ok rfl ?_
 have hlim := limv
 refine WC_go hE hm ?_
 refine xP rfl rfl rfl rfl ?_
 refine RXn ?_
 refine WLv (lv1 0 rfl (lv1 1 rfl lv0)) ?_
 refine WC_seq ?_
 refine WC_go hE hm ?_
 refine xP rfl rfl rfl rfl ?_
 refine xP rfl rfl rfl rfl ?_
 refine xP rfl rfl rfl rfl ?_
 refine xP (v := .int .i64 ((l2.length : Nat) : Int)) rfl rfl rfl (SliceAt.gsl _ _).lenS ?_
 refine xNe rfl rfl ?_ ?_ <;> intro h10
 · skip
   refine RXn ?_
   refine WLv (lv1 0 rfl (lv1 1 rfl (lv1 10 rfl lv0))) ?_
   refine WC_condT rfl ?_
   refine WC_go hE hm ?_
   refine xP rfl rfl rfl rfl ?_
   refine RXn ?_
   refine WLv (lv1 4 rfl lv0) ?_
   refine WC_ret ?_
   refine thenR ?_
   refine endR rfl ?_
   exact ⟨⟨_, rfl⟩, rfl, rfl⟩
 · skip
   refine RXn ?_
   refine WLv (lv1 0 rfl (lv1 1 rfl (lv1 10 rfl lv0))) ?_
   refine WC_condF rfl ?_
   refine WC_skip ?_
   refine thenN ?_
   refine WLv (lv1 0 rfl (lv1 1 rfl lv0)) ?_
   refine WC_seq ?_
   refine WC_go hE hm ?_
   refine xP rfl rfl rfl rfl ?_
   refine xP rfl rfl rfl rfl ?_
   refine xP rfl rfl rfl rfl ?_
   refine RXn ?_
   refine WLv (lv1 0 rfl (lv1 1 rfl (lv1 12 rfl (lv1 13 rfl lv0)))) ?_
   refine WC_block ?_
   refine WC_loopX (X := Nat) (fun y => { T := ofL [(0, .slice (some ⟨i, 0, none⟩) l.length l.length), (1, gsl (j) (l2.length)), (12, .int .i64 ((l.length : Nat) : Int)), (13, .int .i64 (y : Int))], D := [], H := H, n := n }) (fun y => y ≤ l.length) (fun y => l.length - y) 0 (by omega) ?_
   intro k hk
   refine WC_go hE hm ?_
   refine xCmp rfl rfl rfl rfl ?_ ?_ <;> intro h14
   · skip
     refine RXn ?_
     refine WLv (lv1 0 rfl (lv1 1 rfl (lv1 12 rfl (lv1 13 rfl (lv1 14 rfl lv0))))) ?_
     refine WC_seq ?_
     refine WC_condT rfl ?_
     refine WC_skip ?_
     refine thenN ?_
     refine WLv (lv1 0 rfl (lv1 1 rfl (lv1 12 rfl (lv1 13 rfl lv0)))) ?_
     refine WC_seq ?_
     refine WC_block ?_
     refine WC_go hE hm ?_
     refine xP rfl rfl rfl rfl ?_
     refine xP rfl rfl rfl rfl ?_
     refine RXn ?_
     refine WLv (lv1 0 rfl (lv1 1 rfl (lv1 5 rfl (lv1 12 rfl (lv1 13 rfl lv0))))) ?_
     refine WC_go hE hm ?_
     refine xP rfl rfl rfl rfl ?_
     refine xP rfl rfl rfl rfl ?_
     refine xIdx rfl rfl ⟨by omega, by omega⟩ ?_
     refine xLdI rfl rfl hr1 (by omega) ?_
     refine xP rfl rfl rfl rfl ?_
     refine xP rfl rfl rfl rfl ?_
     refine xIdxG rfl rfl ⟨by omega, by omega⟩ ?_
     refine xLdI rfl rfl (hrow2 (List.ne_nil_of_length_pos (by omega))).1 (by omega) ?_
     refine xNe rfl rfl ?_ ?_ <;> intro h24
     · skip
       refine RXn ?_
       refine WLv (lv1 0 rfl (lv1 1 rfl (lv1 12 rfl (lv1 13 rfl (lv1 24 rfl lv0))))) ?_
       refine WC_condT rfl ?_
       refine WC_go hE hm ?_
       refine xP rfl rfl rfl rfl ?_
       refine RXn ?_
       refine WLv (lv1 4 rfl lv0) ?_
       refine WC_ret ?_
       refine blockR ?_
       refine thenR ?_
       refine thenR ?_
       refine blockR ?_
       refine thenR ?_
       refine endR rfl ?_
       exact ⟨⟨_, rfl⟩, rfl, rfl⟩
     · skip
       refine RXn ?_
       refine WLv (lv1 0 rfl (lv1 1 rfl (lv1 12 rfl (lv1 13 rfl (lv1 24 rfl lv0))))) ?_
       refine WC_condF rfl ?_
       refine WC_skip ?_
       refine blockN ?_
       refine thenN ?_
       refine WLv (lv1 0 rfl (lv1 1 rfl (lv1 12 rfl (lv1 13 rfl lv0)))) ?_
       refine WC_steps hE hm ?_
       refine xAdd rfl rfl (by omega) ?_
       refine xP rfl rfl rfl rfl ?_
       refine RXn ?_
       refine thenN ⟨k + 1, by omega, by omega, Le.live (lv1 0 rfl (lv1 1 rfl (lv1 12 rfl (lv1 13 rfl lv0))))⟩
   · skip
     refine RXn ?_
     refine WLv (lv1 0 rfl (lv1 1 rfl (lv1 12 rfl (lv1 13 rfl (lv1 14 rfl lv0))))) ?_
     refine WC_seq ?_
     refine WC_condF rfl ?_
     refine WC_exit ?_
     refine thenE ?_
     refine thenE ?_
     refine blockE ?_
     refine thenN ?_
     refine WLv lv0 ?_
     refine WC_go hE hm ?_
     refine xP rfl rfl rfl rfl ?_
     refine RXn ?_
     refine WLv (lv1 4 rfl lv0) ?_
     refine WC_ret ?_
     refine endR rfl ?_
     exact ⟨⟨_, rfl⟩, rfl, rfl⟩
end Go.Proofs.YtmpogedhilfjgaaGreatDoor
set_option maxRecDepth 1000000
set_option maxHeartbeats 4000000
open Go Go.Cs
namespace Go.Proofs.YtmpogedhilfjgaaGreatDoor
def CbPost (tc : Nat → Prop) (tob : AObj → Prop) (Inv : Heap → Nat → Prop) (k : Nat) (H : Heap) (n : Nat) : Value → Heap → Nat → Prop :=
 fun v H' n' => (∃ b, v = .bool b) ∧ Inv H' n' ∧ n ≤ n' ∧ n' ≤ n + k ∧ ∀ q, q < n → ¬ tc q → (∀ o, aget H q = some o → ¬ tob o) → aget H' q = aget H q
def gB (kc : Nat) : Nat → Nat
 | 0 => kc + 1
 | m + 1 => 2 + 40 * (kc + 2 + gB kc m)
def cB : Nat → Nat
 | 0 => 1
 | m + 1 => 23 * (1 + cB m)
def c68 : FC := FC.mk 48 (.seq (.steps [⟨.box 75, [.tmp 0], some 5, none⟩,⟨.move, [.const (.bool false)], some 10, none⟩]) (.seq (.seq (.steps [⟨.move, [.tmp 2], some 13, none⟩,⟨.bin .eql, [.tmp 13, .const (.int .i64 0)], some 14, none⟩]) (.cond (.tmp 14) (.seq (.steps [⟨.move, [.tmp 4], some 15, none⟩,⟨.loadN 2, [.tmp 5], some 16, none⟩,⟨.callV, [.tmp 15, .tmp 16], some 17, none⟩,⟨.move, [.tmp 17], some 10, none⟩]) (.ret)) (.skip))) (.seq (.seq (.steps [⟨.move, [.tmp 1], some 18, none⟩,⟨.move, [.tmp 18], some 11, none⟩]) (.block 0 (.loop (.seq (.seq (.steps [⟨.move, [.tmp 11], some 19, none⟩,⟨.move, [.tmp 2], some 20, none⟩,⟨.bin .add, [.tmp 19, .tmp 20], some 21, none⟩,⟨.fieldAddr 0, [.tmp 5], some 22, none⟩,⟨.load1, [.tmp 22], some 23, none⟩,⟨.bin .leq, [.tmp 21, .tmp 23], some 24, none⟩]) (.cond (.tmp 24) (.skip) (.exit 0))) (.seq (.block 1 (.seq (.steps [⟨.loadN 2, [.tmp 5], some 27, none⟩,⟨.alloc 75 [.int .i64 0, .int .u32 0], [], some 12, none⟩,⟨.store 2, [.tmp 12, .tmp 27], none, none⟩]) (.seq (.steps [⟨.fieldAddr 1, [.tmp 12], some 28, none⟩,⟨.load1, [.tmp 28], some 29, none⟩,⟨.move, [.tmp 11], some 30, none⟩,⟨.bin .shl, [.const (.int .u32 1), .tmp 30], some 31, none⟩,⟨.bin .or, [.tmp 29, .tmp 31], some 32, none⟩,⟨.fieldAddr 1, [.tmp 12], some 33, none⟩,⟨.store 1, [.tmp 33, .tmp 32], none, none⟩]) (.seq (.steps [⟨.move, [.tmp 3], some 34, none⟩,⟨.loadN 2, [.tmp 12], some 35, none⟩,⟨.callV, [.tmp 34, .tmp 35], some 36, none⟩,⟨.move, [.tmp 36], some 37, none⟩,⟨.loadN 2, [.tmp 12], some 38, some (37, true)⟩,⟨.move, [.tmp 11], some 39, some (37, true)⟩,⟨.bin .add, [.tmp 39, .const (.int .i64 1)], some 40, some (37, true)⟩,⟨.move, [.tmp 2], some 41, some (37, true)⟩,⟨.bin .sub, [.tmp 41, .const (.int .i64 1)], some 42, some (37, true)⟩,⟨.move, [.tmp 3], some 43, some (37, true)⟩,⟨.move, [.tmp 4], some 44, some (37, true)⟩,⟨.callF 68, [.tmp 38, .tmp 40, .tmp 42, .tmp 43, .tmp 44], some 45, some (37, true)⟩,⟨.un .not, [.tmp 45], some 46, some (37, true)⟩,⟨.pick, [.tmp 37, .tmp 46, .const (.bool false)], some 47, none⟩]) (.cond (.tmp 47) (.seq (.steps [⟨.move, [.const (.bool false)], some 10, none⟩]) (.ret)) (.skip)))))) (.steps [⟨.move, [.tmp 11], some 25, none⟩,⟨.bin .add, [.tmp 25, .const (.int .i64 1)], some 26, none⟩,⟨.move, [.tmp 26], some 11, none⟩])))))) (.seq (.steps [⟨.move, [.const (.bool true)], some 10, none⟩]) (.ret))))) [.tmp 10]
theorem c68_ok : compF Tryz.prog 68 = some c68 := by kernel_rfl
theorem grown_ok {p : Int} (hp : 1 ≤ p ∧ p ≤ 21) {fa fe : FuncId} {ca ce : Array Value} {tc : Nat → Prop} {tob : AObj → Prop} {Inv : Nat → Heap → Nat → Prop} {kc cm : Nat}
 (htob : ∀ (x y : Int), ¬ tob (.cells [.int .i64 x, .int .u32 y] 75 none))
 (hmono : ∀ c c' H n, c ≤ c' → Inv c H n → Inv c' H n)
 (hinv : ∀ c H n, Inv c H n → aget H 0 = some gl ∧ Fresh H n ∧ 0 < n ∧ ∀ q, tc q → q < n)
 (hst : ∀ c H n H' n', Inv c H n → (∀ q, q < n → aget H' q = aget H q) → Fresh H' n' → n ≤ n' → Inv c H' n')
 (ha : ∀ c (s : Nat) H n, c < cm → s < 2 ^ 32 → Inv c H n → n + kc < lim → F Tryz.prog [0] fa (stampV p s :: ca.toList) H n (CbPost tc tob (Inv (c + 1)) kc H n))
 (he : ∀ c (s : Nat) H n, c < cm → s < 2 ^ 32 → Inv c H n → n + kc < lim → F Tryz.prog [0] fe (stampV p s :: ce.toList) H n (CbPost tc tob (Inv (c + 1)) kc H n)) (m : Nat) :
 ∀ (s : Nat) (fr mi : Int) (c : Nat) (H : Heap) (n : Nat), mi = (m : Int) → m ≤ 100 → 0 ≤ fr → fr ≤ 30 → s < 2 ^ 32 → Inv c H n → n + gB kc m < lim → c + cB m ≤ cm →
  F Tryz.prog [0] 68 [stampV p s, .int .i64 fr, .int .i64 mi, .func (.func fa) #[] ca, .func (.func fe) #[] ce] H n (CbPost tc tob (Inv (c + cB m)) (gB kc m) H n) := by
 induction m using Nat.strongRecOn with
 | ind m ih =>
 intro s fr mi c H n hmi hm100 hfr0 hfr1 hs hI hn hcm
 refine F_of_comp c68_ok rfl ?_
 have hlim := limv
 have hfr := (hinv _ _ _ hI).2.1
 have hn0 := (hinv _ _ _ hI).2.2.1
 have hg := (hinv _ _ _ hI).1
 have hnt : ∀ q, n ≤ q → ¬ tc q := fun q hq ht => absurd ((hinv _ _ _ hI).2.2.2 q ht) (by omega)
 have hB0 : mi = 0 → gB kc m = kc + 1 := by
  intro h
  have hm0 : m = 0 := by omega
  subst hm0; rfl
 have hB1 : mi ≠ 0 → gB kc m = 2 + 40 * (kc + 2 + gB kc (m - 1)) := by
  intro h
  cases m with
  | zero => exact absurd hmi h
  | succ m => rfl
 have hC0 : mi = 0 → cB m = 1 := by
  intro h
  have hm0 : m = 0 := by omega
  subst hm0; rfl
 have hC1 : mi ≠ 0 → cB m = 23 * (1 + cB (m - 1)) := by
  intro h
  cases m with
  | zero => exact absurd hmi h
  | succ m => rfl
 have hm32 : n + gB kc m < 999999999999999000 := hn
 refine WC_go hE hm ?_
 refine xNew (ob := .cells [.int .i64 p, .int .u32 (s : Int)] 75 none) (mk := .ptr) hfr (by omega) rfl rfl rfl rfl ?_
 intro H1 a2 a3 a4
 have f5 := (a3 _ (by omega)).trans hg
 refine xP rfl rfl rfl rfl ?_
 refine RXn ?_
 refine WLv (lv1 1 rfl (lv1 2 rfl (lv1 3 rfl (lv1 4 rfl (lv1 5 rfl lv0))))) ?_
 refine WC_seq ?_
 refine WC_go hE hm ?_
 refine xP rfl rfl rfl rfl ?_
 refine xEq rfl rfl ?_ ?_ <;> intro h14
 · skip
   have hB := hB0 h14
   have hCc := hC0 h14
   refine RXn ?_
   refine WLv (lv1 1 rfl (lv1 2 rfl (lv1 3 rfl (lv1 4 rfl (lv1 5 rfl (lv1 14 rfl lv0)))))) ?_
   refine WC_condT rfl ?_
   refine WC_go hE hm ?_
   refine xP rfl rfl rfl rfl ?_
   refine xR (v := .agg #[.int .i64 p, .int .u32 (s : Int)]) rfl rfl rfl (loadBox (xs := [.int .i64 p, .int .u32 (s : Int)]) a2 rfl) ?_
   refine xC rfl rfl rfl rfl (he _ _ _ _ (by omega) hs (hst _ _ _ _ _ hI (fun q hq => (a3 q (by omega))) a4 (by omega)) (by omega)) ?_
   rintro _ H6 n6 ⟨⟨b6, rfl⟩, hI6, hle6, hrm6, hkp6⟩
   have f7 := (hkp6 (n) (by omega) (hnt _ (by omega)) (fun o ho => by rw [a2] at ho; cases ho; exact htob _ _)).trans a2
   refine xP rfl rfl rfl rfl ?_
   refine RXn ?_
   refine WLv (lv1 10 rfl lv0) ?_
   refine WC_ret ?_
   refine thenR ?_
   refine endR rfl ?_
   exact ⟨⟨_, rfl⟩, hmono _ _ _ _ (by omega) hI6, by omega, by omega, (fun q hq htc hno => ((hkp6 q (by omega) htc (fun o ho => hno o (((a3 q (by omega))).symm.trans ho))).trans (a3 q (by omega))))⟩
 · skip
   have hB := hB1 h14
   have hCc := hC1 h14
   refine RXn ?_
   refine WLv (lv1 1 rfl (lv1 2 rfl (lv1 3 rfl (lv1 4 rfl (lv1 5 rfl (lv1 14 rfl lv0)))))) ?_
   refine WC_condF rfl ?_
   refine WC_skip ?_
   refine thenN ?_
   refine WLv (lv1 1 rfl (lv1 2 rfl (lv1 3 rfl (lv1 4 rfl (lv1 5 rfl lv0))))) ?_
   refine WC_seq ?_
   refine WC_go hE hm ?_
   refine xP rfl rfl rfl rfl ?_
   refine xP rfl rfl rfl rfl ?_
   refine RXn ?_
   refine WLv (lv1 2 rfl (lv1 3 rfl (lv1 4 rfl (lv1 5 rfl (lv1 11 rfl lv0))))) ?_
   refine WC_block ?_
   obtain ⟨C, hC⟩ : ∃ C, C = kc + 2 + gB kc (m - 1) := ⟨_, rfl⟩
   obtain ⟨D, hD⟩ : ∃ D, D = 1 + cB (m - 1) := ⟨_, rfl⟩
   refine WC_loopX (X := Int × Heap × Nat) (fun y => { T := ofL [(2, .int .i64 mi), (3, .func (.func fa) #[] ca), (4, .func (.func fe) #[] ce), (5, .pointer (some ⟨n, 0, none⟩)), (11, .int .i64 y.1)], D := [], H := y.2.1, n := y.2.2 })
    (fun y => fr ≤ y.1 ∧ (y.1 ≤ 30 ∧ y.1 - fr ≤ 22) ∧ Inv (c + (y.1 - fr).toNat * D) y.2.1 y.2.2 ∧ aget y.2.1 (n) = some (.cells [.int .i64 p, .int .u32 (s : Int)] 75 none) ∧ n + 1 ≤ y.2.2 ∧ y.2.2 ≤ n + 1 + (y.1 - fr).toNat * C ∧ (∀ q, q < n → ¬ tc q → (∀ o, aget H q = some o → ¬ tob o) → aget y.2.1 q = aget H q))
    (fun y => (31 - y.1).toNat) (fr, H1, n + 1) ⟨by dsimp only; omega, by dsimp only; omega, hmono _ _ _ _ (by dsimp only; omega) (hst _ _ _ _ _ hI (fun q hq => (a3 q (by omega))) a4 (by dsimp only; omega)), a2, by dsimp only; omega, by dsimp only; omega, (fun q hq htc hno => (a3 q (by omega)))⟩ ?_
   rintro ⟨k, Hl, nl⟩ ⟨i1, i2, i3, i4, i5, i6, i7⟩
   dsimp only at *
   have hj := Nat.mul_le_mul_right C (show (k - fr).toNat ≤ 30 by omega)
   have hjD := Nat.mul_le_mul_right D (show (k - fr).toNat ≤ 22 by omega)
   have hjD1 : (k + 1 - fr).toNat * D = (k - fr).toNat * D + D := by rw [show (k + 1 - fr).toNat = (k - fr).toNat + 1 by omega, Nat.succ_mul]
   have hj1 : (k + 1 - fr).toNat * C = (k - fr).toNat * C + C := by rw [show (k + 1 - fr).toNat = (k - fr).toNat + 1 by omega, Nat.succ_mul]
   refine WC_seq ?_
   refine WC_go hE hm ?_
   refine xP rfl rfl rfl rfl ?_
   refine xP rfl rfl rfl rfl ?_
   refine xAdd rfl rfl (by omega) ?_
   refine xP rfl rfl rfl rfl ?_
   refine xR (v := .int .i64 p) rfl rfl rfl (ld1 (o := 0 + 0) i4 rfl) ?_
   refine xCmp rfl rfl rfl rfl ?_ ?_ <;> intro h24
   · skip
     refine RXn ?_
     refine WLv (lv1 2 rfl (lv1 3 rfl (lv1 4 rfl (lv1 5 rfl (lv1 11 rfl (lv1 24 rfl lv0)))))) ?_
     refine WC_condT rfl ?_
     refine WC_skip ?_
     refine thenN ?_
     refine WLv (lv1 2 rfl (lv1 3 rfl (lv1 4 rfl (lv1 5 rfl (lv1 11 rfl lv0))))) ?_
     refine WC_seq ?_
     refine WC_block ?_
     refine WC_go hE hm ?_
     refine xR (v := .agg #[.int .i64 p, .int .u32 (s : Int)]) rfl rfl rfl (loadBox (xs := [.int .i64 p, .int .u32 (s : Int)]) i4 rfl) ?_
     refine xNew (ob := .cells [.int .i64 0, .int .u32 0] 75 none) (mk := .ptr) (hinv _ _ _ i3).2.1 (by omega) rfl rfl rfl rfl ?_
     intro H8 a9 a10 a11
     have f12 := (a10 _ (by omega)).trans (hinv _ _ _ i3).1
     have f13 := (a10 _ (by omega)).trans i4
     refine xFill (ys := [.int .i64 p, .int .u32 (s : Int)]) a9 rfl rfl (by simp only [List.all_cons, List.all_nil, gsl_cell1]; rfl) rfl rfl (by omega) ?_
     intro H14 b15 b16
     have f17 := (b16 _ (by omega)).trans f12
     have f18 := (b16 _ (by omega)).trans f13
     have g19 : Fresh H14 (nl + 1) := fun q h1 h2 => by rw [b16 q (by omega)]; exact a11 q h1 h2
     refine RXn ?_
     refine WLv (lv1 2 rfl (lv1 3 rfl (lv1 4 rfl (lv1 5 rfl (lv1 11 rfl (lv1 12 rfl lv0)))))) ?_
     refine WC_go hE hm ?_
     refine xP rfl rfl rfl rfl ?_
     refine xR (v := .int .u32 (s : Int)) rfl rfl rfl (ld1 (o := 0 + 1) b15 rfl) ?_
     refine xP rfl rfl rfl rfl ?_
     refine xShl (x := 1) rfl rfl rfl (by omega) ?_
     refine xOr rfl rfl rfl hs (Nat.mod_lt _ (by decide)) ?_
     have hw20 : (s ||| (1 <<< min (k).toNat IntKind.u32.bits) % 2 ^ IntKind.u32.bits) < 2 ^ 32 := Nat.or_lt_two_pow hs (Nat.mod_lt _ (by decide))
     generalize (s ||| (1 <<< min (k).toNat IntKind.u32.bits) % 2 ^ IntKind.u32.bits) = w20 at hw20 ⊢
     refine xP rfl rfl rfl rfl ?_
     refine xStO (u := .int .u32 (w20 : Int)) [.int .i64 p, .int .u32 (w20 : Int)] b15 (by show _ ≤ _; simp) rfl rfl rfl rfl rfl (by omega) ?_
     intro H21 b22 b23
     have f24 := (b23 _ (by omega)).trans f17
     have f25 := (b23 _ (by omega)).trans f18
     have g26 : Fresh H21 (nl + 1) := fun q h1 h2 => by rw [b23 q (by omega)]; exact g19 q h1 h2
     refine RXn ?_
     refine WLv (lv1 2 rfl (lv1 3 rfl (lv1 4 rfl (lv1 5 rfl (lv1 11 rfl (lv1 12 rfl lv0)))))) ?_
     refine WC_go hE hm ?_
     refine xP rfl rfl rfl rfl ?_
     refine xR (v := .agg #[.int .i64 p, .int .u32 (w20 : Int)]) rfl rfl rfl (loadBox (xs := [.int .i64 p, .int .u32 (w20 : Int)]) b22 rfl) ?_
     refine xC rfl rfl rfl rfl (ha _ _ _ _ (by omega) hw20 (hst _ _ _ _ _ i3 (fun q hq => ((b23 q (by omega)).trans ((b16 q (by omega)).trans (a10 q (by omega))))) g26 (by omega)) (by omega)) ?_
     rintro _ H27 n27 ⟨⟨b27, rfl⟩, hI27, hle27, hrm27, hkp27⟩
     have f28 := (hkp27 (n) (by omega) (hnt _ (by omega)) (fun o ho => by rw [f25] at ho; cases ho; exact htob _ _)).trans f25
     have f29 := (hkp27 (nl) (by omega) (hnt _ (by omega)) (fun o ho => by rw [b22] at ho; cases ho; exact htob _ _)).trans b22
     refine xP rfl rfl rfl rfl ?_
     cases b27 with
     | false =>
      refine xS rfl ?_
      refine xS rfl ?_
      refine xS rfl ?_
      refine xS rfl ?_
      refine xS rfl ?_
      refine xS rfl ?_
      refine xS rfl ?_
      refine xS rfl ?_
      refine xS rfl ?_
      refine xP rfl rfl rfl rfl ?_
      refine RXn ?_
      refine WLv (lv1 2 rfl (lv1 3 rfl (lv1 4 rfl (lv1 5 rfl (lv1 11 rfl (lv1 47 rfl lv0)))))) ?_
      refine WC_condF rfl ?_
      refine WC_skip ?_
      refine blockN ?_
      refine thenN ?_
      refine WLv (lv1 2 rfl (lv1 3 rfl (lv1 4 rfl (lv1 5 rfl (lv1 11 rfl lv0))))) ?_
      refine WC_steps hE hm ?_
      refine xP rfl rfl rfl rfl ?_
      refine xAdd rfl rfl (by omega) ?_
      refine xP rfl rfl rfl rfl ?_
      refine RXn ?_
      refine thenN ⟨(k + 1, H27, n27), ⟨by dsimp only; omega, by dsimp only; omega, hmono _ _ _ _ (by dsimp only; omega) hI27, f28, by dsimp only; omega, by dsimp only; omega, (fun q hq htc hno => ((hkp27 q (by omega) htc (fun o ho => hno o ((((b23 q (by omega)).trans ((b16 q (by omega)).trans ((a10 q (by omega)).trans (i7 q (by omega) htc hno))))).symm.trans ho))).trans ((b23 q (by omega)).trans ((b16 q (by omega)).trans ((a10 q (by omega)).trans (i7 q (by omega) htc hno))))))⟩, by dsimp only; omega, Le.live (lv1 2 rfl (lv1 3 rfl (lv1 4 rfl (lv1 5 rfl (lv1 11 rfl lv0)))))⟩
     | true =>
      refine xR (v := .agg #[.int .i64 p, .int .u32 (w20 : Int)]) rfl rfl rfl (loadBox (xs := [.int .i64 p, .int .u32 (w20 : Int)]) f29 rfl) ?_
      refine xP rfl rfl rfl rfl ?_
      refine xAdd rfl rfl (by omega) ?_
      refine xP rfl rfl rfl rfl ?_
      refine xSub rfl rfl (by omega) ?_
      refine xP rfl rfl rfl rfl ?_
      refine xP rfl rfl rfl rfl ?_
      refine xC rfl rfl rfl rfl (ih (m - 1) (by omega) _ _ _ _ _ _ (by omega) (by omega) (by omega) (by omega) hw20 hI27 (by omega) (by omega)) ?_
      rintro _ H30 n30 ⟨⟨b30, rfl⟩, hI30, hle30, hrm30, hkp30⟩
      have f31 := (hkp30 (n) (by omega) (hnt _ (by omega)) (fun o ho => by rw [f28] at ho; cases ho; exact htob _ _)).trans f28
      have f32 := (hkp30 (nl) (by omega) (hnt _ (by omega)) (fun o ho => by rw [f29] at ho; cases ho; exact htob _ _)).trans f29
      refine xP (v := .bool (!b30)) rfl rfl rfl rfl ?_
      generalize (!b30) = nb33
      refine xP rfl rfl rfl rfl ?_
      refine RXn ?_
      refine WLv (lv1 2 rfl (lv1 3 rfl (lv1 4 rfl (lv1 5 rfl (lv1 11 rfl (lv1 47 rfl lv0)))))) ?_
      refine WC_cond rfl (fun h => ?_) (fun h => ?_)
      · skip
        refine WC_go hE hm ?_
        refine xP rfl rfl rfl rfl ?_
        refine RXn ?_
        refine WLv (lv1 10 rfl lv0) ?_
        refine WC_ret ?_
        refine blockR ?_
        refine thenR ?_
        refine thenR ?_
        refine blockR ?_
        refine thenR ?_
        refine endR rfl ?_
        exact ⟨⟨_, rfl⟩, hmono _ _ _ _ (by omega) hI30, by omega, by omega, (fun q hq htc hno => ((hkp30 q (by omega) htc (fun o ho => hno o ((((hkp27 q (by omega) htc (fun o ho => hno o ((((b23 q (by omega)).trans ((b16 q (by omega)).trans ((a10 q (by omega)).trans (i7 q (by omega) htc hno))))).symm.trans ho))).trans ((b23 q (by omega)).trans ((b16 q (by omega)).trans ((a10 q (by omega)).trans (i7 q (by omega) htc hno)))))).symm.trans ho))).trans ((hkp27 q (by omega) htc (fun o ho => hno o ((((b23 q (by omega)).trans ((b16 q (by omega)).trans ((a10 q (by omega)).trans (i7 q (by omega) htc hno))))).symm.trans ho))).trans ((b23 q (by omega)).trans ((b16 q (by omega)).trans ((a10 q (by omega)).trans (i7 q (by omega) htc hno)))))))⟩
      · skip
        refine WC_skip ?_
        refine blockN ?_
        refine thenN ?_
        refine WLv (lv1 2 rfl (lv1 3 rfl (lv1 4 rfl (lv1 5 rfl (lv1 11 rfl lv0))))) ?_
        refine WC_steps hE hm ?_
        refine xP rfl rfl rfl rfl ?_
        refine xAdd rfl rfl (by omega) ?_
        refine xP rfl rfl rfl rfl ?_
        refine RXn ?_
        refine thenN ⟨(k + 1, H30, n30), ⟨by dsimp only; omega, by dsimp only; omega, hmono _ _ _ _ (by dsimp only; omega) hI30, f31, by dsimp only; omega, by dsimp only; omega, (fun q hq htc hno => ((hkp30 q (by omega) htc (fun o ho => hno o ((((hkp27 q (by omega) htc (fun o ho => hno o ((((b23 q (by omega)).trans ((b16 q (by omega)).trans ((a10 q (by omega)).trans (i7 q (by omega) htc hno))))).symm.trans ho))).trans ((b23 q (by omega)).trans ((b16 q (by omega)).trans ((a10 q (by omega)).trans (i7 q (by omega) htc hno)))))).symm.trans ho))).trans ((hkp27 q (by omega) htc (fun o ho => hno o ((((b23 q (by omega)).trans ((b16 q (by omega)).trans ((a10 q (by omega)).trans (i7 q (by omega) htc hno))))).symm.trans ho))).trans ((b23 q (by omega)).trans ((b16 q (by omega)).trans ((a10 q (by omega)).trans (i7 q (by omega) htc hno)))))))⟩, by dsimp only; omega, Le.live (lv1 2 rfl (lv1 3 rfl (lv1 4 rfl (lv1 5 rfl (lv1 11 rfl lv0)))))⟩
   · skip
     refine RXn ?_
     refine WLv (lv1 2 rfl (lv1 3 rfl (lv1 4 rfl (lv1 5 rfl (lv1 11 rfl (lv1 24 rfl lv0)))))) ?_
     refine WC_condF rfl ?_
     refine WC_exit ?_
     refine thenE ?_
     refine thenE ?_
     refine blockE ?_
     refine thenN ?_
     refine WLv lv0 ?_
     refine WC_go hE hm ?_
     refine xP rfl rfl rfl rfl ?_
     refine RXn ?_
     refine WLv (lv1 10 rfl lv0) ?_
     refine WC_ret ?_
     refine endR rfl ?_
     exact ⟨⟨_, rfl⟩, hmono _ _ _ _ (by omega) i3, by omega, by omega, (fun q hq htc hno => (i7 q (by omega) htc hno))⟩
end Go.Proofs.YtmpogedhilfjgaaGreatDoor
set_option maxRecDepth 1000000
set_option maxHeartbeats 4000000
open Go Go.Cs
namespace Go.Proofs.YtmpogedhilfjgaaGreatDoor
def FInv (b6 b7 n0 : Nat) (H : Heap) (n : Nat) : Prop :=
 aget H 0 = some gl ∧ Fresh H n ∧ 0 < n ∧ 0 < b6 ∧ b6 < b7 ∧ b7 < n0 ∧ n0 ≤ n ∧ (∃ e : Int, aget H b7 = some (.cells [.int .i64 e] 32 none)) ∧
 ∃ (q : Int) (lo : List Int) (io : Nat), aget H b6 = some (.cells [.int .i64 q, gsl io lo.length] 24 none) ∧ lo.length ≤ 21 ∧ (lo ≠ [] → aget H io = some (.cells (ints lo) 3 (some 1)) ∧ n0 ≤ io ∧ io < n)
theorem FInv.base {b6 b7 n0 : Nat} : ∀ H n, FInv b6 b7 n0 H n → aget H 0 = some gl ∧ Fresh H n ∧ 0 < n ∧ ∀ q, (q = b6 ∨ q = b7) → q < n :=
 fun H n ⟨a, b, c, d, e, f, g, _⟩ => ⟨a, b, c, fun q hq => by omega⟩
theorem FInv.stable {b6 b7 n0 : Nat} : ∀ H n H' n', FInv b6 b7 n0 H n → (∀ q, q < n → aget H' q = aget H q) → Fresh H' n' → n ≤ n' → FInv b6 b7 n0 H' n' :=
 fun H n H' n' ⟨a, b, c, d, e, f, g, ⟨x, hx⟩, q, lo, io, h6, hl, hr⟩ hk hf hn => ⟨(hk 0 c).trans a, hf, by omega, d, e, f, by omega, ⟨x, (hk b7 (by omega)).trans hx⟩, q, lo, io, (hk b6 (by omega)).trans h6, hl, fun h => ⟨(hk io (hr h).2.2).trans (hr h).1, (hr h).2.1, by have := (hr h).2.2; omega⟩⟩
def c70 : FC := FC.mk 11 (.seq (.steps [⟨.box 75, [.tmp 0], some 3, none⟩,⟨.move, [.const (.bool false)], some 4, none⟩]) (.seq (.seq (.steps [⟨.loadN 2, [.tmp 3], some 5, none⟩,⟨.callF 67, [.tmp 5], some 6, none⟩]) (.cond (.tmp 6) (.steps [⟨.loadN 2, [.tmp 3], some 7, none⟩,⟨.callF 60, [.tmp 7], some 8, none⟩,⟨.store 2, [.tmp 1, .tmp 8], none, none⟩,⟨.store 1, [.tmp 2, .const (.int .i64 0)], none, none⟩]) (.skip))) (.seq (.steps [⟨.load1, [.tmp 2], some 9, none⟩,⟨.bin .neq, [.tmp 9, .const (.int .i64 0)], some 10, none⟩,⟨.move, [.tmp 10], some 4, none⟩]) (.ret)))) [.tmp 4]
theorem c70_ok : compF Tryz.prog 70 = some c70 := by kernel_rfl
theorem foundCb_ok {p : Int} (hp : 1 ≤ p ∧ p ≤ 21) {b6 b7 n0 : Nat} (s : Nat) (H : Heap) (n : Nat) (hs : s < 2 ^ 32) (hI : FInv b6 b7 n0 H n) (hn : n + 1000 < lim) :
 F Tryz.prog [0] 70 (stampV p s :: [ptrAt b6 0, ptrAt b7 0]) H n (CbPost (fun q => q = b6 ∨ q = b7) (fun _ => False) (FInv b6 b7 n0) 1000 H n) := by
 obtain ⟨hg, hfr, hn0, h06, h67, h7n, hnn, ⟨e0, hb7⟩, q0, lo, io, hb6, hl, hrow⟩ := hI
 refine F_of_comp c70_ok rfl ?_
 have hlim := limv
 refine WC_go hE hm ?_
 refine xNew (ob := .cells [.int .i64 p, .int .u32 (s : Int)] 75 none) (mk := .ptr) hfr (by omega) rfl rfl rfl rfl ?_
 intro H1 a2 a3 a4
 have f5 := (a3 _ (by omega)).trans hg
 have f6 := (a3 _ (by omega)).trans hb6
 have f7 := (a3 _ (by omega)).trans hb7
 have f8 : lo ≠ [] → aget H1 io = some (.cells (ints lo) 3 (some 1)) := fun hne => by have hdm := (hrow hne).2; exact (a3 _ (by omega)).trans ((fun h => (hrow h).1) hne)
 refine xP rfl rfl rfl rfl ?_
 refine RXn ?_
 refine WLv (lv1 1 rfl (lv1 2 rfl (lv1 3 rfl lv0))) ?_
 refine WC_seq ?_
 refine WC_go hE hm ?_
 refine xR (v := .agg #[.int .i64 p, .int .u32 (s : Int)]) rfl rfl rfl (loadBox (xs := [.int .i64 p, .int .u32 (s : Int)]) a2 rfl) ?_
 refine xC rfl rfl rfl rfl (perfect_ok hp hs f5) ?_
 rintro _ H9 n9 ⟨⟨c9, rfl⟩, hH9, hn9⟩
 obtain rfl := hH9.symm
 obtain rfl := hn9.symm
 refine RXn ?_
 refine WLv (lv1 1 rfl (lv1 2 rfl (lv1 3 rfl (lv1 6 rfl lv0)))) ?_
 refine WC_cond rfl (fun h => ?_) (fun h => ?_)
 · skip
   refine WC_steps hE hm ?_
   refine xR (v := .agg #[.int .i64 p, .int .u32 (s : Int)]) rfl rfl rfl (loadBox (xs := [.int .i64 p, .int .u32 (s : Int)]) a2 rfl) ?_
   refine xC rfl rfl rfl rfl (seal_ok hp hs f5 a4 (by omega) (by omega)) ?_
   rintro _ H10 n10 ⟨F10, l10, i10, rfl, hl10, hx10, hr10⟩
   have le10 := F10.le
   have rm10 := F10.room
   have f11 := (F10.keep _ (by omega)).trans f5
   have f12 := (F10.keep _ (by omega)).trans f6
   have f13 := (F10.keep _ (by omega)).trans f7
   have f14 : lo ≠ [] → aget H10 io = some (.cells (ints lo) 3 (some 1)) := fun hne => by have hdm := (hrow hne).2; exact (F10.keep _ (by omega)).trans (f8 hne)
   have f15 := (F10.keep _ (by omega)).trans a2
   refine xFill (ys := [.int .i64 p, gsl (i10) (l10.length)]) f12 rfl rfl (by simp only [List.all_cons, List.all_nil, gsl_cell1]; rfl) rfl rfl (by omega) ?_
   intro H16 b17 b18
   have f19 := (b18 _ (by omega)).trans f11
   have f20 := (b18 _ (by omega)).trans f13
   have f21 : lo ≠ [] → aget H16 io = some (.cells (ints lo) 3 (some 1)) := fun hne => by have hdm := (hrow hne).2; exact (b18 _ (by omega)).trans (f14 hne)
   have f22 := (b18 _ (by omega)).trans f15
   have f23 : l10 ≠ [] → aget H16 i10 = some (.cells (ints l10) 3 (some 1)) := fun hne => by have hdm := (hr10 hne).2; exact (b18 _ (by omega)).trans ((fun h => (hr10 h).1) hne)
   have g24 : Fresh H16 (n10) := fun q h1 h2 => by rw [b18 q (by omega)]; exact F10.fresh q h1 h2
   refine xStO (u := .int .i64 0) [.int .i64 0] f20 (by show _ ≤ _; simp) rfl rfl rfl rfl rfl (by omega) ?_
   intro H25 b26 b27
   have f28 := (b27 _ (by omega)).trans f19
   have f29 := (b27 _ (by omega)).trans b17
   have f30 : lo ≠ [] → aget H25 io = some (.cells (ints lo) 3 (some 1)) := fun hne => by have hdm := (hrow hne).2; exact (b27 _ (by omega)).trans (f21 hne)
   have f31 := (b27 _ (by omega)).trans f22
   have f32 : l10 ≠ [] → aget H25 i10 = some (.cells (ints l10) 3 (some 1)) := fun hne => by have hdm := (hr10 hne).2; exact (b27 _ (by omega)).trans (f23 hne)
   have g33 : Fresh H25 (n10) := fun q h1 h2 => by rw [b27 q (by omega)]; exact g24 q h1 h2
   refine RXn ?_
   refine thenN ?_
   refine WLv (lv1 2 rfl lv0) ?_
   refine WC_go hE hm ?_
   refine xR (v := .int .i64 0) rfl rfl rfl (ld1 (o := 0) b26 rfl) ?_
   refine xNe rfl rfl ?_ ?_ <;> intro h10
   · skip
     refine xP rfl rfl rfl rfl ?_
     refine RXn ?_
     refine WLv (lv1 4 rfl lv0) ?_
     refine WC_ret ?_
     refine endR rfl ?_
     exact ⟨⟨_, rfl⟩, ⟨f28, g33, by omega, h06, h67, h7n, by omega, ⟨_, b26⟩, _, l10, i10, f29, by omega, fun h => ⟨f32 h, by have := (hr10 h).2; omega, by have := (hr10 h).2; omega⟩⟩, by omega, by omega, (fun q hq htc _ => ((b27 q (by omega)).trans ((b18 q (by omega)).trans ((F10.keep q (by omega)).trans (a3 q (by omega))))))⟩
   · skip
     refine xP rfl rfl rfl rfl ?_
     refine RXn ?_
     refine WLv (lv1 4 rfl lv0) ?_
     refine WC_ret ?_
     refine endR rfl ?_
     exact ⟨⟨_, rfl⟩, ⟨f28, g33, by omega, h06, h67, h7n, by omega, ⟨_, b26⟩, _, l10, i10, f29, by omega, fun h => ⟨f32 h, by have := (hr10 h).2; omega, by have := (hr10 h).2; omega⟩⟩, by omega, by omega, (fun q hq htc _ => ((b27 q (by omega)).trans ((b18 q (by omega)).trans ((F10.keep q (by omega)).trans (a3 q (by omega))))))⟩
 · skip
   refine WC_skip ?_
   refine thenN ?_
   refine WLv (lv1 2 rfl lv0) ?_
   refine WC_go hE hm ?_
   refine xR (v := .int .i64 e0) rfl rfl rfl (ld1 (o := 0) f7 rfl) ?_
   refine xNe rfl rfl ?_ ?_ <;> intro h10
   · skip
     refine xP rfl rfl rfl rfl ?_
     refine RXn ?_
     refine WLv (lv1 4 rfl lv0) ?_
     refine WC_ret ?_
     refine endR rfl ?_
     exact ⟨⟨_, rfl⟩, ⟨f5, a4, by omega, h06, h67, h7n, by omega, ⟨_, f7⟩, _, lo, io, f6, by omega, fun h => ⟨f8 h, by have := (hrow h).2; omega, by have := (hrow h).2; omega⟩⟩, by omega, by omega, (fun q hq htc _ => (a3 q (by omega)))⟩
   · skip
     refine xP rfl rfl rfl rfl ?_
     refine RXn ?_
     refine WLv (lv1 4 rfl lv0) ?_
     refine WC_ret ?_
     refine endR rfl ?_
     exact ⟨⟨_, rfl⟩, ⟨f5, a4, by omega, h06, h67, h7n, by omega, ⟨_, f7⟩, _, lo, io, f6, by omega, fun h => ⟨f8 h, by have := (hrow h).2; omega, by have := (hrow h).2; omega⟩⟩, by omega, by omega, (fun q hq htc _ => (a3 q (by omega)))⟩
end Go.Proofs.YtmpogedhilfjgaaGreatDoor
set_option maxRecDepth 1000000
set_option maxHeartbeats 4000000
open Go Go.Cs
namespace Go.Proofs.YtmpogedhilfjgaaGreatDoor
theorem gB_le : ∀ k, k ≤ 6 → gB 1000 k ≤ 10000000000000 := by
 intro k hk
 have : k = 0 ∨ k = 1 ∨ k = 2 ∨ k = 3 ∨ k = 4 ∨ k = 5 ∨ k = 6 := by omega
 rcases this with h | h | h | h | h | h | h <;> subst h <;> simp [gB]
def c33 : FC := FC.mk 40 (.seq (.steps [⟨.alloc 24 [.int .i64 0, .slice none 0 0], [], some 4, none⟩,⟨.move, [.const (.int .i64 0)], some 5, none⟩]) (.seq (.seq (.steps [⟨.move, [.tmp 0], some 8, none⟩,⟨.bin .lss, [.tmp 8, .const (.int .i64 1)], some 9, none⟩,⟨.move, [.tmp 9], some 10, none⟩,⟨.move, [.tmp 0], some 11, some (10, false)⟩,⟨.bin .gtr, [.tmp 11, .const (.int .i64 21)], some 12, some (10, false)⟩,⟨.pick, [.tmp 10, .const (.bool true), .tmp 12], some 13, none⟩,⟨.move, [.tmp 13], some 14, none⟩,⟨.move, [.tmp 1], some 15, some (14, false)⟩,⟨.bin .lss, [.tmp 15, .const (.int .i64 0)], some 16, some (14, false)⟩,⟨.pick, [.tmp 14, .const (.bool true), .tmp 16], some 17, none⟩,⟨.move, [.tmp 17], some 18, none⟩,⟨.move, [.tmp 1], some 19, some (18, false)⟩,⟨.bin .gtr, [.tmp 19, .const (.int .i64 6)], some 20, some (18, false)⟩,⟨.pick, [.tmp 18, .const (.bool true), .tmp 20], some 21, none⟩]) (.cond (.tmp 21) (.seq (.steps [⟨.build [.int .i64 0, .slice none 0 0] [], [], some 22, none⟩,⟨.store 2, [.tmp 4, .tmp 22], none, none⟩,⟨.move, [.const (.int .i64 1)], some 5, none⟩]) (.ret)) (.skip))) (.seq (.steps [⟨.build [.int .i64 0, .slice none 0 0] [], [], some 23, none⟩,⟨.alloc 24 [.int .i64 0, .slice none 0 0], [], some 6, none⟩,⟨.alloc 32 [.int .i64 0], [], some 7, none⟩,⟨.store 2, [.tmp 6, .tmp 23], none, none⟩,⟨.store 1, [.tmp 7, .const (.int .i64 12)], none, none⟩]) (.seq (.seq (.steps [⟨.move, [.tmp 1], some 24, none⟩,⟨.move, [.tmp 1], some 25, none⟩,⟨.bin .sub, [.tmp 25, .const (.int .i64 1)], some 26, none⟩,⟨.bin .mul, [.tmp 24, .tmp 26], some 27, none⟩,⟨.move, [.tmp 0], some 28, none⟩,⟨.bin .sub, [.tmp 28, .const (.int .i64 1)], some 29, none⟩,⟨.bin .neq, [.tmp 27, .tmp 29], some 30, none⟩]) (.cond (.tmp 30) (.seq (.drawn [(0,⟨.loadN 2, [.tmp 6], some 31, none⟩), (1,⟨.load1, [.tmp 7], some 32, none⟩), (2,⟨.store 2, [.tmp 4, .tmp 31], none, none⟩), (3,⟨.move, [.tmp 32], some 5, none⟩)] [0, 0, 1, 7]) (.ret)) (.skip))) (.seq (.steps [⟨.move, [.tmp 0], some 33, none⟩,⟨.build [.int .i64 0, .int .u32 0] [(0, 1)], [.tmp 33], some 34, none⟩,⟨.move, [.tmp 1], some 35, none⟩,⟨.mkFunc (.func 70) 0, [.tmp 6, .tmp 7], some 36, none⟩,⟨.callF 68, [.tmp 34, .const (.int .i64 0), .tmp 35, .func 69, .tmp 36], some 37, none⟩]) (.seq (.drawn [(0,⟨.loadN 2, [.tmp 6], some 38, none⟩), (1,⟨.load1, [.tmp 7], some 39, none⟩), (2,⟨.store 2, [.tmp 4, .tmp 38], none, none⟩), (3,⟨.move, [.tmp 39], some 5, none⟩)] [0, 0, 1, 7]) (.ret))))))) [.cellN 4 2, .tmp 5]
theorem c33_ok : compF Tryz.prog 33 = some c33 := by kernel_rfl
theorem find_ok {p m : Int} {H : Heap} {n : Nat} (hg : aget H 0 = some gl) (hfr : Fresh H n) (hn : n + 40000000000000 < lim) (hn0 : 0 < n) :
 F Tryz.prog [0] 33 [.int .i64 p, .int .i64 m] H n (fun v H' n' => Fin H n 20000000000000 H' n' ∧ ∃ (q e : Int) (lo : List Int) (io : Nat), v = .tuple #[.agg #[.int .i64 q, gsl io lo.length], .int .i64 e] ∧ lo.length ≤ 21 ∧ RowI H' n n' io lo) := by
 refine F_of_comp c33_ok rfl ?_
 have hlim := limv
 refine WC_go hE hm ?_
 refine xNew (ob := .cells [.int .i64 0, .slice none 0 0] 24 none) (mk := .ptr) hfr (by omega) rfl rfl rfl rfl ?_
 intro H1 a2 a3 a4
 have f5 := (a3 _ (by omega)).trans hg
 refine xP rfl rfl rfl rfl ?_
 refine RXn ?_
 refine WLv (lv1 0 rfl (lv1 1 rfl (lv1 4 rfl lv0))) ?_
 refine WC_seq ?_
 refine WC_go hE hm ?_
 refine xP rfl rfl rfl rfl ?_
 refine xCmp rfl rfl rfl rfl ?_ ?_ <;> intro h9
 · skip
   refine xP rfl rfl rfl rfl ?_
   refine xS rfl ?_
   refine xS rfl ?_
   refine xP rfl rfl rfl rfl ?_
   refine xP rfl rfl rfl rfl ?_
   refine xS rfl ?_
   refine xS rfl ?_
   refine xP rfl rfl rfl rfl ?_
   refine xP rfl rfl rfl rfl ?_
   refine xS rfl ?_
   refine xS rfl ?_
   refine xP rfl rfl rfl rfl ?_
   refine RXn ?_
   refine WLv (lv1 0 rfl (lv1 1 rfl (lv1 4 rfl (lv1 21 rfl lv0)))) ?_
   refine WC_condT rfl ?_
   refine WC_go hE hm ?_
   refine xBuild [.int .i64 0, .slice none 0 0] rfl rfl rfl ?_
   refine xFill (ys := [.int .i64 0, .slice none 0 0]) a2 rfl rfl (by simp only [List.all_cons, List.all_nil, gsl_cell1]; rfl) rfl rfl (by omega) ?_
   intro H6 b7 b8
   have f9 := (b8 _ (by omega)).trans f5
   have g10 : Fresh H6 (n + 1) := fun q h1 h2 => by rw [b8 q (by omega)]; exact a4 q h1 h2
   refine xP rfl rfl rfl rfl ?_
   refine RXn ?_
   refine WLv (lv1 4 rfl (lv1 5 rfl lv0)) ?_
   refine WC_ret ?_
   refine thenR ?_
   refine endR (rvs2 (rv_cellN (b := n) rfl b7 rfl) rfl) ?_
   exact ⟨⟨fun q hq => ((b8 q (by omega)).trans (a3 q (by omega))), g10, by omega, by omega⟩, 0, _, [], 0, rfl, by decide, fun h => absurd rfl h⟩
 · skip
   refine xP rfl rfl rfl rfl ?_
   refine xP rfl rfl rfl rfl ?_
   refine xCmp rfl rfl rfl rfl ?_ ?_ <;> intro h12
   · skip
     refine xP rfl rfl rfl rfl ?_
     refine xP rfl rfl rfl rfl ?_
     refine xS rfl ?_
     refine xS rfl ?_
     refine xP rfl rfl rfl rfl ?_
     refine xP rfl rfl rfl rfl ?_
     refine xS rfl ?_
     refine xS rfl ?_
     refine xP rfl rfl rfl rfl ?_
     refine RXn ?_
     refine WLv (lv1 0 rfl (lv1 1 rfl (lv1 4 rfl (lv1 21 rfl lv0)))) ?_
     refine WC_condT rfl ?_
     refine WC_go hE hm ?_
     refine xBuild [.int .i64 0, .slice none 0 0] rfl rfl rfl ?_
     refine xFill (ys := [.int .i64 0, .slice none 0 0]) a2 rfl rfl (by simp only [List.all_cons, List.all_nil, gsl_cell1]; rfl) rfl rfl (by omega) ?_
     intro H11 b12 b13
     have f14 := (b13 _ (by omega)).trans f5
     have g15 : Fresh H11 (n + 1) := fun q h1 h2 => by rw [b13 q (by omega)]; exact a4 q h1 h2
     refine xP rfl rfl rfl rfl ?_
     refine RXn ?_
     refine WLv (lv1 4 rfl (lv1 5 rfl lv0)) ?_
     refine WC_ret ?_
     refine thenR ?_
     refine endR (rvs2 (rv_cellN (b := n) rfl b12 rfl) rfl) ?_
     exact ⟨⟨fun q hq => ((b13 q (by omega)).trans (a3 q (by omega))), g15, by omega, by omega⟩, 0, _, [], 0, rfl, by decide, fun h => absurd rfl h⟩
   · skip
     refine xP rfl rfl rfl rfl ?_
     refine xP rfl rfl rfl rfl ?_
     refine xP rfl rfl rfl rfl ?_
     refine xCmp rfl rfl rfl rfl ?_ ?_ <;> intro h16
     · skip
       refine xP rfl rfl rfl rfl ?_
       refine xP rfl rfl rfl rfl ?_
       refine xS rfl ?_
       refine xS rfl ?_
       refine xP rfl rfl rfl rfl ?_
       refine RXn ?_
       refine WLv (lv1 0 rfl (lv1 1 rfl (lv1 4 rfl (lv1 21 rfl lv0)))) ?_
       refine WC_condT rfl ?_
       refine WC_go hE hm ?_
       refine xBuild [.int .i64 0, .slice none 0 0] rfl rfl rfl ?_
       refine xFill (ys := [.int .i64 0, .slice none 0 0]) a2 rfl rfl (by simp only [List.all_cons, List.all_nil, gsl_cell1]; rfl) rfl rfl (by omega) ?_
       intro H16 b17 b18
       have f19 := (b18 _ (by omega)).trans f5
       have g20 : Fresh H16 (n + 1) := fun q h1 h2 => by rw [b18 q (by omega)]; exact a4 q h1 h2
       refine xP rfl rfl rfl rfl ?_
       refine RXn ?_
       refine WLv (lv1 4 rfl (lv1 5 rfl lv0)) ?_
       refine WC_ret ?_
       refine thenR ?_
       refine endR (rvs2 (rv_cellN (b := n) rfl b17 rfl) rfl) ?_
       exact ⟨⟨fun q hq => ((b18 q (by omega)).trans (a3 q (by omega))), g20, by omega, by omega⟩, 0, _, [], 0, rfl, by decide, fun h => absurd rfl h⟩
     · skip
       refine xP rfl rfl rfl rfl ?_
       refine xP rfl rfl rfl rfl ?_
       refine xP rfl rfl rfl rfl ?_
       refine xCmp rfl rfl rfl rfl ?_ ?_ <;> intro h20
       · skip
         refine xP rfl rfl rfl rfl ?_
         refine RXn ?_
         refine WLv (lv1 0 rfl (lv1 1 rfl (lv1 4 rfl (lv1 21 rfl lv0)))) ?_
         refine WC_condT rfl ?_
         refine WC_go hE hm ?_
         refine xBuild [.int .i64 0, .slice none 0 0] rfl rfl rfl ?_
         refine xFill (ys := [.int .i64 0, .slice none 0 0]) a2 rfl rfl (by simp only [List.all_cons, List.all_nil, gsl_cell1]; rfl) rfl rfl (by omega) ?_
         intro H21 b22 b23
         have f24 := (b23 _ (by omega)).trans f5
         have g25 : Fresh H21 (n + 1) := fun q h1 h2 => by rw [b23 q (by omega)]; exact a4 q h1 h2
         refine xP rfl rfl rfl rfl ?_
         refine RXn ?_
         refine WLv (lv1 4 rfl (lv1 5 rfl lv0)) ?_
         refine WC_ret ?_
         refine thenR ?_
         refine endR (rvs2 (rv_cellN (b := n) rfl b22 rfl) rfl) ?_
         exact ⟨⟨fun q hq => ((b23 q (by omega)).trans (a3 q (by omega))), g25, by omega, by omega⟩, 0, _, [], 0, rfl, by decide, fun h => absurd rfl h⟩
       · skip
         refine xP rfl rfl rfl rfl ?_
         refine RXn ?_
         refine WLv (lv1 0 rfl (lv1 1 rfl (lv1 4 rfl (lv1 21 rfl lv0)))) ?_
         refine WC_condF rfl ?_
         refine WC_skip ?_
         refine thenN ?_
         refine WLv (lv1 0 rfl (lv1 1 rfl (lv1 4 rfl lv0))) ?_
         refine WC_go hE hm ?_
         refine xBuild [.int .i64 0, .slice none 0 0] rfl rfl rfl ?_
         refine xNew (ob := .cells [.int .i64 0, .slice none 0 0] 24 none) (mk := .ptr) a4 (by omega) rfl rfl rfl rfl ?_
         intro H26 a27 a28 a29
         have f30 := (a28 _ (by omega)).trans f5
         have f31 := (a28 _ (by omega)).trans a2
         refine xNew (ob := .cells [.int .i64 0] 32 none) (mk := .ptr) a29 (by omega) rfl rfl rfl rfl ?_
         intro H32 a33 a34 a35
         have f36 := (a34 _ (by omega)).trans f30
         have f37 := (a34 _ (by omega)).trans f31
         have f38 := (a34 _ (by omega)).trans a27
         refine xFill (ys := [.int .i64 0, .slice none 0 0]) f38 rfl rfl (by simp only [List.all_cons, List.all_nil, gsl_cell1]; rfl) rfl rfl (by omega) ?_
         intro H39 b40 b41
         have f42 := (b41 _ (by omega)).trans f36
         have f43 := (b41 _ (by omega)).trans f37
         have f44 := (b41 _ (by omega)).trans a33
         have g45 : Fresh H39 (n + 1 + 1 + 1) := fun q h1 h2 => by rw [b41 q (by omega)]; exact a35 q h1 h2
         refine xStO (u := .int .i64 12) [.int .i64 12] f44 (by show _ ≤ _; simp) rfl rfl rfl rfl rfl (by omega) ?_
         intro H46 b47 b48
         have f49 := (b48 _ (by omega)).trans f42
         have f50 := (b48 _ (by omega)).trans f43
         have f51 := (b48 _ (by omega)).trans b40
         have g52 : Fresh H46 (n + 1 + 1 + 1) := fun q h1 h2 => by rw [b48 q (by omega)]; exact g45 q h1 h2
         refine RXn ?_
         refine WLv (lv1 0 rfl (lv1 1 rfl (lv1 4 rfl (lv1 6 rfl (lv1 7 rfl lv0))))) ?_
         refine WC_seq ?_
         refine WC_go hE hm ?_
         refine xP rfl rfl rfl rfl ?_
         refine xP rfl rfl rfl rfl ?_
         refine xSub rfl rfl (by omega) ?_
         refine xP (v := .int .i64 (IntKind.i64.wrap (m * (m - 1)))) rfl rfl rfl rfl ?_
         refine xP rfl rfl rfl rfl ?_
         refine xSub rfl rfl (by omega) ?_
         refine xNe rfl rfl ?_ ?_ <;> intro h30
         · skip
           refine RXn ?_
           refine WLv (lv1 0 rfl (lv1 1 rfl (lv1 4 rfl (lv1 6 rfl (lv1 7 rfl (lv1 30 rfl lv0)))))) ?_
           refine WC_condT rfl ?_
           refine WC_goD hE hm ?_
           refine dR (v := .agg #[.int .i64 0, .slice none 0 0]) rfl rfl rfl (loadBox (xs := [.int .i64 0, .slice none 0 0]) f51 rfl) ?_
           refine dR (v := .int .i64 12) rfl rfl rfl (ld1 (o := 0) b47 rfl) ?_
           refine dFill (ys := [.int .i64 0, .slice none 0 0]) f50 rfl rfl (by simp only [List.all_cons, List.all_nil, gsl_cell1]; rfl) rfl rfl (by omega) ?_
           intro H53 b54 b55
           have f56 := (b55 _ (by omega)).trans f49
           have f57 := (b55 _ (by omega)).trans f51
           have f58 := (b55 _ (by omega)).trans b47
           have g59 : Fresh H53 (n + 1 + 1 + 1) := fun q h1 h2 => by rw [b55 q (by omega)]; exact g52 q h1 h2
           refine ⟨stabOne ⟨1, ⟨.load1, [.tmp 7], some 32, none⟩, .r [.pointer (some ⟨n + 1 + 1, 0, none⟩)] (.int .i64 12)⟩ (by kernel_rfl) (ld1 (o := 0) f58 rfl), ?_⟩
           refine dX rfl (xP rfl rfl rfl rfl (RXn ?_))
           refine dNil ?_
           refine WLv (lv1 4 rfl (lv1 5 rfl lv0)) ?_
           refine WC_ret ?_
           refine thenR ?_
           refine endR (rvs2 (rv_cellN (b := n) rfl b54 rfl) rfl) ?_
           exact ⟨⟨fun q hq => ((b55 q (by omega)).trans ((b48 q (by omega)).trans ((b41 q (by omega)).trans ((a34 q (by omega)).trans ((a28 q (by omega)).trans (a3 q (by omega))))))), g59, by omega, by omega⟩, 0, _, [], 0, rfl, by decide, fun h => absurd rfl h⟩
         · skip
           refine RXn ?_
           refine WLv (lv1 0 rfl (lv1 1 rfl (lv1 4 rfl (lv1 6 rfl (lv1 7 rfl (lv1 30 rfl lv0)))))) ?_
           refine WC_condF rfl ?_
           refine WC_skip ?_
           refine thenN ?_
           refine WLv (lv1 0 rfl (lv1 1 rfl (lv1 4 rfl (lv1 6 rfl (lv1 7 rfl lv0))))) ?_
           refine WC_go hE hm ?_
           refine xP rfl rfl rfl rfl ?_
           refine xBuild [.int .i64 p, .int .u32 0] rfl rfl rfl ?_
           refine xP rfl rfl rfl rfl ?_
           refine xP (v := .func (.func 70) #[] #[.pointer (some ⟨n + 1, 0, none⟩), .pointer (some ⟨n + 1 + 1, 0, none⟩)]) rfl rfl rfl rfl ?_
           have hp : 1 ≤ p ∧ p ≤ 21 := ⟨by omega, by omega⟩
           have hG := gB_le m.toNat (by omega)
           have hI0 : FInv (n + 1) (n + 1 + 1) (n + 1 + 1 + 1) H46 (n + 1 + 1 + 1) := ⟨f49, g52, by omega, by omega, by omega, by omega, by omega, ⟨_, b47⟩, 0, [], 0, f51, by decide, fun h => absurd rfl h⟩
           refine xC rfl rfl rfl rfl (grown_ok (p := p) hp (fa := 69) (fe := 70) (ca := #[]) (ce := #[ptrAt (n + 1) 0, ptrAt (n + 1 + 1) 0]) (kc := 1000) (cm := cB m.toNat) (Inv := fun _ => FInv (n + 1) (n + 1 + 1) (n + 1 + 1 + 1)) (tob := fun _ => False) (fun _ _ h => h) (fun _ _ _ _ _ h => h) (fun _ => FInv.base) (fun _ => FInv.stable) (fun _ s H n _ hs hI hn => (narrowCb_ok hp hs (FInv.base _ _ hI).1).mono (by rintro v H' n' ⟨⟨b, rfl⟩, rfl, rfl⟩; exact ⟨⟨b, rfl⟩, hI, Nat.le_refl _, by omega, fun _ _ _ _ => rfl⟩)) (fun _ s H n _ hs hI hn => foundCb_ok hp s H n hs hI hn) m.toNat 0 0 m 0 _ _ (by omega) (by omega) (by omega) (by omega) (by decide) hI0 (by omega) (by omega)) ?_
           rintro _ H60 n60 ⟨⟨b60, rfl⟩, hI60, hle60, hrm60, hkp60⟩
           obtain ⟨hg60, hfr60, hz60, h06, h67, h7n, hnn, ⟨e0, hb7⟩, q0, lo, io, hb6, hl, hrow⟩ := hI60
           have f61 := (hkp60 (n) (by omega) (by omega) (fun _ _ h => h)).trans f50
           refine RXn ?_
           refine WLv (lv1 4 rfl (lv1 6 rfl (lv1 7 rfl lv0))) ?_
           refine WC_goD hE hm ?_
           refine dR (v := .agg #[.int .i64 q0, gsl (io) (lo.length)]) rfl rfl rfl (loadBox (xs := [.int .i64 q0, gsl (io) (lo.length)]) hb6 rfl) ?_
           refine dR (v := .int .i64 e0) rfl rfl rfl (ld1 (o := 0) hb7 rfl) ?_
           refine dFill (ys := [.int .i64 q0, gsl (io) (lo.length)]) f61 rfl rfl (by simp only [List.all_cons, List.all_nil, gsl_cell1]; rfl) rfl rfl (by omega) ?_
           intro H62 b63 b64
           have f65 := (b64 _ (by omega)).trans hg60
           have f66 := (b64 _ (by omega)).trans hb6
           have f67 := (b64 _ (by omega)).trans hb7
           have f68 : lo ≠ [] → aget H62 io = some (.cells (ints lo) 3 (some 1)) := fun hne => by have hdm := (hrow hne).2; exact (b64 _ (by omega)).trans ((fun h => (hrow h).1) hne)
           have g69 : Fresh H62 (n60) := fun q h1 h2 => by rw [b64 q (by omega)]; exact hfr60 q h1 h2
           refine ⟨stabOne ⟨1, ⟨.load1, [.tmp 7], some 39, none⟩, .r [.pointer (some ⟨n + 1 + 1, 0, none⟩)] (.int .i64 e0)⟩ (by kernel_rfl) (ld1 (o := 0) f67 rfl), ?_⟩
           refine dX rfl (xP rfl rfl rfl rfl (RXn ?_))
           refine dNil ?_
           refine WLv (lv1 4 rfl (lv1 5 rfl lv0)) ?_
           refine WC_ret ?_
           refine endR (rvs2 (rv_cellN (b := n) rfl b63 rfl) rfl) ?_
           exact ⟨⟨fun q hq => ((b64 q (by omega)).trans ((hkp60 q (by omega) (by omega) (fun _ _ h => h)).trans ((b48 q (by omega)).trans ((b41 q (by omega)).trans ((a34 q (by omega)).trans ((a28 q (by omega)).trans (a3 q (by omega)))))))), g69, by omega, by omega⟩, q0, _, lo, io, rfl, hl, fun h => ⟨f68 h, by have := (hrow h).2; omega, by have := (hrow h).2; omega⟩⟩
end Go.Proofs.YtmpogedhilfjgaaGreatDoor
