/- A part of the proof that the law spadilletop.TopSharedRing answers true and leaves its argument as it was (C2) -/
import Derived.Test.YtmpogedhilfjgaaGreatDoorC1
set_option linter.all false
set_option maxRecDepth 1000000
set_option maxHeartbeats 4000000
open Go Go.Cs
namespace Go.Proofs.YtmpogedhilfjgaaGreatDoor
def okSeal (p : Int) (l : List Int) : Prop := (1 ≤ p ∧ p ≤ 21) ∧ l.length ≤ 6 ∧ ∀ x ∈ l, 0 ≤ x ∧ x < p
def OldRow (H : Heap) (n i : Nat) (l : List Int) : Prop := l ≠ [] → aget H i = some (.cells (ints l) 3 (some 1)) ∧ i < n
def sealV (p : Int) (i : Nat) (l : List Int) : Value := .agg #[.int .i64 p, gsl i l.length]
def c8 : FC := FC.mk 42 (.seq (.steps [⟨.box 24, [.tmp 0], some 1, none⟩,⟨.move, [.const (.int .i64 0)], some 2, none⟩]) (.seq (.block 0 (.seq (.steps [⟨.fieldAddr 0, [.tmp 1], some 7, none⟩,⟨.load1, [.tmp 7], some 8, none⟩,⟨.bin .lss, [.tmp 8, .const (.int .i64 1)], some 9, none⟩,⟨.move, [.tmp 9], some 10, none⟩,⟨.fieldAddr 0, [.tmp 1], some 11, some (10, false)⟩,⟨.load1, [.tmp 11], some 12, some (10, false)⟩,⟨.bin .gtr, [.tmp 12, .const (.int .i64 21)], some 13, some (10, false)⟩,⟨.pick, [.tmp 10, .const (.bool true), .tmp 13], some 14, none⟩,⟨.move, [.tmp 14], some 6, none⟩]) (.cond (.tmp 6) (.seq (.steps [⟨.move, [.const (.int .i64 1)], some 2, none⟩]) (.ret)) (.seq (.steps [⟨.fieldAddr 1, [.tmp 1], some 16, none⟩,⟨.load1, [.tmp 16], some 17, none⟩,⟨.lenS, [.tmp 17], some 18, none⟩,⟨.bin .gtr, [.tmp 18, .const (.int .i64 6)], some 19, none⟩,⟨.move, [.tmp 19], some 15, none⟩]) (.cond (.tmp 15) (.seq (.steps [⟨.move, [.const (.int .i64 3)], some 2, none⟩]) (.ret)) (.skip)))))) (.seq (.steps [⟨.move, [.const (.int .i64 (-1))], some 3, none⟩]) (.seq (.seq (.steps [⟨.fieldAddr 1, [.tmp 1], some 20, none⟩,⟨.load1, [.tmp 20], some 21, none⟩,⟨.lenS, [.tmp 21], some 22, none⟩,⟨.move, [.const (.int .i64 0)], some 23, none⟩]) (.block 1 (.loop (.seq (.steps [⟨.bin .lss, [.tmp 23, .tmp 22], some 24, none⟩]) (.seq (.cond (.tmp 24) (.skip) (.exit 1)) (.seq (.block 2 (.seq (.steps [⟨.indexAddrS 1, [.tmp 21, .tmp 23], some 25, none⟩,⟨.load1, [.tmp 25], some 26, none⟩,⟨.move, [.tmp 26], some 5, none⟩]) (.seq (.block 3 (.seq (.steps [⟨.move, [.tmp 5], some 28, none⟩,⟨.bin .lss, [.tmp 28, .const (.int .i64 0)], some 29, none⟩,⟨.move, [.tmp 29], some 30, none⟩,⟨.move, [.tmp 5], some 31, some (30, false)⟩,⟨.fieldAddr 0, [.tmp 1], some 32, some (30, false)⟩,⟨.load1, [.tmp 32], some 33, some (30, false)⟩,⟨.bin .geq, [.tmp 31, .tmp 33], some 34, some (30, false)⟩,⟨.pick, [.tmp 30, .const (.bool true), .tmp 34], some 35, none⟩,⟨.move, [.tmp 35], some 27, none⟩]) (.cond (.tmp 27) (.seq (.steps [⟨.move, [.const (.int .i64 2)], some 2, none⟩]) (.ret)) (.seq (.steps [⟨.move, [.tmp 5], some 37, none⟩,⟨.move, [.tmp 3], some 38, none⟩,⟨.bin .leq, [.tmp 37, .tmp 38], some 39, none⟩,⟨.move, [.tmp 39], some 36, none⟩]) (.cond (.tmp 36) (.seq (.steps [⟨.move, [.const (.int .i64 7)], some 2, none⟩]) (.ret)) (.skip)))))) (.steps [⟨.move, [.tmp 5], some 40, none⟩,⟨.move, [.tmp 40], some 3, none⟩])))) (.steps [⟨.bin .add, [.tmp 23, .const (.int .i64 1)], some 41, none⟩,⟨.move, [.tmp 41], some 23, none⟩]))))))) (.seq (.steps [⟨.move, [.const (.int .i64 0)], some 2, none⟩]) (.ret)))))) [.tmp 2]
theorem c8_ok : compF Tryz.prog 8 = some c8 := by kernel_rfl
theorem check_ok {p : Int} {l : List Int} {i : Nat} (hll : l.length ≤ 1000000) {H : Heap} {n : Nat} (hg : aget H 0 = some gl) (hrow : OldRow H n i l) (hfr : Fresh H n) (hn : n + 20 < lim) (hn0 : 0 < n) :
 F Tryz.prog [0] 8 [sealV p i l] H n (fun v H' n' => Fin H n 5 H' n' ∧ ∃ e : Int, v = .int .i64 e ∧ (e = 0 → okSeal p l)) := by
 refine F_of_comp c8_ok rfl ?_
 have hlim := limv
 refine WC_go hE hm ?_
 refine xNew (ob := .cells [.int .i64 p, gsl (i) (l.length)] 24 none) (mk := .ptr) hfr (by omega) rfl rfl rfl (by simp [semA, aBox, Value.cells, sealV]) ?_
 intro H1 a2 a3 a4
 have f5 := (a3 _ (by omega)).trans hg
 have f6 : l ≠ [] → aget H1 i = some (.cells (ints l) 3 (some 1)) := fun hne => by have hdm := (hrow hne).2; exact (a3 _ (by omega)).trans ((fun h => (hrow h).1) hne)
 refine xP rfl rfl rfl rfl ?_
 refine RXn ?_
 refine WLv (lv1 1 rfl lv0) ?_
 refine WC_seq ?_
 refine WC_block ?_
 refine WC_go hE hm ?_
 refine xP rfl rfl rfl rfl ?_
 refine xR (v := .int .i64 p) rfl rfl rfl (ld1 (o := 0 + 0) a2 rfl) ?_
 refine xCmp rfl rfl rfl rfl ?_ ?_ <;> intro h9
 · skip
   refine xP rfl rfl rfl rfl ?_
   refine xS rfl ?_
   refine xS rfl ?_
   refine xS rfl ?_
   refine xP rfl rfl rfl rfl ?_
   refine xP rfl rfl rfl rfl ?_
   refine RXn ?_
   refine WLv (lv1 1 rfl (lv1 6 rfl lv0)) ?_
   refine WC_condT rfl ?_
   refine WC_go hE hm ?_
   refine xP rfl rfl rfl rfl ?_
   refine RXn ?_
   refine WLv (lv1 2 rfl lv0) ?_
   refine WC_ret ?_
   refine blockR ?_
   refine thenR ?_
   refine endR rfl ?_
   exact ⟨⟨fun q hq => (a3 q (by omega)), a4, by omega, by omega⟩, _, rfl, fun h => absurd h (by decide)⟩
 · skip
   refine xP rfl rfl rfl rfl ?_
   refine xP rfl rfl rfl rfl ?_
   refine xR (v := .int .i64 p) rfl rfl rfl (ld1 (o := 0 + 0) a2 rfl) ?_
   refine xCmp rfl rfl rfl rfl ?_ ?_ <;> intro h13
   · skip
     refine xP rfl rfl rfl rfl ?_
     refine xP rfl rfl rfl rfl ?_
     refine RXn ?_
     refine WLv (lv1 1 rfl (lv1 6 rfl lv0)) ?_
     refine WC_condT rfl ?_
     refine WC_go hE hm ?_
     refine xP rfl rfl rfl rfl ?_
     refine RXn ?_
     refine WLv (lv1 2 rfl lv0) ?_
     refine WC_ret ?_
     refine blockR ?_
     refine thenR ?_
     refine endR rfl ?_
     exact ⟨⟨fun q hq => (a3 q (by omega)), a4, by omega, by omega⟩, _, rfl, fun h => absurd h (by decide)⟩
   · skip
     refine xP rfl rfl rfl rfl ?_
     refine xP rfl rfl rfl rfl ?_
     refine RXn ?_
     refine WLv (lv1 1 rfl (lv1 6 rfl lv0)) ?_
     refine WC_condF rfl ?_
     refine WC_go hE hm ?_
     refine xP rfl rfl rfl rfl ?_
     refine xR (v := gsl (i) (l.length)) rfl rfl rfl (ld1 (o := 0 + 1) a2 rfl) ?_
     refine xP (v := .int .i64 ((l.length : Nat) : Int)) rfl rfl rfl (SliceAt.gsl _ _).lenS ?_
     refine xCmp rfl rfl rfl rfl ?_ ?_ <;> intro h19
     · skip
       refine xP rfl rfl rfl rfl ?_
       refine RXn ?_
       refine WLv (lv1 1 rfl (lv1 15 rfl lv0)) ?_
       refine WC_condT rfl ?_
       refine WC_go hE hm ?_
       refine xP rfl rfl rfl rfl ?_
       refine RXn ?_
       refine WLv (lv1 2 rfl lv0) ?_
       refine WC_ret ?_
       refine blockR ?_
       refine thenR ?_
       refine endR rfl ?_
       exact ⟨⟨fun q hq => (a3 q (by omega)), a4, by omega, by omega⟩, _, rfl, fun h => absurd h (by decide)⟩
     · skip
       refine xP rfl rfl rfl rfl ?_
       refine RXn ?_
       refine WLv (lv1 1 rfl (lv1 15 rfl lv0)) ?_
       refine WC_condF rfl ?_
       refine WC_skip ?_
       refine blockN ?_
       refine thenN ?_
       refine WLv (lv1 1 rfl lv0) ?_
       refine WC_go hE hm ?_
       refine xP rfl rfl rfl rfl ?_
       refine RXn ?_
       refine WLv (lv1 1 rfl (lv1 3 rfl lv0)) ?_
       refine WC_seq ?_
       refine WC_go hE hm ?_
       refine xP rfl rfl rfl rfl ?_
       refine xR (v := gsl (i) (l.length)) rfl rfl rfl (ld1 (o := 0 + 1) a2 rfl) ?_
       refine xP (v := .int .i64 ((l.length : Nat) : Int)) rfl rfl rfl (SliceAt.gsl _ _).lenS ?_
       refine xP rfl rfl rfl rfl ?_
       refine RXn ?_
       refine WLv (lv1 1 rfl (lv1 3 rfl (lv1 21 rfl (lv1 22 rfl (lv1 23 rfl lv0))))) ?_
       refine WC_block ?_
       refine WC_loopX (X := Nat × Int) (fun y => { T := ofL [(1, ptrAt n 0), (3, .int .i64 y.2), (21, gsl i l.length), (22, .int .i64 (l.length : Int)), (23, .int .i64 (y.1 : Int))], D := [], H := H1, n := n + 1 }) (fun y => y.1 ≤ l.length ∧ ∀ (j : Nat) (x : Int), j < y.1 → l[j]? = some x → 0 ≤ x ∧ x < p) (fun y => l.length - y.1) (0, -1) ⟨Nat.zero_le _, fun j x h => by omega⟩ ?_
       rintro ⟨k, last⟩ ⟨hk, hall⟩
       dsimp only at *
       refine WC_go hE hm ?_
       refine xCmp rfl rfl rfl rfl ?_ ?_ <;> intro h24
       · skip
         refine RXn ?_
         refine WLv (lv1 1 rfl (lv1 3 rfl (lv1 21 rfl (lv1 22 rfl (lv1 23 rfl (lv1 24 rfl lv0)))))) ?_
         refine WC_seq ?_
         refine WC_condT rfl ?_
         refine WC_skip ?_
         refine thenN ?_
         refine WLv (lv1 1 rfl (lv1 3 rfl (lv1 21 rfl (lv1 22 rfl (lv1 23 rfl lv0))))) ?_
         refine WC_seq ?_
         refine WC_block ?_
         refine WC_go hE hm ?_
         refine xIdxG rfl rfl ⟨by omega, by omega⟩ ?_
         have hl0 : l ≠ [] := by rintro rfl; simp only [List.length_nil] at *; omega
         refine xLdI rfl rfl (f6 hl0) (by omega) ?_
         refine xP rfl rfl rfl rfl ?_
         refine RXn ?_
         refine WLv (lv1 1 rfl (lv1 3 rfl (lv1 5 rfl (lv1 21 rfl (lv1 22 rfl (lv1 23 rfl lv0)))))) ?_
         refine WC_seq ?_
         refine WC_block ?_
         refine WC_go hE hm ?_
         refine xP rfl rfl rfl rfl ?_
         refine xCmp rfl rfl rfl rfl ?_ ?_ <;> intro h29
         · skip
           refine xP rfl rfl rfl rfl ?_
           refine xS rfl ?_
           refine xS rfl ?_
           refine xS rfl ?_
           refine xS rfl ?_
           refine xP rfl rfl rfl rfl ?_
           refine xP rfl rfl rfl rfl ?_
           refine RXn ?_
           refine WLv (lv1 1 rfl (lv1 3 rfl (lv1 5 rfl (lv1 21 rfl (lv1 22 rfl (lv1 23 rfl (lv1 27 rfl lv0))))))) ?_
           refine WC_condT rfl ?_
           refine WC_go hE hm ?_
           refine xP rfl rfl rfl rfl ?_
           refine RXn ?_
           refine WLv (lv1 2 rfl lv0) ?_
           refine WC_ret ?_
           refine blockR ?_
           refine thenR ?_
           refine blockR ?_
           refine thenR ?_
           refine thenR ?_
           refine blockR ?_
           refine thenR ?_
           refine endR rfl ?_
           exact ⟨⟨fun q hq => (a3 q (by omega)), a4, by omega, by omega⟩, _, rfl, fun h => absurd h (by decide)⟩
         · skip
           refine xP rfl rfl rfl rfl ?_
           refine xP rfl rfl rfl rfl ?_
           refine xP rfl rfl rfl rfl ?_
           refine xR (v := .int .i64 p) rfl rfl rfl (ld1 (o := 0 + 0) a2 rfl) ?_
           refine xCmp rfl rfl rfl rfl ?_ ?_ <;> intro h34
           · skip
             refine xP rfl rfl rfl rfl ?_
             refine xP rfl rfl rfl rfl ?_
             refine RXn ?_
             refine WLv (lv1 1 rfl (lv1 3 rfl (lv1 5 rfl (lv1 21 rfl (lv1 22 rfl (lv1 23 rfl (lv1 27 rfl lv0))))))) ?_
             refine WC_condT rfl ?_
             refine WC_go hE hm ?_
             refine xP rfl rfl rfl rfl ?_
             refine RXn ?_
             refine WLv (lv1 2 rfl lv0) ?_
             refine WC_ret ?_
             refine blockR ?_
             refine thenR ?_
             refine blockR ?_
             refine thenR ?_
             refine thenR ?_
             refine blockR ?_
             refine thenR ?_
             refine endR rfl ?_
             exact ⟨⟨fun q hq => (a3 q (by omega)), a4, by omega, by omega⟩, _, rfl, fun h => absurd h (by decide)⟩
           · skip
             refine xP rfl rfl rfl rfl ?_
             refine xP rfl rfl rfl rfl ?_
             refine RXn ?_
             refine WLv (lv1 1 rfl (lv1 3 rfl (lv1 5 rfl (lv1 21 rfl (lv1 22 rfl (lv1 23 rfl (lv1 27 rfl lv0))))))) ?_
             refine WC_condF rfl ?_
             refine WC_go hE hm ?_
             refine xP rfl rfl rfl rfl ?_
             refine xP rfl rfl rfl rfl ?_
             refine xCmp rfl rfl rfl rfl ?_ ?_ <;> intro h39
             · skip
               refine xP rfl rfl rfl rfl ?_
               refine RXn ?_
               refine WLv (lv1 1 rfl (lv1 5 rfl (lv1 21 rfl (lv1 22 rfl (lv1 23 rfl (lv1 36 rfl lv0)))))) ?_
               refine WC_condT rfl ?_
               refine WC_go hE hm ?_
               refine xP rfl rfl rfl rfl ?_
               refine RXn ?_
               refine WLv (lv1 2 rfl lv0) ?_
               refine WC_ret ?_
               refine blockR ?_
               refine thenR ?_
               refine blockR ?_
               refine thenR ?_
               refine thenR ?_
               refine blockR ?_
               refine thenR ?_
               refine endR rfl ?_
               exact ⟨⟨fun q hq => (a3 q (by omega)), a4, by omega, by omega⟩, _, rfl, fun h => absurd h (by decide)⟩
             · skip
               refine xP rfl rfl rfl rfl ?_
               refine RXn ?_
               refine WLv (lv1 1 rfl (lv1 5 rfl (lv1 21 rfl (lv1 22 rfl (lv1 23 rfl (lv1 36 rfl lv0)))))) ?_
               refine WC_condF rfl ?_
               refine WC_skip ?_
               refine blockN ?_
               refine thenN ?_
               refine WLv (lv1 1 rfl (lv1 5 rfl (lv1 21 rfl (lv1 22 rfl (lv1 23 rfl lv0))))) ?_
               refine WC_steps hE hm ?_
               refine xP rfl rfl rfl rfl ?_
               refine xP rfl rfl rfl rfl ?_
               refine RXn ?_
               refine blockN ?_
               refine thenN ?_
               refine WLv (lv1 1 rfl (lv1 3 rfl (lv1 21 rfl (lv1 22 rfl (lv1 23 rfl lv0))))) ?_
               refine WC_steps hE hm ?_
               refine xAdd rfl rfl (by omega) ?_
               refine xP rfl rfl rfl rfl ?_
               refine RXn ?_
               refine thenN ⟨(k + 1, l.getD ((k : Int)).toNat 0), ⟨by dsimp only; omega, fun j x hj hx => ?_⟩, by dsimp only; omega, Le.live (lv1 1 rfl (lv1 3 rfl (lv1 21 rfl (lv1 22 rfl (lv1 23 rfl lv0)))))⟩
               by_cases hjk : j = k
               · subst hjk
                 have e : l.getD ((j : Int)).toNat 0 = x := by rw [Int.toNat_natCast, List.getD_eq_getElem?_getD, hx]; rfl
                 omega
               · exact hall j x (by dsimp only at hj; omega) hx
       · skip
         refine RXn ?_
         refine WLv (lv1 1 rfl (lv1 3 rfl (lv1 21 rfl (lv1 22 rfl (lv1 23 rfl (lv1 24 rfl lv0)))))) ?_
         refine WC_seq ?_
         refine WC_condF rfl ?_
         refine WC_exit ?_
         refine thenE ?_
         refine thenE ?_
         refine blockE ?_
         refine thenN ?_
         refine WLv lv0 ?_
         refine WC_go hE hm ?_
         refine xP rfl rfl rfl rfl ?_
         refine RXn ?_
         refine WLv (lv1 2 rfl lv0) ?_
         refine WC_ret ?_
         refine endR rfl ?_
         exact ⟨⟨fun q hq => (a3 q (by omega)), a4, by omega, by omega⟩, _, rfl, fun _ => ⟨⟨by omega, by omega⟩, by omega, fun x hx => by
          obtain ⟨j, hj, rfl⟩ := List.getElem_of_mem hx
          exact hall j _ (by omega) (List.getElem?_eq_getElem hj)⟩⟩
def c83 : FC := FC.mk 24 (.seq (.steps [⟨.alloc 75 [.int .i64 0, .int .u32 0], [], some 4, none⟩]) (.seq (.steps [⟨.move, [.tmp 0], some 8, none⟩,⟨.build [.int .i64 0, .int .u32 0] [(0, 1)], [.tmp 8], some 9, none⟩,⟨.alloc 75 [.int .i64 0, .int .u32 0], [], some 5, none⟩,⟨.store 2, [.tmp 5, .tmp 9], none, none⟩]) (.seq (.seq (.steps [⟨.move, [.tmp 1], some 10, none⟩,⟨.lenS, [.tmp 10], some 11, none⟩,⟨.move, [.const (.int .i64 0)], some 12, none⟩]) (.block 0 (.loop (.seq (.steps [⟨.bin .lss, [.tmp 12, .tmp 11], some 13, none⟩]) (.seq (.cond (.tmp 13) (.skip) (.exit 0)) (.seq (.block 1 (.seq (.steps [⟨.indexAddrS 1, [.tmp 10, .tmp 12], some 14, none⟩,⟨.load1, [.tmp 14], some 15, none⟩,⟨.move, [.tmp 15], some 7, none⟩]) (.steps [⟨.fieldAddr 1, [.tmp 5], some 16, none⟩,⟨.load1, [.tmp 16], some 17, none⟩,⟨.move, [.tmp 7], some 18, none⟩,⟨.bin .shl, [.const (.int .u32 1), .tmp 18], some 19, none⟩,⟨.bin .or, [.tmp 17, .tmp 19], some 20, none⟩,⟨.fieldAddr 1, [.tmp 5], some 21, none⟩,⟨.store 1, [.tmp 21, .tmp 20], none, none⟩]))) (.steps [⟨.bin .add, [.tmp 12, .const (.int .i64 1)], some 22, none⟩,⟨.move, [.tmp 22], some 12, none⟩]))))))) (.seq (.steps [⟨.loadN 2, [.tmp 5], some 23, none⟩,⟨.store 2, [.tmp 4, .tmp 23], none, none⟩]) (.ret))))) [.cellN 4 2]
theorem c83_ok : compF Tryz.prog 83 = some c83 := by kernel_rfl
theorem made_ok {p : Int} {l : List Int} {i : Nat} (hll : l.length ≤ 1000000) (hx : ∀ x ∈ l, 0 ≤ x) {H : Heap} {n : Nat} (hg : aget H 0 = some gl) (hrow : OldRow H n i l) (hfr : Fresh H n) (hn : n + 20 < lim) (hn0 : 0 < n) :
 F Tryz.prog [0] 83 [.int .i64 p, gsl i l.length] H n (fun v H' n' => Fin H n 5 H' n' ∧ ∃ u : Nat, u < 2 ^ 32 ∧ v = stampV p u) := by
 refine F_of_comp c83_ok rfl ?_
 have hlim := limv
 refine WC_go hE hm ?_
 refine xNew (ob := .cells [.int .i64 0, .int .u32 0] 75 none) (mk := .ptr) hfr (by omega) rfl rfl rfl rfl ?_
 intro H1 a2 a3 a4
 have f5 := (a3 _ (by omega)).trans hg
 have f6 : l ≠ [] → aget H1 i = some (.cells (ints l) 3 (some 1)) := fun hne => by have hdm := (hrow hne).2; exact (a3 _ (by omega)).trans ((fun h => (hrow h).1) hne)
 refine RXn ?_
 refine WLv (lv1 0 rfl (lv1 1 rfl (lv1 4 rfl lv0))) ?_
 refine WC_go hE hm ?_
 refine xP rfl rfl rfl rfl ?_
 refine xBuild [.int .i64 p, .int .u32 0] rfl rfl rfl ?_
 refine xNew (ob := .cells [.int .i64 0, .int .u32 0] 75 none) (mk := .ptr) a4 (by omega) rfl rfl rfl rfl ?_
 intro H7 a8 a9 a10
 have f11 := (a9 _ (by omega)).trans f5
 have f12 : l ≠ [] → aget H7 i = some (.cells (ints l) 3 (some 1)) := fun hne => by have hdm := (hrow hne).2; exact (a9 _ (by omega)).trans (f6 hne)
 have f13 := (a9 _ (by omega)).trans a2
 refine xFill (ys := [.int .i64 p, .int .u32 0]) a8 rfl rfl (by simp only [List.all_cons, List.all_nil, gsl_cell1]; rfl) rfl rfl (by omega) ?_
 intro H14 b15 b16
 have f17 := (b16 _ (by omega)).trans f11
 have f18 : l ≠ [] → aget H14 i = some (.cells (ints l) 3 (some 1)) := fun hne => by have hdm := (hrow hne).2; exact (b16 _ (by omega)).trans (f12 hne)
 have f19 := (b16 _ (by omega)).trans f13
 have g20 : Fresh H14 (n + 1 + 1) := fun q h1 h2 => by rw [b16 q (by omega)]; exact a10 q h1 h2
 refine RXn ?_
 refine WLv (lv1 1 rfl (lv1 4 rfl (lv1 5 rfl lv0))) ?_
 refine WC_seq ?_
 refine WC_go hE hm ?_
 refine xP rfl rfl rfl rfl ?_
 refine xP (v := .int .i64 ((l.length : Nat) : Int)) rfl rfl rfl (SliceAt.gsl _ _).lenS ?_
 refine xP rfl rfl rfl rfl ?_
 refine RXn ?_
 refine WLv (lv1 4 rfl (lv1 5 rfl (lv1 10 rfl (lv1 11 rfl (lv1 12 rfl lv0))))) ?_
 refine WC_block ?_
 refine WC_loopX (X := Nat × Nat × Heap) (fun y => { T := ofL [(4, ptrAt n 0), (5, ptrAt (n + 1) 0), (10, gsl i l.length), (11, .int .i64 (l.length : Int)), (12, .int .i64 (y.1 : Int))], D := [], H := y.2.2, n := n + 1 + 1 })
  (fun y => y.1 ≤ l.length ∧ y.2.1 < 2 ^ 32 ∧ aget y.2.2 (n + 1) = some (.cells [.int .i64 p, .int .u32 (y.2.1 : Int)] 75 none) ∧ (∀ q, q ≠ n + 1 → aget y.2.2 q = aget H14 q) ∧ Fresh y.2.2 (n + 1 + 1)) (fun y => l.length - y.1) (0, 0, H14) ⟨by dsimp only; omega, by dsimp only; decide, b15, (fun _ _ => rfl), g20⟩ ?_
 rintro ⟨k, u, Hl⟩ ⟨hk, hu, hb5, hkeep, hfl⟩
 dsimp only at *
 have l21 := (hkeep 0 (by omega)).trans f17
 have l22 : l ≠ [] → aget Hl i = some (.cells (ints l) 3 (some 1)) := fun hne => by have hdm := (hrow hne).2; exact (hkeep _ (by omega)).trans (f18 hne)
 have l23 := (hkeep (n) (by omega)).trans f19
 refine WC_go hE hm ?_
 refine xCmp rfl rfl rfl rfl ?_ ?_ <;> intro h13
 · skip
   refine RXn ?_
   refine WLv (lv1 4 rfl (lv1 5 rfl (lv1 10 rfl (lv1 11 rfl (lv1 12 rfl (lv1 13 rfl lv0)))))) ?_
   refine WC_seq ?_
   refine WC_condT rfl ?_
   refine WC_skip ?_
   refine thenN ?_
   refine WLv (lv1 4 rfl (lv1 5 rfl (lv1 10 rfl (lv1 11 rfl (lv1 12 rfl lv0))))) ?_
   refine WC_seq ?_
   refine WC_block ?_
   refine WC_go hE hm ?_
   refine xIdxG rfl rfl ⟨by omega, by omega⟩ ?_
   have hl0 : l ≠ [] := by rintro rfl; simp only [List.length_nil] at *; omega
   refine xLdI rfl rfl (l22 hl0) (by omega) ?_
   have hmem := hx _ (List.getElem_mem (show k < l.length by omega))
   have hget : l.getD ((k : Int)).toNat 0 = l[k] := by rw [Int.toNat_natCast, List.getD_eq_getElem?_getD, List.getElem?_eq_getElem (by omega)]; rfl
   rw [← hget] at hmem
   refine xP rfl rfl rfl rfl ?_
   refine RXn ?_
   refine WLv (lv1 4 rfl (lv1 5 rfl (lv1 7 rfl (lv1 10 rfl (lv1 11 rfl (lv1 12 rfl lv0)))))) ?_
   refine WC_steps hE hm ?_
   refine xP rfl rfl rfl rfl ?_
   refine xR (v := .int .u32 (u : Int)) rfl rfl rfl (ld1 (o := 0 + 1) hb5 rfl) ?_
   refine xP rfl rfl rfl rfl ?_
   refine xShl (x := 1) rfl rfl rfl (by omega) ?_
   refine xOr rfl rfl rfl hu (Nat.mod_lt _ (by decide)) ?_
   have hw24 : (u ||| (1 <<< min ((l.getD ((k : Int)).toNat 0)).toNat IntKind.u32.bits) % 2 ^ IntKind.u32.bits) < 2 ^ 32 := Nat.or_lt_two_pow hu (Nat.mod_lt _ (by decide))
   generalize (u ||| (1 <<< min ((l.getD ((k : Int)).toNat 0)).toNat IntKind.u32.bits) % 2 ^ IntKind.u32.bits) = w24 at hw24 ⊢
   refine xP rfl rfl rfl rfl ?_
   refine xStO (u := .int .u32 (w24 : Int)) [.int .i64 p, .int .u32 (w24 : Int)] hb5 (by show _ ≤ _; simp) rfl rfl rfl rfl rfl (by omega) ?_
   intro H25 b26 b27
   have f28 := (b27 _ (by omega)).trans l21
   have f29 : l ≠ [] → aget H25 i = some (.cells (ints l) 3 (some 1)) := fun hne => by have hdm := (hrow hne).2; exact (b27 _ (by omega)).trans (l22 hne)
   have f30 := (b27 _ (by omega)).trans l23
   have g31 : Fresh H25 (n + 1 + 1) := fun q h1 h2 => by rw [b27 q (by omega)]; exact hfl q h1 h2
   refine RXn ?_
   refine blockN ?_
   refine thenN ?_
   refine WLv (lv1 4 rfl (lv1 5 rfl (lv1 10 rfl (lv1 11 rfl (lv1 12 rfl lv0))))) ?_
   refine WC_steps hE hm ?_
   refine xAdd rfl rfl (by omega) ?_
   refine xP rfl rfl rfl rfl ?_
   refine RXn ?_
   refine thenN ⟨(k + 1, w24, H25), ⟨by dsimp only; omega, hw24, b26, (fun q hq => ((b27 q hq).trans (hkeep q hq))), g31⟩, by dsimp only; omega, Le.live (lv1 4 rfl (lv1 5 rfl (lv1 10 rfl (lv1 11 rfl (lv1 12 rfl lv0)))))⟩
 · skip
   refine RXn ?_
   refine WLv (lv1 4 rfl (lv1 5 rfl (lv1 10 rfl (lv1 11 rfl (lv1 12 rfl (lv1 13 rfl lv0)))))) ?_
   refine WC_seq ?_
   refine WC_condF rfl ?_
   refine WC_exit ?_
   refine thenE ?_
   refine thenE ?_
   refine blockE ?_
   refine thenN ?_
   refine WLv (lv1 4 rfl (lv1 5 rfl lv0)) ?_
   refine WC_go hE hm ?_
   refine xR (v := .agg #[.int .i64 p, .int .u32 (u : Int)]) rfl rfl rfl (loadBox (xs := [.int .i64 p, .int .u32 (u : Int)]) hb5 rfl) ?_
   refine xFill (ys := [.int .i64 p, .int .u32 (u : Int)]) l23 rfl rfl (by simp only [List.all_cons, List.all_nil, gsl_cell1]; rfl) rfl rfl (by omega) ?_
   intro H32 b33 b34
   have f35 := (b34 _ (by omega)).trans l21
   have f36 : l ≠ [] → aget H32 i = some (.cells (ints l) 3 (some 1)) := fun hne => by have hdm := (hrow hne).2; exact (b34 _ (by omega)).trans (l22 hne)
   have f37 := (b34 _ (by omega)).trans hb5
   have g38 : Fresh H32 (n + 1 + 1) := fun q h1 h2 => by rw [b34 q (by omega)]; exact hfl q h1 h2
   refine RXn ?_
   refine WLv (lv1 4 rfl lv0) ?_
   refine WC_ret ?_
   refine endR (rvs1 (rv_cellN (b := n) rfl b33 rfl)) ?_
   exact ⟨⟨fun q hq => ((b34 q (by omega)).trans ((hkeep q (by omega)).trans ((b16 q (by omega)).trans ((a9 q (by omega)).trans (a3 q (by omega)))))), g38, by omega, by omega⟩, _, hu, rfl⟩
def c56 : FC := FC.mk 16 (.seq (.steps [⟨.box 24, [.tmp 0], some 1, none⟩,⟨.alloc 75 [.int .i64 0, .int .u32 0], [], some 2, none⟩,⟨.move, [.const (.int .i64 0)], some 3, none⟩]) (.seq (.seq (.steps [⟨.loadN 2, [.tmp 1], some 5, none⟩,⟨.callF 8, [.tmp 5], some 6, none⟩,⟨.move, [.tmp 6], some 4, none⟩]) (.seq (.steps [⟨.move, [.tmp 4], some 7, none⟩,⟨.bin .neq, [.tmp 7, .const (.int .i64 0)], some 8, none⟩]) (.cond (.tmp 8) (.seq (.steps [⟨.build [.int .i64 0, .int .u32 0] [], [], some 9, none⟩,⟨.move, [.tmp 4], some 10, none⟩,⟨.store 2, [.tmp 2, .tmp 9], none, none⟩,⟨.move, [.tmp 10], some 3, none⟩]) (.ret)) (.skip)))) (.seq (.steps [⟨.fieldAddr 0, [.tmp 1], some 11, none⟩,⟨.load1, [.tmp 11], some 12, none⟩,⟨.fieldAddr 1, [.tmp 1], some 13, none⟩,⟨.load1, [.tmp 13], some 14, none⟩,⟨.callF 83, [.tmp 12, .tmp 14], some 15, none⟩,⟨.store 2, [.tmp 2, .tmp 15], none, none⟩,⟨.move, [.const (.int .i64 0)], some 3, none⟩]) (.ret)))) [.cellN 2 2, .tmp 3]
theorem c56_ok : compF Tryz.prog 56 = some c56 := by kernel_rfl
theorem opened_ok {p : Int} {l : List Int} {i : Nat} (hll : l.length ≤ 1000000) {H : Heap} {n : Nat} (hg : aget H 0 = some gl) (hrow : OldRow H n i l) (hfr : Fresh H n) (hn : n + 50 < lim) (hn0 : 0 < n) :
 F Tryz.prog [0] 56 [sealV p i l] H n (fun v H' n' => Fin H n 20 H' n' ∧ ∃ (e p2 : Int) (u : Nat), v = .tuple #[stampV p2 u, .int .i64 e] ∧ u < 2 ^ 32 ∧ (e = 0 → p2 = p ∧ okSeal p l)) := by
 refine F_of_comp c56_ok rfl ?_
 have hlim := limv
 refine WC_go hE hm ?_
 refine xNew (ob := .cells [.int .i64 p, gsl (i) (l.length)] 24 none) (mk := .ptr) hfr (by omega) rfl rfl rfl (by simp [semA, aBox, Value.cells, sealV]) ?_
 intro H1 a2 a3 a4
 have f5 := (a3 _ (by omega)).trans hg
 have f6 : l ≠ [] → aget H1 i = some (.cells (ints l) 3 (some 1)) := fun hne => by have hdm := (hrow hne).2; exact (a3 _ (by omega)).trans ((fun h => (hrow h).1) hne)
 refine xNew (ob := .cells [.int .i64 0, .int .u32 0] 75 none) (mk := .ptr) a4 (by omega) rfl rfl rfl rfl ?_
 intro H7 a8 a9 a10
 have f11 := (a9 _ (by omega)).trans f5
 have f12 : l ≠ [] → aget H7 i = some (.cells (ints l) 3 (some 1)) := fun hne => by have hdm := (hrow hne).2; exact (a9 _ (by omega)).trans (f6 hne)
 have f13 := (a9 _ (by omega)).trans a2
 refine xP rfl rfl rfl rfl ?_
 refine RXn ?_
 refine WLv (lv1 1 rfl (lv1 2 rfl lv0)) ?_
 refine WC_seq ?_
 refine WC_go hE hm ?_
 refine xR (v := .agg #[.int .i64 p, gsl (i) (l.length)]) rfl rfl rfl (loadBox (xs := [.int .i64 p, gsl (i) (l.length)]) f13 rfl) ?_
 refine xC rfl rfl rfl rfl (check_ok hll f11 (fun hne => ⟨f12 hne, by have := (hrow hne).2; omega⟩) a10 (by omega) (by omega)) ?_
 rintro _ H14 n14 ⟨F14, e14, rfl, he14⟩
 have le14 := F14.le
 have rm14 := F14.room
 have f15 := (F14.keep _ (by omega)).trans f11
 have f16 : l ≠ [] → aget H14 i = some (.cells (ints l) 3 (some 1)) := fun hne => by have hdm := (hrow hne).2; exact (F14.keep _ (by omega)).trans (f12 hne)
 have f17 := (F14.keep _ (by omega)).trans f13
 have f18 := (F14.keep _ (by omega)).trans a8
 refine xP rfl rfl rfl rfl ?_
 refine RXn ?_
 refine WLv (lv1 1 rfl (lv1 2 rfl (lv1 4 rfl lv0))) ?_
 refine WC_go hE hm ?_
 refine xP rfl rfl rfl rfl ?_
 refine xNe rfl rfl ?_ ?_ <;> intro h8
 · skip
   refine RXn ?_
   refine WLv (lv1 1 rfl (lv1 2 rfl (lv1 4 rfl (lv1 8 rfl lv0)))) ?_
   refine WC_condT rfl ?_
   refine WC_go hE hm ?_
   refine xBuild [.int .i64 0, .int .u32 0] rfl rfl rfl ?_
   refine xP rfl rfl rfl rfl ?_
   refine xFill (ys := [.int .i64 0, .int .u32 0]) f18 rfl rfl (by simp only [List.all_cons, List.all_nil, gsl_cell1]; rfl) rfl rfl (by omega) ?_
   intro H19 b20 b21
   have f22 := (b21 _ (by omega)).trans f15
   have f23 : l ≠ [] → aget H19 i = some (.cells (ints l) 3 (some 1)) := fun hne => by have hdm := (hrow hne).2; exact (b21 _ (by omega)).trans (f16 hne)
   have f24 := (b21 _ (by omega)).trans f17
   have g25 : Fresh H19 (n14) := fun q h1 h2 => by rw [b21 q (by omega)]; exact F14.fresh q h1 h2
   refine xP rfl rfl rfl rfl ?_
   refine RXn ?_
   refine WLv (lv1 2 rfl (lv1 3 rfl lv0)) ?_
   refine WC_ret ?_
   refine thenR ?_
   refine endR (rvs2 (rv_cellN (b := n + 1) rfl b20 rfl) rfl) ?_
   exact ⟨⟨fun q hq => ((b21 q (by omega)).trans ((F14.keep q (by omega)).trans ((a9 q (by omega)).trans (a3 q (by omega))))), g25, by omega, by omega⟩, e14, 0, 0, rfl, by decide, fun h => absurd h (by omega)⟩
 · skip
   refine RXn ?_
   refine WLv (lv1 1 rfl (lv1 2 rfl (lv1 4 rfl (lv1 8 rfl lv0)))) ?_
   refine WC_condF rfl ?_
   refine WC_skip ?_
   refine thenN ?_
   refine WLv (lv1 1 rfl (lv1 2 rfl lv0)) ?_
   refine WC_go hE hm ?_
   refine xP rfl rfl rfl rfl ?_
   refine xR (v := .int .i64 p) rfl rfl rfl (ld1 (o := 0 + 0) f17 rfl) ?_
   refine xP rfl rfl rfl rfl ?_
   refine xR (v := gsl (i) (l.length)) rfl rfl rfl (ld1 (o := 0 + 1) f17 rfl) ?_
   obtain ⟨hp, hl6, hx⟩ := he14 (by omega)
   refine xC rfl rfl rfl rfl (made_ok hll (fun x h => (hx x h).1) f15 (fun hne => ⟨f16 hne, by have := (hrow hne).2; omega⟩) F14.fresh (by omega) (by omega)) ?_
   rintro _ H26 n26 ⟨F26, u26, hu26, rfl⟩
   have le26 := F26.le
   have rm26 := F26.room
   have f27 := (F26.keep _ (by omega)).trans f15
   have f28 : l ≠ [] → aget H26 i = some (.cells (ints l) 3 (some 1)) := fun hne => by have hdm := (hrow hne).2; exact (F26.keep _ (by omega)).trans (f16 hne)
   have f29 := (F26.keep _ (by omega)).trans f17
   have f30 := (F26.keep _ (by omega)).trans f18
   refine xFill (ys := [.int .i64 p, .int .u32 (u26 : Int)]) f30 rfl rfl (by simp only [List.all_cons, List.all_nil, gsl_cell1]; rfl) rfl rfl (by omega) ?_
   intro H31 b32 b33
   have f34 := (b33 _ (by omega)).trans f27
   have f35 : l ≠ [] → aget H31 i = some (.cells (ints l) 3 (some 1)) := fun hne => by have hdm := (hrow hne).2; exact (b33 _ (by omega)).trans (f28 hne)
   have f36 := (b33 _ (by omega)).trans f29
   have g37 : Fresh H31 (n26) := fun q h1 h2 => by rw [b33 q (by omega)]; exact F26.fresh q h1 h2
   refine xP rfl rfl rfl rfl ?_
   refine RXn ?_
   refine WLv (lv1 2 rfl (lv1 3 rfl lv0)) ?_
   refine WC_ret ?_
   refine endR (rvs2 (rv_cellN (b := n + 1) rfl b32 rfl) rfl) ?_
   exact ⟨⟨fun q hq => ((b33 q (by omega)).trans ((F26.keep q (by omega)).trans ((F14.keep q (by omega)).trans ((a9 q (by omega)).trans (a3 q (by omega)))))), g37, by omega, by omega⟩, 0, p, u26, rfl, hu26, fun _ => ⟨rfl, hp, hl6, hx⟩⟩
end Go.Proofs.YtmpogedhilfjgaaGreatDoor
set_option maxRecDepth 1000000
set_option maxHeartbeats 4000000
open Go Go.Cs
namespace Go.Proofs.YtmpogedhilfjgaaGreatDoor
def c61 : FC := FC.mk 36 (.seq (.steps [⟨.box 75, [.tmp 0], some 1, none⟩,⟨.alloc 75 [.int .i64 0, .int .u32 0], [], some 2, none⟩]) (.seq (.steps [⟨.loadN 2, [.tmp 1], some 7, none⟩,⟨.alloc 75 [.int .i64 0, .int .u32 0], [], some 3, none⟩,⟨.store 2, [.tmp 3, .tmp 7], none, none⟩]) (.seq (.seq (.steps [⟨.loadN 2, [.tmp 1], some 8, none⟩,⟨.callF 66, [.tmp 8], some 9, none⟩,⟨.lenS, [.tmp 9], some 10, none⟩,⟨.move, [.const (.int .i64 0)], some 11, none⟩]) (.block 0 (.loop (.seq (.steps [⟨.bin .lss, [.tmp 11, .tmp 10], some 12, none⟩]) (.seq (.cond (.tmp 12) (.skip) (.exit 0)) (.seq (.block 1 (.seq (.steps [⟨.indexAddrS 1, [.tmp 9, .tmp 11], some 13, none⟩,⟨.load1, [.tmp 13], some 14, none⟩,⟨.move, [.tmp 14], some 5, none⟩]) (.seq (.drawn [(0,⟨.loadN 2, [.tmp 1], some 15, none⟩), (1,⟨.loadN 2, [.tmp 1], some 16, none⟩), (2,⟨.move, [.tmp 5], some 17, none⟩), (3,⟨.un .neg, [.tmp 17], some 18, none⟩), (6,⟨.alloc 75 [.int .i64 0, .int .u32 0], [], some 6, none⟩), (4,⟨.callF 57, [.tmp 16, .tmp 18], some 19, none⟩), (5,⟨.callF 59, [.tmp 15, .tmp 19], some 20, none⟩), (7,⟨.store 2, [.tmp 6, .tmp 20], none, none⟩)] [0, 0, 0, 4, 14, 31, 0, 127]) (.seq (.drawn [(0,⟨.fieldAddr 1, [.tmp 3], some 21, none⟩), (1,⟨.load1, [.tmp 21], some 22, none⟩), (2,⟨.bin .and, [.tmp 22, .const (.int .u32 1)], some 23, none⟩), (3,⟨.bin .eql, [.tmp 23, .const (.int .u32 0)], some 24, none⟩), (4,⟨.move, [.tmp 24], some 25, none⟩), (5,⟨.loadN 2, [.tmp 6], some 26, some (25, false)⟩), (7,⟨.loadN 2, [.tmp 3], some 28, some (25, false)⟩), (6,⟨.callF 66, [.tmp 26], some 27, some (25, false)⟩), (8,⟨.callF 66, [.tmp 28], some 29, some (25, false)⟩), (9,⟨.callF 84, [.tmp 27, .tmp 29], some 30, some (25, false)⟩), (10,⟨.bin .lss, [.tmp 30, .const (.int .i64 0)], some 31, some (25, false)⟩), (11,⟨.pick, [.tmp 25, .const (.bool true), .tmp 31], some 32, none⟩)] [0, 1, 3, 7, 15, 31, 63, 31, 255, 511, 1023, 2047]) (.cond (.tmp 32) (.steps [⟨.loadN 2, [.tmp 6], some 33, none⟩,⟨.store 2, [.tmp 3, .tmp 33], none, none⟩]) (.skip)))))) (.steps [⟨.bin .add, [.tmp 11, .const (.int .i64 1)], some 34, none⟩,⟨.move, [.tmp 34], some 11, none⟩]))))))) (.seq (.steps [⟨.loadN 2, [.tmp 3], some 35, none⟩,⟨.store 2, [.tmp 2, .tmp 35], none, none⟩]) (.ret))))) [.cellN 2 2]
theorem c61_ok : compF Tryz.prog 61 = some c61 := by kernel_rfl
theorem first_ok {p : Int} {s : Nat} (hp : 1 ≤ p ∧ p ≤ 21) (hs : s < 2 ^ 32) {H : Heap} {n : Nat} (hg : aget H 0 = some gl) : F Tryz.prog [0] 61 [stampV p s] H n (fun v H' n' => (∃ u : Nat, u < 2 ^ 32 ∧ v = stampV p u) ∧ H' = H ∧ n' = n) := by
 refine pureF rfl ?_ hg
 refine F_of_comp c61_ok rfl ?_
 have hlim := limv
 have g0 : aget (ofL [(0, gl)]) 0 = some gl := rfl
 refine WC_go hE hm ?_
 refine xNew (ob := .cells [.int .i64 p, .int .u32 (s : Int)] 75 none) (mk := .ptr) fr0 (by omega) rfl rfl rfl rfl ?_
 intro H1 a2 a3 a4
 have f5 := (a3 _ (by omega)).trans g0
 refine xNew (ob := .cells [.int .i64 0, .int .u32 0] 75 none) (mk := .ptr) a4 (by omega) rfl rfl rfl rfl ?_
 intro H6 a7 a8 a9
 have f10 := (a8 _ (by omega)).trans f5
 have f11 := (a8 _ (by omega)).trans a2
 refine RXn ?_
 refine WLv (lv1 1 rfl (lv1 2 rfl lv0)) ?_
 refine WC_go hE hm ?_
 refine xR (v := .agg #[.int .i64 p, .int .u32 (s : Int)]) rfl rfl rfl (loadBox (xs := [.int .i64 p, .int .u32 (s : Int)]) f11 rfl) ?_
 refine xNew (ob := .cells [.int .i64 0, .int .u32 0] 75 none) (mk := .ptr) a9 (by omega) rfl rfl rfl rfl ?_
 intro H12 a13 a14 a15
 have f16 := (a14 _ (by omega)).trans f10
 have f17 := (a14 _ (by omega)).trans f11
 have f18 := (a14 _ (by omega)).trans a7
 refine xFill (ys := [.int .i64 p, .int .u32 (s : Int)]) a13 rfl rfl (by simp only [List.all_cons, List.all_nil, gsl_cell1]; rfl) rfl rfl (by omega) ?_
 intro H19 b20 b21
 have f22 := (b21 _ (by omega)).trans f16
 have f23 := (b21 _ (by omega)).trans f17
 have f24 := (b21 _ (by omega)).trans f18
 have g25 : Fresh H19 (1 + 1 + 1 + 1) := fun q h1 h2 => by rw [b21 q (by omega)]; exact a15 q h1 h2
 refine RXn ?_
 refine WLv (lv1 1 rfl (lv1 2 rfl (lv1 3 rfl lv0))) ?_
 refine WC_seq ?_
 refine WC_go hE hm ?_
 refine xR (v := .agg #[.int .i64 p, .int .u32 (s : Int)]) rfl rfl rfl (loadBox (xs := [.int .i64 p, .int .u32 (s : Int)]) f23 rfl) ?_
 refine xC rfl rfl rfl rfl (marks_ok hp hs f22 g25 (by omega) (by omega)) ?_
 rintro _ H26 n26 ⟨F26, l26, i26, rfl, hl26, hx26, hr26⟩
 have le26 := F26.le
 have rm26 := F26.room
 have f27 := (F26.keep _ (by omega)).trans f22
 have f28 := (F26.keep _ (by omega)).trans f23
 have f29 := (F26.keep _ (by omega)).trans f24
 have f30 := (F26.keep _ (by omega)).trans b20
 refine xP (v := .int .i64 ((l26.length : Nat) : Int)) rfl rfl rfl (SliceAt.gsl _ _).lenS ?_
 refine xP rfl rfl rfl rfl ?_
 refine RXn ?_
 refine WLv (lv1 1 rfl (lv1 2 rfl (lv1 3 rfl (lv1 9 rfl (lv1 10 rfl (lv1 11 rfl lv0)))))) ?_
 refine WC_block ?_
 refine WC_loopX (X := Nat × Nat × Heap × Nat) (fun y => { T := ofL [(1, ptrAt 1 0), (2, ptrAt (1 + 1) 0), (3, ptrAt (1 + 1 + 1) 0), (9, gsl (i26) (l26.length)), (10, .int .i64 (l26.length : Int)), (11, .int .i64 (y.1 : Int))], D := [], H := y.2.2.1, n := y.2.2.2 })
  (fun y => y.1 ≤ l26.length ∧ y.2.1 < 2 ^ 32 ∧ aget y.2.2.1 (1 + 1 + 1) = some (.cells [.int .i64 p, .int .u32 (y.2.1 : Int)] 75 none) ∧ (∀ q, q < n26 → q ≠ 1 + 1 + 1 → aget y.2.2.1 q = aget H26 q) ∧ Fresh y.2.2.1 y.2.2.2 ∧ n26 ≤ y.2.2.2 ∧ y.2.2.2 ≤ n26 + 200 * y.1) (fun y => l26.length - y.1) (0, s, H26, n26) ⟨by dsimp only; omega, by dsimp only; exact hs, f30, (fun _ _ _ => rfl), F26.fresh, Nat.le_refl _, by dsimp only; omega⟩ ?_
 rintro ⟨k, u, Hl, nl⟩ ⟨hk, hu, hb5, hkeep, hfl, hn1, hn2⟩
 dsimp only at *
 have l31 := (hkeep (0) (by omega) (by omega)).trans f27
 have l32 := (hkeep (1) (by omega) (by omega)).trans f28
 have l33 := (hkeep (1 + 1) (by omega) (by omega)).trans f29
 have l34 : l26 ≠ [] → aget Hl i26 = some (.cells (ints l26) 3 (some 1)) := fun hne => by have hdm := (hr26 hne).2; exact (hkeep _ (by omega) (by omega)).trans ((fun h => (hr26 h).1) hne)
 refine WC_go hE hm ?_
 refine xCmp rfl rfl rfl rfl ?_ ?_ <;> intro h12
 · skip
   refine RXn ?_
   refine WLv (lv1 1 rfl (lv1 2 rfl (lv1 3 rfl (lv1 9 rfl (lv1 10 rfl (lv1 11 rfl (lv1 12 rfl lv0))))))) ?_
   refine WC_seq ?_
   refine WC_condT rfl ?_
   refine WC_skip ?_
   refine thenN ?_
   refine WLv (lv1 1 rfl (lv1 2 rfl (lv1 3 rfl (lv1 9 rfl (lv1 10 rfl (lv1 11 rfl lv0)))))) ?_
   refine WC_seq ?_
   refine WC_block ?_
   refine WC_go hE hm ?_
   refine xIdxG rfl rfl ⟨by omega, by omega⟩ ?_
   have hne : l26 ≠ [] := by rintro rfl; simp only [List.length_nil] at *; omega
   refine xLdI rfl rfl (l34 hne) (by omega) ?_
   refine xP rfl rfl rfl rfl ?_
   refine RXn ?_
   refine WLv (lv1 1 rfl (lv1 2 rfl (lv1 3 rfl (lv1 5 rfl (lv1 9 rfl (lv1 10 rfl (lv1 11 rfl lv0))))))) ?_
   refine WC_goD hE hm ?_
   refine dR (v := .agg #[.int .i64 p, .int .u32 (s : Int)]) rfl rfl rfl (loadBox (xs := [.int .i64 p, .int .u32 (s : Int)]) l32 rfl) ?_
   refine dR (v := .agg #[.int .i64 p, .int .u32 (s : Int)]) rfl rfl rfl (loadBox (xs := [.int .i64 p, .int .u32 (s : Int)]) l32 rfl) ?_
   refine dX rfl (xP rfl rfl rfl rfl (RXn ?_))
   refine dX rfl (xP (v := .int .i64 (IntKind.i64.wrap (0 - (l26.getD ((k : Int)).toNat 0)))) rfl rfl rfl rfl (RXn ?_))
   refine dNew (ob := .cells [.int .i64 0, .int .u32 0] 75 none) (mk := .ptr) hfl (by omega) rfl rfl rfl rfl ?_
   intro H35 a36 a37 a38
   have f39 := (a37 _ (by omega)).trans l31
   have f40 := (a37 _ (by omega)).trans l32
   have f41 := (a37 _ (by omega)).trans l33
   have f42 := (a37 _ (by omega)).trans hb5
   have f43 : l26 ≠ [] → aget H35 i26 = some (.cells (ints l26) 3 (some 1)) := fun hne => by have hdm := (hr26 hne).2; exact (a37 _ (by omega)).trans (l34 hne)
   refine dC (f := 57) (args := [.agg #[.int .i64 p, .int .u32 (s : Int)], .int .i64 (IntKind.i64.wrap (0 - (l26.getD ((k : Int)).toNat 0)))]) rfl rfl rfl rfl (on_ok hp f39) ?_
   rintro _ H9 n9 ⟨⟨y44, rfl, hy44a, hy44b, hy44c⟩, hH9, hn9⟩
   obtain rfl := hH9.symm
   obtain rfl := hn9.symm
   refine ⟨stabSame, ?_⟩
   refine dC (f := 59) (args := [.agg #[.int .i64 p, .int .u32 (s : Int)], .int .i64 y44]) rfl rfl rfl rfl (turned_ok hp hs ⟨by omega, by omega⟩ f39) ?_
   rintro _ H9 n9 ⟨⟨u45, hu45, rfl⟩, hH9, hn9⟩
   obtain rfl := hH9.symm
   obtain rfl := hn9.symm
   refine ⟨stabSame, ?_⟩
   refine dFill (ys := [.int .i64 p, .int .u32 (u45 : Int)]) a36 rfl rfl (by simp only [List.all_cons, List.all_nil, gsl_cell1]; rfl) rfl rfl (by omega) ?_
   intro H46 b47 b48
   have f49 := (b48 _ (by omega)).trans f39
   have f50 := (b48 _ (by omega)).trans f40
   have f51 := (b48 _ (by omega)).trans f41
   have f52 := (b48 _ (by omega)).trans f42
   have f53 : l26 ≠ [] → aget H46 i26 = some (.cells (ints l26) 3 (some 1)) := fun hne => by have hdm := (hr26 hne).2; exact (b48 _ (by omega)).trans (f43 hne)
   have g54 : Fresh H46 (nl + 1) := fun q h1 h2 => by rw [b48 q (by omega)]; exact a38 q h1 h2
   refine ⟨stabE (by kernel_rfl), ?_⟩
   refine dNil ?_
   refine WLv (lv1 1 rfl (lv1 2 rfl (lv1 3 rfl (lv1 6 rfl (lv1 9 rfl (lv1 10 rfl (lv1 11 rfl lv0))))))) ?_
   refine WC_goD hE hm ?_
   refine dX rfl (xP rfl rfl rfl rfl (RXn ?_))
   refine dR (v := .int .u32 (u : Int)) rfl rfl rfl (ld1 (o := 0 + 1) f52 rfl) ?_
   refine dX rfl (xAnd rfl rfl rfl hu (by decide) (RXn ?_))
   refine dX rfl (xEq rfl rfl (fun h24 => RXn ?_) (fun h24 => RXn ?_))
   · skip
     refine dX rfl (xP rfl rfl rfl rfl (RXn ?_))
     refine dS rfl ?_
     refine dS rfl ?_
     refine dS rfl ?_
     refine dS rfl ?_
     refine dS rfl ?_
     refine dS rfl ?_
     refine dX rfl (xP rfl rfl rfl rfl (RXn ?_))
     refine dNil ?_
     refine WLv (lv1 1 rfl (lv1 2 rfl (lv1 3 rfl (lv1 6 rfl (lv1 9 rfl (lv1 10 rfl (lv1 11 rfl (lv1 32 rfl lv0)))))))) ?_
     refine WC_condT rfl ?_
     refine WC_steps hE hm ?_
     refine xR (v := .agg #[.int .i64 p, .int .u32 (u45 : Int)]) rfl rfl rfl (loadBox (xs := [.int .i64 p, .int .u32 (u45 : Int)]) b47 rfl) ?_
     refine xFill (ys := [.int .i64 p, .int .u32 (u45 : Int)]) f52 rfl rfl (by simp only [List.all_cons, List.all_nil, gsl_cell1]; rfl) rfl rfl (by omega) ?_
     intro H55 b56 b57
     have f58 := (b57 _ (by omega)).trans f49
     have f59 := (b57 _ (by omega)).trans f50
     have f60 := (b57 _ (by omega)).trans f51
     have f61 : l26 ≠ [] → aget H55 i26 = some (.cells (ints l26) 3 (some 1)) := fun hne => by have hdm := (hr26 hne).2; exact (b57 _ (by omega)).trans (f53 hne)
     have f62 := (b57 _ (by omega)).trans b47
     have g63 : Fresh H55 (nl + 1) := fun q h1 h2 => by rw [b57 q (by omega)]; exact g54 q h1 h2
     refine RXn ?_
     refine blockN ?_
     refine thenN ?_
     refine WLv (lv1 1 rfl (lv1 2 rfl (lv1 3 rfl (lv1 9 rfl (lv1 10 rfl (lv1 11 rfl lv0)))))) ?_
     refine WC_steps hE hm ?_
     refine xAdd rfl rfl (by omega) ?_
     refine xP rfl rfl rfl rfl ?_
     refine RXn ?_
     refine thenN ⟨(k + 1, u45, H55, nl + 1), ⟨by dsimp only; omega, hu45, b56, (fun q hq hq2 => ((b57 q (by omega)).trans ((b48 q (by omega)).trans ((a37 q (by omega)).trans (hkeep q hq hq2))))), g63, by dsimp only; omega, by dsimp only; omega⟩, by dsimp only; omega, Le.live (lv1 1 rfl (lv1 2 rfl (lv1 3 rfl (lv1 9 rfl (lv1 10 rfl (lv1 11 rfl lv0))))))⟩
   · skip
     refine dX rfl (xP rfl rfl rfl rfl (RXn ?_))
     refine dR (v := .agg #[.int .i64 p, .int .u32 (u45 : Int)]) rfl rfl rfl (loadBox (xs := [.int .i64 p, .int .u32 (u45 : Int)]) b47 rfl) ?_
     refine dR (v := .agg #[.int .i64 p, .int .u32 (u : Int)]) rfl rfl rfl (loadBox (xs := [.int .i64 p, .int .u32 (u : Int)]) f52 rfl) ?_
     refine dC (f := 66) (args := [.agg #[.int .i64 p, .int .u32 (u45 : Int)]]) rfl rfl rfl rfl (marks_ok hp hu45 f49 g54 (by omega) (by omega)) ?_
     rintro _ H64 n64 ⟨F64, l64, i64, rfl, hl64, hx64, hr64⟩
     have le64 := F64.le
     have rm64 := F64.room
     have f65 := (F64.keep _ (by omega)).trans f49
     have f66 := (F64.keep _ (by omega)).trans f50
     have f67 := (F64.keep _ (by omega)).trans f51
     have f68 := (F64.keep _ (by omega)).trans f52
     have f69 : l26 ≠ [] → aget H64 i26 = some (.cells (ints l26) 3 (some 1)) := fun hne => by have hdm := (hr26 hne).2; exact (F64.keep _ (by omega)).trans (f53 hne)
     have f70 := (F64.keep _ (by omega)).trans b47
     refine ⟨stabOne ⟨7, ⟨.loadN 2, [.tmp 3], some 28, some (25, false)⟩, .r [.pointer (some ⟨1 + 1 + 1, 0, none⟩)] (.agg #[.int .i64 p, .int .u32 (u : Int)])⟩ (by kernel_rfl) (loadBox (xs := [.int .i64 p, .int .u32 (u : Int)]) f68 rfl), ?_⟩
     refine dC (f := 66) (args := [.agg #[.int .i64 p, .int .u32 (u : Int)]]) rfl rfl rfl rfl (marks_ok hp hu f65 F64.fresh (by omega) (by omega)) ?_
     rintro _ H71 n71 ⟨F71, l71, i71, rfl, hl71, hx71, hr71⟩
     have le71 := F71.le
     have rm71 := F71.room
     have f72 := (F71.keep _ (by omega)).trans f65
     have f73 := (F71.keep _ (by omega)).trans f66
     have f74 := (F71.keep _ (by omega)).trans f67
     have f75 := (F71.keep _ (by omega)).trans f68
     have f76 : l26 ≠ [] → aget H71 i26 = some (.cells (ints l26) 3 (some 1)) := fun hne => by have hdm := (hr26 hne).2; exact (F71.keep _ (by omega)).trans (f69 hne)
     have f77 := (F71.keep _ (by omega)).trans f70
     have f78 : l64 ≠ [] → aget H71 i64 = some (.cells (ints l64) 3 (some 1)) := fun hne => by have hdm := (hr64 hne).2; exact (F71.keep _ (by omega)).trans ((fun h => (hr64 h).1) hne)
     refine ⟨stabE (by kernel_rfl), ?_⟩
     refine dC (f := 84) (args := [gsl (i64) (l64.length), gsl (i71) (l71.length)]) rfl rfl rfl rfl (compare_ok f72 (by omega) (by omega) f78 (fun h => (hr71 h).1)) ?_
     rintro _ H9 n9 ⟨⟨c79, rfl⟩, hH9, hn9⟩
     obtain rfl := hH9.symm
     obtain rfl := hn9.symm
     refine ⟨stabSame, ?_⟩
     refine dX rfl (xCmp rfl rfl rfl rfl (fun h31 => RXn ?_) (fun h31 => RXn ?_))
     · skip
       refine dX rfl (xP rfl rfl rfl rfl (RXn ?_))
       refine dNil ?_
       refine WLv (lv1 1 rfl (lv1 2 rfl (lv1 3 rfl (lv1 6 rfl (lv1 9 rfl (lv1 10 rfl (lv1 11 rfl (lv1 32 rfl lv0)))))))) ?_
       refine WC_condT rfl ?_
       refine WC_steps hE hm ?_
       refine xR (v := .agg #[.int .i64 p, .int .u32 (u45 : Int)]) rfl rfl rfl (loadBox (xs := [.int .i64 p, .int .u32 (u45 : Int)]) f77 rfl) ?_
       refine xFill (ys := [.int .i64 p, .int .u32 (u45 : Int)]) f75 rfl rfl (by simp only [List.all_cons, List.all_nil, gsl_cell1]; rfl) rfl rfl (by omega) ?_
       intro H80 b81 b82
       have f83 := (b82 _ (by omega)).trans f72
       have f84 := (b82 _ (by omega)).trans f73
       have f85 := (b82 _ (by omega)).trans f74
       have f86 : l26 ≠ [] → aget H80 i26 = some (.cells (ints l26) 3 (some 1)) := fun hne => by have hdm := (hr26 hne).2; exact (b82 _ (by omega)).trans (f76 hne)
       have f87 := (b82 _ (by omega)).trans f77
       have f88 : l64 ≠ [] → aget H80 i64 = some (.cells (ints l64) 3 (some 1)) := fun hne => by have hdm := (hr64 hne).2; exact (b82 _ (by omega)).trans (f78 hne)
       have f89 : l71 ≠ [] → aget H80 i71 = some (.cells (ints l71) 3 (some 1)) := fun hne => by have hdm := (hr71 hne).2; exact (b82 _ (by omega)).trans ((fun h => (hr71 h).1) hne)
       have g90 : Fresh H80 (n71) := fun q h1 h2 => by rw [b82 q (by omega)]; exact F71.fresh q h1 h2
       refine RXn ?_
       refine blockN ?_
       refine thenN ?_
       refine WLv (lv1 1 rfl (lv1 2 rfl (lv1 3 rfl (lv1 9 rfl (lv1 10 rfl (lv1 11 rfl lv0)))))) ?_
       refine WC_steps hE hm ?_
       refine xAdd rfl rfl (by omega) ?_
       refine xP rfl rfl rfl rfl ?_
       refine RXn ?_
       refine thenN ⟨(k + 1, u45, H80, n71), ⟨by dsimp only; omega, hu45, b81, (fun q hq hq2 => ((b82 q (by omega)).trans ((F71.keep q (by omega)).trans ((F64.keep q (by omega)).trans ((b48 q (by omega)).trans ((a37 q (by omega)).trans (hkeep q hq hq2))))))), g90, by dsimp only; omega, by dsimp only; omega⟩, by dsimp only; omega, Le.live (lv1 1 rfl (lv1 2 rfl (lv1 3 rfl (lv1 9 rfl (lv1 10 rfl (lv1 11 rfl lv0))))))⟩
     · skip
       refine dX rfl (xP rfl rfl rfl rfl (RXn ?_))
       refine dNil ?_
       refine WLv (lv1 1 rfl (lv1 2 rfl (lv1 3 rfl (lv1 6 rfl (lv1 9 rfl (lv1 10 rfl (lv1 11 rfl (lv1 32 rfl lv0)))))))) ?_
       refine WC_condF rfl ?_
       refine WC_skip ?_
       refine blockN ?_
       refine thenN ?_
       refine WLv (lv1 1 rfl (lv1 2 rfl (lv1 3 rfl (lv1 9 rfl (lv1 10 rfl (lv1 11 rfl lv0)))))) ?_
       refine WC_steps hE hm ?_
       refine xAdd rfl rfl (by omega) ?_
       refine xP rfl rfl rfl rfl ?_
       refine RXn ?_
       refine thenN ⟨(k + 1, u, H71, n71), ⟨by dsimp only; omega, hu, f75, (fun q hq hq2 => ((F71.keep q (by omega)).trans ((F64.keep q (by omega)).trans ((b48 q (by omega)).trans ((a37 q (by omega)).trans (hkeep q hq hq2)))))), F71.fresh, by dsimp only; omega, by dsimp only; omega⟩, by dsimp only; omega, Le.live (lv1 1 rfl (lv1 2 rfl (lv1 3 rfl (lv1 9 rfl (lv1 10 rfl (lv1 11 rfl lv0))))))⟩
 · skip
   refine RXn ?_
   refine WLv (lv1 1 rfl (lv1 2 rfl (lv1 3 rfl (lv1 9 rfl (lv1 10 rfl (lv1 11 rfl (lv1 12 rfl lv0))))))) ?_
   refine WC_seq ?_
   refine WC_condF rfl ?_
   refine WC_exit ?_
   refine thenE ?_
   refine thenE ?_
   refine blockE ?_
   refine thenN ?_
   refine WLv (lv1 2 rfl (lv1 3 rfl lv0)) ?_
   refine WC_go hE hm ?_
   refine xR (v := .agg #[.int .i64 p, .int .u32 (u : Int)]) rfl rfl rfl (loadBox (xs := [.int .i64 p, .int .u32 (u : Int)]) hb5 rfl) ?_
   refine xFill (ys := [.int .i64 p, .int .u32 (u : Int)]) l33 rfl rfl (by simp only [List.all_cons, List.all_nil, gsl_cell1]; rfl) rfl rfl (by omega) ?_
   intro H91 b92 b93
   have f94 := (b93 _ (by omega)).trans l31
   have f95 := (b93 _ (by omega)).trans l32
   have f96 := (b93 _ (by omega)).trans hb5
   have f97 : l26 ≠ [] → aget H91 i26 = some (.cells (ints l26) 3 (some 1)) := fun hne => by have hdm := (hr26 hne).2; exact (b93 _ (by omega)).trans (l34 hne)
   have g98 : Fresh H91 (nl) := fun q h1 h2 => by rw [b93 q (by omega)]; exact hfl q h1 h2
   refine RXn ?_
   refine WLv (lv1 2 rfl lv0) ?_
   refine WC_ret ?_
   refine endR (rvs1 (rv_cellN (b := 1 + 1) rfl b92 rfl)) ?_
   exact ⟨⟨_, hu, rfl⟩, rfl, f94⟩
end Go.Proofs.YtmpogedhilfjgaaGreatDoor
set_option maxRecDepth 1000000
set_option maxHeartbeats 4000000
open Go Go.Cs
namespace Go.Proofs.YtmpogedhilfjgaaGreatDoor
def c72 : FC := FC.mk 38 (.seq (.steps [⟨.box 75, [.tmp 0], some 1, none⟩,⟨.move, [.const (.map none)], some 2, none⟩]) (.seq (.steps [⟨.mkMap, [], some 9, none⟩,⟨.move, [.tmp 9], some 3, none⟩]) (.seq (.steps [⟨.loadN 2, [.tmp 1], some 10, none⟩,⟨.callF 66, [.tmp 10], some 11, none⟩,⟨.move, [.tmp 11], some 4, none⟩]) (.seq (.seq (.steps [⟨.move, [.tmp 4], some 12, none⟩,⟨.lenS, [.tmp 12], some 13, none⟩,⟨.move, [.const (.int .i64 0)], some 14, none⟩]) (.block 0 (.loop (.seq (.steps [⟨.bin .lss, [.tmp 14, .tmp 13], some 15, none⟩]) (.seq (.cond (.tmp 15) (.skip) (.exit 0)) (.seq (.block 1 (.seq (.steps [⟨.indexAddrS 1, [.tmp 12, .tmp 14], some 16, none⟩,⟨.load1, [.tmp 16], some 17, none⟩,⟨.move, [.tmp 17], some 6, none⟩]) (.seq (.steps [⟨.move, [.tmp 4], some 18, none⟩,⟨.lenS, [.tmp 18], some 19, none⟩,⟨.move, [.const (.int .i64 0)], some 20, none⟩]) (.block 2 (.loop (.seq (.steps [⟨.bin .lss, [.tmp 20, .tmp 19], some 21, none⟩]) (.seq (.cond (.tmp 21) (.skip) (.exit 2)) (.seq (.block 3 (.seq (.steps [⟨.indexAddrS 1, [.tmp 18, .tmp 20], some 22, none⟩,⟨.load1, [.tmp 22], some 23, none⟩,⟨.move, [.tmp 23], some 8, none⟩]) (.seq (.steps [⟨.move, [.tmp 6], some 24, none⟩,⟨.move, [.tmp 8], some 25, none⟩,⟨.bin .neq, [.tmp 24, .tmp 25], some 26, none⟩]) (.cond (.tmp 26) (.steps [⟨.move, [.tmp 3], some 27, none⟩,⟨.loadN 2, [.tmp 1], some 28, none⟩,⟨.move, [.tmp 8], some 29, none⟩,⟨.move, [.tmp 6], some 30, none⟩,⟨.bin .sub, [.tmp 29, .tmp 30], some 31, none⟩,⟨.callF 57, [.tmp 28, .tmp 31], some 32, none⟩,⟨.lookup 0 (.int .i64 0) false, [.tmp 27, .tmp 32], some 33, none⟩,⟨.bin .add, [.tmp 33, .const (.int .i64 1)], some 34, none⟩,⟨.mapUpdate 0, [.tmp 27, .tmp 32, .tmp 34], none, none⟩]) (.skip))))) (.steps [⟨.bin .add, [.tmp 20, .const (.int .i64 1)], some 35, none⟩,⟨.move, [.tmp 35], some 20, none⟩]))))))))) (.steps [⟨.bin .add, [.tmp 14, .const (.int .i64 1)], some 36, none⟩,⟨.move, [.tmp 36], some 14, none⟩]))))))) (.seq (.steps [⟨.move, [.tmp 3], some 37, none⟩,⟨.move, [.tmp 37], some 2, none⟩]) (.ret)))))) [.tmp 2]
theorem c72_ok : compF Tryz.prog 72 = some c72 := by kernel_rfl
theorem counts_ok {p : Int} {s : Nat} (hp : 1 ≤ p ∧ p ≤ 21) (hs : s < 2 ^ 32) {H : Heap} {n : Nat} (hg : aget H 0 = some gl) (hfr : Fresh H n) (hn : n + 200 < lim) (hn0 : 0 < n) :
 F Tryz.prog [0] 72 [stampV p s] H n (fun v H' n' => Fin H n 60 H' n' ∧ ∃ b, v = .map (some b) ∧ MapAt H' b (fun k => 1 ≤ k ∧ k < p) ∧ n ≤ b ∧ b < n') := by
 refine F_of_comp c72_ok rfl ?_
 have hlim := limv
 refine WC_go hE hm ?_
 refine xNew (ob := .cells [.int .i64 p, .int .u32 (s : Int)] 75 none) (mk := .ptr) hfr (by omega) rfl rfl rfl rfl ?_
 intro H1 a2 a3 a4
 have f5 := (a3 _ (by omega)).trans hg
 refine xP rfl rfl rfl rfl ?_
 refine RXn ?_
 refine WLv (lv1 1 rfl lv0) ?_
 refine WC_go hE hm ?_
 refine xNew (ob := .map [] 0) (mk := .map) a4 (by omega) rfl rfl rfl rfl ?_
 intro H6 a7 a8 a9
 have f11 := (a8 _ (by omega)).trans f5
 have f12 := (a8 _ (by omega)).trans a2
 have m10 : MapAt H6 (n + 1) (fun k => 1 ≤ k ∧ k < p) := ⟨_, _, a7, MapI.nil _⟩
 refine xP rfl rfl rfl rfl ?_
 refine RXn ?_
 refine WLv (lv1 1 rfl (lv1 3 rfl lv0)) ?_
 refine WC_go hE hm ?_
 refine xR (v := .agg #[.int .i64 p, .int .u32 (s : Int)]) rfl rfl rfl (loadBox (xs := [.int .i64 p, .int .u32 (s : Int)]) f12 rfl) ?_
 refine xC rfl rfl rfl rfl (marks_ok hp hs f11 a9 (by omega) (by omega)) ?_
 rintro _ H13 n13 ⟨F13, l13, i13, rfl, hl13, hx13, hr13⟩
 have le13 := F13.le
 have rm13 := F13.room
 have f14 := (F13.keep _ (by omega)).trans f11
 have f15 := (F13.keep _ (by omega)).trans f12
 have f16 := m10.congr (F13.keep _ (by omega))
 refine xP rfl rfl rfl rfl ?_
 refine RXn ?_
 refine WLv (lv1 1 rfl (lv1 3 rfl (lv1 4 rfl lv0))) ?_
 refine WC_seq ?_
 refine WC_go hE hm ?_
 refine xP rfl rfl rfl rfl ?_
 refine xP (v := .int .i64 ((l13.length : Nat) : Int)) rfl rfl rfl (SliceAt.gsl _ _).lenS ?_
 refine xP rfl rfl rfl rfl ?_
 refine RXn ?_
 refine WLv (lv1 1 rfl (lv1 3 rfl (lv1 4 rfl (lv1 12 rfl (lv1 13 rfl (lv1 14 rfl lv0)))))) ?_
 refine WC_block ?_
 refine WC_loopX (X := Nat × Heap) (fun y => { T := ofL [(1, ptrAt n 0), (3, .map (some (n + 1))), (4, gsl (i13) (l13.length)), (12, gsl (i13) (l13.length)), (13, .int .i64 (l13.length : Int)), (14, .int .i64 (y.1 : Int))], D := [], H := y.2, n := n13 })
  (fun y => y.1 ≤ l13.length ∧ MapAt y.2 (n + 1) (fun k => 1 ≤ k ∧ k < p) ∧ (∀ q, q ≠ n + 1 → aget y.2 q = aget H13 q) ∧ Fresh y.2 (n13)) (fun y => l13.length - y.1) (0, H13) ⟨by dsimp only; omega, f16, (fun _ _ => rfl), F13.fresh⟩ ?_
 rintro ⟨ka, Hla⟩ ⟨hka, hma, hkeepa, hfla⟩
 dsimp only at *
 have l17 := (hkeepa (0) (by omega)).trans f14
 have l18 := (hkeepa (n) (by omega)).trans f15
 have l19 : l13 ≠ [] → aget Hla i13 = some (.cells (ints l13) 3 (some 1)) := fun hne => by have hdm := (hr13 hne).2; exact (hkeepa _ (by omega)).trans ((fun h => (hr13 h).1) hne)
 refine WC_go hE hm ?_
 refine xCmp rfl rfl rfl rfl ?_ ?_ <;> intro h15
 · skip
   refine RXn ?_
   refine WLv (lv1 1 rfl (lv1 3 rfl (lv1 4 rfl (lv1 12 rfl (lv1 13 rfl (lv1 14 rfl (lv1 15 rfl lv0))))))) ?_
   refine WC_seq ?_
   refine WC_condT rfl ?_
   refine WC_skip ?_
   refine thenN ?_
   refine WLv (lv1 1 rfl (lv1 3 rfl (lv1 4 rfl (lv1 12 rfl (lv1 13 rfl (lv1 14 rfl lv0)))))) ?_
   refine WC_seq ?_
   refine WC_block ?_
   refine WC_go hE hm ?_
   refine xIdxG rfl rfl ⟨by omega, by omega⟩ ?_
   have hneka : l13 ≠ [] := by rintro rfl; simp only [List.length_nil] at *; omega
   refine xLdI rfl rfl (l19 hneka) (by omega) ?_
   have hva := hx13 _ (List.getElem_mem (show ka < l13.length by omega))
   have hgetka : l13.getD ((ka : Int)).toNat 0 = l13[ka] := by rw [Int.toNat_natCast, List.getD_eq_getElem?_getD, List.getElem?_eq_getElem (by omega)]; rfl
   rw [← hgetka] at hva
   generalize l13.getD ((ka : Int)).toNat 0 = vka at hva hgetka ⊢
   refine xP rfl rfl rfl rfl ?_
   refine RXn ?_
   refine WLv (lv1 1 rfl (lv1 3 rfl (lv1 4 rfl (lv1 6 rfl (lv1 12 rfl (lv1 13 rfl (lv1 14 rfl lv0))))))) ?_
   refine WC_go hE hm ?_
   refine xP rfl rfl rfl rfl ?_
   refine xP (v := .int .i64 ((l13.length : Nat) : Int)) rfl rfl rfl (SliceAt.gsl _ _).lenS ?_
   refine xP rfl rfl rfl rfl ?_
   refine RXn ?_
   refine WLv (lv1 1 rfl (lv1 3 rfl (lv1 4 rfl (lv1 6 rfl (lv1 12 rfl (lv1 13 rfl (lv1 14 rfl (lv1 18 rfl (lv1 19 rfl (lv1 20 rfl lv0)))))))))) ?_
   refine WC_block ?_
   refine WC_loopX (X := Nat × Heap) (fun y => { T := ofL [(1, ptrAt n 0), (3, .map (some (n + 1))), (4, gsl (i13) (l13.length)), (6, .int .i64 vka), (12, gsl (i13) (l13.length)), (13, .int .i64 (l13.length : Int)), (14, .int .i64 (ka : Int)), (18, gsl (i13) (l13.length)), (19, .int .i64 (l13.length : Int)), (20, .int .i64 (y.1 : Int))], D := [], H := y.2, n := n13 })
    (fun y => y.1 ≤ l13.length ∧ MapAt y.2 (n + 1) (fun k => 1 ≤ k ∧ k < p) ∧ (∀ q, q ≠ n + 1 → aget y.2 q = aget Hla q) ∧ Fresh y.2 (n13)) (fun y => l13.length - y.1) (0, Hla) ⟨by dsimp only; omega, hma, (fun _ _ => rfl), hfla⟩ ?_
   rintro ⟨kb, Hlb⟩ ⟨hkb, hmb, hkeepb, hflb⟩
   dsimp only at *
   have l20 := (hkeepb (0) (by omega)).trans l17
   have l21 := (hkeepb (n) (by omega)).trans l18
   have l22 : l13 ≠ [] → aget Hlb i13 = some (.cells (ints l13) 3 (some 1)) := fun hne => by have hdm := (hr13 hne).2; exact (hkeepb _ (by omega)).trans (l19 hne)
   refine WC_go hE hm ?_
   refine xCmp rfl rfl rfl rfl ?_ ?_ <;> intro h21
   · skip
     refine RXn ?_
     refine WLv (lv1 1 rfl (lv1 3 rfl (lv1 4 rfl (lv1 6 rfl (lv1 12 rfl (lv1 13 rfl (lv1 14 rfl (lv1 18 rfl (lv1 19 rfl (lv1 20 rfl (lv1 21 rfl lv0))))))))))) ?_
     refine WC_seq ?_
     refine WC_condT rfl ?_
     refine WC_skip ?_
     refine thenN ?_
     refine WLv (lv1 1 rfl (lv1 3 rfl (lv1 4 rfl (lv1 6 rfl (lv1 12 rfl (lv1 13 rfl (lv1 14 rfl (lv1 18 rfl (lv1 19 rfl (lv1 20 rfl lv0)))))))))) ?_
     refine WC_seq ?_
     refine WC_block ?_
     refine WC_go hE hm ?_
     refine xIdxG rfl rfl ⟨by omega, by omega⟩ ?_
     have hnekb : l13 ≠ [] := by rintro rfl; simp only [List.length_nil] at *; omega
     refine xLdI rfl rfl (l22 hnekb) (by omega) ?_
     have hvb := hx13 _ (List.getElem_mem (show kb < l13.length by omega))
     have hgetkb : l13.getD ((kb : Int)).toNat 0 = l13[kb] := by rw [Int.toNat_natCast, List.getD_eq_getElem?_getD, List.getElem?_eq_getElem (by omega)]; rfl
     rw [← hgetkb] at hvb
     generalize l13.getD ((kb : Int)).toNat 0 = vkb at hvb hgetkb ⊢
     refine xP rfl rfl rfl rfl ?_
     refine RXn ?_
     refine WLv (lv1 1 rfl (lv1 3 rfl (lv1 4 rfl (lv1 6 rfl (lv1 8 rfl (lv1 12 rfl (lv1 13 rfl (lv1 14 rfl (lv1 18 rfl (lv1 19 rfl (lv1 20 rfl lv0))))))))))) ?_
     refine WC_go hE hm ?_
     refine xP rfl rfl rfl rfl ?_
     refine xP rfl rfl rfl rfl ?_
     refine xNe rfl rfl ?_ ?_ <;> intro h26
     · skip
       refine RXn ?_
       refine WLv (lv1 1 rfl (lv1 3 rfl (lv1 4 rfl (lv1 6 rfl (lv1 8 rfl (lv1 12 rfl (lv1 13 rfl (lv1 14 rfl (lv1 18 rfl (lv1 19 rfl (lv1 20 rfl (lv1 26 rfl lv0)))))))))))) ?_
       refine WC_condT rfl ?_
       refine WC_steps hE hm ?_
       refine xP rfl rfl rfl rfl ?_
       refine xR (v := .agg #[.int .i64 p, .int .u32 (s : Int)]) rfl rfl rfl (loadBox (xs := [.int .i64 p, .int .u32 (s : Int)]) l21 rfl) ?_
       refine xP rfl rfl rfl rfl ?_
       refine xP rfl rfl rfl rfl ?_
       refine xSub rfl rfl (by omega) ?_
       refine xC rfl rfl rfl rfl (on_ok hp l20) ?_
       rintro _ H9 n9 ⟨⟨y23, rfl, hy23a, hy23b, hy23c⟩, hH9, hn9⟩
       obtain rfl := hH9.symm
       obtain rfl := hn9.symm
       obtain ⟨x24, hx24⟩ := hmb.look (y23)
       refine xR (v := .int .i64 x24) rfl rfl rfl hx24 ?_
       refine xP (v := .int .i64 (IntKind.i64.wrap (x24 + 1))) rfl rfl rfl rfl ?_
       obtain ⟨H25, m26, m27, m28⟩ := MapAt.upd (n := n13) hmb (k := y23) ⟨hy23c (by omega) (by omega) (by omega), hy23b⟩ ((IntKind.i64.wrap (x24 + 1)))
       refine xW rfl rfl rfl m26 (blt_lim (by omega)) ?_
       have f29 := (m28 _ (by omega)).trans l20
       have f30 := (m28 _ (by omega)).trans l21
       have f31 : l13 ≠ [] → aget H25 i13 = some (.cells (ints l13) 3 (some 1)) := fun hne => by have hdm := (hr13 hne).2; exact (m28 _ (by omega)).trans (l22 hne)
       have g32 : Fresh H25 (n13) := fun q h1 h2 => by rw [m28 q (by omega)]; exact hflb q h1 h2
       refine RXn ?_
       refine blockN ?_
       refine thenN ?_
       refine WLv (lv1 1 rfl (lv1 3 rfl (lv1 4 rfl (lv1 6 rfl (lv1 12 rfl (lv1 13 rfl (lv1 14 rfl (lv1 18 rfl (lv1 19 rfl (lv1 20 rfl lv0)))))))))) ?_
       refine WC_steps hE hm ?_
       refine xAdd rfl rfl (by omega) ?_
       refine xP rfl rfl rfl rfl ?_
       refine RXn ?_
       refine thenN ⟨(kb + 1, H25), ⟨by dsimp only; omega, m27, (fun q hq => ((m28 q hq).trans (hkeepb q hq))), g32⟩, by dsimp only; omega, Le.live (lv1 1 rfl (lv1 3 rfl (lv1 4 rfl (lv1 6 rfl (lv1 12 rfl (lv1 13 rfl (lv1 14 rfl (lv1 18 rfl (lv1 19 rfl (lv1 20 rfl lv0))))))))))⟩
     · skip
       refine RXn ?_
       refine WLv (lv1 1 rfl (lv1 3 rfl (lv1 4 rfl (lv1 6 rfl (lv1 8 rfl (lv1 12 rfl (lv1 13 rfl (lv1 14 rfl (lv1 18 rfl (lv1 19 rfl (lv1 20 rfl (lv1 26 rfl lv0)))))))))))) ?_
       refine WC_condF rfl ?_
       refine WC_skip ?_
       refine blockN ?_
       refine thenN ?_
       refine WLv (lv1 1 rfl (lv1 3 rfl (lv1 4 rfl (lv1 6 rfl (lv1 12 rfl (lv1 13 rfl (lv1 14 rfl (lv1 18 rfl (lv1 19 rfl (lv1 20 rfl lv0)))))))))) ?_
       refine WC_steps hE hm ?_
       refine xAdd rfl rfl (by omega) ?_
       refine xP rfl rfl rfl rfl ?_
       refine RXn ?_
       refine thenN ⟨(kb + 1, Hlb), ⟨by dsimp only; omega, hmb, (fun q hq => (hkeepb q hq)), hflb⟩, by dsimp only; omega, Le.live (lv1 1 rfl (lv1 3 rfl (lv1 4 rfl (lv1 6 rfl (lv1 12 rfl (lv1 13 rfl (lv1 14 rfl (lv1 18 rfl (lv1 19 rfl (lv1 20 rfl lv0))))))))))⟩
   · skip
     refine RXn ?_
     refine WLv (lv1 1 rfl (lv1 3 rfl (lv1 4 rfl (lv1 6 rfl (lv1 12 rfl (lv1 13 rfl (lv1 14 rfl (lv1 18 rfl (lv1 19 rfl (lv1 20 rfl (lv1 21 rfl lv0))))))))))) ?_
     refine WC_seq ?_
     refine WC_condF rfl ?_
     refine WC_exit ?_
     refine thenE ?_
     refine thenE ?_
     refine blockE ?_
     refine blockN ?_
     refine thenN ?_
     refine WLv (lv1 1 rfl (lv1 3 rfl (lv1 4 rfl (lv1 12 rfl (lv1 13 rfl (lv1 14 rfl lv0)))))) ?_
     refine WC_steps hE hm ?_
     refine xAdd rfl rfl (by omega) ?_
     refine xP rfl rfl rfl rfl ?_
     refine RXn ?_
     refine thenN ⟨(ka + 1, Hlb), ⟨by dsimp only; omega, hmb, (fun q hq => ((hkeepb q hq).trans (hkeepa q hq))), hflb⟩, by dsimp only; omega, Le.live (lv1 1 rfl (lv1 3 rfl (lv1 4 rfl (lv1 12 rfl (lv1 13 rfl (lv1 14 rfl lv0))))))⟩
 · skip
   refine RXn ?_
   refine WLv (lv1 1 rfl (lv1 3 rfl (lv1 4 rfl (lv1 12 rfl (lv1 13 rfl (lv1 14 rfl (lv1 15 rfl lv0))))))) ?_
   refine WC_seq ?_
   refine WC_condF rfl ?_
   refine WC_exit ?_
   refine thenE ?_
   refine thenE ?_
   refine blockE ?_
   refine thenN ?_
   refine WLv (lv1 3 rfl lv0) ?_
   refine WC_go hE hm ?_
   refine xP rfl rfl rfl rfl ?_
   refine xP rfl rfl rfl rfl ?_
   refine RXn ?_
   refine WLv (lv1 2 rfl lv0) ?_
   refine WC_ret ?_
   refine endR rfl ?_
   exact ⟨⟨fun q hq => ((hkeepa q (by omega)).trans ((F13.keep q (by omega)).trans ((a8 q (by omega)).trans (a3 q (by omega))))), hfla, by omega, by omega⟩, n + 1, rfl, hma, by omega, by omega⟩
end Go.Proofs.YtmpogedhilfjgaaGreatDoor
set_option maxRecDepth 1000000
set_option maxHeartbeats 4000000
open Go Go.Cs
namespace Go.Proofs.YtmpogedhilfjgaaGreatDoor
def c65 : FC := FC.mk 27 (.seq (.steps [⟨.box 75, [.tmp 0], some 1, none⟩,⟨.move, [.const (.int .i64 0)], some 2, none⟩]) (.seq (.steps [⟨.move, [.const (.int .i64 0)], some 3, none⟩]) (.seq (.seq (.steps [⟨.loadN 2, [.tmp 1], some 6, none⟩,⟨.callF 72, [.tmp 6], some 7, none⟩,⟨.rangeMap, [.tmp 7], some 8, none⟩]) (.block 0 (.loop (.seq (.steps [⟨.nextMap, [.tmp 8], some 9, none⟩,⟨.extract 0, [.tmp 9], some 10, none⟩]) (.seq (.cond (.tmp 10) (.skip) (.exit 0)) (.block 1 (.seq (.steps [⟨.entry, [.tmp 8], some 11, none⟩,⟨.extract 0, [.tmp 11], some 12, none⟩,⟨.extract 1, [.tmp 11], some 13, none⟩,⟨.move, [.tmp 12], some 4, none⟩,⟨.move, [.tmp 13], some 5, none⟩]) (.seq (.steps [⟨.move, [.tmp 5], some 14, none⟩,⟨.bin .gtr, [.tmp 14, .const (.int .i64 1)], some 15, none⟩,⟨.move, [.tmp 15], some 16, none⟩,⟨.move, [.tmp 3], some 17, some (16, true)⟩,⟨.bin .eql, [.tmp 17, .const (.int .i64 0)], some 18, some (16, true)⟩,⟨.move, [.tmp 18], some 19, some (16, true)⟩,⟨.move, [.tmp 4], some 20, some (19, false)⟩,⟨.move, [.tmp 3], some 21, some (19, false)⟩,⟨.bin .lss, [.tmp 20, .tmp 21], some 22, some (19, false)⟩,⟨.pick, [.tmp 19, .const (.bool true), .tmp 22], some 23, some (16, true)⟩,⟨.pick, [.tmp 16, .tmp 23, .const (.bool false)], some 24, none⟩]) (.cond (.tmp 24) (.steps [⟨.move, [.tmp 4], some 25, none⟩,⟨.move, [.tmp 25], some 3, none⟩]) (.skip)))))))))) (.seq (.steps [⟨.move, [.tmp 3], some 26, none⟩,⟨.move, [.tmp 26], some 2, none⟩]) (.ret))))) [.tmp 2]
theorem c65_ok : compF Tryz.prog 65 = some c65 := by kernel_rfl
theorem clash_ok {p : Int} {s : Nat} (hp : 1 ≤ p ∧ p ≤ 21) (hs : s < 2 ^ 32) {H : Heap} {n : Nat} (hg : aget H 0 = some gl) : F Tryz.prog [0] 65 [stampV p s] H n (fun v H' n' => (∃ c, v = .int .i64 c) ∧ H' = H ∧ n' = n) := by
 refine pureF rfl ?_ hg
 refine F_of_comp c65_ok rfl ?_
 have hlim := limv
 have g0 : aget (ofL [(0, gl)]) 0 = some gl := rfl
 refine WC_go hE hm ?_
 refine xNew (ob := .cells [.int .i64 p, .int .u32 (s : Int)] 75 none) (mk := .ptr) fr0 (by omega) rfl rfl rfl rfl ?_
 intro H1 a2 a3 a4
 have f5 := (a3 _ (by omega)).trans g0
 refine xP rfl rfl rfl rfl ?_
 refine RXn ?_
 refine WLv (lv1 1 rfl lv0) ?_
 refine WC_go hE hm ?_
 refine xP rfl rfl rfl rfl ?_
 refine RXn ?_
 refine WLv (lv1 1 rfl (lv1 3 rfl lv0)) ?_
 refine WC_seq ?_
 refine WC_go hE hm ?_
 refine xR (v := .agg #[.int .i64 p, .int .u32 (s : Int)]) rfl rfl rfl (loadBox (xs := [.int .i64 p, .int .u32 (s : Int)]) a2 rfl) ?_
 refine xC rfl rfl rfl rfl (counts_ok hp hs f5 a4 (by omega) (by omega)) ?_
 rintro _ H6 n6 ⟨F6, b6, rfl, m6, hb6a, hb6b⟩
 have le6 := F6.le
 have rm6 := F6.room
 have f7 := (F6.keep _ (by omega)).trans f5
 have f8 := (F6.keep _ (by omega)).trans a2
 obtain ⟨es9, clk9, hb9, hes9⟩ := m6
 refine xRange hb9 F6.fresh (by omega) rfl rfl ?_
 intro H10 a11 a12 a13
 have f14 := (a12 _ (by omega)).trans f7
 have f15 := (a12 _ (by omega)).trans f8
 have f16 := (a12 _ (by omega)).trans hb9
 refine RXn ?_
 refine WLv (lv1 3 rfl (lv1 8 rfl lv0)) ?_
 refine WC_block ?_
 refine WC_loopX (X := List Nat × Int × Heap) (fun y => { T := ofL [(3, .int .i64 y.2.1), (8, ptrAt (n6) 0)], D := [], H := y.2.2, n := n6 + 1 })
  (fun y => aget y.2.2 (n6) = some (.miter (some b6) clk9 y.1 clk9) ∧ (∀ q, q ≠ n6 → aget y.2.2 q = aget H10 q) ∧ Fresh y.2.2 (n6 + 1)) (fun y => leftN es9 y.1) ([], 0, H10) ⟨a11, (fun _ _ => rfl), a13⟩ ?_
 rintro ⟨sn, best, Hl⟩ ⟨hit, hkeep, hfl⟩
 dsimp only at *
 have l17 := (hkeep (0) (by omega)).trans f14
 have l18 := (hkeep (1) (by omega)).trans f15
 have l19 := (hkeep (b6) (by omega)).trans f16
 refine WC_go hE hm ?_
 refine xNext l19 hit hes9 rfl rfl ?_ ?_
 · skip
   refine xP rfl rfl rfl rfl ?_
   refine RXn ?_
   refine WLv (lv1 3 rfl (lv1 8 rfl (lv1 10 rfl lv0))) ?_
   refine WC_seq ?_
   refine WC_condF rfl ?_
   refine WC_exit ?_
   refine thenE ?_
   refine thenE ?_
   refine blockE ?_
   refine thenN ?_
   refine WLv (lv1 3 rfl lv0) ?_
   refine WC_go hE hm ?_
   refine xP rfl rfl rfl rfl ?_
   refine xP rfl rfl rfl rfl ?_
   refine RXn ?_
   refine WLv (lv1 2 rfl lv0) ?_
   refine WC_ret ?_
   refine endR rfl ?_
   exact ⟨⟨_, rfl⟩, rfl, l17⟩
 · skip
   intro e ke xe He he hne hek hke hex hi2 hkp
   obtain ⟨hke1, hke2⟩ := hke
   have f20 := (hkp _ (by omega)).trans l17
   have f21 := (hkp _ (by omega)).trans l18
   have f22 := (hkp _ (by omega)).trans l19
   have g23 : Fresh He (n6 + 1) := fun q h1 h2 => by rw [hkp q (by omega)]; exact hfl q h1 h2
   refine xP rfl rfl rfl rfl ?_
   refine RXn ?_
   refine WLv (lv1 3 rfl (lv1 8 rfl (lv1 10 rfl lv0))) ?_
   refine WC_seq ?_
   refine WC_condT rfl ?_
   refine WC_skip ?_
   refine thenN ?_
   refine WLv (lv1 3 rfl (lv1 8 rfl lv0)) ?_
   refine WC_block ?_
   refine WC_go hE hm ?_
   refine xEntry f22 hi2 hes9 he hek hex rfl rfl ?_
   refine xP rfl rfl rfl rfl ?_
   refine xP rfl rfl rfl rfl ?_
   refine xP rfl rfl rfl rfl ?_
   refine xP rfl rfl rfl rfl ?_
   refine RXn ?_
   refine WLv (lv1 3 rfl (lv1 4 rfl (lv1 5 rfl (lv1 8 rfl lv0)))) ?_
   refine WC_go hE hm ?_
   refine xP rfl rfl rfl rfl ?_
   refine xCmp rfl rfl rfl rfl ?_ ?_ <;> intro h15
   · skip
     refine xP rfl rfl rfl rfl ?_
     refine xP rfl rfl rfl rfl ?_
     refine xEq rfl rfl ?_ ?_ <;> intro h18
     · skip
       refine xP rfl rfl rfl rfl ?_
       refine xS rfl ?_
       refine xS rfl ?_
       refine xS rfl ?_
       refine xP rfl rfl rfl rfl ?_
       refine xP rfl rfl rfl rfl ?_
       refine RXn ?_
       refine WLv (lv1 3 rfl (lv1 4 rfl (lv1 8 rfl (lv1 24 rfl lv0)))) ?_
       refine WC_condT rfl ?_
       refine WC_steps hE hm ?_
       refine xP rfl rfl rfl rfl ?_
       refine xP rfl rfl rfl rfl ?_
       refine RXn ?_
       refine blockN ?_
       refine thenN ⟨(sn ++ [e.born], ke, He), ⟨hi2, (fun q hq => (hkp q hq).trans (hkeep q hq)), g23⟩, leftN_next he hne, Le.live (lv1 3 rfl (lv1 8 rfl lv0))⟩
     · skip
       refine xP rfl rfl rfl rfl ?_
       refine xP rfl rfl rfl rfl ?_
       refine xP rfl rfl rfl rfl ?_
       refine xCmp rfl rfl rfl rfl ?_ ?_ <;> intro h22
       · skip
         refine xP rfl rfl rfl rfl ?_
         refine xP rfl rfl rfl rfl ?_
         refine RXn ?_
         refine WLv (lv1 3 rfl (lv1 4 rfl (lv1 8 rfl (lv1 24 rfl lv0)))) ?_
         refine WC_condT rfl ?_
         refine WC_steps hE hm ?_
         refine xP rfl rfl rfl rfl ?_
         refine xP rfl rfl rfl rfl ?_
         refine RXn ?_
         refine blockN ?_
         refine thenN ⟨(sn ++ [e.born], ke, He), ⟨hi2, (fun q hq => (hkp q hq).trans (hkeep q hq)), g23⟩, leftN_next he hne, Le.live (lv1 3 rfl (lv1 8 rfl lv0))⟩
       · skip
         refine xP rfl rfl rfl rfl ?_
         refine xP rfl rfl rfl rfl ?_
         refine RXn ?_
         refine WLv (lv1 3 rfl (lv1 4 rfl (lv1 8 rfl (lv1 24 rfl lv0)))) ?_
         refine WC_condF rfl ?_
         refine WC_skip ?_
         refine blockN ?_
         refine thenN ⟨(sn ++ [e.born], best, He), ⟨hi2, (fun q hq => (hkp q hq).trans (hkeep q hq)), g23⟩, leftN_next he hne, Le.live (lv1 3 rfl (lv1 8 rfl lv0))⟩
   · skip
     refine xP rfl rfl rfl rfl ?_
     refine xS rfl ?_
     refine xS rfl ?_
     refine xS rfl ?_
     refine xS rfl ?_
     refine xS rfl ?_
     refine xS rfl ?_
     refine xS rfl ?_
     refine xP rfl rfl rfl rfl ?_
     refine RXn ?_
     refine WLv (lv1 3 rfl (lv1 4 rfl (lv1 8 rfl (lv1 24 rfl lv0)))) ?_
     refine WC_condF rfl ?_
     refine WC_skip ?_
     refine blockN ?_
     refine thenN ⟨(sn ++ [e.born], best, He), ⟨hi2, (fun q hq => (hkp q hq).trans (hkeep q hq)), g23⟩, leftN_next he hne, Le.live (lv1 3 rfl (lv1 8 rfl lv0))⟩
def c67 : FC := FC.mk 15 (.seq (.steps [⟨.box 75, [.tmp 0], some 1, none⟩,⟨.move, [.const (.bool false)], some 2, none⟩]) (.seq (.drawn [(0,⟨.loadN 2, [.tmp 1], some 3, none⟩), (1,⟨.callF 65, [.tmp 3], some 4, none⟩), (2,⟨.bin .eql, [.tmp 4, .const (.int .i64 0)], some 5, none⟩), (3,⟨.move, [.tmp 5], some 6, none⟩), (4,⟨.loadN 2, [.tmp 1], some 7, some (6, true)⟩), (7,⟨.fieldAddr 0, [.tmp 1], some 10, some (6, true)⟩), (8,⟨.load1, [.tmp 10], some 11, some (6, true)⟩), (9,⟨.bin .sub, [.tmp 11, .const (.int .i64 1)], some 12, some (6, true)⟩), (5,⟨.callF 72, [.tmp 7], some 8, some (6, true)⟩), (6,⟨.lenMap, [.tmp 8], some 9, some (6, true)⟩), (10,⟨.bin .eql, [.tmp 9, .tmp 12], some 13, some (6, true)⟩), (11,⟨.pick, [.tmp 6, .tmp 13, .const (.bool false)], some 14, none⟩), (12,⟨.move, [.tmp 14], some 2, none⟩)] [0, 1, 3, 7, 15, 31, 63, 15, 143, 399, 1023, 2047, 4095]) (.ret))) [.tmp 2]
theorem c67_ok : compF Tryz.prog 67 = some c67 := by kernel_rfl
theorem perfect_ok {p : Int} {s : Nat} (hp : 1 ≤ p ∧ p ≤ 21) (hs : s < 2 ^ 32) {H : Heap} {n : Nat} (hg : aget H 0 = some gl) : F Tryz.prog [0] 67 [stampV p s] H n (fun v H' n' => (∃ c, v = .bool c) ∧ H' = H ∧ n' = n) := by
 refine pureF rfl ?_ hg
 refine F_of_comp c67_ok rfl ?_
 have hlim := limv
 have g0 : aget (ofL [(0, gl)]) 0 = some gl := rfl
 refine WC_go hE hm ?_
 refine xNew (ob := .cells [.int .i64 p, .int .u32 (s : Int)] 75 none) (mk := .ptr) fr0 (by omega) rfl rfl rfl rfl ?_
 intro H1 a2 a3 a4
 have f5 := (a3 _ (by omega)).trans g0
 refine xP rfl rfl rfl rfl ?_
 refine RXn ?_
 refine WLv (lv1 1 rfl lv0) ?_
 refine WC_goD hE hm ?_
 refine dR (v := .agg #[.int .i64 p, .int .u32 (s : Int)]) rfl rfl rfl (loadBox (xs := [.int .i64 p, .int .u32 (s : Int)]) a2 rfl) ?_
 refine dC (f := 65) (args := [.agg #[.int .i64 p, .int .u32 (s : Int)]]) rfl rfl rfl rfl (clash_ok hp hs f5) ?_
 rintro _ H9 n9 ⟨⟨c6, rfl⟩, hH9, hn9⟩
 obtain rfl := hH9.symm
 obtain rfl := hn9.symm
 refine ⟨stabSame, ?_⟩
 refine dX rfl (xEq rfl rfl (fun h5 => RXn ?_) (fun h5 => RXn ?_))
 · skip
   refine dX rfl (xP rfl rfl rfl rfl (RXn ?_))
   refine dR (v := .agg #[.int .i64 p, .int .u32 (s : Int)]) rfl rfl rfl (loadBox (xs := [.int .i64 p, .int .u32 (s : Int)]) a2 rfl) ?_
   refine dX rfl (xP rfl rfl rfl rfl (RXn ?_))
   refine dR (v := .int .i64 p) rfl rfl rfl (ld1 (o := 0 + 0) a2 rfl) ?_
   refine dX rfl (xSub rfl rfl (by omega) (RXn ?_))
   refine dC (f := 72) (args := [.agg #[.int .i64 p, .int .u32 (s : Int)]]) rfl rfl rfl rfl (counts_ok hp hs f5 a4 (by omega) (by omega)) ?_
   rintro _ H7 n7 ⟨F7, b7, rfl, m7, hb7a, hb7b⟩
   have le7 := F7.le
   have rm7 := F7.room
   have f8 := (F7.keep _ (by omega)).trans f5
   have f9 := (F7.keep _ (by omega)).trans a2
   refine ⟨stabOne ⟨8, ⟨.load1, [.tmp 10], some 11, some (6, true)⟩, .r [.pointer (some ⟨1, 0 + 0, none⟩)] (.int .i64 p)⟩ (by kernel_rfl) (ld1 (o := 0 + 0) f9 rfl), ?_⟩
   obtain ⟨x10, hx10⟩ := m7.len
   refine dR (v := .int .i64 x10) rfl rfl rfl hx10 ?_
   refine dX rfl (xEq rfl rfl (fun h13 => RXn ?_) (fun h13 => RXn ?_))
   · skip
     refine dX rfl (xP rfl rfl rfl rfl (RXn ?_))
     refine dX rfl (xP rfl rfl rfl rfl (RXn ?_))
     refine dNil ?_
     refine WLv (lv1 2 rfl lv0) ?_
     refine WC_ret ?_
     refine endR rfl ?_
     exact ⟨⟨_, rfl⟩, rfl, f8⟩
   · skip
     refine dX rfl (xP rfl rfl rfl rfl (RXn ?_))
     refine dX rfl (xP rfl rfl rfl rfl (RXn ?_))
     refine dNil ?_
     refine WLv (lv1 2 rfl lv0) ?_
     refine WC_ret ?_
     refine endR rfl ?_
     exact ⟨⟨_, rfl⟩, rfl, f8⟩
 · skip
   refine dX rfl (xP rfl rfl rfl rfl (RXn ?_))
   refine dS rfl ?_
   refine dS rfl ?_
   refine dS rfl ?_
   refine dS rfl ?_
   refine dS rfl ?_
   refine dS rfl ?_
   refine dS rfl ?_
   refine dX rfl (xP rfl rfl rfl rfl (RXn ?_))
   refine dX rfl (xP rfl rfl rfl rfl (RXn ?_))
   refine dNil ?_
   refine WLv (lv1 2 rfl lv0) ?_
   refine WC_ret ?_
   refine endR rfl ?_
   exact ⟨⟨_, rfl⟩, rfl, f5⟩
end Go.Proofs.YtmpogedhilfjgaaGreatDoor
set_option maxRecDepth 1000000
set_option maxHeartbeats 4000000
open Go Go.Cs
namespace Go.Proofs.YtmpogedhilfjgaaGreatDoor
def c64 : FC := FC.mk 24 (.seq (.steps [⟨.box 75, [.tmp 0], some 1, none⟩,⟨.move, [.const (.slice none 0 0)], some 2, none⟩]) (.seq (.steps [⟨.fieldAddr 0, [.tmp 1], some 6, none⟩,⟨.load1, [.tmp 6], some 7, none⟩,⟨.bin .sub, [.tmp 7, .const (.int .i64 1)], some 8, none⟩,⟨.mkSlice 3 8 [.int .i64 0], [.tmp 8, .tmp 8], some 9, none⟩,⟨.move, [.tmp 9], some 3, none⟩]) (.seq (.seq (.steps [⟨.loadN 2, [.tmp 1], some 10, none⟩,⟨.callF 72, [.tmp 10], some 11, none⟩,⟨.rangeMap, [.tmp 11], some 12, none⟩]) (.block 0 (.loop (.seq (.steps [⟨.nextMap, [.tmp 12], some 13, none⟩,⟨.extract 0, [.tmp 13], some 14, none⟩]) (.seq (.cond (.tmp 14) (.skip) (.exit 0)) (.block 1 (.seq (.steps [⟨.entry, [.tmp 12], some 15, none⟩,⟨.extract 0, [.tmp 15], some 16, none⟩,⟨.extract 1, [.tmp 15], some 17, none⟩,⟨.move, [.tmp 16], some 4, none⟩,⟨.move, [.tmp 17], some 5, none⟩]) (.steps [⟨.move, [.tmp 3], some 18, none⟩,⟨.move, [.tmp 4], some 19, none⟩,⟨.bin .sub, [.tmp 19, .const (.int .i64 1)], some 20, none⟩,⟨.move, [.tmp 5], some 21, none⟩,⟨.indexAddrS 1, [.tmp 18, .tmp 20], some 22, none⟩,⟨.store 1, [.tmp 22, .tmp 21], none, none⟩])))))))) (.seq (.steps [⟨.move, [.tmp 3], some 23, none⟩,⟨.move, [.tmp 23], some 2, none⟩]) (.ret))))) [.tmp 2]
theorem c64_ok : compF Tryz.prog 64 = some c64 := by kernel_rfl
theorem distances_ok {p : Int} {s : Nat} (hp : 1 ≤ p ∧ p ≤ 21) (hs : s < 2 ^ 32) {H : Heap} {n : Nat} (hg : aget H 0 = some gl) (hfr : Fresh H n) (hn : n + 300 < lim) (hn0 : 0 < n) :
 F Tryz.prog [0] 64 [stampV p s] H n (fun v H' n' => Fin H n 80 H' n' ∧ ∃ (l : List Int) (b : Nat), v = .slice (some ⟨b, 0, none⟩) l.length l.length ∧ l.length = (p - 1).toNat ∧ aget H' b = some (.cells (ints l) 3 none) ∧ n ≤ b ∧ b < n') := by
 refine F_of_comp c64_ok rfl ?_
 have hlim := limv
 refine WC_go hE hm ?_
 refine xNew (ob := .cells [.int .i64 p, .int .u32 (s : Int)] 75 none) (mk := .ptr) hfr (by omega) rfl rfl rfl rfl ?_
 intro H1 a2 a3 a4
 have f5 := (a3 _ (by omega)).trans hg
 refine xP rfl rfl rfl rfl ?_
 refine RXn ?_
 refine WLv (lv1 1 rfl lv0) ?_
 refine WC_go hE hm ?_
 refine xP rfl rfl rfl rfl ?_
 refine xR (v := .int .i64 p) rfl rfl rfl (ld1 (o := 0 + 0) a2 rfl) ?_
 refine xSub rfl rfl (by omega) ?_
 refine xNew (ob := .cells (ints (List.replicate ((p - 1)).toNat 0)) 3 none) (mk := .slice ((p - 1)).toNat ((p - 1)).toNat) a4 (by omega) rfl rfl rfl (mkInts_sem ⟨by omega, by omega, by omega⟩) ?_
 intro H6 a7 a8 a9
 have f10 := (a8 _ (by omega)).trans f5
 have f11 := (a8 _ (by omega)).trans a2
 refine xP rfl rfl rfl rfl ?_
 refine RXn ?_
 refine WLv (lv1 1 rfl (lv1 3 rfl lv0)) ?_
 refine WC_seq ?_
 refine WC_go hE hm ?_
 refine xR (v := .agg #[.int .i64 p, .int .u32 (s : Int)]) rfl rfl rfl (loadBox (xs := [.int .i64 p, .int .u32 (s : Int)]) f11 rfl) ?_
 refine xC rfl rfl rfl rfl (counts_ok hp hs f10 a9 (by omega) (by omega)) ?_
 rintro _ H12 n12 ⟨F12, b12, rfl, m12, hb12a, hb12b⟩
 have le12 := F12.le
 have rm12 := F12.room
 have f13 := (F12.keep _ (by omega)).trans f10
 have f14 := (F12.keep _ (by omega)).trans f11
 have f15 := (F12.keep _ (by omega)).trans a7
 obtain ⟨es16, clk16, hb16, hes16⟩ := m12
 refine xRange hb16 F12.fresh (by omega) rfl rfl ?_
 intro H17 a18 a19 a20
 have f21 := (a19 _ (by omega)).trans f13
 have f22 := (a19 _ (by omega)).trans f14
 have f23 := (a19 _ (by omega)).trans f15
 have f24 := (a19 _ (by omega)).trans hb16
 refine RXn ?_
 refine WLv (lv1 3 rfl (lv1 12 rfl lv0)) ?_
 refine WC_block ?_
 refine WC_loopX (X := List Nat × List Int × Heap) (fun y => { T := ofL [(3, .slice (some ⟨n + 1, 0, none⟩) (p - 1).toNat (p - 1).toNat), (12, ptrAt (n12) 0)], D := [], H := y.2.2, n := n12 + 1 })
  (fun y => aget y.2.2 (n12) = some (.miter (some b12) clk16 y.1 clk16) ∧ y.2.1.length = (p - 1).toNat ∧ aget y.2.2 (n + 1) = some (.cells (ints y.2.1) 3 none) ∧ (∀ q, q ≠ n12 → q ≠ n + 1 → aget y.2.2 q = aget H17 q) ∧ Fresh y.2.2 (n12 + 1)) (fun y => leftN es16 y.1) ([], List.replicate (p - 1).toNat 0, H17) ⟨a18, by simp, f23, (fun _ _ _ => rfl), a20⟩ ?_
 rintro ⟨sn, arr, Hl⟩ ⟨hit, harr, hA, hkeep, hfl⟩
 dsimp only at *
 have l25 := (hkeep (0) (by omega) (by omega)).trans f21
 have l26 := (hkeep (n) (by omega) (by omega)).trans f22
 have l27 := (hkeep (b12) (by omega) (by omega)).trans f24
 refine WC_go hE hm ?_
 refine xNext l27 hit hes16 rfl rfl ?_ ?_
 · skip
   refine xP rfl rfl rfl rfl ?_
   refine RXn ?_
   refine WLv (lv1 3 rfl (lv1 12 rfl (lv1 14 rfl lv0))) ?_
   refine WC_seq ?_
   refine WC_condF rfl ?_
   refine WC_exit ?_
   refine thenE ?_
   refine thenE ?_
   refine blockE ?_
   refine thenN ?_
   refine WLv (lv1 3 rfl lv0) ?_
   refine WC_go hE hm ?_
   refine xP rfl rfl rfl rfl ?_
   refine xP rfl rfl rfl rfl ?_
   refine RXn ?_
   refine WLv (lv1 2 rfl lv0) ?_
   refine WC_ret ?_
   refine endR rfl ?_
   exact ⟨⟨fun q hq => ((hkeep q (by omega) (by omega)).trans ((a19 q (by omega)).trans ((F12.keep q (by omega)).trans ((a8 q (by omega)).trans (a3 q (by omega)))))), hfl, by omega, by omega⟩, arr, (n + 1), by rw [harr]; rfl, harr, hA, by omega, by omega⟩
 · skip
   intro e ke xe He he hne hek hke hex hi2 hkp
   obtain ⟨hke1, hke2⟩ := hke
   have f28 := (hkp _ (by omega)).trans l25
   have f29 := (hkp _ (by omega)).trans l26
   have f30 := (hkp _ (by omega)).trans hA
   have f31 := (hkp _ (by omega)).trans l27
   have g32 : Fresh He (n12 + 1) := fun q h1 h2 => by rw [hkp q (by omega)]; exact hfl q h1 h2
   refine xP rfl rfl rfl rfl ?_
   refine RXn ?_
   refine WLv (lv1 3 rfl (lv1 12 rfl (lv1 14 rfl lv0))) ?_
   refine WC_seq ?_
   refine WC_condT rfl ?_
   refine WC_skip ?_
   refine thenN ?_
   refine WLv (lv1 3 rfl (lv1 12 rfl lv0)) ?_
   refine WC_block ?_
   refine WC_go hE hm ?_
   refine xEntry f31 hi2 hes16 he hek hex rfl rfl ?_
   refine xP rfl rfl rfl rfl ?_
   refine xP rfl rfl rfl rfl ?_
   refine xP rfl rfl rfl rfl ?_
   refine xP rfl rfl rfl rfl ?_
   refine RXn ?_
   refine WLv (lv1 3 rfl (lv1 4 rfl (lv1 5 rfl (lv1 12 rfl lv0)))) ?_
   refine WC_steps hE hm ?_
   refine xP rfl rfl rfl rfl ?_
   refine xP rfl rfl rfl rfl ?_
   refine xSub rfl rfl (by omega) ?_
   refine xP rfl rfl rfl rfl ?_
   refine xIdx rfl rfl ⟨by omega, by omega⟩ ?_
   refine xStIO f30 (by rw [harr]; omega) rfl rfl (by omega) ?_
   intro H33 b34 b35
   have f37 := (b35 _ (by omega)).trans f28
   have f38 := (b35 _ (by omega)).trans f29
   have f39 := (b35 _ (by omega)).trans f31
   have f40 := (b35 _ (by omega)).trans hi2
   have g36 : Fresh H33 (n12 + 1) := fun q h1 h2 => by rw [b35 q (by omega)]; exact g32 q h1 h2
   refine RXn ?_
   refine blockN ?_
   refine thenN ⟨(sn ++ [e.born], ((arr).set ((ke - 1)).toNat (xe)), H33), ⟨f40, by rw [List.length_set]; exact harr, b34, (fun q hq hq2 => (b35 q hq2).trans ((hkp q hq).trans (hkeep q hq hq2))), g36⟩, leftN_next he hne, Le.live (lv1 3 rfl (lv1 12 rfl lv0))⟩
end Go.Proofs.YtmpogedhilfjgaaGreatDoor
set_option maxRecDepth 1000000
set_option maxHeartbeats 4000000
open Go Go.Cs
namespace Go.Proofs.YtmpogedhilfjgaaGreatDoor
def c26 : FC := FC.mk 19 (.seq (.steps [⟨.box 24, [.tmp 0], some 1, none⟩,⟨.move, [.const (.int .i64 0)], some 2, none⟩,⟨.move, [.const (.int .i64 0)], some 3, none⟩]) (.seq (.steps [⟨.loadN 2, [.tmp 1], some 7, none⟩,⟨.callF 56, [.tmp 7], some 8, none⟩,⟨.move, [.tmp 8], some 6, none⟩,⟨.extract 0, [.tmp 6], some 9, none⟩,⟨.extract 1, [.tmp 6], some 10, none⟩,⟨.alloc 75 [.int .i64 0, .int .u32 0], [], some 4, none⟩,⟨.store 2, [.tmp 4, .tmp 9], none, none⟩,⟨.move, [.tmp 10], some 3, none⟩]) (.seq (.seq (.steps [⟨.move, [.tmp 3], some 11, none⟩,⟨.bin .neq, [.tmp 11, .const (.int .i64 0)], some 12, none⟩]) (.cond (.tmp 12) (.seq (.steps [⟨.move, [.tmp 3], some 13, none⟩,⟨.move, [.const (.int .i64 0)], some 2, none⟩,⟨.move, [.tmp 13], some 3, none⟩]) (.ret)) (.skip))) (.seq (.seq (.steps [⟨.loadN 2, [.tmp 4], some 14, none⟩,⟨.callF 65, [.tmp 14], some 15, none⟩,⟨.move, [.tmp 15], some 5, none⟩]) (.seq (.steps [⟨.move, [.tmp 5], some 16, none⟩,⟨.bin .gtr, [.tmp 16, .const (.int .i64 0)], some 17, none⟩]) (.cond (.tmp 17) (.seq (.steps [⟨.move, [.tmp 5], some 18, none⟩,⟨.move, [.tmp 18], some 2, none⟩,⟨.move, [.const (.int .i64 13)], some 3, none⟩]) (.ret)) (.skip)))) (.seq (.steps [⟨.move, [.const (.int .i64 0)], some 2, none⟩,⟨.move, [.const (.int .i64 0)], some 3, none⟩]) (.ret)))))) [.tmp 2, .tmp 3]
theorem c26_ok : compF Tryz.prog 26 = some c26 := by kernel_rfl
theorem narrow_ok {p : Int} {l : List Int} {i : Nat} (hll : l.length ≤ 1000000) {H : Heap} {n : Nat} (hg : aget H 0 = some gl) (hrow : OldRow H n i l) (hfr : Fresh H n) (hn : n + 500 < lim) (hn0 : 0 < n) :
 F Tryz.prog [0] 26 [sealV p i l] H n (fun v H' n' => Fin H n 200 H' n') := by
 refine F_of_comp c26_ok rfl ?_
 have hlim := limv
 refine WC_go hE hm ?_
 refine xNew (ob := .cells [.int .i64 p, gsl (i) (l.length)] 24 none) (mk := .ptr) hfr (by omega) rfl rfl rfl (by simp [semA, aBox, Value.cells, sealV]) ?_
 intro H1 a2 a3 a4
 have f5 := (a3 _ (by omega)).trans hg
 have f6 : l ≠ [] → aget H1 i = some (.cells (ints l) 3 (some 1)) := fun hne => by have hdm := (hrow hne).2; exact (a3 _ (by omega)).trans ((fun h => (hrow h).1) hne)
 refine xP rfl rfl rfl rfl ?_
 refine xP rfl rfl rfl rfl ?_
 refine RXn ?_
 refine WLv (lv1 1 rfl lv0) ?_
 refine WC_go hE hm ?_
 refine xR (v := .agg #[.int .i64 p, gsl (i) (l.length)]) rfl rfl rfl (loadBox (xs := [.int .i64 p, gsl (i) (l.length)]) a2 rfl) ?_
 refine xC rfl rfl rfl rfl (opened_ok hll f5 (fun hne => ⟨f6 hne, by have := (hrow hne).2; omega⟩) a4 (by omega) (by omega)) ?_
 rintro _ H7 n7 ⟨F7, e7, p7, u7, rfl, hu7, hop7⟩
 have le7 := F7.le
 have rm7 := F7.room
 have f8 := (F7.keep _ (by omega)).trans f5
 have f9 : l ≠ [] → aget H7 i = some (.cells (ints l) 3 (some 1)) := fun hne => by have hdm := (hrow hne).2; exact (F7.keep _ (by omega)).trans (f6 hne)
 have f10 := (F7.keep _ (by omega)).trans a2
 refine xP rfl rfl rfl rfl ?_
 refine xP rfl rfl rfl rfl ?_
 refine xP rfl rfl rfl rfl ?_
 refine xNew (ob := .cells [.int .i64 0, .int .u32 0] 75 none) (mk := .ptr) F7.fresh (by omega) rfl rfl rfl rfl ?_
 intro H11 a12 a13 a14
 have f15 := (a13 _ (by omega)).trans f8
 have f16 : l ≠ [] → aget H11 i = some (.cells (ints l) 3 (some 1)) := fun hne => by have hdm := (hrow hne).2; exact (a13 _ (by omega)).trans (f9 hne)
 have f17 := (a13 _ (by omega)).trans f10
 refine xFill (ys := [.int .i64 p7, .int .u32 (u7 : Int)]) a12 rfl rfl (by simp only [List.all_cons, List.all_nil, gsl_cell1]; rfl) rfl rfl (by omega) ?_
 intro H18 b19 b20
 have f21 := (b20 _ (by omega)).trans f15
 have f22 : l ≠ [] → aget H18 i = some (.cells (ints l) 3 (some 1)) := fun hne => by have hdm := (hrow hne).2; exact (b20 _ (by omega)).trans (f16 hne)
 have f23 := (b20 _ (by omega)).trans f17
 have g24 : Fresh H18 (n7 + 1) := fun q h1 h2 => by rw [b20 q (by omega)]; exact a14 q h1 h2
 refine xP rfl rfl rfl rfl ?_
 refine RXn ?_
 refine WLv (lv1 3 rfl (lv1 4 rfl lv0)) ?_
 refine WC_seq ?_
 refine WC_go hE hm ?_
 refine xP rfl rfl rfl rfl ?_
 refine xNe rfl rfl ?_ ?_ <;> intro h12
 · skip
   refine RXn ?_
   refine WLv (lv1 3 rfl (lv1 4 rfl (lv1 12 rfl lv0))) ?_
   refine WC_condT rfl ?_
   refine WC_go hE hm ?_
   refine xP rfl rfl rfl rfl ?_
   refine xP rfl rfl rfl rfl ?_
   refine xP rfl rfl rfl rfl ?_
   refine RXn ?_
   refine WLv (lv1 2 rfl (lv1 3 rfl lv0)) ?_
   refine WC_ret ?_
   refine thenR ?_
   refine endR rfl ?_
   exact ⟨fun q hq => ((b20 q (by omega)).trans ((a13 q (by omega)).trans ((F7.keep q (by omega)).trans (a3 q (by omega))))), g24, by omega, by omega⟩
 · skip
   obtain ⟨hpe7, hp, hl67, hxx7⟩ := hop7 h12
   obtain rfl := hpe7.symm
   refine RXn ?_
   refine WLv (lv1 3 rfl (lv1 4 rfl (lv1 12 rfl lv0))) ?_
   refine WC_condF rfl ?_
   refine WC_skip ?_
   refine thenN ?_
   refine WLv (lv1 4 rfl lv0) ?_
   refine WC_seq ?_
   refine WC_go hE hm ?_
   refine xR (v := .agg #[.int .i64 p, .int .u32 (u7 : Int)]) rfl rfl rfl (loadBox (xs := [.int .i64 p, .int .u32 (u7 : Int)]) b19 rfl) ?_
   refine xC rfl rfl rfl rfl (clash_ok hp hu7 f21) ?_
   rintro _ H9 n9 ⟨⟨c25, rfl⟩, hH9, hn9⟩
   obtain rfl := hH9.symm
   obtain rfl := hn9.symm
   refine xP rfl rfl rfl rfl ?_
   refine RXn ?_
   refine WLv (lv1 5 rfl lv0) ?_
   refine WC_go hE hm ?_
   refine xP rfl rfl rfl rfl ?_
   refine xCmp rfl rfl rfl rfl ?_ ?_ <;> intro h17
   · skip
     refine RXn ?_
     refine WLv (lv1 5 rfl (lv1 17 rfl lv0)) ?_
     refine WC_condT rfl ?_
     refine WC_go hE hm ?_
     refine xP rfl rfl rfl rfl ?_
     refine xP rfl rfl rfl rfl ?_
     refine xP rfl rfl rfl rfl ?_
     refine RXn ?_
     refine WLv (lv1 2 rfl (lv1 3 rfl lv0)) ?_
     refine WC_ret ?_
     refine thenR ?_
     refine endR rfl ?_
     exact ⟨fun q hq => ((b20 q (by omega)).trans ((a13 q (by omega)).trans ((F7.keep q (by omega)).trans (a3 q (by omega))))), g24, by omega, by omega⟩
   · skip
     refine RXn ?_
     refine WLv (lv1 5 rfl (lv1 17 rfl lv0)) ?_
     refine WC_condF rfl ?_
     refine WC_skip ?_
     refine thenN ?_
     refine WLv lv0 ?_
     refine WC_go hE hm ?_
     refine xP rfl rfl rfl rfl ?_
     refine xP rfl rfl rfl rfl ?_
     refine RXn ?_
     refine WLv (lv1 2 rfl (lv1 3 rfl lv0)) ?_
     refine WC_ret ?_
     refine endR rfl ?_
     exact ⟨fun q hq => ((b20 q (by omega)).trans ((a13 q (by omega)).trans ((F7.keep q (by omega)).trans (a3 q (by omega))))), g24, by omega, by omega⟩
def c31 : FC := FC.mk 16 (.seq (.steps [⟨.box 24, [.tmp 0], some 1, none⟩,⟨.move, [.const (.bool false)], some 2, none⟩,⟨.move, [.const (.int .i64 0)], some 3, none⟩]) (.seq (.steps [⟨.loadN 2, [.tmp 1], some 7, none⟩,⟨.callF 56, [.tmp 7], some 8, none⟩,⟨.move, [.tmp 8], some 6, none⟩,⟨.extract 0, [.tmp 6], some 9, none⟩,⟨.extract 1, [.tmp 6], some 10, none⟩,⟨.alloc 75 [.int .i64 0, .int .u32 0], [], some 4, none⟩,⟨.store 2, [.tmp 4, .tmp 9], none, none⟩,⟨.move, [.tmp 10], some 5, none⟩]) (.seq (.seq (.steps [⟨.move, [.tmp 5], some 11, none⟩,⟨.bin .neq, [.tmp 11, .const (.int .i64 0)], some 12, none⟩]) (.cond (.tmp 12) (.seq (.steps [⟨.move, [.tmp 5], some 13, none⟩,⟨.move, [.const (.bool false)], some 2, none⟩,⟨.move, [.tmp 13], some 3, none⟩]) (.ret)) (.skip))) (.seq (.steps [⟨.loadN 2, [.tmp 4], some 14, none⟩,⟨.callF 67, [.tmp 14], some 15, none⟩,⟨.move, [.tmp 15], some 2, none⟩,⟨.move, [.const (.int .i64 0)], some 3, none⟩]) (.ret))))) [.tmp 2, .tmp 3]
theorem c31_ok : compF Tryz.prog 31 = some c31 := by kernel_rfl
theorem isPerfect_ok {p : Int} {l : List Int} {i : Nat} (hll : l.length ≤ 1000000) {H : Heap} {n : Nat} (hg : aget H 0 = some gl) (hrow : OldRow H n i l) (hfr : Fresh H n) (hn : n + 500 < lim) (hn0 : 0 < n) :
 F Tryz.prog [0] 31 [sealV p i l] H n (fun v H' n' => Fin H n 200 H' n') := by
 refine F_of_comp c31_ok rfl ?_
 have hlim := limv
 refine WC_go hE hm ?_
 refine xNew (ob := .cells [.int .i64 p, gsl (i) (l.length)] 24 none) (mk := .ptr) hfr (by omega) rfl rfl rfl (by simp [semA, aBox, Value.cells, sealV]) ?_
 intro H1 a2 a3 a4
 have f5 := (a3 _ (by omega)).trans hg
 have f6 : l ≠ [] → aget H1 i = some (.cells (ints l) 3 (some 1)) := fun hne => by have hdm := (hrow hne).2; exact (a3 _ (by omega)).trans ((fun h => (hrow h).1) hne)
 refine xP rfl rfl rfl rfl ?_
 refine xP rfl rfl rfl rfl ?_
 refine RXn ?_
 refine WLv (lv1 1 rfl lv0) ?_
 refine WC_go hE hm ?_
 refine xR (v := .agg #[.int .i64 p, gsl (i) (l.length)]) rfl rfl rfl (loadBox (xs := [.int .i64 p, gsl (i) (l.length)]) a2 rfl) ?_
 refine xC rfl rfl rfl rfl (opened_ok hll f5 (fun hne => ⟨f6 hne, by have := (hrow hne).2; omega⟩) a4 (by omega) (by omega)) ?_
 rintro _ H7 n7 ⟨F7, e7, p7, u7, rfl, hu7, hop7⟩
 have le7 := F7.le
 have rm7 := F7.room
 have f8 := (F7.keep _ (by omega)).trans f5
 have f9 : l ≠ [] → aget H7 i = some (.cells (ints l) 3 (some 1)) := fun hne => by have hdm := (hrow hne).2; exact (F7.keep _ (by omega)).trans (f6 hne)
 have f10 := (F7.keep _ (by omega)).trans a2
 refine xP rfl rfl rfl rfl ?_
 refine xP rfl rfl rfl rfl ?_
 refine xP rfl rfl rfl rfl ?_
 refine xNew (ob := .cells [.int .i64 0, .int .u32 0] 75 none) (mk := .ptr) F7.fresh (by omega) rfl rfl rfl rfl ?_
 intro H11 a12 a13 a14
 have f15 := (a13 _ (by omega)).trans f8
 have f16 : l ≠ [] → aget H11 i = some (.cells (ints l) 3 (some 1)) := fun hne => by have hdm := (hrow hne).2; exact (a13 _ (by omega)).trans (f9 hne)
 have f17 := (a13 _ (by omega)).trans f10
 refine xFill (ys := [.int .i64 p7, .int .u32 (u7 : Int)]) a12 rfl rfl (by simp only [List.all_cons, List.all_nil, gsl_cell1]; rfl) rfl rfl (by omega) ?_
 intro H18 b19 b20
 have f21 := (b20 _ (by omega)).trans f15
 have f22 : l ≠ [] → aget H18 i = some (.cells (ints l) 3 (some 1)) := fun hne => by have hdm := (hrow hne).2; exact (b20 _ (by omega)).trans (f16 hne)
 have f23 := (b20 _ (by omega)).trans f17
 have g24 : Fresh H18 (n7 + 1) := fun q h1 h2 => by rw [b20 q (by omega)]; exact a14 q h1 h2
 refine xP rfl rfl rfl rfl ?_
 refine RXn ?_
 refine WLv (lv1 4 rfl (lv1 5 rfl lv0)) ?_
 refine WC_seq ?_
 refine WC_go hE hm ?_
 refine xP rfl rfl rfl rfl ?_
 refine xNe rfl rfl ?_ ?_ <;> intro h12
 · skip
   refine RXn ?_
   refine WLv (lv1 4 rfl (lv1 5 rfl (lv1 12 rfl lv0))) ?_
   refine WC_condT rfl ?_
   refine WC_go hE hm ?_
   refine xP rfl rfl rfl rfl ?_
   refine xP rfl rfl rfl rfl ?_
   refine xP rfl rfl rfl rfl ?_
   refine RXn ?_
   refine WLv (lv1 2 rfl (lv1 3 rfl lv0)) ?_
   refine WC_ret ?_
   refine thenR ?_
   refine endR rfl ?_
   exact ⟨fun q hq => ((b20 q (by omega)).trans ((a13 q (by omega)).trans ((F7.keep q (by omega)).trans (a3 q (by omega))))), g24, by omega, by omega⟩
 · skip
   obtain ⟨hpe7, hp, hl67, hxx7⟩ := hop7 h12
   obtain rfl := hpe7.symm
   refine RXn ?_
   refine WLv (lv1 4 rfl (lv1 5 rfl (lv1 12 rfl lv0))) ?_
   refine WC_condF rfl ?_
   refine WC_skip ?_
   refine thenN ?_
   refine WLv (lv1 4 rfl lv0) ?_
   refine WC_go hE hm ?_
   refine xR (v := .agg #[.int .i64 p, .int .u32 (u7 : Int)]) rfl rfl rfl (loadBox (xs := [.int .i64 p, .int .u32 (u7 : Int)]) b19 rfl) ?_
   refine xC rfl rfl rfl rfl (perfect_ok hp hu7 f21) ?_
   rintro _ H9 n9 ⟨⟨c25, rfl⟩, hH9, hn9⟩
   obtain rfl := hH9.symm
   obtain rfl := hn9.symm
   refine xP rfl rfl rfl rfl ?_
   refine xP rfl rfl rfl rfl ?_
   refine RXn ?_
   refine WLv (lv1 2 rfl (lv1 3 rfl lv0)) ?_
   refine WC_ret ?_
   refine endR rfl ?_
   exact ⟨fun q hq => ((b20 q (by omega)).trans ((a13 q (by omega)).trans ((F7.keep q (by omega)).trans (a3 q (by omega))))), g24, by omega, by omega⟩
end Go.Proofs.YtmpogedhilfjgaaGreatDoor
