/- A part of the proof that the law spadilletop.TopSharedRing answers true and leaves its argument as it was (C5) -/
import Derived.Test.YtmpogedhilfjgaaGreatDoorC4
import Derived.Test.YtmpogedhilfjgaaGreatDoorCsM
set_option linter.all false
set_option maxRecDepth 1000000
set_option maxHeartbeats 4000000
open Go Go.Cs
namespace Go.Proofs.YtmpogedhilfjgaaGreatDoor
def c71 : FC := FC.mk 25 (.seq (.steps [⟨.box 75, [.tmp 0], some 2, none⟩,⟨.move, [.const (.bool false)], some 3, none⟩]) (.seq (.seq (.steps [⟨.loadN 2, [.tmp 2], some 6, none⟩,⟨.callF 72, [.tmp 6], some 7, none⟩,⟨.rangeMap, [.tmp 7], some 8, none⟩]) (.block 0 (.loop (.seq (.steps [⟨.nextMap, [.tmp 8], some 9, none⟩,⟨.extract 0, [.tmp 9], some 10, none⟩]) (.seq (.cond (.tmp 10) (.skip) (.exit 0)) (.block 1 (.seq (.steps [⟨.entry, [.tmp 8], some 11, none⟩,⟨.extract 0, [.tmp 11], some 12, none⟩,⟨.extract 1, [.tmp 11], some 13, none⟩,⟨.move, [.tmp 12], some 4, none⟩,⟨.move, [.tmp 13], some 5, none⟩]) (.seq (.steps [⟨.move, [.tmp 5], some 14, none⟩,⟨.load1, [.tmp 1], some 15, none⟩,⟨.move, [.tmp 4], some 16, none⟩,⟨.bin .sub, [.tmp 16, .const (.int .i64 1)], some 17, none⟩,⟨.indexAddrS 1, [.tmp 15, .tmp 17], some 18, none⟩,⟨.load1, [.tmp 18], some 19, none⟩,⟨.bin .gtr, [.tmp 14, .tmp 19], some 20, none⟩]) (.cond (.tmp 20) (.seq (.steps [⟨.move, [.const (.bool false)], some 3, none⟩]) (.ret)) (.skip)))))))))) (.seq (.steps [⟨.fieldAddr 1, [.tmp 2], some 21, none⟩,⟨.load1, [.tmp 21], some 22, none⟩,⟨.bin .and, [.tmp 22, .const (.int .u32 1)], some 23, none⟩,⟨.bin .eql, [.tmp 23, .const (.int .u32 1)], some 24, none⟩,⟨.move, [.tmp 24], some 3, none⟩]) (.ret)))) [.tmp 3]
theorem c71_ok : compF Tryz.prog 71 = some c71 := by kernel_rfl
theorem ableCb_ok {p : Int} (hp : 1 ≤ p ∧ p ≤ 21) {bd j : Nat} {l2 : List Int} (hlen : (l2.length : Int) = p - 1) {s n : Nat} {H : Heap} (hs : s < 2 ^ 32) (hg : aget H 0 = some gl) (hbd : aget H bd = some (.cells [gsl j l2.length] 22 none)) (hbn : bd < n) (hrow2 : OldRow H n j l2) (hfr : Fresh H n) (hn : n + 900 < lim) (hn0 : 0 < n) :
 F Tryz.prog [0] 71 (stampV p s :: [ptrAt bd 0]) H n (fun v H' n' => Fin H n 300 H' n' ∧ ∃ b, v = .bool b) := by
 refine F_of_comp c71_ok rfl ?_
 have hlim := limv
 refine WC_go hE hm ?_
 refine xNew (ob := .cells [.int .i64 p, .int .u32 (s : Int)] 75 none) (mk := .ptr) hfr (by omega) rfl rfl rfl rfl ?_
 intro H1 a2 a3 a4
 have f5 := (a3 _ (by omega)).trans hg
 have f6 := (a3 _ (by omega)).trans hbd
 have f7 : l2 ≠ [] → aget H1 j = some (.cells (ints l2) 3 (some 1)) := fun hne => by have hdm := (hrow2 hne).2; exact (a3 _ (by omega)).trans ((fun h => (hrow2 h).1) hne)
 refine xP rfl rfl rfl rfl ?_
 refine RXn ?_
 refine WLv (lv1 1 rfl (lv1 2 rfl lv0)) ?_
 refine WC_seq ?_
 refine WC_go hE hm ?_
 refine xR (v := .agg #[.int .i64 p, .int .u32 (s : Int)]) rfl rfl rfl (loadBox (xs := [.int .i64 p, .int .u32 (s : Int)]) a2 rfl) ?_
 refine xC rfl rfl rfl rfl (counts_ok hp hs f5 a4 (by omega) (by omega)) ?_
 rintro _ H8 n8 ⟨F8, b8, rfl, m8, hb8a, hb8b⟩
 have le8 := F8.le
 have rm8 := F8.room
 have f9 := (F8.keep _ (by omega)).trans f5
 have f10 := (F8.keep _ (by omega)).trans f6
 have f11 : l2 ≠ [] → aget H8 j = some (.cells (ints l2) 3 (some 1)) := fun hne => by have hdm := (hrow2 hne).2; exact (F8.keep _ (by omega)).trans (f7 hne)
 have f12 := (F8.keep _ (by omega)).trans a2
 obtain ⟨es13, clk13, hb13, hes13⟩ := m8
 refine xRange hb13 F8.fresh (by omega) rfl rfl ?_
 intro H14 a15 a16 a17
 have f18 := (a16 _ (by omega)).trans f9
 have f19 := (a16 _ (by omega)).trans f10
 have f20 : l2 ≠ [] → aget H14 j = some (.cells (ints l2) 3 (some 1)) := fun hne => by have hdm := (hrow2 hne).2; exact (a16 _ (by omega)).trans (f11 hne)
 have f21 := (a16 _ (by omega)).trans f12
 have f22 := (a16 _ (by omega)).trans hb13
 refine RXn ?_
 refine WLv (lv1 1 rfl (lv1 2 rfl (lv1 8 rfl lv0))) ?_
 refine WC_block ?_
 refine WC_loopX (X := List Nat × Heap) (fun y => { T := ofL [(1, .pointer (some ⟨bd, 0, none⟩)), (2, .pointer (some ⟨n, 0, none⟩)), (8, .pointer (some ⟨n8, 0, none⟩))], D := [], H := y.2, n := n8 + 1 })
  (fun y => aget y.2 (n8) = some (.miter (some b8) clk13 y.1 clk13) ∧ (∀ q, q ≠ n8 → aget y.2 q = aget H14 q) ∧ Fresh y.2 (n8 + 1)) (fun y => leftN es13 y.1) ([], H14) ⟨a15, (fun _ _ => rfl), a17⟩ ?_
 rintro ⟨sn, Hl⟩ ⟨hit, hkeep, hfl⟩
 dsimp only at *
 have l23 := (hkeep (0) (by omega)).trans f18
 have l24 := (hkeep (bd) (by omega)).trans f19
 have l25 : l2 ≠ [] → aget Hl j = some (.cells (ints l2) 3 (some 1)) := fun hne => by have hdm := (hrow2 hne).2; exact (hkeep _ (by omega)).trans (f20 hne)
 have l26 := (hkeep (n) (by omega)).trans f21
 have l27 := (hkeep (b8) (by omega)).trans f22
 refine WC_go hE hm ?_
 refine xNext l27 hit hes13 rfl rfl ?_ ?_
 · skip
   refine xP rfl rfl rfl rfl ?_
   refine RXn ?_
   refine WLv (lv1 1 rfl (lv1 2 rfl (lv1 8 rfl (lv1 10 rfl lv0)))) ?_
   refine WC_seq ?_
   refine WC_condF rfl ?_
   refine WC_exit ?_
   refine thenE ?_
   refine thenE ?_
   refine blockE ?_
   refine thenN ?_
   refine WLv (lv1 2 rfl lv0) ?_
   refine WC_go hE hm ?_
   refine xP rfl rfl rfl rfl ?_
   refine xR (v := .int .u32 (s : Int)) rfl rfl rfl (ld1 (o := 0 + 1) l26 rfl) ?_
   refine xAnd rfl rfl rfl hs (by decide) ?_
   refine xEq rfl rfl ?_ ?_ <;> intro h24
   · skip
     refine xP rfl rfl rfl rfl ?_
     refine RXn ?_
     refine WLv (lv1 3 rfl lv0) ?_
     refine WC_ret ?_
     refine endR rfl ?_
     exact ⟨⟨fun q hq => ((hkeep q (by omega)).trans ((a16 q (by omega)).trans ((F8.keep q (by omega)).trans (a3 q (by omega))))), hfl, by omega, by omega⟩, _, rfl⟩
   · skip
     refine xP rfl rfl rfl rfl ?_
     refine RXn ?_
     refine WLv (lv1 3 rfl lv0) ?_
     refine WC_ret ?_
     refine endR rfl ?_
     exact ⟨⟨fun q hq => ((hkeep q (by omega)).trans ((a16 q (by omega)).trans ((F8.keep q (by omega)).trans (a3 q (by omega))))), hfl, by omega, by omega⟩, _, rfl⟩
 · skip
   intro e ke xe He he hne hek hke hex hi2 hkp
   obtain ⟨hke1, hke2⟩ := hke
   have f28 := (hkp _ (by omega)).trans l23
   have f29 := (hkp _ (by omega)).trans l24
   have f30 : l2 ≠ [] → aget He j = some (.cells (ints l2) 3 (some 1)) := fun hne => by have hdm := (hrow2 hne).2; exact (hkp _ (by omega)).trans (l25 hne)
   have f31 := (hkp _ (by omega)).trans l26
   have f32 := (hkp _ (by omega)).trans l27
   have g33 : Fresh He (n8 + 1) := fun q h1 h2 => by rw [hkp q (by omega)]; exact hfl q h1 h2
   refine xP rfl rfl rfl rfl ?_
   refine RXn ?_
   refine WLv (lv1 1 rfl (lv1 2 rfl (lv1 8 rfl (lv1 10 rfl lv0)))) ?_
   refine WC_seq ?_
   refine WC_condT rfl ?_
   refine WC_skip ?_
   refine thenN ?_
   refine WLv (lv1 1 rfl (lv1 2 rfl (lv1 8 rfl lv0))) ?_
   refine WC_block ?_
   refine WC_go hE hm ?_
   refine xEntry f32 hi2 hes13 he hek hex rfl rfl ?_
   refine xP rfl rfl rfl rfl ?_
   refine xP rfl rfl rfl rfl ?_
   refine xP rfl rfl rfl rfl ?_
   refine xP rfl rfl rfl rfl ?_
   refine RXn ?_
   refine WLv (lv1 1 rfl (lv1 2 rfl (lv1 4 rfl (lv1 5 rfl (lv1 8 rfl lv0))))) ?_
   refine WC_go hE hm ?_
   refine xP rfl rfl rfl rfl ?_
   refine xR (v := gsl (j) (l2.length)) rfl rfl rfl (ld1 (o := 0) f29 rfl) ?_
   refine xP rfl rfl rfl rfl ?_
   refine xSub rfl rfl (by omega) ?_
   refine xIdxG rfl rfl ⟨by omega, by omega⟩ ?_
   have hne2 : l2 ≠ [] := List.ne_nil_of_length_pos (by omega)
   refine xLdI rfl rfl (f30 hne2) (by omega) ?_
   refine xCmp rfl rfl rfl rfl ?_ ?_ <;> intro h20
   · skip
     refine RXn ?_
     refine WLv (lv1 1 rfl (lv1 2 rfl (lv1 8 rfl (lv1 20 rfl lv0)))) ?_
     refine WC_condT rfl ?_
     refine WC_go hE hm ?_
     refine xP rfl rfl rfl rfl ?_
     refine RXn ?_
     refine WLv (lv1 3 rfl lv0) ?_
     refine WC_ret ?_
     refine blockR ?_
     refine thenR ?_
     refine blockR ?_
     refine thenR ?_
     refine endR rfl ?_
     exact ⟨⟨fun q hq => ((hkp q (by omega)).trans ((hkeep q (by omega)).trans ((a16 q (by omega)).trans ((F8.keep q (by omega)).trans (a3 q (by omega)))))), g33, by omega, by omega⟩, _, rfl⟩
   · skip
     refine RXn ?_
     refine WLv (lv1 1 rfl (lv1 2 rfl (lv1 8 rfl (lv1 20 rfl lv0)))) ?_
     refine WC_condF rfl ?_
     refine WC_skip ?_
     refine blockN ?_
     refine thenN ⟨(sn ++ [e.born], He), ⟨hi2, (fun q hq => (hkp q hq).trans (hkeep q hq)), g33⟩, leftN_next he hne, Le.live (lv1 1 rfl (lv1 2 rfl (lv1 8 rfl lv0)))⟩
end Go.Proofs.YtmpogedhilfjgaaGreatDoor
set_option maxRecDepth 1000000
set_option maxHeartbeats 4000000
open Go Go.Cs
namespace Go.Proofs.YtmpogedhilfjgaaGreatDoor
def sealC (e : Int × Nat × List Int) : List Value := [.int .i64 e.1, gsl e.2.1 e.2.2.length]
def sealsC (es : List (Int × Nat × List Int)) : List Value := es.flatMap sealC
theorem sealsC_len (es : List (Int × Nat × List Int)) : (sealsC es).length = es.length * 2 := by
 induction es with
 | nil => rfl
 | cons e es ih => simp only [sealsC, List.flatMap_cons, List.length_append] at ih ⊢; rw [ih]; simp only [sealC, List.length_cons, List.length_nil]; omega
theorem sealsC_snoc (es : List (Int × Nat × List Int)) (e : Int × Nat × List Int) : sealsC (es ++ [e]) = sealsC es ++ sealC e := by simp [sealsC]
def RInv (H0 : Heap) (bd j bo n0 : Nat) (l2 : List Int) (c : Nat) (H : Heap) (n : Nat) : Prop :=
 aget H 0 = some gl ∧ Fresh H n ∧ 0 < bd ∧ bd < bo ∧ bo < n0 ∧ n0 ≤ n ∧ aget H bd = some (.cells [gsl j l2.length] 22 none) ∧ (l2 ≠ [] → aget H j = some (.cells (ints l2) 3 (some 1)) ∧ j < bd) ∧
 (∀ q, q < n0 → q ≠ bo → aget H q = aget H0 q) ∧ ∃ (es : List (Int × Nat × List Int)) (io : Nat), aget H bo = some (.cells [gsl io es.length] 54 none) ∧ es.length ≤ c ∧ (es ≠ [] → aget H io = some (.cells (sealsC es) 24 (some 2)) ∧ n0 ≤ io ∧ io < n) ∧
  ∀ e ∈ es, e.2.2.length ≤ 21 ∧ (e.2.2 ≠ [] → aget H e.2.1 = some (.cells (ints e.2.2) 3 (some 1)) ∧ n0 ≤ e.2.1 ∧ e.2.1 < n ∧ (es ≠ [] → e.2.1 ≠ io))
theorem RInv.mono {H0 : Heap} {bd j bo n0 : Nat} {l2 : List Int} : ∀ c c' H n, c ≤ c' → RInv H0 bd j bo n0 l2 c H n → RInv H0 bd j bo n0 l2 c' H n :=
 fun c c' H n hc ⟨a, b, d, e, f, g, h, i, z, es, io, k, l, m⟩ => ⟨a, b, d, e, f, g, h, i, z, es, io, k, by omega, m⟩
theorem RInv.base {H0 : Heap} {bd j bo n0 : Nat} {l2 : List Int} : ∀ c H n, RInv H0 bd j bo n0 l2 c H n → aget H 0 = some gl ∧ Fresh H n ∧ 0 < n ∧ ∀ q, q = bo → q < n :=
 fun c H n ⟨a, b, d, e, f, g, h, _⟩ => ⟨a, b, by omega, fun q hq => by omega⟩
theorem RInv.stable {H0 : Heap} {bd j bo n0 : Nat} {l2 : List Int} : ∀ c H n H' n', RInv H0 bd j bo n0 l2 c H n → (∀ q, q < n → aget H' q = aget H q) → Fresh H' n' → n ≤ n' → RInv H0 bd j bo n0 l2 c H' n' :=
 fun c H n H' n' ⟨a, b, d, e, f, g, h, i, z, es, io, k, l, m, o⟩ hk hf hn => ⟨(hk 0 (by omega)).trans a, hf, d, e, f, by omega, (hk bd (by omega)).trans h, fun hne => ⟨(hk j (by have := (i hne).2; omega)).trans (i hne).1, (i hne).2⟩, (fun q h1 h2 => (hk q (by omega)).trans (z q h1 h2)), es, io, (hk bo (by omega)).trans k, l,
  fun hne => ⟨(hk io (m hne).2.2).trans (m hne).1, (m hne).2.1, by have := (m hne).2.2; omega⟩,
  fun x hx => ⟨(o x hx).1, fun hne => ⟨(hk _ ((o x hx).2 hne).2.2.1).trans ((o x hx).2 hne).1, ((o x hx).2 hne).2.1, by have := ((o x hx).2 hne).2.2.1; omega, ((o x hx).2 hne).2.2.2⟩⟩⟩
end Go.Proofs.YtmpogedhilfjgaaGreatDoor
open Go Go.Cs
namespace Go.Proofs.YtmpogedhilfjgaaGreatDoor
def tobR (o : AObj) : Prop := ∃ cs, o = .cells cs 24 (some 2)
theorem tobR_no (x y : Int) : ¬ tobR (.cells [.int .i64 x, .int .u32 y] 75 none) := fun ⟨cs, h⟩ => by cases h
theorem ableCbR {H0 : Heap} {p : Int} (hp : 1 ≤ p ∧ p ≤ 21) {bd j bo n0 : Nat} {l2 : List Int} (hlen : (l2.length : Int) = p - 1) (c s : Nat) (H : Heap) (n : Nat) (hs : s < 2 ^ 32) (hI : RInv H0 bd j bo n0 l2 c H n) (hn : n + 1000 < lim) :
 F Tryz.prog [0] 71 (stampV p s :: [ptrAt bd 0]) H n (CbPost (fun q => q = bo) tobR (RInv H0 bd j bo n0 l2 (c + 1)) 1000 H n) := by
 have hI' := hI
 obtain ⟨hg, hfr, h1, h2, h3, h4, hbd, hrow, _⟩ := hI'
 have hlim := limv
 refine (ableCb_ok hp hlen hs hg hbd (by omega) (fun h => ⟨(hrow h).1, by have := (hrow h).2; omega⟩) hfr (by omega) (by omega)).mono ?_
 rintro v H' n' ⟨hF, b, rfl⟩
 have hle := hF.le
 have hrm := hF.room
 exact ⟨⟨b, rfl⟩, RInv.mono _ _ _ _ (Nat.le_succ c) (RInv.stable _ _ _ _ _ hI (fun q hq => hF.keep q hq) hF.fresh hle), hle, by omega, fun q hq _ _ => hF.keep q hq⟩
end Go.Proofs.YtmpogedhilfjgaaGreatDoor
set_option maxRecDepth 1000000
set_option maxHeartbeats 4000000
open Go Go.Cs
namespace Go.Proofs.YtmpogedhilfjgaaGreatDoor
def c73 : FC := FC.mk 20 (.seq (.steps [⟨.box 75, [.tmp 0], some 3, none⟩,⟨.move, [.const (.bool false)], some 4, none⟩]) (.seq (.seq (.drawn [(0,⟨.loadN 2, [.tmp 3], some 5, none⟩), (2,⟨.loadN 2, [.tmp 3], some 7, none⟩), (1,⟨.callF 61, [.tmp 5], some 6, none⟩), (3,⟨.eqInts 2 false, [.tmp 6, .tmp 7], some 8, none⟩), (4,⟨.move, [.tmp 8], some 9, none⟩), (5,⟨.loadN 2, [.tmp 3], some 10, some (9, true)⟩), (7,⟨.load1, [.tmp 1], some 12, some (9, true)⟩), (6,⟨.callF 64, [.tmp 10], some 11, some (9, true)⟩), (8,⟨.callF 74, [.tmp 11, .tmp 12], some 13, some (9, true)⟩), (9,⟨.pick, [.tmp 9, .tmp 13, .const (.bool false)], some 14, none⟩)] [0, 1, 0, 7, 15, 31, 63, 31, 255, 511]) (.cond (.tmp 14) (.drawn [(0,⟨.load1, [.tmp 2], some 15, none⟩), (1,⟨.loadN 2, [.tmp 3], some 16, none⟩), (2,⟨.callF 60, [.tmp 16], some 17, none⟩), (3,⟨.buildSlice 24 1 [.int .i64 0, .slice none 0 0] [(0, 2)], [.tmp 17], some 18, none⟩), (4,⟨.append 24 2 32 [.int .i64 0, .slice none 0 0], [.tmp 15, .tmp 18], some 19, none⟩), (5,⟨.store 1, [.tmp 2, .tmp 19], none, none⟩)] [0, 0, 2, 6, 15, 31]) (.skip))) (.seq (.steps [⟨.move, [.const (.bool true)], some 4, none⟩]) (.ret)))) [.tmp 4]
theorem c73_ok : compF Tryz.prog 73 = some c73 := by kernel_rfl
theorem fromCb_ok {H0 : Heap} {p : Int} (hp : 1 ≤ p ∧ p ≤ 21) {bd j bo n0 : Nat} {l2 : List Int} (hlen : (l2.length : Int) = p - 1) (c s : Nat) (H : Heap) (n : Nat) (hc : c < 1000000000) (hs : s < 2 ^ 32) (hI : RInv H0 bd j bo n0 l2 c H n) (hn : n + 1000 < lim) :
 F Tryz.prog [0] 73 (stampV p s :: [ptrAt bd 0, ptrAt bo 0]) H n (CbPost (fun q => q = bo) tobR (RInv H0 bd j bo n0 l2 (c + 1)) 1000 H n) := by
 obtain ⟨hg, hfr, h1, h2, h3, h4, hbd, hrow2, hz, es, io0, hbo, hec, hrow0, hel0⟩ := hI
 have hn0 : 0 < n := by omega
 obtain ⟨io, hg1, hg2, hio⟩ : ∃ io, gsl io0 es.length = gsl io es.length ∧ (es ≠ [] → io = io0) ∧ (es = [] → lim ≤ io) := by
  by_cases h : es = []
  · exact ⟨lim, by rw [h]; rfl, fun h2 => absurd h h2, fun _ => Nat.le_refl _⟩
  · exact ⟨io0, rfl, fun _ => rfl, fun h2 => absurd h2 h⟩
 rw [hg1] at hbo
 have hrow3 : es ≠ [] → aget H io = some (.cells (sealsC es) 24 (some 2)) ∧ n0 ≤ io ∧ io < n := fun h => by rw [hg2 h]; exact hrow0 h
 have hel : ∀ e ∈ es, e.2.2.length ≤ 21 ∧ (e.2.2 ≠ [] → aget H e.2.1 = some (.cells (ints e.2.2) 3 (some 1)) ∧ n0 ≤ e.2.1 ∧ e.2.1 < n ∧ (es ≠ [] → e.2.1 ≠ io)) := fun e he => ⟨(hel0 e he).1, fun hne => by
  obtain ⟨x1, x2, x3, x4⟩ := (hel0 e he).2 hne
  exact ⟨x1, x2, x3, fun h => by rw [hg2 h]; exact x4 h⟩⟩
 refine F_of_comp c73_ok rfl ?_
 have hlim := limv
 refine WC_go hE hm ?_
 refine xNew (ob := .cells [.int .i64 p, .int .u32 (s : Int)] 75 none) (mk := .ptr) hfr (by omega) rfl rfl rfl rfl ?_
 intro H1 a2 a3 a4
 have f5 := (a3 _ (by omega)).trans hg
 have f6 := (a3 _ (by omega)).trans hbd
 have f7 : l2 ≠ [] → aget H1 j = some (.cells (ints l2) 3 (some 1)) := fun hne => by have hdm := (hrow2 hne).2; exact (a3 _ (by omega)).trans ((fun h => (hrow2 h).1) hne)
 have f8 := (a3 _ (by omega)).trans hbo
 have f9 : es ≠ [] → aget H1 io = some (.cells (sealsC es) 24 (some 2)) := fun hne => by have hdm := (hrow3 hne).2; exact (a3 _ (by omega)).trans ((fun h => (hrow3 h).1) hne)
 refine xP rfl rfl rfl rfl ?_
 refine RXn ?_
 refine WLv (lv1 1 rfl (lv1 2 rfl (lv1 3 rfl lv0))) ?_
 refine WC_seq ?_
 refine WC_goD hE hm ?_
 refine dR (v := .agg #[.int .i64 p, .int .u32 (s : Int)]) rfl rfl rfl (loadBox (xs := [.int .i64 p, .int .u32 (s : Int)]) a2 rfl) ?_
 refine dR (v := .agg #[.int .i64 p, .int .u32 (s : Int)]) rfl rfl rfl (loadBox (xs := [.int .i64 p, .int .u32 (s : Int)]) a2 rfl) ?_
 refine dC (f := 61) (args := [.agg #[.int .i64 p, .int .u32 (s : Int)]]) rfl rfl rfl rfl (first_ok hp hs f5) ?_
 rintro _ H9 n9 ⟨⟨w10, hw10, rfl⟩, hH9, hn9⟩
 obtain rfl := hH9.symm
 obtain rfl := hn9.symm
 refine ⟨stabSame, ?_⟩
 refine dX rfl (xP (v := .bool (((p == p) && (((w10 : Int) == (s : Int)) && true)) != false)) rfl rfl rfl rfl (RXn ?_))
 generalize (((p == p) && (((w10 : Int) == (s : Int)) && true)) != false) = e8
 refine dX rfl (xP rfl rfl rfl rfl (RXn ?_))
 cases e8 with
 | false =>
  refine dS rfl ?_
  refine dS rfl ?_
  refine dS rfl ?_
  refine dS rfl ?_
  refine dX rfl (xP rfl rfl rfl rfl (RXn ?_))
  refine dNil ?_
  refine WLv (lv1 2 rfl (lv1 3 rfl (lv1 14 rfl lv0))) ?_
  refine WC_condF rfl ?_
  refine WC_skip ?_
  refine thenN ?_
  refine WLv lv0 ?_
  refine WC_go hE hm ?_
  refine xP rfl rfl rfl rfl ?_
  refine RXn ?_
  refine WLv (lv1 4 rfl lv0) ?_
  refine WC_ret ?_
  refine endR rfl ?_
  refine ⟨⟨_, rfl⟩, ⟨f5, a4, h1, h2, h3, by omega, f6, (fun h => ⟨f7 h, (hrow2 h).2⟩), (fun q hq0 hqb => (show aget H1 q = aget H q from (fun (hq : q < n) (htc : q ≠ bo) => (a3 q (by omega))) (by omega) hqb).trans (hz q hq0 hqb)), es, io, f8, by omega, (fun h => ⟨f9 h, by have := hrow3 h; omega⟩), fun e he => ⟨(hel e he).1, fun hne => ?_⟩⟩, by omega, by omega, (fun q hq htc _ => (a3 q (by omega)))⟩
  have hE := (hel e he).2 hne
  exact ⟨(show aget H1 e.2.1 = aget H e.2.1 from (fun q (hq : q < n) => (a3 q (by omega))) e.2.1 hE.2.2.1).trans hE.1, hE.2.1, by omega, hE.2.2.2⟩
 | true =>
  refine dR (v := .agg #[.int .i64 p, .int .u32 (s : Int)]) rfl rfl rfl (loadBox (xs := [.int .i64 p, .int .u32 (s : Int)]) a2 rfl) ?_
  refine dR (v := gsl (j) (l2.length)) rfl rfl rfl (ld1 (o := 0) f6 rfl) ?_
  refine dC (f := 64) (args := [.agg #[.int .i64 p, .int .u32 (s : Int)]]) rfl rfl rfl rfl (distances_ok (p := p) (by omega) hs f5 a4 (by omega) (by omega)) ?_
  rintro _ H11 n11 ⟨F11, l11, i11, rfl, hl11, g11, hx11, hy11⟩
  have le11 := F11.le
  have rm11 := F11.room
  have f12 := (F11.keep _ (by omega)).trans f5
  have f13 := (F11.keep _ (by omega)).trans f6
  have f14 : l2 ≠ [] → aget H11 j = some (.cells (ints l2) 3 (some 1)) := fun hne => by have hdm := (hrow2 hne).2; exact (F11.keep _ (by omega)).trans (f7 hne)
  have f15 := (F11.keep _ (by omega)).trans f8
  have f16 : es ≠ [] → aget H11 io = some (.cells (sealsC es) 24 (some 2)) := fun hne => by have hdm := (hrow3 hne).2; exact (F11.keep _ (by omega)).trans (f9 hne)
  have f17 := (F11.keep _ (by omega)).trans a2
  refine ⟨stabOne ⟨7, ⟨.load1, [.tmp 1], some 12, some (9, true)⟩, .r [.pointer (some ⟨bd, 0, none⟩)] (gsl (j) (l2.length))⟩ (by kernel_rfl) (ld1 (o := 0) f13 rfl), ?_⟩
  refine dC (f := 74) (args := [.slice (some ⟨i11, 0, none⟩) l11.length l11.length, gsl (j) (l2.length)]) rfl rfl rfl rfl (equal_ok (by omega) (by omega) g11 (fun hne => ⟨f14 hne, by have := (hrow2 hne).2; omega⟩) F11.fresh) ?_
  rintro _ H9 n9 ⟨⟨eb18, rfl⟩, hH9, hn9⟩
  obtain rfl := hH9.symm
  obtain rfl := hn9.symm
  refine ⟨stabSame, ?_⟩
  refine dX rfl (xP rfl rfl rfl rfl (RXn ?_))
  refine dNil ?_
  refine WLv (lv1 2 rfl (lv1 3 rfl (lv1 14 rfl lv0))) ?_
  refine WC_cond rfl (fun h => ?_) (fun h => ?_)
  · skip
    refine WC_drawnD hE hm ?_
    refine dR (v := gsl (io) (es.length)) rfl rfl rfl (ld1 (o := 0) f15 rfl) ?_
    refine dR (v := .agg #[.int .i64 p, .int .u32 (s : Int)]) rfl rfl rfl (loadBox (xs := [.int .i64 p, .int .u32 (s : Int)]) f17 rfl) ?_
    refine dC (f := 60) (args := [.agg #[.int .i64 p, .int .u32 (s : Int)]]) rfl rfl rfl rfl (seal_ok hp hs f12 F11.fresh (by omega) (by omega)) ?_
    rintro _ H19 n19 ⟨F19, l19, i19, rfl, hl19, hx19, hr19⟩
    have le19 := F19.le
    have rm19 := F19.room
    have f20 := (F19.keep _ (by omega)).trans f12
    have f21 := (F19.keep _ (by omega)).trans f13
    have f22 : l2 ≠ [] → aget H19 j = some (.cells (ints l2) 3 (some 1)) := fun hne => by have hdm := (hrow2 hne).2; exact (F19.keep _ (by omega)).trans (f14 hne)
    have f23 := (F19.keep _ (by omega)).trans f15
    have f24 : es ≠ [] → aget H19 io = some (.cells (sealsC es) 24 (some 2)) := fun hne => by have hdm := (hrow3 hne).2; exact (F19.keep _ (by omega)).trans (f16 hne)
    have f25 := (F19.keep _ (by omega)).trans f17
    have f26 := (F19.keep _ (by omega)).trans g11
    refine ⟨stabOne ⟨0, ⟨.load1, [.tmp 2], some 15, none⟩, .r [.pointer (some ⟨bo, 0, none⟩)] (gsl (io) (es.length))⟩ (by kernel_rfl) (ld1 (o := 0) f23 rfl), ?_⟩
    refine dNew (ob := .cells [.int .i64 p, gsl (i19) (l19.length)] 24 none) (mk := .slice 1 1) F19.fresh (by omega) rfl rfl rfl rfl ?_
    intro H27 a28 a29 a30
    have f31 := (a29 _ (by omega)).trans f20
    have f32 := (a29 _ (by omega)).trans f21
    have f33 : l2 ≠ [] → aget H27 j = some (.cells (ints l2) 3 (some 1)) := fun hne => by have hdm := (hrow2 hne).2; exact (a29 _ (by omega)).trans (f22 hne)
    have f34 := (a29 _ (by omega)).trans f23
    have f35 : es ≠ [] → aget H27 io = some (.cells (sealsC es) 24 (some 2)) := fun hne => by have hdm := (hrow3 hne).2; exact (a29 _ (by omega)).trans (f24 hne)
    have f36 := (a29 _ (by omega)).trans f25
    have f37 := (a29 _ (by omega)).trans f26
    have f38 : l19 ≠ [] → aget H27 i19 = some (.cells (ints l19) 3 (some 1)) := fun hne => by have hdm := (hr19 hne).2; exact (a29 _ (by omega)).trans ((fun h => (hr19 h).1) hne)
    refine dAppend1g (b := io) (k := es.length) (j := n19) (cs := sealsC es) (new := [.int .i64 p, gsl (i19) (l19.length)]) a30 rfl rfl (by decide) (fun h => ⟨f35 (fun h2 => h (by rw [h2]; rfl)), by have := (hrow3 (fun h2 => h (by rw [h2]; rfl))).2; omega⟩) (fun h => by have h2 := List.length_eq_zero_iff.1 h; exact ⟨by rw [h2]; rfl, hio h2⟩) (sealsC_len es) a28 rfl (by simp only [List.all_cons, List.all_nil, gsl_cell1]; rfl) (by omega) (by omega) ?_
    intro H39 e40 e41 e42
    have hqi : ∀ q, q < n → (es ≠ [] → q ≠ io) → q ≠ io := fun q hq h => by
     by_cases h2 : es = []
     · have := hio h2; omega
     · exact h h2
    have f43 := (e41 (0) (by omega) (hqi _ (by omega) (fun h => by have := (hrow3 h).2; omega))).trans f31
    have f44 := (e41 (bd) (by omega) (hqi _ (by omega) (fun h => by have := (hrow3 h).2; omega))).trans f32
    have f45 : l2 ≠ [] → aget H39 j = some (.cells (ints l2) 3 (some 1)) := fun hne => by have hdm := (hrow2 hne).2; exact (e41 _ (by omega) (hqi _ (by omega) (fun h => by have := (hrow3 h).2; omega))).trans (f33 hne)
    have f46 := (e41 (bo) (by omega) (hqi _ (by omega) (fun h => by have := (hrow3 h).2; omega))).trans f34
    have f47 : True := trivial
    have f48 : True := trivial
    have hqnf49 : l19 ≠ [] → i19 ≠ io := fun hne => by
     have hdm := (hr19 hne).2
     by_cases h2 : es = []
     · have := hio h2; omega
     · have := (hrow3 h2).2; omega
    have f49 : l19 ≠ [] → aget H39 i19 = some (.cells (ints l19) 3 (some 1)) := fun hne => by have hdm := (hr19 hne).2; exact (e41 _ (by omega) (hqnf49 hne)).trans (f38 hne)
    have f50 : True := trivial
    refine ⟨stabE (by kernel_rfl), ?_⟩
    refine dStO (u := gsl ((n19 + 1)) ((es.length + 1))) [gsl ((n19 + 1)) ((es.length + 1))] f46 (by show _ ≤ _; simp) (gsl_cells _ _) (gsl_cell1 _ _) rfl rfl rfl (by omega) ?_
    intro H51 b52 b53
    have f54 := (b53 _ (by omega)).trans f43
    have f55 := (b53 _ (by omega)).trans f44
    have f56 : l2 ≠ [] → aget H51 j = some (.cells (ints l2) 3 (some 1)) := fun hne => by have hdm := (hrow2 hne).2; exact (b53 _ (by omega)).trans (f45 hne)
    have f57 : l19 ≠ [] → aget H51 i19 = some (.cells (ints l19) 3 (some 1)) := fun hne => by have hdm := (hr19 hne).2; exact (b53 _ (by omega)).trans (f49 hne)
    have f58 := (b53 _ (by omega)).trans e40
    have g59 : Fresh H51 (n19 + 1 + 1) := fun q h1 h2 => by rw [b53 q (by omega)]; exact e42 q h1 h2
    refine ⟨stabE (by kernel_rfl), ?_⟩
    refine dNil ?_
    refine thenN ?_
    refine WLv lv0 ?_
    refine WC_go hE hm ?_
    refine xP rfl rfl rfl rfl ?_
    refine RXn ?_
    refine WLv (lv1 4 rfl lv0) ?_
    refine WC_ret ?_
    refine endR rfl ?_
    have hes : ∀ e ∈ es, e.2.2 ≠ [] → aget H51 e.2.1 = aget H e.2.1 := fun e he hne => by
     have hE := (hel e he).2 hne
     have hneE : es ≠ [] := by rintro rfl; cases he
     have hx1 := hE.2.2.2 hneE
     have hx2 := hE.2.2.1
     have hx3 := hE.2.1
     have hx4 : e.2.1 ≠ bo := by omega
     exact (fun q (hq : q < n) (htc : q ≠ bo) (hqio : q ≠ io) => ((b53 q (by omega)).trans ((e41 q (by omega) hqio).trans ((a29 q (by omega)).trans ((F19.keep q (by omega)).trans ((F11.keep q (by omega)).trans (a3 q (by omega)))))))) e.2.1 hx2 hx4 hx1
    refine ⟨⟨_, rfl⟩, ⟨f54, g59, h1, h2, h3, by omega, f55, (fun h => ⟨f56 h, (hrow2 h).2⟩), (fun q hq0 hqb => (show aget H51 q = aget H q from (fun (hq : q < n) (htc : q ≠ bo) (hqio : q ≠ io) => ((b53 q (by omega)).trans ((e41 q (by omega) hqio).trans ((a29 q (by omega)).trans ((F19.keep q (by omega)).trans ((F11.keep q (by omega)).trans (a3 q (by omega)))))))) (by omega) hqb (hqi q (by omega) (fun h => by have := (hrow3 h).2; omega))).trans (hz q hq0 hqb)), es ++ [(p, i19, l19)], (n19 + 1), ?_, by simp only [List.length_append, List.length_cons, List.length_nil]; omega, (fun h => ⟨?_, by omega, by omega⟩), fun e he => ?_⟩, by omega, by omega, (fun q hq htc hno => ?_)⟩
    · rw [List.length_append]; exact b52
    · rw [sealsC_snoc]; exact f58
    · rcases List.mem_append.1 he with he | he
      · have hE := (hel e he).2
        refine ⟨(hel e he).1, fun hne => ⟨(hes e he hne).trans (hE hne).1, (hE hne).2.1, by have := (hE hne).2.2.1; omega, fun _ => by have := (hE hne).2.2.1; omega⟩⟩
      · rw [List.mem_singleton.1 he]
        exact ⟨by show l19.length ≤ 21; omega, fun hne => ⟨f57 hne, by show n0 ≤ i19; have := (hr19 hne).2; omega, by show i19 < _; have := (hr19 hne).2; omega, fun _ => by show i19 ≠ _; have := (hr19 hne).2; omega⟩⟩
    · have hqio : q ≠ io := by
       by_cases h2 : es = []
       · have := hio h2; omega
       · rintro rfl; exact hno _ (hrow3 h2).1 ⟨_, rfl⟩
      exact ((b53 q (by omega)).trans ((e41 q (by omega) hqio).trans ((a29 q (by omega)).trans ((F19.keep q (by omega)).trans ((F11.keep q (by omega)).trans (a3 q (by omega)))))))
  · skip
    refine WC_skip ?_
    refine thenN ?_
    refine WLv lv0 ?_
    refine WC_go hE hm ?_
    refine xP rfl rfl rfl rfl ?_
    refine RXn ?_
    refine WLv (lv1 4 rfl lv0) ?_
    refine WC_ret ?_
    refine endR rfl ?_
    refine ⟨⟨_, rfl⟩, ⟨f12, F11.fresh, h1, h2, h3, by omega, f13, (fun h => ⟨f14 h, (hrow2 h).2⟩), (fun q hq0 hqb => (show aget H11 q = aget H q from (fun (hq : q < n) (htc : q ≠ bo) => ((F11.keep q (by omega)).trans (a3 q (by omega)))) (by omega) hqb).trans (hz q hq0 hqb)), es, io, f15, by omega, (fun h => ⟨f16 h, by have := hrow3 h; omega⟩), fun e he => ⟨(hel e he).1, fun hne => ?_⟩⟩, by omega, by omega, (fun q hq htc _ => ((F11.keep q (by omega)).trans (a3 q (by omega))))⟩
    have hE := (hel e he).2 hne
    exact ⟨(show aget H11 e.2.1 = aget H e.2.1 from (fun q (hq : q < n) => ((F11.keep q (by omega)).trans (a3 q (by omega)))) e.2.1 hE.2.2.1).trans hE.1, hE.2.1, by omega, hE.2.2.2⟩
end Go.Proofs.YtmpogedhilfjgaaGreatDoor
set_option maxRecDepth 1000000
set_option maxHeartbeats 4000000
open Go Go.Cs
namespace Go.Proofs.YtmpogedhilfjgaaGreatDoor
def cS : Nat → Nat
 | 0 => 0
 | k + 1 => cS k + cB k
theorem cS_le : ∀ k, k ≤ 6 → cS k + cB k ≤ 320000000 := by
 intro k hk
 have : k = 0 ∨ k = 1 ∨ k = 2 ∨ k = 3 ∨ k = 4 ∨ k = 5 ∨ k = 6 := by omega
 rcases this with h | h | h | h | h | h | h <;> subst h <;> decide
theorem cS_le7 : ∀ k, k ≤ 7 → cS k ≤ 320000000 := by
 intro k hk
 cases k with
 | zero => decide
 | succ k => exact cS_le k (by omega)
def c36 : FC := FC.mk 62 (.seq (.steps [⟨.box 22, [.tmp 1], some 3, none⟩,⟨.move, [.const (.slice none 0 0)], some 4, none⟩,⟨.move, [.const (.int .i64 0)], some 5, none⟩]) (.seq (.block 0 (.seq (.steps [⟨.move, [.tmp 0], some 13, none⟩,⟨.bin .lss, [.tmp 13, .const (.int .i64 1)], some 14, none⟩,⟨.move, [.tmp 14], some 15, none⟩,⟨.move, [.tmp 0], some 16, some (15, false)⟩,⟨.bin .gtr, [.tmp 16, .const (.int .i64 21)], some 17, some (15, false)⟩,⟨.pick, [.tmp 15, .const (.bool true), .tmp 17], some 18, none⟩,⟨.move, [.tmp 18], some 12, none⟩]) (.cond (.tmp 12) (.seq (.steps [⟨.move, [.const (.slice none 0 0)], some 4, none⟩,⟨.move, [.const (.int .i64 1)], some 5, none⟩]) (.ret)) (.seq (.steps [⟨.load1, [.tmp 3], some 20, none⟩,⟨.lenS, [.tmp 20], some 21, none⟩,⟨.move, [.tmp 0], some 22, none⟩,⟨.bin .sub, [.tmp 22, .const (.int .i64 1)], some 23, none⟩,⟨.bin .neq, [.tmp 21, .tmp 23], some 24, none⟩,⟨.move, [.tmp 24], some 19, none⟩]) (.cond (.tmp 19) (.seq (.steps [⟨.move, [.const (.slice none 0 0)], some 4, none⟩,⟨.move, [.const (.int .i64 5)], some 5, none⟩]) (.ret)) (.skip)))))) (.seq (.steps [⟨.move, [.const (.int .i64 0)], some 6, none⟩]) (.seq (.seq (.steps [⟨.load1, [.tmp 3], some 25, none⟩,⟨.lenS, [.tmp 25], some 26, none⟩,⟨.move, [.const (.int .i64 0)], some 27, none⟩]) (.block 1 (.loop (.seq (.steps [⟨.bin .lss, [.tmp 27, .tmp 26], some 28, none⟩]) (.seq (.cond (.tmp 28) (.skip) (.exit 1)) (.seq (.block 2 (.seq (.steps [⟨.indexAddrS 1, [.tmp 25, .tmp 27], some 29, none⟩,⟨.load1, [.tmp 29], some 30, none⟩,⟨.move, [.tmp 30], some 8, none⟩]) (.seq (.seq (.steps [⟨.move, [.tmp 8], some 31, none⟩,⟨.bin .lss, [.tmp 31, .const (.int .i64 0)], some 32, none⟩,⟨.move, [.tmp 32], some 33, none⟩,⟨.move, [.tmp 8], some 34, some (33, false)⟩,⟨.bin .gtr, [.tmp 34, .const (.int .i64 6)], some 35, some (33, false)⟩,⟨.pick, [.tmp 33, .const (.bool true), .tmp 35], some 36, none⟩]) (.cond (.tmp 36) (.seq (.steps [⟨.move, [.const (.slice none 0 0)], some 4, none⟩,⟨.move, [.const (.int .i64 1)], some 5, none⟩]) (.ret)) (.skip))) (.steps [⟨.move, [.tmp 6], some 37, none⟩,⟨.move, [.tmp 8], some 38, none⟩,⟨.bin .add, [.tmp 37, .tmp 38], some 39, none⟩,⟨.move, [.tmp 39], some 6, none⟩])))) (.steps [⟨.bin .add, [.tmp 27, .const (.int .i64 1)], some 40, none⟩,⟨.move, [.tmp 40], some 27, none⟩]))))))) (.seq (.steps [⟨.mkFunc (.func 71) 0, [.tmp 3], some 41, none⟩,⟨.move, [.tmp 41], some 9, none⟩]) (.seq (.steps [⟨.alloc 54 [.slice none 0 0], [], some 10, none⟩]) (.seq (.seq (.steps [⟨.move, [.tmp 0], some 42, none⟩,⟨.bmin, [.const (.int .i64 6), .tmp 42], some 43, none⟩,⟨.bin .add, [.tmp 43, .const (.int .i64 1)], some 44, none⟩,⟨.move, [.const (.int .i64 0)], some 45, none⟩]) (.block 3 (.loop (.seq (.steps [⟨.bin .lss, [.tmp 45, .tmp 44], some 46, none⟩]) (.seq (.cond (.tmp 46) (.skip) (.exit 3)) (.seq (.block 4 (.seq (.steps [⟨.move, [.tmp 45], some 47, none⟩,⟨.move, [.tmp 47], some 11, none⟩]) (.seq (.steps [⟨.move, [.tmp 11], some 48, none⟩,⟨.move, [.tmp 11], some 49, none⟩,⟨.bin .sub, [.tmp 49, .const (.int .i64 1)], some 50, none⟩,⟨.bin .mul, [.tmp 48, .tmp 50], some 51, none⟩,⟨.move, [.tmp 6], some 52, none⟩,⟨.bin .eql, [.tmp 51, .tmp 52], some 53, none⟩]) (.cond (.tmp 53) (.steps [⟨.move, [.tmp 0], some 54, none⟩,⟨.build [.int .i64 0, .int .u32 0] [(0, 1)], [.tmp 54], some 55, none⟩,⟨.move, [.tmp 11], some 56, none⟩,⟨.move, [.tmp 9], some 57, none⟩,⟨.mkFunc (.func 73) 0, [.tmp 3, .tmp 10], some 58, none⟩,⟨.callF 68, [.tmp 55, .const (.int .i64 0), .tmp 56, .tmp 57, .tmp 58], some 59, none⟩]) (.skip))))) (.steps [⟨.bin .add, [.tmp 45, .const (.int .i64 1)], some 60, none⟩,⟨.move, [.tmp 60], some 45, none⟩]))))))) (.seq (.steps [⟨.load1, [.tmp 10], some 61, none⟩,⟨.move, [.tmp 61], some 4, none⟩,⟨.move, [.const (.int .i64 0)], some 5, none⟩]) (.ret))))))))) [.tmp 4, .tmp 5]
theorem c36_ok : compF Tryz.prog 36 = some c36 := by kernel_rfl
theorem from_ok {p : Int} {j : Nat} {l2 : List Int} (hll2 : l2.length ≤ 1000000) {H : Heap} {n : Nat} (hg : aget H 0 = some gl) (hrow2 : OldRow H n j l2) (hfr : Fresh H n) (hn : n + 90000000000000 < lim) (hn0 : 0 < n) :
 F Tryz.prog [0] 36 [.int .i64 p, gsl j l2.length] H n (fun v H' n' => Fin H n 80000000000000 H' n' ∧ ∃ (e : Int) (es : List (Int × Nat × List Int)) (io : Nat), v = .tuple #[gsl io es.length, .int .i64 e] ∧ es.length ≤ 320000000 ∧ (es ≠ [] → aget H' io = some (.cells (sealsC es) 24 (some 2)) ∧ n ≤ io ∧ io < n') ∧ ∀ e ∈ es, e.2.2.length ≤ 21 ∧ (e.2.2 ≠ [] → aget H' e.2.1 = some (.cells (ints e.2.2) 3 (some 1)) ∧ n ≤ e.2.1 ∧ e.2.1 < n')) := by
 refine F_of_comp c36_ok rfl ?_
 have hlim := limv
 refine WC_go hE hm ?_
 refine xNew (ob := .cells [gsl (j) (l2.length)] 22 none) (mk := .ptr) hfr (by omega) rfl rfl rfl (by simp [semA, aBox, gsl_cells, gsl_cell1]) ?_
 intro H1 a2 a3 a4
 have f5 := (a3 _ (by omega)).trans hg
 have f6 : l2 ≠ [] → aget H1 j = some (.cells (ints l2) 3 (some 1)) := fun hne => by have hdm := (hrow2 hne).2; exact (a3 _ (by omega)).trans ((fun h => (hrow2 h).1) hne)
 refine xP rfl rfl rfl rfl ?_
 refine xP rfl rfl rfl rfl ?_
 refine RXn ?_
 refine WLv (lv1 0 rfl (lv1 3 rfl lv0)) ?_
 refine WC_seq ?_
 refine WC_block ?_
 refine WC_go hE hm ?_
 refine xP rfl rfl rfl rfl ?_
 refine xCmp rfl rfl rfl rfl ?_ ?_ <;> intro h14
 · skip
   refine xP rfl rfl rfl rfl ?_
   refine xS rfl ?_
   refine xS rfl ?_
   refine xP rfl rfl rfl rfl ?_
   refine xP rfl rfl rfl rfl ?_
   refine RXn ?_
   refine WLv (lv1 0 rfl (lv1 3 rfl (lv1 12 rfl lv0))) ?_
   refine WC_condT rfl ?_
   refine WC_go hE hm ?_
   refine xP rfl rfl rfl rfl ?_
   refine xP rfl rfl rfl rfl ?_
   refine RXn ?_
   refine WLv (lv1 4 rfl (lv1 5 rfl lv0)) ?_
   refine WC_ret ?_
   refine blockR ?_
   refine thenR ?_
   refine endR rfl ?_
   exact ⟨⟨fun q hq => (a3 q (by omega)), a4, by omega, by omega⟩, _, [], 0, rfl, by decide, fun h => absurd rfl h, fun e he => by cases he⟩
 · skip
   refine xP rfl rfl rfl rfl ?_
   refine xP rfl rfl rfl rfl ?_
   refine xCmp rfl rfl rfl rfl ?_ ?_ <;> intro h17
   · skip
     refine xP rfl rfl rfl rfl ?_
     refine xP rfl rfl rfl rfl ?_
     refine RXn ?_
     refine WLv (lv1 0 rfl (lv1 3 rfl (lv1 12 rfl lv0))) ?_
     refine WC_condT rfl ?_
     refine WC_go hE hm ?_
     refine xP rfl rfl rfl rfl ?_
     refine xP rfl rfl rfl rfl ?_
     refine RXn ?_
     refine WLv (lv1 4 rfl (lv1 5 rfl lv0)) ?_
     refine WC_ret ?_
     refine blockR ?_
     refine thenR ?_
     refine endR rfl ?_
     exact ⟨⟨fun q hq => (a3 q (by omega)), a4, by omega, by omega⟩, _, [], 0, rfl, by decide, fun h => absurd rfl h, fun e he => by cases he⟩
   · skip
     refine xP rfl rfl rfl rfl ?_
     refine xP rfl rfl rfl rfl ?_
     refine RXn ?_
     refine WLv (lv1 0 rfl (lv1 3 rfl (lv1 12 rfl lv0))) ?_
     refine WC_condF rfl ?_
     refine WC_go hE hm ?_
     refine xR (v := gsl (j) (l2.length)) rfl rfl rfl (ld1 (o := 0) a2 rfl) ?_
     refine xP (v := .int .i64 ((l2.length : Nat) : Int)) rfl rfl rfl (SliceAt.gsl _ _).lenS ?_
     refine xP rfl rfl rfl rfl ?_
     refine xSub rfl rfl (by omega) ?_
     refine xNe rfl rfl ?_ ?_ <;> intro h24
     · skip
       refine xP rfl rfl rfl rfl ?_
       refine RXn ?_
       refine WLv (lv1 0 rfl (lv1 3 rfl (lv1 19 rfl lv0))) ?_
       refine WC_condT rfl ?_
       refine WC_go hE hm ?_
       refine xP rfl rfl rfl rfl ?_
       refine xP rfl rfl rfl rfl ?_
       refine RXn ?_
       refine WLv (lv1 4 rfl (lv1 5 rfl lv0)) ?_
       refine WC_ret ?_
       refine blockR ?_
       refine thenR ?_
       refine endR rfl ?_
       exact ⟨⟨fun q hq => (a3 q (by omega)), a4, by omega, by omega⟩, _, [], 0, rfl, by decide, fun h => absurd rfl h, fun e he => by cases he⟩
     · skip
       refine xP rfl rfl rfl rfl ?_
       refine RXn ?_
       refine WLv (lv1 0 rfl (lv1 3 rfl (lv1 19 rfl lv0))) ?_
       refine WC_condF rfl ?_
       refine WC_skip ?_
       refine blockN ?_
       refine thenN ?_
       refine WLv (lv1 0 rfl (lv1 3 rfl lv0)) ?_
       refine WC_go hE hm ?_
       refine xP rfl rfl rfl rfl ?_
       refine RXn ?_
       refine WLv (lv1 0 rfl (lv1 3 rfl (lv1 6 rfl lv0))) ?_
       refine WC_seq ?_
       refine WC_go hE hm ?_
       refine xR (v := gsl (j) (l2.length)) rfl rfl rfl (ld1 (o := 0) a2 rfl) ?_
       refine xP (v := .int .i64 ((l2.length : Nat) : Int)) rfl rfl rfl (SliceAt.gsl _ _).lenS ?_
       refine xP rfl rfl rfl rfl ?_
       refine RXn ?_
       refine WLv (lv1 0 rfl (lv1 3 rfl (lv1 6 rfl (lv1 25 rfl (lv1 26 rfl (lv1 27 rfl lv0)))))) ?_
       refine WC_block ?_
       refine WC_loopX (X := Nat × Int) (fun y => { T := ofL [(0, .int .i64 p), (3, .pointer (some ⟨n, 0, none⟩)), (6, .int .i64 y.2), (25, gsl (j) (l2.length)), (26, .int .i64 ((l2.length : Nat) : Int)), (27, .int .i64 (y.1 : Int))], D := [], H := H1, n := n + 1 }) (fun y => y.1 ≤ l2.length ∧ 0 ≤ y.2 ∧ y.2 ≤ 6 * y.1) (fun y => l2.length - y.1) (0, 0) (by dsimp only; omega) ?_
       rintro ⟨k, sum⟩ ⟨hk, hs0, hs1⟩
       dsimp only at *
       refine WC_go hE hm ?_
       refine xCmp rfl rfl rfl rfl ?_ ?_ <;> intro h28
       · skip
         refine RXn ?_
         refine WLv (lv1 0 rfl (lv1 3 rfl (lv1 6 rfl (lv1 25 rfl (lv1 26 rfl (lv1 27 rfl (lv1 28 rfl lv0))))))) ?_
         refine WC_seq ?_
         refine WC_condT rfl ?_
         refine WC_skip ?_
         refine thenN ?_
         refine WLv (lv1 0 rfl (lv1 3 rfl (lv1 6 rfl (lv1 25 rfl (lv1 26 rfl (lv1 27 rfl lv0)))))) ?_
         refine WC_seq ?_
         refine WC_block ?_
         refine WC_go hE hm ?_
         refine xIdxG rfl rfl ⟨by omega, by omega⟩ ?_
         have hne2 : l2 ≠ [] := List.ne_nil_of_length_pos (by omega)
         refine xLdI rfl rfl (f6 hne2) (by omega) ?_
         generalize (l2).getD ((k : Int)).toNat 0 = z
         refine xP rfl rfl rfl rfl ?_
         refine RXn ?_
         refine WLv (lv1 0 rfl (lv1 3 rfl (lv1 6 rfl (lv1 8 rfl (lv1 25 rfl (lv1 26 rfl (lv1 27 rfl lv0))))))) ?_
         refine WC_seq ?_
         refine WC_go hE hm ?_
         refine xP rfl rfl rfl rfl ?_
         refine xCmp rfl rfl rfl rfl ?_ ?_ <;> intro h32
         · skip
           refine xP rfl rfl rfl rfl ?_
           refine xS rfl ?_
           refine xS rfl ?_
           refine xP rfl rfl rfl rfl ?_
           refine RXn ?_
           refine WLv (lv1 0 rfl (lv1 3 rfl (lv1 6 rfl (lv1 8 rfl (lv1 25 rfl (lv1 26 rfl (lv1 27 rfl (lv1 36 rfl lv0)))))))) ?_
           refine WC_condT rfl ?_
           refine WC_go hE hm ?_
           refine xP rfl rfl rfl rfl ?_
           refine xP rfl rfl rfl rfl ?_
           refine RXn ?_
           refine WLv (lv1 4 rfl (lv1 5 rfl lv0)) ?_
           refine WC_ret ?_
           refine thenR ?_
           refine blockR ?_
           refine thenR ?_
           refine thenR ?_
           refine blockR ?_
           refine thenR ?_
           refine endR rfl ?_
           exact ⟨⟨fun q hq => (a3 q (by omega)), a4, by omega, by omega⟩, _, [], 0, rfl, by decide, fun h => absurd rfl h, fun e he => by cases he⟩
         · skip
           refine xP rfl rfl rfl rfl ?_
           refine xP rfl rfl rfl rfl ?_
           refine xCmp rfl rfl rfl rfl ?_ ?_ <;> intro h35
           · skip
             refine xP rfl rfl rfl rfl ?_
             refine RXn ?_
             refine WLv (lv1 0 rfl (lv1 3 rfl (lv1 6 rfl (lv1 8 rfl (lv1 25 rfl (lv1 26 rfl (lv1 27 rfl (lv1 36 rfl lv0)))))))) ?_
             refine WC_condT rfl ?_
             refine WC_go hE hm ?_
             refine xP rfl rfl rfl rfl ?_
             refine xP rfl rfl rfl rfl ?_
             refine RXn ?_
             refine WLv (lv1 4 rfl (lv1 5 rfl lv0)) ?_
             refine WC_ret ?_
             refine thenR ?_
             refine blockR ?_
             refine thenR ?_
             refine thenR ?_
             refine blockR ?_
             refine thenR ?_
             refine endR rfl ?_
             exact ⟨⟨fun q hq => (a3 q (by omega)), a4, by omega, by omega⟩, _, [], 0, rfl, by decide, fun h => absurd rfl h, fun e he => by cases he⟩
           · skip
             refine xP rfl rfl rfl rfl ?_
             refine RXn ?_
             refine WLv (lv1 0 rfl (lv1 3 rfl (lv1 6 rfl (lv1 8 rfl (lv1 25 rfl (lv1 26 rfl (lv1 27 rfl (lv1 36 rfl lv0)))))))) ?_
             refine WC_condF rfl ?_
             refine WC_skip ?_
             refine thenN ?_
             refine WLv (lv1 0 rfl (lv1 3 rfl (lv1 6 rfl (lv1 8 rfl (lv1 25 rfl (lv1 26 rfl (lv1 27 rfl lv0))))))) ?_
             refine WC_steps hE hm ?_
             refine xP rfl rfl rfl rfl ?_
             refine xP rfl rfl rfl rfl ?_
             refine xAdd rfl rfl (by omega) ?_
             refine xP rfl rfl rfl rfl ?_
             refine RXn ?_
             refine blockN ?_
             refine thenN ?_
             refine WLv (lv1 0 rfl (lv1 3 rfl (lv1 6 rfl (lv1 25 rfl (lv1 26 rfl (lv1 27 rfl lv0)))))) ?_
             refine WC_steps hE hm ?_
             refine xAdd rfl rfl (by omega) ?_
             refine xP rfl rfl rfl rfl ?_
             refine RXn ?_
             refine thenN ⟨(k + 1, (sum + z)), by dsimp only; omega, by dsimp only; omega, Le.live (lv1 0 rfl (lv1 3 rfl (lv1 6 rfl (lv1 25 rfl (lv1 26 rfl (lv1 27 rfl lv0))))))⟩
       · skip
         refine RXn ?_
         refine WLv (lv1 0 rfl (lv1 3 rfl (lv1 6 rfl (lv1 25 rfl (lv1 26 rfl (lv1 27 rfl (lv1 28 rfl lv0))))))) ?_
         refine WC_seq ?_
         refine WC_condF rfl ?_
         refine WC_exit ?_
         refine thenE ?_
         refine thenE ?_
         refine blockE ?_
         refine thenN ?_
         refine WLv (lv1 0 rfl (lv1 3 rfl (lv1 6 rfl lv0))) ?_
         refine WC_go hE hm ?_
         refine xP (v := .func (.func 71) #[] #[.pointer (some ⟨n, 0, none⟩)]) rfl rfl rfl rfl ?_
         refine xP rfl rfl rfl rfl ?_
         refine RXn ?_
         refine WLv (lv1 0 rfl (lv1 3 rfl (lv1 6 rfl (lv1 9 rfl lv0)))) ?_
         refine WC_go hE hm ?_
         refine xNew (ob := .cells [.slice none 0 0] 54 none) (mk := .ptr) a4 (by omega) rfl rfl rfl rfl ?_
         intro H7 a8 a9 a10
         have f11 := (a9 _ (by omega)).trans f5
         have f12 : l2 ≠ [] → aget H7 j = some (.cells (ints l2) 3 (some 1)) := fun hne => by have hdm := (hrow2 hne).2; exact (a9 _ (by omega)).trans (f6 hne)
         have f13 := (a9 _ (by omega)).trans a2
         refine RXn ?_
         refine WLv (lv1 0 rfl (lv1 3 rfl (lv1 6 rfl (lv1 9 rfl (lv1 10 rfl lv0))))) ?_
         refine WC_seq ?_
         refine WC_go hE hm ?_
         refine xP rfl rfl rfl rfl ?_
         refine xMin [p] rfl rfl ?_
         simp only [List.foldl_cons, List.foldl_nil]
         refine xAdd rfl rfl (by omega) ?_
         refine xP rfl rfl rfl rfl ?_
         refine RXn ?_
         refine WLv (lv1 0 rfl (lv1 3 rfl (lv1 6 rfl (lv1 9 rfl (lv1 10 rfl (lv1 44 rfl (lv1 45 rfl lv0))))))) ?_
         refine WC_block ?_
         have hp : 1 ≤ p ∧ p ≤ 21 := ⟨by omega, by omega⟩
         have hI0 : RInv H7 (n) j (n + 1) (n + 1 + 1) l2 (cS 0) H7 (n + 1 + 1) := ⟨f11, a10, by omega, by omega, by omega, by omega, f13, (fun h => ⟨f12 h, by have := (hrow2 h).2; omega⟩), (fun _ _ _ => rfl), [], 0, a8, by decide, fun h => absurd rfl h, fun e he => by cases he⟩
         refine WC_loopX (X := Nat × Heap × Nat) (fun y => { T := ofL [(0, .int .i64 p), (3, .pointer (some ⟨n, 0, none⟩)), (6, .int .i64 sum), (9, .func (.func 71) #[] #[.pointer (some ⟨n, 0, none⟩)]), (10, .pointer (some ⟨n + 1, 0, none⟩)), (44, .int .i64 ((min 6 p) + 1)), (45, .int .i64 (y.1 : Int))], D := [], H := y.2.1, n := y.2.2 })
          (fun y => y.1 ≤ 7 ∧ (y.1 : Int) ≤ min 6 p + 1 ∧ RInv H7 (n) j (n + 1) (n + 1 + 1) l2 (cS y.1) y.2.1 y.2.2 ∧ y.2.2 ≤ n + 2 + y.1 * 10000000000000)
          (fun y => 8 - y.1) (0, H7, n + 1 + 1) ⟨by dsimp only; omega, by dsimp only; omega, hI0, by dsimp only; omega⟩ ?_
         rintro ⟨k, Hl, nl⟩ ⟨i1, i2, i3, i4⟩
         dsimp only at *
         have hcS := cS_le7 k (by omega)
         have hnl : n + 1 + 1 ≤ nl := i3.2.2.2.2.2.1
         refine WC_go hE hm ?_
         refine xCmp rfl rfl rfl rfl ?_ ?_ <;> intro h46
         · skip
           refine RXn ?_
           refine WLv (lv1 0 rfl (lv1 3 rfl (lv1 6 rfl (lv1 9 rfl (lv1 10 rfl (lv1 44 rfl (lv1 45 rfl (lv1 46 rfl lv0)))))))) ?_
           refine WC_seq ?_
           refine WC_condT rfl ?_
           refine WC_skip ?_
           refine thenN ?_
           refine WLv (lv1 0 rfl (lv1 3 rfl (lv1 6 rfl (lv1 9 rfl (lv1 10 rfl (lv1 44 rfl (lv1 45 rfl lv0))))))) ?_
           refine WC_seq ?_
           refine WC_block ?_
           refine WC_go hE hm ?_
           refine xP rfl rfl rfl rfl ?_
           refine xP rfl rfl rfl rfl ?_
           refine RXn ?_
           refine WLv (lv1 0 rfl (lv1 3 rfl (lv1 6 rfl (lv1 9 rfl (lv1 10 rfl (lv1 11 rfl (lv1 44 rfl (lv1 45 rfl lv0)))))))) ?_
           refine WC_go hE hm ?_
           refine xP rfl rfl rfl rfl ?_
           refine xP rfl rfl rfl rfl ?_
           refine xSub rfl rfl (by omega) ?_
           refine xP (v := .int .i64 (IntKind.i64.wrap ((k : Int) * ((k : Int) - 1)))) rfl rfl rfl rfl ?_
           refine xP rfl rfl rfl rfl ?_
           refine xEq rfl rfl ?_ ?_ <;> intro h53
           · skip
             refine RXn ?_
             refine WLv (lv1 0 rfl (lv1 3 rfl (lv1 6 rfl (lv1 9 rfl (lv1 10 rfl (lv1 11 rfl (lv1 44 rfl (lv1 45 rfl (lv1 53 rfl lv0))))))))) ?_
             refine WC_condT rfl ?_
             refine WC_steps hE hm ?_
             refine xP rfl rfl rfl rfl ?_
             refine xBuild [.int .i64 p, .int .u32 0] rfl rfl rfl ?_
             refine xP rfl rfl rfl rfl ?_
             refine xP rfl rfl rfl rfl ?_
             refine xP (v := .func (.func 73) #[] #[.pointer (some ⟨n, 0, none⟩), .pointer (some ⟨n + 1, 0, none⟩)]) rfl rfl rfl rfl ?_
             have hG := gB_le k (by omega)
             have hC := cS_le k (by omega)
             refine xC rfl rfl rfl rfl (grown_ok (p := p) hp (fa := 71) (fe := 73) (ca := #[ptrAt (n) 0]) (ce := #[ptrAt (n) 0, ptrAt (n + 1) 0]) (kc := 1000) (cm := 320000000) (tc := fun q => q = n + 1) (Inv := RInv H7 (n) j (n + 1) (n + 1 + 1) l2) (tob := tobR) tobR_no RInv.mono RInv.base RInv.stable (fun c s H n _ hs hI hn => ableCbR hp (by omega) c s H n hs hI hn) (fun c s H n hc hs hI hn => fromCb_ok hp (by omega) c s H n (by omega) hs hI hn) k 0 0 (k : Int) (cS k) _ _ rfl (by omega) (by omega) (by omega) (by decide) i3 (by omega) (by omega)) ?_
             rintro _ H14 n14 ⟨⟨b14, rfl⟩, hI14, hle14, hrm14, hkp14⟩
             replace hI14 : RInv H7 (n) j (n + 1) (n + 1 + 1) l2 (cS (k + 1)) H14 n14 := hI14
             refine RXn ?_
             refine blockN ?_
             refine thenN ?_
             refine WLv (lv1 0 rfl (lv1 3 rfl (lv1 6 rfl (lv1 9 rfl (lv1 10 rfl (lv1 44 rfl (lv1 45 rfl lv0))))))) ?_
             refine WC_steps hE hm ?_
             refine xAdd rfl rfl (by omega) ?_
             refine xP rfl rfl rfl rfl ?_
             refine RXn ?_
             refine thenN ⟨(k + 1, H14, n14), ⟨by dsimp only; omega, by dsimp only; omega, hI14, by dsimp only; omega⟩, by dsimp only; omega, Le.live (lv1 0 rfl (lv1 3 rfl (lv1 6 rfl (lv1 9 rfl (lv1 10 rfl (lv1 44 rfl (lv1 45 rfl lv0)))))))⟩
           · skip
             refine RXn ?_
             refine WLv (lv1 0 rfl (lv1 3 rfl (lv1 6 rfl (lv1 9 rfl (lv1 10 rfl (lv1 11 rfl (lv1 44 rfl (lv1 45 rfl (lv1 53 rfl lv0))))))))) ?_
             refine WC_condF rfl ?_
             refine WC_skip ?_
             refine blockN ?_
             refine thenN ?_
             refine WLv (lv1 0 rfl (lv1 3 rfl (lv1 6 rfl (lv1 9 rfl (lv1 10 rfl (lv1 44 rfl (lv1 45 rfl lv0))))))) ?_
             refine WC_steps hE hm ?_
             refine xAdd rfl rfl (by omega) ?_
             refine xP rfl rfl rfl rfl ?_
             refine RXn ?_
             clear h53
             have hb4 : nl ≤ n + 2 + (k + 1) * 10000000000000 := Nat.le_trans i4 (Nat.add_le_add_left (Nat.mul_le_mul_right _ (Nat.le_succ k)) _)
             have hI4 : RInv H7 (n) j (n + 1) (n + 1 + 1) l2 (cS (k + 1)) Hl nl := RInv.mono (cS k) (cS (k + 1)) _ _ (show cS k ≤ cS k + cB k from Nat.le_add_right _ _) i3
             refine thenN ⟨(k + 1, Hl, nl), ⟨by dsimp only; omega, by dsimp only; omega, hI4, hb4⟩, by dsimp only; omega, Le.live (lv1 0 rfl (lv1 3 rfl (lv1 6 rfl (lv1 9 rfl (lv1 10 rfl (lv1 44 rfl (lv1 45 rfl lv0)))))))⟩
         · skip
           refine RXn ?_
           refine WLv (lv1 0 rfl (lv1 3 rfl (lv1 6 rfl (lv1 9 rfl (lv1 10 rfl (lv1 44 rfl (lv1 45 rfl (lv1 46 rfl lv0)))))))) ?_
           refine WC_seq ?_
           refine WC_condF rfl ?_
           refine WC_exit ?_
           refine thenE ?_
           refine thenE ?_
           refine blockE ?_
           refine thenN ?_
           refine WLv (lv1 10 rfl lv0) ?_
           refine WC_go hE hm ?_
           obtain ⟨_, hfrE, _, _, _, _, _, _, hz, es, io, hbo, hec, hrow, hel⟩ := i3
           refine xR (v := gsl io es.length) rfl rfl rfl (ld1 (o := 0) hbo rfl) ?_
           refine xP rfl rfl rfl rfl ?_
           refine xP rfl rfl rfl rfl ?_
           refine RXn ?_
           refine WLv (lv1 4 rfl (lv1 5 rfl lv0)) ?_
           refine WC_ret ?_
           refine endR rfl ?_
           exact ⟨⟨fun q hq => (hz q (by omega) (by omega)).trans ((a9 q (by omega)).trans (a3 q (by omega))), hfrE, by omega, by omega⟩, _, es, io, rfl, by omega, (fun h => ⟨(hrow h).1, by have := (hrow h).2.1; omega, (hrow h).2.2⟩), fun e he => ⟨(hel e he).1, fun hne => ⟨((hel e he).2 hne).1, by have := ((hel e he).2 hne).2.1; omega, ((hel e he).2 hne).2.2.1⟩⟩⟩
end Go.Proofs.YtmpogedhilfjgaaGreatDoor
