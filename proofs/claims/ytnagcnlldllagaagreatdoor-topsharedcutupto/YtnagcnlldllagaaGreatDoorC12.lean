/- A part of the proof that spadilletop.TopSharedCut answers true and leaves its argument as it was (bulk at most 1048576): C12. -/
import Derived.Test.YtnagcnlldllagaaGreatDoorC11
set_option linter.all false
/- The first filling without a cut. -/
set_option maxRecDepth 1000000
set_option maxHeartbeats 4000000
open Go Go.Cs
namespace Go.Proofs.YtnagcnlldllagaaGreatDoor
theorem fresh_ofL {L : List (Nat × AObj)} {n : Nat} (h : (L.all fun p => Nat.blt p.1 n) = true) : Fresh (ofL L) n := by
  intro q h1 h2
  rw [aget_ofL]
  cases hl : L.lookup q with
  | none => rfl
  | some o =>
    rw [List.all_eq_true] at h
    have := h _ (mem_of_lookup hl)
    rw [Nat.blt_eq] at this
    simp only at this
    omega
theorem gsl_rsl (i k : Nat) : gsl i k = rsl i k k := by cases k <;> rfl
theorem rowC_rowG (L : List Cd) : rowC L = rowG (cardsV L) (some 3) L.length := by
  cases L <;> rfl
/-- A call of a function of a row of cards, over any heap. -/
theorem callRow {f : FuncId} {as1 : List Value} {k cp : Nat} {cs : List Value} {gr : Option Nat} {R : Value → List (Nat × AObj) → Nat → Prop} (h : CT Tryz.prog [0] f (as1 ++ [rsl 1 k cp]) (rowG cs gr cp) 2 R) (ha : ∀ σ, renL σ as1 = as1) {H : Heap} {n i : Nat} (h0 : aget H 0 = some gl) (hi : cp ≠ 0 → aget H i = some (.cells cs 64 gr) ∧ 0 < i ∧ i < n)
    (hfl : flats cs = true) (hb : ∀ v L' n', R v L' n' → n' ≤ 8 ∧ L'.lookup 0 = some gl ∧ L'.lookup 1 = some (rob cs gr cp)) (hfr : Fresh H n) (hn : n + 8 < lim) (hn0 : 0 < n) :
    F Tryz.prog [0] f (as1 ++ [rsl i k cp]) H n (fun v H' n' => ∃ τ vs L' ns', R vs L' ns' ∧ v = renV τ vs ∧ (∀ j, 2 ≤ j → τ j = j - 2 + n) ∧ n' = n + (ns' - 2) ∧ 2 ≤ ns' ∧ Fresh H' n' ∧ (∀ j o, 2 ≤ j → L'.lookup j = some o → aget H' (j - 2 + n) = some (renO τ o)) ∧ ∀ q, q < n → aget H' q = aget H q) := by
  have hlim : lim = 999999000 := rfl
  have hbd : big = 1000000000 := rfl
  have ren1 := ha
  have go : ∀ S : List Nat, S.length = 2 → sigL S 0 = 0 → (cp ≠ 0 → sigL S 1 = i) → (cp = 0 → big - 100 ≤ sigL S 1 ∧ sigL S 1 < big) → S.Nodup → F Tryz.prog [0] f (as1 ++ [rsl i k cp]) H n (fun v H' n' => ∃ τ vs L' ns', R vs L' ns' ∧ v = renV τ vs ∧ (∀ j, 2 ≤ j → τ j = j - 2 + n) ∧ n' = n + (ns' - 2) ∧ 2 ≤ ns' ∧ Fresh H' n' ∧ (∀ j o, 2 ≤ j → L'.lookup j = some o → aget H' (j - 2 + n) = some (renO τ o)) ∧ ∀ q, q < n → aget H' q = aget H q) := by
    intro S hS s0 s1 s1d hnd
    have hrow : lvB (rowG cs gr cp) 1 = !(cp == 0) := by cases cp <;> rfl
    refine (h.callS S (H := H) (n := n) (args := as1 ++ [rsl i k cp]) ?_ (hGs rfl s0 rfl) hS (fun j hj hl => ?_) (fun j hj hl => ?_) hnd ?_ (fun v L' n' hr => by have := (hb v L' n' hr).1; omega) hfr (by omega)).mono ?_
    · rw [renL_map, List.map_append, ← renL_map, ren1]
      congr 1
      show [rsl i k cp] = [renV _ (rsl 1 k cp)]
      rw [renV_rsl]
      cases cp with
      | zero => rfl
      | succ c => rw [s1 (by omega)]
    · match j, hj with
      | 0, _ => rw [s0]; exact hn0
      | 1, _ =>
        rw [hrow] at hl
        have : cp ≠ 0 := by rintro rfl; cases hl
        rw [s1 this]; exact (hi this).2.2
    · match j, hj with
      | 0, _ => cases hl
      | 1, _ =>
        rw [hrow] at hl
        have : cp = 0 := by cases cp with | zero => rfl | succ c => cases hl
        exact s1d this
    · refine hh1 (o' := gl) (by rw [s0]; exact h0) rfl ?_
      cases cp with
      | zero => exact hhD hh0
      | succ c => exact hh1 (by rw [s1 (by omega)]; exact (hi (by omega)).1) (renO_cells _ hfl) hh0
    · rintro v H' n' ⟨vs, L', ns', hR, ⟨hv, hn', hle, hf, hat, hk⟩⟩
      obtain ⟨b1, b2, b3⟩ := hb _ _ _ hR
      have hτ : ∀ j, 2 ≤ j → sigC (sigL S) 2 n j = j - 2 + n := by
        intro j hj
        simp only [sigC]
        cases hb' : Nat.blt j 2 with
        | true => rw [Nat.blt_eq] at hb'; omega
        | false => rfl
      have t0 : sigC (sigL S) 2 n 0 = 0 := by show sigL S 0 = 0; exact s0
      refine ⟨sigC (sigL S) 2 n, vs, L', ns', hR, hv, hτ, hn', hle, hf, fun j o hj ho => ?_, fun q hq => ?_⟩
      · have := hat j o ho
        rwa [hτ j hj] at this
      · by_cases hq0 : q = 0
        · subst hq0
          have := hat 0 gl b2
          rw [t0] at this
          rw [this, h0]; rfl
        · by_cases hqi : cp ≠ 0 ∧ q = i
          · obtain ⟨hc, rfl⟩ := hqi
            have := hat 1 _ b3
            rw [show sigC (sigL S) 2 n 1 = q from s1 hc, rob_pos hc, renO_cells _ hfl] at this
            rw [this, (hi hc).1]
          · refine hk q hq fun j hj hl => ?_
            match j, hj with
            | 0, _ => rw [s0]; exact Ne.symm hq0
            | 1, _ =>
              rw [hrow] at hl
              have hc : cp ≠ 0 := by rintro rfl; cases hl
              rw [s1 hc]
              exact fun e => hqi ⟨hc, e.symm⟩
  by_cases hc : cp = 0
  · exact go [0, 999999950] rfl rfl (fun h => absurd hc h) (fun _ => ⟨by decide, by decide⟩) (by decide)
  · refine go [0, i] rfl rfl (fun _ => rfl) (fun h => absurd h hc) ?_
    have := (hi hc).2.1
    simp; omega

/-- What put's heap is. -/
structure SF (r c l w : Int) (p q f : Nat) (H : Heap) (og : Value) (es : List MapEntry) (k : Nat) (cs : List Value) (cp : Nat) : Prop where
  a0 : aget H 0 = some gl
  a1 : aget H 1 = some (.cells (tcells r c l w p q f) 73 none)
  a2 : aget H 2 = some (.cells [.int .i64 r, .int .i64 c, .int .i64 l, .int .i64 w] 23 none)
  a3 : aget H 3 = some (.cells [og] 24 none)
  a4 : aget H 4 = some (.cells [.map (some 6)] 78 none)
  a5 : aget H 5 = some (.cells [putV] 93 none)
  a6 : aget H 6 = some (.map es k)
  a7 : cp ≠ 0 → aget H 7 = some (.cells cs 64 none)
theorem canF {r c l w : Int} {p q f N n : Nat} {T : AL Value} {H : Heap} {es : List MapEntry} {k : Nat} {cs : List Value} {cp : Nat} (h9 : aget T 9 = some (.bool false)) (h : SF r c l w p q f H (.slice none 0 0) es k cs cp) (hes : MapOk es) (hfl : flats cs = true) (hn : 8 ≤ n) (hn2 : n < lim) :
    Le Tryz.prog [0] N 8 { T := T, D := [], H := H, n := n } { T := ofL [(9, .bool false)], D := [], H := ofL (hS r c l w p q f (.slice none 0 0) es k (rob cs none cp)), n := 8 } := by
  refine Le.canon [] (n2 := 8) (lrS 9 h9 rfl lr0) ?_ (blt_lim hn2) rfl (by rw [Nat.ble_eq]; exact hn) rfl rfl (hGn rfl)
  refine hr1 0 gl h.a0 rfl (hr1 1 _ h.a1 rfl (hr1 2 _ h.a2 rfl (hr1 3 _ h.a3 rfl (hr1 4 _ h.a4 rfl (hr1 5 _ h.a5 rfl (hr1 6 _ h.a6 (renMap hes _ _) ?_))))))
  by_cases hc : cp = 0
  · subst hc; exact hrD 7 hr0
  · exact hr1 7 _ (h.a7 hc) (by rw [rob_pos hc, renO_cells _ hfl]) hr0
theorem beqF {a b : Nat} (h : a ≠ b) : Nat.beq a b = false := by
  cases hb : Nat.beq a b with
  | true => exact absurd (Nat.eq_of_beq_eq_true hb) h
  | false => rfl
theorem canT {r c l w : Int} {p q f N n io : Nat} {T : AL Value} {H : Heap} {es : List MapEntry} {k : Nat} {cs : List Value} {cp : Nat} {LO : List Cd} (h9 : aget T 9 = some (.bool true)) (h : SF r c l w p q f H (gsl io LO.length) es k cs cp) (hio : LO ≠ [] → aget H io = some (gob 64 3 (cardsV LO) LO.length)) (hi : 8 ≤ io ∧ io < lim) (hes : MapOk es) (hfl : flats cs = true) (hn : 8 ≤ n) (hn2 : n < lim) :
    Le Tryz.prog [0] N 8 { T := T, D := [], H := H, n := n } { T := ofL [(9, .bool true)], D := [], H := ofL (hS r c l w p q f (gsl 8 LO.length) es k (rob cs none cp) ++ [(8, gob 64 3 (cardsV LO) LO.length)]), n := 9 } := by
  have hb1 := blt_lim hi.2
  have s8 : sig 8 [(8, io)] n 8 = io := rfl
  refine Le.canon [(8, io)] (n2 := 9) (lrS 9 h9 rfl lr0) ?_ (blt_lim hn2) rfl (by rw [Nat.ble_eq]; exact hn) ?_ ?_ (hGn rfl)
  · refine hr1 0 gl h.a0 rfl (hr1 1 _ h.a1 rfl (hr1 2 _ h.a2 rfl (hr1 3 _ h.a3 (by simp only [renO, renL, renV_gsl, s8]) (hr1 4 _ h.a4 rfl (hr1 5 _ h.a5 rfl (hr1 6 _ h.a6 (renMap hes _ _) ?_))))))
    have t8 : LiveHR (sig 8 [(8, io)] n) H [(8, gob 64 3 (cardsV LO) LO.length)] := by
      cases LO with
      | nil => exact hrD 8 hr0
      | cons a L => exact hr1 8 _ (by rw [s8]; exact hio (by simp)) (renO_gob _ (flats_cards _) _) hr0
    by_cases hc : cp = 0
    · subst hc; exact hrD 7 t8
    · exact hr1 7 _ (h.a7 hc) (by rw [rob_pos hc, renO_cells _ hfl]) t8
  · have : Nat.ble 8 io = true := by rw [Nat.ble_eq]; exact hi.1
    simp only [List.all_cons, List.all_nil, this, hb1, Bool.and_true]
    rfl
  · show ndB [0, 1, 2, 3, 4, 5, 6, 7, io] = true
    simp only [ndB, List.any_cons, List.any_nil, beqF (show 0 ≠ io by omega), beqF (show 1 ≠ io by omega), beqF (show 2 ≠ io by omega), beqF (show 3 ≠ io by omega), beqF (show 4 ≠ io by omega), beqF (show 5 ≠ io by omega), beqF (show 6 ≠ io by omega), beqF (show 7 ≠ io by omega)]
    rfl
theorem named48 (r c l w : Int) (p q f : Nat) {og : Value} {es : List MapEntry} (k : Nat) {cs : List Value} (cp : Nat) (hes : MapOk es) (hfl : flats cs = true) (hog : og = .slice none 0 0) : Named (hS r c l w p q f og es k (rob cs none cp)) fun i => Nat.blt i 8 && lvB (hS r c l w p q f og es k (rob cs none cp)) i := by
  subst hog
  exact nm1 rfl rfl (nm1 rfl rfl (nm1 rfl rfl (nm1 rfl rfl (nm1 rfl rfl (nm1 rfl rfl (nm1 (idsMap hes k) rfl (nm1 (idsO_rob hfl _ _) rfl nm0)))))))
theorem shutF48 (r c l w : Int) (p q f : Nat) {es : List MapEntry} (k : Nat) {cs : List Value} (cp : Nat) (hes : MapOk es) (hfl : flats cs = true) : ShutR (.bool false) (hS r c l w p q f (.slice none 0 0) es k (rob cs none cp)) 8 8 :=
  shutR_of rfl rfl rfl (nm1 rfl rfl (nm1 rfl rfl (nm1 rfl rfl (nm1 rfl rfl (nm1 rfl rfl (nm1 rfl rfl (nm1 (idsMap hes k) rfl (nm1 (idsO_rob hfl _ _) rfl nm0))))))))
theorem shutT48 (r c l w : Int) (p q f : Nat) {es : List MapEntry} (k : Nat) {cs : List Value} (cp : Nat) (LO : List Cd) (hes : MapOk es) (hfl : flats cs = true) : ShutR (.bool true) (hS r c l w p q f (gsl 8 LO.length) es k (rob cs none cp) ++ [(8, gob 64 3 (cardsV LO) LO.length)]) 8 9 :=
  shutR_of rfl rfl rfl (nm1 rfl rfl (nm1 rfl rfl (nm1 rfl rfl (nm1 (l := idsV (gsl 8 LO.length) ++ []) rfl (by cases LO <;> rfl) (nm1 rfl rfl (nm1 rfl rfl (nm1 (idsMap hes k) rfl (nm1 (idsO_rob hfl _ _) rfl (nm1 (idsO_gob (flats_cards LO) _) rfl nm0)))))))))
theorem boxRsl (t : TypeId) (i k cp : Nat) : semA (.box t) [rsl i k cp] = some (.cells [rsl i k cp] t none, .ptr) := by cases cp <;> rfl
theorem f49r (L : List Cd) (rest : List Value) (gr : Option Nat) (cp : Nat) (hL0 : L = [] → cp = 0) (hcp : L.length ≤ cp) (hfl : flats (cardsV L ++ rest) = true) (hL : L.length ≤ 1048576) : CT Tryz.prog [0] 49 [rsl 1 L.length cp] (rowG (cardsV L ++ rest) gr cp) 2 (fun v L' n' => v = gsl 2 L.length ∧ L' = rowGK L (cardsV L ++ rest) gr cp ∧ n' = 3) := by
  by_cases h : L = []
  · obtain rfl := hL0 h
    subst h
    exact f49 [] (by decide)
  · exact f49g L rest gr cp h hcp hfl hL
def c48 : FC := FC.mk 36 (
  .seq (.steps [⟨.box 24, [.tmp 1], some 8, none⟩,
    ⟨.move, [.const (.bool false)], some 9, none⟩]) (
  .seq (.seq (.steps [⟨.move, [.tmp 0], some 13, none⟩,
    ⟨.fieldAddr 6, [.tmp 2], some 14, none⟩,
    ⟨.load1, [.tmp 14], some 15, none⟩,
    ⟨.bin .eql, [.tmp 13, .tmp 15], some 16, none⟩]) (
  .cond (.tmp 16) (
    .seq (.seq (.steps [⟨.loadN 4, [.tmp 3], some 18, none⟩,
      ⟨.load1, [.tmp 8], some 19, none⟩,
      ⟨.callF 44, [.tmp 18, .tmp 19], some 20, none⟩,
      ⟨.move, [.tmp 20], some 17, none⟩,
      ⟨.extract 0, [.tmp 17], some 21, none⟩,
      ⟨.extract 1, [.tmp 17], some 22, none⟩,
      ⟨.move, [.tmp 21], some 10, none⟩,
      ⟨.move, [.tmp 22], some 11, none⟩]) (
    .seq (.steps [⟨.move, [.tmp 10], some 23, none⟩,
      ⟨.bin .neq, [.tmp 23, .const (.int .u8 0)], some 24, none⟩,
      ⟨.move, [.tmp 24], some 25, none⟩,
      ⟨.move, [.tmp 11], some 26, some (25, false)⟩,
      ⟨.bin .neq, [.tmp 26, .const (.int .u8 0)], some 27, some (25, false)⟩,
      ⟨.pick, [.tmp 25, .const (.bool true), .tmp 27], some 28, none⟩]) (
    .cond (.tmp 28) (
      .seq (.steps [⟨.move, [.const (.bool false)], some 9, none⟩]) (
      .ret)) (
      .skip)))) (
    .seq (.steps [⟨.load1, [.tmp 8], some 29, none⟩,
      ⟨.callF 49, [.tmp 29], some 30, none⟩,
      ⟨.store 1, [.tmp 4, .tmp 30], none, none⟩]) (
    .seq (.steps [⟨.move, [.const (.bool true)], some 9, none⟩]) (
    .ret)))) (
    .skip))) (
  .seq (.steps [⟨.alloc 4 [.bool false], [], some 12, none⟩,
    ⟨.store 1, [.tmp 12, .const (.bool false)], none, none⟩]) (
  .seq (.steps [⟨.loadN 7, [.tmp 2], some 31, none⟩,
    ⟨.move, [.tmp 0], some 32, none⟩,
    ⟨.mkFunc (.func 50) 0, [.tmp 2, .tmp 5, .tmp 6, .tmp 8, .tmp 12], some 33, none⟩,
    ⟨.callF 37, [.tmp 31, .tmp 32, .tmp 33], some 34, none⟩]) (
  .seq (.steps [⟨.load1, [.tmp 12], some 35, none⟩,
    ⟨.move, [.tmp 35], some 9, none⟩]) (
  .ret)))))) [.tmp 9]
theorem c48_ok : compF Tryz.prog 48 = some c48 := by kernel_rfl

theorem f48 (r c l w : Int) (p q f b : Nat) (ok : OkTable r c l w p q f) (hb : b < 2 ^ 64) (L : List Cd) (hfull : full L.length b) (hcs : ∀ cd ∈ L, okCard cd) (ih : ∀ b' cd, Next1 b b' → okCard cd → C48 r c l w p q f b' (L ++ [cd])) : C48 r c l w p q f b L := by
  intro cp rest es k hL0 hcp hrf hrl hes
  have hL64 : L.length ≤ 64 := full_le hfull hb
  have hfl : flats (cardsV L ++ rest) = true := flats_app (flats_cards L) hrf
  have hlim : lim = 999999000 := rfl
  refine ⟨shut_of (by cases cp <;> rfl) (named48 r c l w p q f k cp hes hfl rfl), ?_⟩
  refine F_of_comp c48_ok rfl ?_
  refine WC_go hE hm ?_
  refine xA (ob := .cells [rsl 7 L.length cp] 24 none) (mk := .ptr) rfl rfl rfl (boxRsl _ _ _ _) rfl rfl ?_
  refine xP rfl rfl rfl rfl ?_
  refine RX_nil ?_
  refine WC_liveH (live1 0 rfl (live1 2 rfl (live1 3 rfl (live1 4 rfl (live1 5 rfl (live1 6 rfl (live1 8 rfl live0))))))) (LH := hS r c l w p q f (.slice none 0 0) es k (rob (cardsV L ++ rest) none cp) ++ [(8, .cells [rsl 7 L.length cp] 24 none)])
    (liveHo 0 gl rfl (liveHo 1 _ rfl (liveHo 2 _ rfl (liveHo 3 _ rfl (liveHo 4 _ rfl (liveHo 5 _ rfl (liveHo 6 _ rfl (liveHo 7 _ rfl (liveHo 8 _ rfl liveH0))))))))) ?_
  refine WC_seq ?_
  refine WC_go hE hm ?_
  refine xP rfl rfl rfl rfl ?_
  refine xP rfl rfl rfl rfl ?_
  refine xR rfl rfl rfl rfl ?_
  refine xEq rfl rfl ?_ ?_ <;> intro hbf
  ·
    refine RX_nil ?_
    refine WC_live (live1 0 rfl (live1 2 rfl (live1 3 rfl (live1 4 rfl (live1 5 rfl (live1 6 rfl (live1 8 rfl (live1 16 rfl live0)))))))) ?_
    refine WC_condT rfl ?_
    refine WC_seq ?_
    refine WC_go hE hm ?_
    refine xLoadN [.int .i64 r, .int .i64 c, .int .i64 l, .int .i64 w] rfl rfl rfl ?_
    refine xR rfl rfl rfl rfl ?_
    have hfr : Fresh (ofL (hS r c l w p q f (.slice none 0 0) es k (rob (cardsV L ++ rest) none cp) ++ [(8, .cells [rsl 7 L.length cp] 24 none)])) 9 := fresh_ofL rfl
    have hrow : cp ≠ 0 → aget (ofL (hS r c l w p q f (.slice none 0 0) es k (rob (cardsV L ++ rest) none cp) ++ [(8, .cells [rsl 7 L.length cp] 24 none)])) 7 = some (.cells (cardsV L ++ rest) 64 none) ∧ 0 < 7 ∧ 7 < 9 := fun h => ⟨by rw [← rob_pos h]; rfl, by decide, by decide⟩
    refine xC (f := 44) (args := [sheetV r c l w] ++ [rsl 7 L.length cp]) rfl rfl rfl rfl (callRow (as1 := [sheetV r c l w]) (f44g r c l w L rest none cp hcp hfl (by omega) ok.sheet hcs) (fun σ => rfl) rfl hrow hfl (by rintro _ _ _ ⟨_, _, _, _, _, rfl, rfl⟩; exact ⟨by decide, rfl, rfl⟩) hfr (by omega) (by decide)) ?_
    rintro _ H1 n1 ⟨τ, vs, L', ns', ⟨x, y, xb, yb, rfl, rfl, rfl⟩, rfl, t1, t2, t3, t4, t5, t6⟩
    obtain rfl : n1 = 9 := by omega
    refine xP (v := .tuple #[.int .u8 (x : Int), .int .u8 (y : Int)]) rfl rfl rfl rfl ?_
    refine xP rfl rfl rfl rfl ?_
    refine xP rfl rfl rfl rfl ?_
    refine xP rfl rfl rfl rfl ?_
    refine xP rfl rfl rfl rfl ?_
    refine RX_nil ?_
    refine WC_live (live1 4 rfl (live1 8 rfl (live1 10 rfl (live1 11 rfl live0)))) ?_
    have sf : SF r c l w p q f H1 (.slice none 0 0) es k (cardsV L ++ rest) cp := ⟨(t6 0 (by decide)).trans rfl, (t6 1 (by decide)).trans rfl, (t6 2 (by decide)).trans rfl, (t6 3 (by decide)).trans rfl, (t6 4 (by decide)).trans rfl, (t6 5 (by decide)).trans rfl, (t6 6 (by decide)).trans rfl, fun h => (t6 7 (by decide)).trans (hrow h).1⟩
    have e8 : aget H1 8 = some (.cells [rsl 7 L.length cp] 24 none) := (t6 8 (by decide)).trans rfl
    have stop : ∀ {T : AL Value}, aget T 9 = some (.bool false) → EndsD Tryz.prog [0] c48.rvs (fun v H' n' => ∃ L', H' = ofL L' ∧ R48 r c l w p q f L cp v L' n' ∧ ShutR v L' 8 n') .ret { T := ofL [(9, .bool false)], D := [], H := ofL (hS r c l w p q f (.slice none 0 0) es k (rob (cardsV L ++ rest) none cp)), n := 8 } := fun _ =>
      endR rfl ⟨_, rfl, ⟨es, k, rest, hes, hrf, hrl, .inl ⟨rfl, rfl, rfl⟩⟩, shutF48 r c l w p q f k cp hes hfl⟩
    refine WC_go hE hm ?_
    refine xP rfl rfl rfl rfl ?_
    refine xNe rfl rfl ?_ ?_ <;> intro hx
    ·
      refine xP rfl rfl rfl rfl ?_
      refine xS rfl ?_
      refine xS rfl ?_
      refine xP (v := .bool true) rfl rfl rfl rfl ?_
      refine RX_nil ?_
      refine WC_condT rfl ?_
      refine WC_go hE hm ?_
      refine xP rfl rfl rfl rfl ?_
      refine RX_nil ?_
      refine WC_le (canF (k := k) rfl sf hes hfl (by decide) (by decide)) ?_
      refine WC_ret ?_
      refine thenR ?_
      refine thenR ?_
      exact stop (T := ofL [(9, .bool false)]) rfl
    ·
      refine xP rfl rfl rfl rfl ?_
      refine xP rfl rfl rfl rfl ?_
      refine xNe rfl rfl ?_ ?_ <;> intro hy
      ·
        refine xP (v := .bool true) rfl rfl rfl rfl ?_
        refine RX_nil ?_
        refine WC_condT rfl ?_
        refine WC_go hE hm ?_
        refine xP rfl rfl rfl rfl ?_
        refine RX_nil ?_
        refine WC_le (canF (k := k) rfl sf hes hfl (by decide) (by decide)) ?_
        refine WC_ret ?_
        refine thenR ?_
        refine thenR ?_
        exact stop (T := ofL [(9, .bool false)]) rfl
      ·
        refine xP (v := .bool false) rfl rfl rfl rfl ?_
        refine RX_nil ?_
        refine WC_condF rfl ?_
        refine WC_skip ?_
        refine thenN ?_
        refine WC_live (live1 4 rfl (live1 8 rfl live0)) ?_
        refine WC_go hE hm ?_
        refine xR (v := rsl 7 L.length cp) rfl rfl rfl (loadBox1 e8) ?_
        refine xC (f := 49) (args := [] ++ [rsl 7 L.length cp]) rfl rfl rfl rfl (callRow (as1 := []) (i := 7) (f49r L rest none cp hL0 hcp hfl (by omega)) (fun σ => rfl) sf.a0 (fun h => ⟨sf.a7 h, by decide, by decide⟩) hfl (by rintro _ _ _ ⟨_, rfl, rfl⟩; exact ⟨by decide, rfl, rfl⟩) t4 (by omega) (by decide)) ?_
        rintro _ H2 n2 ⟨τ2, vs2, L2, ns2, ⟨rfl, rfl, rfl⟩, rfl, u1, u2, u3, u4, u5, u6⟩
        obtain rfl : n2 = 10 := by omega
        rw [renV_gsl, u1 2 (by decide)]
        refine xStO (b := 3) (o := 0) (u := gsl (2 - 2 + 9) L.length) [gsl 9 L.length] ((u6 3 (by decide)).trans sf.a3) (by decide) (gsl_cells _ _) (gsl_cell1 _ _) rfl rfl rfl (by decide) ?_
        intro H3 s1 s2
        refine RX_nil ?_
        refine WC_go hE hm ?_
        refine xP rfl rfl rfl rfl ?_
        refine RX_nil ?_
        have row9 : aget H2 9 = some (gob 64 3 (cardsV L) L.length) := by
          have := u5 2 (gob 64 3 (cardsV L) L.length) (by decide) rfl
          rw [renO_gob _ (flats_cards L)] at this
          exact this
        have sf3 : SF r c l w p q f H3 (gsl 9 L.length) es k (cardsV L ++ rest) cp := by
          refine ⟨(s2 0 (by decide)).trans ((u6 0 (by decide)).trans sf.a0), (s2 1 (by decide)).trans ((u6 1 (by decide)).trans sf.a1), (s2 2 (by decide)).trans ((u6 2 (by decide)).trans sf.a2), s1, (s2 4 (by decide)).trans ((u6 4 (by decide)).trans sf.a4), (s2 5 (by decide)).trans ((u6 5 (by decide)).trans sf.a5), (s2 6 (by decide)).trans ((u6 6 (by decide)).trans sf.a6), fun h => (s2 7 (by decide)).trans ((u6 7 (by decide)).trans (sf.a7 h))⟩
        refine WC_le (canT (io := 9) (LO := L) (k := k) rfl sf3 (fun _ => (s2 9 (by decide)).trans row9) (by decide) hes hfl (by decide) (by decide)) ?_
        refine WC_ret ?_
        refine thenR ?_
        refine endR rfl ?_
        exact ⟨_, rfl, ⟨es, k, rest, hes, hrf, hrl, .inr ⟨L, hL64, rfl, rfl, rfl⟩⟩, shutT48 r c l w p q f k cp L hes hfl⟩
  ·
    refine RX_nil ?_
    refine WC_live (live1 0 rfl (live1 2 rfl (live1 3 rfl (live1 4 rfl (live1 5 rfl (live1 6 rfl (live1 8 rfl (live1 16 rfl live0)))))))) ?_
    refine WC_condF rfl ?_
    refine WC_skip ?_
    refine thenN ?_
    refine WC_live (live1 0 rfl (live1 2 rfl (live1 5 rfl (live1 6 rfl (live1 8 rfl live0))))) ?_
    refine WC_go hE hm ?_
    refine xA rfl rfl rfl rfl rfl rfl ?_
    refine xW rfl rfl rfl rfl rfl ?_
    refine RX_nil ?_
    refine WC_liveH (live1 0 rfl (live1 2 rfl (live1 5 rfl (live1 6 rfl (live1 8 rfl (live1 12 rfl live0)))))) (LH := hS r c l w p q f (.slice none 0 0) es k (rob (cardsV L ++ rest) none cp) ++ [(8, .cells [rsl 7 L.length cp] 24 none), (9, .cells [.bool false] 4 none)])
      (liveHo 0 gl rfl (liveHo 1 _ rfl (liveHo 2 _ rfl (liveHo 3 _ rfl (liveHo 4 _ rfl (liveHo 5 _ rfl (liveHo 6 _ rfl (liveHo 7 _ rfl (liveHo 8 _ rfl (liveHo 9 _ rfl liveH0)))))))))) ?_
    refine WC_go hE hm ?_
    refine xLoadN [.int .i64 r, .int .i64 c, .int .i64 l, .int .i64 w, .int .u64 (p : Int), .int .u64 (q : Int), .int .u64 (f : Int)] rfl rfl rfl ?_
    refine xP rfl rfl rfl rfl ?_
    refine xP rfl rfl rfl rfl ?_
    refine xC (f := 37) (args := [tableV r c l w p q f, .int .u64 (b : Int), .func (.func 50) #[] #[ptrTo 1, ptrTo 4, ptrTo 5, ptrTo 8, ptrTo 9]]) rfl rfl rfl rfl
      (f37g r c l w p q f b ok hb 50 [ptrTo 1, ptrTo 4, ptrTo 5, ptrTo 8, ptrTo 9] (J := JS r c l w p q f L cp) (J' := JE r c l w p q f L cp) (C := 8) (A := inA) (JS_local r c l w p q f L cp) (f50 r c l w p q f b ok L hfull cp hcp ih)
        ⟨fun x => Iff.rfl, es, k, rest, hes, hrf, hrl, liveHo 1 _ rfl (liveHo 2 _ rfl (liveHo 3 _ rfl (liveHo 4 _ rfl (liveHo 5 _ rfl (liveHo 6 _ rfl (liveHo 7 _ rfl (liveHo 8 _ rfl (liveHo 9 _ rfl liveH0))))))))⟩ (fun x hx => by have := hx.1; have := hx.2; omega) rfl (fresh_ofL rfl) (by decide)) ?_
    rintro _ H1 n1 ⟨rfl, A', hj, hA', hk, hf, hle, hr⟩
    have g0 : aget H1 0 = some gl := (hk 0 (by decide) (fun h => by have := h.1; omega)).trans rfl
    refine RX_nil ?_
    refine WC_live (live1 12 rfl live0) ?_
    rcases hj with ⟨_, es2, k2, rest2, hes2, hrf2, hrl2, hl⟩ | ⟨io, LO, es2, k2, rest2, hAio, hio, hLO, hes2, hrf2, hrl2, hl⟩
    · have hfl2 : flats (cardsV L ++ rest2) = true := flats_app (flats_cards L) hrf2
      have e9 : aget H1 9 = some (.cells [.bool false] 4 none) := (hl (9, _) (by simp [hS1])).resolve_left (by simp)
      have sf : SF r c l w p q f H1 (.slice none 0 0) es2 k2 (cardsV L ++ rest2) cp := ⟨g0, (hl (1, _) (by simp [hS1])).resolve_left (by simp), (hl (2, _) (by simp [hS1])).resolve_left (by simp), (hl (3, _) (by simp [hS1])).resolve_left (by simp), (hl (4, _) (by simp [hS1])).resolve_left (by simp), (hl (5, _) (by simp [hS1])).resolve_left (by simp), (hl (6, _) (by simp [hS1])).resolve_left (by simp),
        fun h => by
          rcases hl (7, rob (cardsV L ++ rest2) none cp) (by simp [hS1]) with e | e
          · simp only [rob_pos h] at e; cases e
          · simp only [rob_pos h] at e; exact e⟩
      refine WC_go hE hm ?_
      refine xR (v := .bool false) rfl rfl rfl (loadBox1 e9) ?_
      refine xP rfl rfl rfl rfl ?_
      refine RX_nil ?_
      refine WC_le (canF (k := k2) rfl sf hes2 hfl2 (by omega) (by omega)) ?_
      refine WC_ret ?_
      exact endR rfl ⟨_, rfl, ⟨es2, k2, rest2, hes2, hrf2, hrl2, .inl ⟨rfl, rfl, rfl⟩⟩, shutF48 r c l w p q f k2 cp hes2 hfl2⟩
    · have hfl2 : flats (cardsV L ++ rest2) = true := flats_app (flats_cards L) hrf2
      have e9 : aget H1 9 = some (.cells [.bool true] 4 none) := (hl (9, _) (by simp [hS1])).resolve_left (by simp)
      have hion := (hA' io ((hAio io).2 (.inr rfl))).2.2
      have sf : SF r c l w p q f H1 (gsl io LO.length) es2 k2 (cardsV L ++ rest2) cp := ⟨g0, (hl (1, _) (by simp [hS1])).resolve_left (by simp), (hl (2, _) (by simp [hS1])).resolve_left (by simp), (hl (3, _) (by simp [hS1])).resolve_left (by simp), (hl (4, _) (by simp [hS1])).resolve_left (by simp), (hl (5, _) (by simp [hS1])).resolve_left (by simp), (hl (6, _) (by simp [hS1])).resolve_left (by simp),
        fun h => by
          rcases hl (7, rob (cardsV L ++ rest2) none cp) (by simp [hS1]) with e | e
          · simp only [rob_pos h] at e; cases e
          · simp only [rob_pos h] at e; exact e⟩
      have eio : LO ≠ [] → aget H1 io = some (gob 64 3 (cardsV LO) LO.length) := fun h => by
        rcases hl (io, gob 64 3 (cardsV LO) LO.length) (by simp [hS1]) with e | e
        · exfalso
          cases LO with
          | nil => exact h rfl
          | cons a L => cases e
        · exact e
      refine WC_go hE hm ?_
      refine xR (v := .bool true) rfl rfl rfl (loadBox1 e9) ?_
      refine xP rfl rfl rfl rfl ?_
      refine RX_nil ?_
      refine WC_le (canT (io := io) (LO := LO) (k := k2) rfl sf eio ⟨by omega, by omega⟩ hes2 hfl2 (by omega) (by omega)) ?_
      refine WC_ret ?_
      exact endR rfl ⟨_, rfl, ⟨es2, k2, rest2, hes2, hrf2, hrl2, .inr ⟨LO, hLO, rfl, rfl, rfl⟩⟩, shutT48 r c l w p q f k2 cp LO hes2 hfl2⟩
/-- put, for every board. -/
theorem C48_ok (r c l w : Int) (p q f : Nat) (ok : OkTable r c l w p q f) : ∀ (m b : Nat) (L : List Cd), b < 2 ^ 64 → full L.length b → (∀ cd ∈ L, okCard cd) → 65 - L.length ≤ m → C48 r c l w p q f b L
  | 0, b, L, hb, hf, hcs, hm => by have := full_le hf hb; omega
  | m + 1, b, L, hb, hf, hcs, hm => f48 r c l w p q f b ok hb L hf hcs fun b' cd hn hcd => C48_ok r c l w p q f ok m b' (L ++ [cd]) hn.top (by rw [len_snoc]; exact hn.more _ hf) (fun x hx => by
      rcases List.mem_append.1 hx with h | h
      · exact hcs x h
      · simp at h; subst h; exact hcd) (by rw [len_snoc]; omega)
end Go.Proofs.YtnagcnlldllagaaGreatDoor

/- Solid. -/
set_option maxRecDepth 1000000
set_option maxHeartbeats 4000000
open Go Go.Cs
namespace Go.Proofs.YtnagcnlldllagaaGreatDoor
theorem shutRowC (L : List Cd) (e : Int) : ShutR (.tuple #[gsl 1 L.length, .int .i64 e]) (rowC L) 1 2 :=
  shutR_of rfl rfl (by cases L <;> rfl) (nm1 rfl rfl (nm1 (idsO_gob (flats_cards L) _) rfl nm0))
def putV' : Value := .func (.func 48) #[] #[ptrTo 2, ptrTo 1, ptrTo 5, ptrTo 4, ptrTo 6]
def c23 : FC := FC.mk 24 (
  .seq (.steps [⟨.box 23, [.tmp 0], some 1, none⟩,
    ⟨.move, [.const (.slice none 0 0)], some 2, none⟩,
    ⟨.move, [.const (.int .i64 0)], some 3, none⟩]) (
  .seq (.steps [⟨.loadN 4, [.tmp 1], some 10, none⟩,
    ⟨.callF 36, [.tmp 10], some 11, none⟩,
    ⟨.move, [.tmp 11], some 9, none⟩,
    ⟨.extract 0, [.tmp 9], some 12, none⟩,
    ⟨.extract 1, [.tmp 9], some 13, none⟩,
    ⟨.alloc 73 [.int .i64 0, .int .i64 0, .int .i64 0, .int .i64 0, .int .u64 0, .int .u64 0, .int .u64 0], [], some 4, none⟩,
    ⟨.store 7, [.tmp 4, .tmp 12], none, none⟩,
    ⟨.move, [.tmp 13], some 5, none⟩]) (
  .seq (.seq (.steps [⟨.move, [.tmp 5], some 14, none⟩,
    ⟨.bin .neq, [.tmp 14, .const (.int .i64 0)], some 15, none⟩]) (
  .cond (.tmp 15) (
    .seq (.steps [⟨.move, [.tmp 5], some 16, none⟩,
      ⟨.move, [.const (.slice none 0 0)], some 2, none⟩,
      ⟨.move, [.tmp 16], some 3, none⟩]) (
    .ret)) (
    .skip))) (
  .seq (.steps [⟨.mkMap, [], some 17, none⟩,
    ⟨.build [.map none] [(0, 1)], [.tmp 17], some 18, none⟩,
    ⟨.alloc 78 [.map none], [], some 6, none⟩,
    ⟨.store 1, [.tmp 6, .tmp 18], none, none⟩]) (
  .seq (.steps [⟨.alloc 24 [.slice none 0 0], [], some 7, none⟩]) (
  .seq (.steps [⟨.alloc 93 [.nilFunc], [], some 8, none⟩]) (
  .seq (.steps [⟨.mkFunc (.func 48) 0, [.tmp 4, .tmp 1, .tmp 7, .tmp 6, .tmp 8], some 19, none⟩,
    ⟨.store 1, [.tmp 8, .tmp 19], none, none⟩]) (
  .seq (.seq (.steps [⟨.load1, [.tmp 8], some 20, none⟩,
    ⟨.callV, [.tmp 20, .const (.int .u64 0), .const (.slice none 0 0)], some 21, none⟩,
    ⟨.un .not, [.tmp 21], some 22, none⟩]) (
  .cond (.tmp 22) (
    .seq (.steps [⟨.move, [.const (.slice none 0 0)], some 2, none⟩,
      ⟨.move, [.const (.int .i64 12)], some 3, none⟩]) (
    .ret)) (
    .skip))) (
  .seq (.steps [⟨.load1, [.tmp 7], some 23, none⟩,
    ⟨.move, [.tmp 23], some 2, none⟩,
    ⟨.move, [.const (.int .i64 0)], some 3, none⟩]) (
  .ret)))))))))) [.tmp 2, .tmp 3]
theorem c23_ok : compF Tryz.prog 23 = some c23 := by kernel_rfl
/-- spadille/cut.Solid -/
theorem f23 (r c l w : Int) : CT Tryz.prog [0] 23 [sheetV r c l w] [(0, gl)] 1 (fun v L' n' => ∃ (L : List Cd) (e : Int), L.length ≤ 64 ∧ v = .tuple #[gsl 1 L.length, .int .i64 e] ∧ L' = rowC L ∧ n' = 2) := by
  refine ⟨shut_of rfl (nm1 rfl rfl nm0), ?_⟩
  refine F_of_comp c23_ok rfl ?_
  refine WC_go hE hm ?_
  refine xA rfl rfl rfl rfl rfl rfl ?_
  refine xP rfl rfl rfl rfl ?_
  refine xP rfl rfl rfl rfl ?_
  refine RX_nil ?_
  refine WC_live (live1 1 rfl live0) ?_
  refine WC_go hE hm ?_
  refine xLoadN [_, _, _, _] rfl rfl rfl ?_
  refine xC rfl rfl rfl rfl (f36 r c l w rfl) ?_
  rintro _ _ _ ⟨hop, rfl, rfl⟩
  obtain ⟨r', c', l', w', p, q, f, e, rfl, hok⟩ := opened_cases2 hop
  refine xP rfl rfl rfl rfl ?_
  refine xP rfl rfl rfl rfl ?_
  refine xP rfl rfl rfl rfl ?_
  refine xA rfl rfl rfl rfl rfl rfl ?_
  refine xStN [_, _, _, _, _, _, _] rfl rfl rfl rfl rfl rfl rfl rfl ?_
  refine xP rfl rfl rfl rfl ?_
  refine RX_nil ?_
  refine WC_live (live1 1 rfl (live1 4 rfl (live1 5 rfl live0))) ?_
  refine WC_seq ?_
  refine WC_go hE hm ?_
  refine xP rfl rfl rfl rfl ?_
  refine xNe rfl rfl ?_ ?_ <;> intro h
  ·
    refine RX_nil ?_
    refine WC_live (live1 1 rfl (live1 4 rfl (live1 5 rfl (live1 15 rfl live0)))) ?_
    refine WC_condT rfl ?_
    refine WC_go hE hm ?_
    refine xP rfl rfl rfl rfl ?_
    refine xP rfl rfl rfl rfl ?_
    refine xP rfl rfl rfl rfl ?_
    refine RX_nil ?_
    refine WC_live (live1 2 rfl (live1 3 rfl live0)) ?_
    refine WC_le (Le.canon [(1, 1)] (n2 := 2) (lr1 2 (gsl 1 0) rfl rfl (lrS 3 rfl rfl lr0)) (hrS 0 rfl rfl (hrD 1 hr0)) rfl rfl rfl rfl rfl (hGn rfl)) ?_
    refine WC_ret ?_
    refine thenR ?_
    refine endR rfl ?_
    exact ⟨_, rfl, ⟨[], e, by decide, rfl, rfl, rfl⟩, shutRowC [] e⟩
  ·
    refine RX_nil ?_
    refine WC_live (live1 1 rfl (live1 4 rfl (live1 5 rfl (live1 15 rfl live0)))) ?_
    refine WC_condF rfl ?_
    refine WC_skip ?_
    refine thenN ?_
    refine WC_live (live1 1 rfl (live1 4 rfl live0)) ?_
    refine WC_go hE hm ?_
    refine xA rfl rfl rfl rfl rfl rfl ?_
    refine xBuild [_] rfl rfl rfl ?_
    refine xA rfl rfl rfl rfl rfl rfl ?_
    refine xW rfl rfl rfl rfl rfl ?_
    refine RX_nil ?_
    refine WC_live (live1 1 rfl (live1 4 rfl (live1 6 rfl live0))) ?_
    refine WC_go hE hm ?_
    refine xA rfl rfl rfl rfl rfl rfl ?_
    refine RX_nil ?_
    refine WC_live (live1 1 rfl (live1 4 rfl (live1 6 rfl (live1 7 rfl live0)))) ?_
    refine WC_go hE hm ?_
    refine xA rfl rfl rfl rfl rfl rfl ?_
    refine RX_nil ?_
    refine WC_live (live1 1 rfl (live1 4 rfl (live1 6 rfl (live1 7 rfl (live1 8 rfl live0))))) ?_
    refine WC_go hE hm ?_
    refine xP rfl rfl rfl rfl ?_
    refine xW rfl rfl rfl rfl rfl ?_
    refine RX_nil ?_
    refine WC_liveH (live1 7 rfl (live1 8 rfl live0)) (liveHo 0 gl rfl (liveHo 1 (.cells [.int .i64 r, .int .i64 c, .int .i64 l, .int .i64 w] 23 none) rfl (liveHo 2 (.cells (tcells r' c' l' w' p q f) 73 none) rfl (liveHo 3 (.map [] 0) rfl (liveHo 4 (.cells [.map (some 3)] 78 none) rfl (liveHo 5 (.cells [.slice none 0 0] 24 none) rfl (liveHo 6 (.cells [putV'] 93 none) rfl liveH0))))))) ?_
    refine WC_seq ?_
    refine WC_go hE hm ?_
    refine xR rfl rfl rfl rfl ?_
    obtain ⟨hr, hcc, hll, hww, ok⟩ := hok h
    subst r'
    subst c'
    subst l'
    subst w'
    refine xC (f := 48) (args := [.int .u64 ((0 : Nat) : Int), .slice none 0 0, ptrTo 2, ptrTo 1, ptrTo 5, ptrTo 4, ptrTo 6]) rfl rfl rfl rfl ((C48_ok r c l w p q f ok 65 0 [] (by decide) (fun j hj => by simp at hj) (fun x hx => by cases hx) (by decide) 0 [] [] 0 (fun _ => rfl) (by decide) rfl rfl (fun x hx => by cases hx)).callS [0, 2, 1, 5, 4, 6, 3, 999999950] rfl (hGs rfl rfl rfl) rfl
      (fun i hi hl => by match i, hi with | 0, _ => decide | 1, _ => decide | 2, _ => decide | 3, _ => decide | 4, _ => decide | 5, _ => decide | 6, _ => decide | 7, _ => cases hl)
      (fun i hi hl => by match i, hi with | 0, _ => cases hl | 1, _ => cases hl | 2, _ => cases hl | 3, _ => cases hl | 4, _ => cases hl | 5, _ => cases hl | 6, _ => cases hl | 7, _ => exact ⟨by decide, by decide⟩)
      (by decide) (hh1 rfl rfl (hh1 rfl rfl (hh1 rfl rfl (hh1 rfl rfl (hh1 rfl rfl (hh1 rfl rfl (hh1 rfl rfl (hhD hh0)))))))) (by rintro _ _ _ ⟨_, _, _, _, _, _, ⟨_, _, rfl⟩ | ⟨_, _, _, _, rfl⟩⟩ <;> decide) (fresh_ofL rfl) (by decide)) ?_
    rintro v H1 n1 ⟨vs, L', ns', ⟨es2, k2, rest2, hes2, hrf2, hrl2, hR⟩, ⟨hv, hn1, hle1, f1, at1, kp1⟩⟩
    obtain ⟨bo, hvb⟩ : ∃ bo, v = .bool bo := by
      rcases hR with ⟨rfl, _, _⟩ | ⟨_, _, rfl, _, _⟩
      · exact ⟨false, hv⟩
      · exact ⟨true, hv⟩
    subst hvb
    refine xP rfl rfl rfl rfl ?_
    refine RX_nil ?_
    refine WC_live (live1 7 rfl (live1 22 rfl live0)) ?_
    refine WC_cond rfl (fun h => ?_) (fun h => ?_)
    ·
      refine WC_go hE hm ?_
      refine xP rfl rfl rfl rfl ?_
      refine xP rfl rfl rfl rfl ?_
      refine RX_nil ?_
      refine WC_live (live1 2 rfl (live1 3 rfl live0)) ?_
      have g0 : aget H1 0 = some gl := by rcases hR with ⟨rfl, rfl, rfl⟩ | ⟨LO, hLO, rfl, rfl, rfl⟩ <;> exact (at1 0 gl rfl).trans rfl
      refine WC_le (Le.canon [(1, 1)] (n2 := 2) (lr1 2 (gsl 1 0) rfl rfl (lrS 3 rfl rfl lr0)) (hrS 0 g0 rfl (hrD 1 hr0)) (blt_lim (by have : lim = 999999000 := rfl; rcases hR with ⟨_, _, h⟩ | ⟨_, _, _, _, h⟩ <;> omega)) rfl (by rw [Nat.ble_eq]; omega) rfl rfl (hGn rfl)) ?_
      refine WC_ret ?_
      refine thenR ?_
      refine endR rfl ?_
      exact ⟨_, rfl, ⟨[], 12, by decide, rfl, rfl, rfl⟩, shutRowC [] 12⟩
    ·
      refine WC_skip ?_
      refine thenN ?_
      refine WC_live (live1 7 rfl live0) ?_
      refine WC_go hE hm ?_
      have g0 : aget H1 0 = some gl := by rcases hR with ⟨rfl, rfl, rfl⟩ | ⟨LO, hLO, rfl, rfl, rfl⟩ <;> exact (at1 0 gl rfl).trans rfl
      rcases hR with ⟨rfl, rfl, rfl⟩ | ⟨LO, hLO, rfl, rfl, rfl⟩
      · cases hv; cases h
      have e5 : aget H1 5 = some (.cells [gsl 7 LO.length] 24 none) := by
        have := at1 3 (.cells [gsl 8 LO.length] 24 none) rfl
        simp only [renO, renL, renV_gsl] at this
        exact this
      have e7 : LO ≠ [] → aget H1 7 = some (gob 64 3 (cardsV LO) LO.length) := fun _ => by
        have := at1 8 (gob 64 3 (cardsV LO) LO.length) rfl
        rw [renO_gob _ (flats_cards LO)] at this
        exact this
      refine xR (v := gsl 7 LO.length) rfl rfl rfl (loadBox1 e5) ?_
      refine xP rfl rfl rfl rfl ?_
      refine xP rfl rfl rfl rfl ?_
      refine RX_nil ?_
      refine WC_live (live1 2 rfl (live1 3 rfl live0)) ?_
      refine WC_le (Le.canon [(1, 7)] (n2 := 2) (LH := rowC LO) (lr1 2 (gsl 1 LO.length) rfl (renV_gsl _ 1 _) (lrS 3 rfl rfl lr0)) (hrS 0 g0 rfl (by
        cases LO with
        | nil => exact hrD 1 hr0
        | cons a L => exact hr1 1 (gob 64 3 (cardsV (a :: L)) (a :: L).length) (e7 (by simp)) (renO_gob _ (flats_cards _) _) hr0)) (blt_lim (by have : lim = 999999000 := rfl; omega)) rfl (by rw [Nat.ble_eq]; omega) rfl rfl (hGn rfl)) ?_
      refine WC_ret ?_
      refine endR rfl ?_
      exact ⟨_, rfl, ⟨LO, 0, hLO, rfl, rfl, rfl⟩, shutRowC LO 0⟩
end Go.Proofs.YtnagcnlldllagaaGreatDoor
