/- A part of the proof that spadilletop.TopSharedCut answers true and leaves its argument as it was (bulk at most 1048576): C3. -/
import Derived.Test.YtnagcnlldllagaaGreatDoorC2
set_option linter.all false
/- The bits of a number, as a row. -/
set_option maxRecDepth 1000000
set_option maxHeartbeats 4000000
open Go Go.Cs
namespace Go.Proofs.YtnagcnlldllagaaGreatDoor
/-- A row of ints that was grown. -/
def rowL (l : List Int) (k : Nat) : List (Nat × AObj) := [(0, gl), (1, gob 3 1 (ints l) k)]
theorem shutRow (l : List Int) (k : Nat) : ShutR (gsl 1 k) (rowL l k) 1 2 := shutR_of rfl rfl (ids_gsl rfl k) (nm1 rfl rfl (nm1 (idsO_gob (flats_ints' l) k) rfl nm0))
def c45 : FC := FC.mk 19 (
  .seq (.steps [⟨.move, [.const (.slice none 0 0)], some 2, none⟩]) (
  .seq (.steps [⟨.move, [.const (.slice none 0 0)], some 3, none⟩]) (
  .seq (.seq (.steps [⟨.move, [.const (.int .i64 0)], some 5, none⟩]) (
  .block 0 (
    .loop (
      .seq (.steps [⟨.bin .lss, [.tmp 5, .const (.int .i64 8)], some 6, none⟩]) (
      .seq (.cond (.tmp 6) (
        .skip) (
        .exit 0)) (
      .seq (.block 1 (
        .seq (.steps [⟨.move, [.tmp 5], some 7, none⟩,
          ⟨.move, [.tmp 7], some 4, none⟩]) (
        .seq (.steps [⟨.move, [.tmp 0], some 8, none⟩,
          ⟨.move, [.tmp 4], some 9, none⟩,
          ⟨.bin .shr, [.tmp 8, .tmp 9], some 10, none⟩,
          ⟨.bin .and, [.tmp 10, .const (.int .u8 1)], some 11, none⟩,
          ⟨.bin .eql, [.tmp 11, .const (.int .u8 1)], some 12, none⟩]) (
        .cond (.tmp 12) (
          .steps [⟨.move, [.tmp 3], some 13, none⟩,
            ⟨.move, [.tmp 4], some 14, none⟩,
            ⟨.buildSlice 3 1 [.int .i64 0] [(0, 1)], [.tmp 14], some 15, none⟩,
            ⟨.append 3 1 8 [.int .i64 0], [.tmp 13, .tmp 15], some 16, none⟩,
            ⟨.move, [.tmp 16], some 3, none⟩]) (
          .skip))))) (
      .steps [⟨.bin .add, [.tmp 5, .const (.int .i64 1)], some 17, none⟩,
        ⟨.move, [.tmp 17], some 5, none⟩]))))))) (
  .seq (.steps [⟨.move, [.tmp 3], some 18, none⟩,
    ⟨.move, [.tmp 18], some 2, none⟩]) (
  .ret))))) [.tmp 2]
theorem c45_ok : compF Tryz.prog 45 = some c45 := by kernel_rfl
/-- spadille/cut.bits -/
theorem f45 (x : Nat) (hx : x < 2 ^ 8) : CT Tryz.prog [0] 45 [.int .u8 (x : Int)] [(0, gl)] 1 (fun v L' n' => ∃ (k : Nat) (l : List Int), l.length = k ∧ k ≤ 8 ∧ v = gsl 1 k ∧ L' = rowL l k ∧ n' = 2) := by
  refine ⟨shut_of rfl (nm1 rfl rfl nm0), ?_⟩
  refine F_of_comp c45_ok rfl ?_
  refine WC_go hE hm ?_
  refine xP rfl rfl rfl rfl ?_
  refine RX_nil ?_
  refine WC_live (live1 0 rfl live0) ?_
  refine WC_go hE hm ?_
  refine xP rfl rfl rfl rfl ?_
  refine RX_nil ?_
  refine WC_live (live1 0 rfl (live1 3 rfl live0)) ?_
  refine WC_seq ?_
  refine WC_go hE hm ?_
  refine xP rfl rfl rfl rfl ?_
  refine RX_nil ?_
  refine WC_live (live1 0 rfl (live1 3 rfl (live1 5 rfl live0))) ?_
  refine WC_block ?_
  -- LOOP live [0, 3, 5]
  refine WC_le (Le.canon [] (n2 := 2) (lrS 0 rfl rfl (lr1 3 (gsl 1 0) rfl rfl (lrS 5 rfl rfl lr0))) (hrS 0 rfl rfl (hrD 1 hr0)) rfl rfl rfl rfl rfl (hGn rfl)) ?_
  refine WC_loopX (X := Nat × List Int × Int) (fun y => { T := ofL [(0, .int .u8 (x : Int)), (3, gsl 1 y.1), (5, .int .i64 y.2.2)], D := [], H := ofL (rowL y.2.1 y.1), n := 2 }) (fun y => y.2.1.length = y.1 ∧ (y.1 : Int) ≤ y.2.2 ∧ 0 ≤ y.2.2 ∧ y.2.2 ≤ 8) (fun y => (8 - y.2.2).toNat) (0, [], 0) ⟨rfl, by decide, by decide, by decide⟩ ?_
  rintro ⟨k, l, i⟩ ⟨i1, i2, i3, i4⟩
  dsimp only at *
  refine WC_go hE hm ?_
  refine xCmp rfl rfl rfl rfl ?_ ?_ <;> intro h
  ·
    refine RX_nil ?_
    refine WC_live (live1 0 rfl (live1 3 rfl (live1 5 rfl (live1 6 rfl live0)))) ?_
    refine WC_seq ?_
    refine WC_condT rfl ?_
    refine WC_skip ?_
    refine thenN ?_
    refine WC_live (live1 0 rfl (live1 3 rfl (live1 5 rfl live0))) ?_
    refine WC_seq ?_
    refine WC_block ?_
    refine WC_go hE hm ?_
    refine xP rfl rfl rfl rfl ?_
    refine xP rfl rfl rfl rfl ?_
    refine RX_nil ?_
    refine WC_live (live1 0 rfl (live1 3 rfl (live1 4 rfl (live1 5 rfl live0)))) ?_
    refine WC_go hE hm ?_
    refine xP rfl rfl rfl rfl ?_
    refine xP rfl rfl rfl rfl ?_
    refine xShr rfl rfl rfl (by omega) ?_
    refine xAnd (y := 1) rfl rfl rfl (Nat.lt_of_le_of_lt (Nat.shiftRight_le _ _) hx) (by decide) ?_
    refine xEq rfl rfl ?_ ?_ <;> intro h
    ·
      refine RX_nil ?_
      refine WC_live (live1 0 rfl (live1 3 rfl (live1 4 rfl (live1 5 rfl (live1 12 rfl live0))))) ?_
      refine WC_condT rfl ?_
      refine WC_steps hE hm ?_
      refine xP rfl rfl rfl rfl ?_
      refine xP rfl rfl rfl rfl ?_
      refine xBSlice [_] rfl rfl rfl rfl rfl ?_
      refine xAppend1 (i := 1) (k := k) (j := 2) (cs := ints l) (new := [.int .i64 i]) rfl rfl (by decide) (fun hk => by rw [← gob_pos hk]; rfl) (fun h => by subst h; rw [List.length_eq_zero_iff.1 i1]; rfl) (by rw [ints_length, Nat.mul_one, i1]) rfl rfl rfl (by omega) rfl ?_
      intro H' e1 e2
      refine xP rfl rfl rfl rfl ?_
      refine RX_nil ?_
      refine blockN ?_
      refine thenN ?_
      refine WC_live (live1 0 rfl (live1 3 rfl (live1 5 rfl live0))) ?_
      refine WC_steps hE hm ?_
      refine xAdd rfl rfl (by omega) ?_
      refine xP rfl rfl rfl rfl ?_
      refine RX_nil ?_
      refine thenN ⟨(k + 1, l ++ [i], i + 1), ⟨by simp [i1], by dsimp only; omega, by dsimp only; omega, by dsimp only; omega⟩, by dsimp only; omega, Le.canon [(1, 3)] (n2 := 2) (lrS 0 rfl rfl (lr1 3 (gsl 1 (k + 1)) rfl rfl (lrS 5 rfl rfl lr0))) (hr1 0 gl ((e2 0 (by decide) (by decide)).trans rfl) rfl (hr1 1 (gob 3 1 (ints (l ++ [i])) (k + 1)) e1 (by rw [renO_gob _ (flats_ints' _), ints_append]; rfl) hr0)) rfl rfl rfl rfl rfl (hGn rfl)⟩
    ·
      refine RX_nil ?_
      refine WC_live (live1 0 rfl (live1 3 rfl (live1 4 rfl (live1 5 rfl (live1 12 rfl live0))))) ?_
      refine WC_condF rfl ?_
      refine WC_skip ?_
      refine blockN ?_
      refine thenN ?_
      refine WC_live (live1 0 rfl (live1 3 rfl (live1 5 rfl live0))) ?_
      refine WC_steps hE hm ?_
      refine xAdd rfl rfl (by omega) ?_
      refine xP rfl rfl rfl rfl ?_
      refine RX_nil ?_
      refine thenN ⟨(k, l, i + 1), ⟨i1, by dsimp only; omega, by dsimp only; omega, by dsimp only; omega⟩, by dsimp only; omega, Le.live (live1 0 rfl (live1 3 rfl (live1 5 rfl live0)))⟩
  ·
    refine RX_nil ?_
    refine WC_live (live1 0 rfl (live1 3 rfl (live1 5 rfl (live1 6 rfl live0)))) ?_
    refine WC_seq ?_
    refine WC_condF rfl ?_
    refine WC_exit ?_
    refine thenE ?_
    refine thenE ?_
    refine blockE ?_
    refine thenN ?_
    refine WC_live (live1 3 rfl live0) ?_
    refine WC_go hE hm ?_
    refine xP rfl rfl rfl rfl ?_
    refine xP rfl rfl rfl rfl ?_
    refine RX_nil ?_
    refine WC_live (live1 2 rfl live0) ?_
    refine WC_ret ?_
    refine endR rfl ?_
    exact ⟨_, rfl, ⟨k, l, i1, by omega, rfl, rfl, rfl⟩, shutRow l k⟩
end Go.Proofs.YtnagcnlldllagaaGreatDoor

/- The first filling. -/
set_option maxRecDepth 1000000
set_option maxHeartbeats 4000000
open Go Go.Cs
namespace Go.Proofs.YtnagcnlldllagaaGreatDoor
abbrev Cd := Int × Int × Bool
def cardV (c : Cd) : List Value := [.int .i64 c.1, .int .i64 c.2.1, .bool c.2.2]
def cardsV (L : List Cd) : List Value := L.flatMap cardV
theorem flats_cards : ∀ L : List Cd, flats (cardsV L) = true
  | [] => rfl
  | c :: L => by
    have := flats_cards L
    simp only [cardsV, List.flatMap_cons, flats, List.all_append, Bool.and_eq_true] at this ⊢
    exact ⟨rfl, this⟩
theorem cards_length : ∀ L : List Cd, (cardsV L).length = L.length * 3
  | [] => rfl
  | c :: L => by
    have := cards_length L
    simp only [cardsV, List.flatMap_cons, List.length_append, List.length_cons] at this ⊢
    rw [this]; simp [cardV]; omega
theorem cards_add (L : List Cd) (c : Cd) : cardsV (L ++ [c]) = cardsV L ++ cardV c := by simp [cardsV]

def full (k b : Nat) : Prop := ∀ j, j < k → b.testBit j = true
/-- A board with one more card on its first free square. -/
structure Next1 (b b' : Nat) : Prop where
  lt : b < b'
  top : b' < 2 ^ 64
  more : ∀ k, full k b → full (k + 1) b'
theorem divmod (i c : Int) : i / c * c + i % c = i := by
  have := Int.mul_ediv_add_emod i c
  rw [Int.mul_comm]; exact this
theorem next1_of {b b' : Nat} {i c r hi wi : Int} (h1 : b < b') (h2 : b' < 2 ^ 64) (hi0 : 0 ≤ i) (hz : i < 64 → b.testBit i.toNat = false) (ha : ∀ j : Nat, (j : Int) < i → b.testBit j = true)
    (hm : ∀ j, b.testBit j = true → b'.testBit j = true) (hb : b'.testBit (i / c * c + i % c).toNat = true) (hlt : i < 64) : Next1 b b' := by
  rw [divmod] at hb
  refine ⟨h1, h2, fun k hk j hj => ?_⟩
  by_cases hjk : j < k
  · exact hm j (hk j hjk)
  · have : j = k := by omega
    subst this
    rcases (by omega : (j : Int) < i ∨ (j : Int) = i ∨ i < (j : Int)) with h | h | h
    · exact hm j (ha j h)
    · have : j = i.toNat := by omega
      rw [this]; exact hb
    · have h3 := hk i.toNat (by omega)
      rw [hz hlt] at h3; cases h3
theorem full_le {k b : Nat} (h : full k b) (hb : b < 2 ^ 64) : k ≤ 64 := by
  rcases Nat.lt_or_ge 64 k with h1 | h1
  · have := h 64 h1
    rw [Nat.testBit_lt_two_pow hb] at this; cases this
  · exact h1

/-- The heap of a filling: table, map, cards, board, whether it is over. -/
def hF (r c l w : Int) (p q f : Nat) (L : List Cd) (bc : Nat) (dn : Bool) (es : List MapEntry) (k : Nat) : List (Nat × AObj) :=
  [(0, gl), (1, .cells (tcells r c l w p q f) 73 none), (2, .cells [.map (some 6)] 78 none), (3, .cells [gsl 7 L.length] 24 none), (4, .cells [.int .u64 (bc : Int)] 70 none), (5, .cells [.bool dn] 4 none), (6, .map es k), (7, gob 64 3 (cardsV L) L.length)]
def hF2 (r c l w : Int) (p q f : Nat) (L : List Cd) (cd : Cd) (bc : Nat) (es : List MapEntry) (k : Nat) : List (Nat × AObj) :=
  [(0, gl), (1, .cells (tcells r c l w p q f) 73 none), (2, .cells [.map (some 6)] 78 none), (3, .cells [gsl 8 (L.length + 1)] 24 none), (4, .cells [.int .u64 (bc : Int)] 70 none), (5, .cells [.bool false] 4 none), (6, .map es k), (7, .dead), (8, .cells (cardsV L ++ cardV cd) 64 (some 3))]
theorem namedF (r c l w : Int) (p q f : Nat) (L : List Cd) (bc : Nat) (dn : Bool) {es : List MapEntry} (k : Nat) (h : MapOk es) : Named (hF r c l w p q f L bc dn es k) fun i => Nat.blt i 8 && lvB (hF r c l w p q f L bc dn es k) i := by
  refine nm1 rfl rfl (nm1 rfl rfl (nm1 rfl rfl (nm1 (l := idsV (gsl 7 L.length) ++ []) rfl ?_ (nm1 rfl rfl (nm1 rfl rfl (nm1 (idsMap h k) rfl (nm1 (idsO_gob (flats_cards L) _) rfl nm0)))))))
  cases L <;> rfl
theorem namedF' (r c l w : Int) (p q f : Nat) (L : List Cd) (bc : Nat) (dn : Bool) {es : List MapEntry} (k : Nat) (h : MapOk es) : Named (hF r c l w p q f L bc dn es k) fun i => inL (hF r c l w p q f L bc dn es k) i := by
  refine nm1 rfl rfl (nm1 rfl rfl (nm1 rfl rfl (nm1 (l := idsV (gsl 7 L.length) ++ []) rfl ?_ (nm1 rfl rfl (nm1 rfl rfl (nm1 (idsMap h k) rfl (nm1 (idsO_gob (flats_cards L) _) rfl nm0)))))))
  cases L <;> rfl
theorem shutRF (r c l w : Int) (p q f : Nat) (L : List Cd) (bc : Nat) (dn : Bool) {es : List MapEntry} (k : Nat) (h : MapOk es) {v : Value} (hv : idsV v = []) : ShutR v (hF r c l w p q f L bc dn es k) 8 8 :=
  shutR_of rfl rfl (by rw [hv]; rfl) (namedF' r c l w p q f L bc dn k h)
theorem flats_cards2 (L : List Cd) (cd : Cd) : flats (cardsV L ++ cardV cd) = true := by rw [← cards_add]; exact flats_cards _
theorem shutRF2 (r c l w : Int) (p q f : Nat) (L : List Cd) (cd : Cd) (bc : Nat) {es : List MapEntry} (k : Nat) (h : MapOk es) {v : Value} (hv : idsV v = []) : ShutR v (hF2 r c l w p q f L cd bc es k) 8 9 :=
  shutR_of rfl rfl (by rw [hv]; rfl) (nm1 rfl rfl (nm1 rfl rfl (nm1 rfl rfl (nm1 rfl rfl (nm1 rfl rfl (nm1 rfl rfl (nm1 (idsMap h k) rfl (nm1 rfl rfl (nm1 (idsL_flat (flats_cards2 L cd)) rfl nm0)))))))))
/-- What a step of a filling leaves. -/
def RF (r c l w : Int) (p q f : Nat) (L : List Cd) (bc : Nat) (cd : Cd) (b' : Nat) (v1 v2 v : Value) (L' : List (Nat × AObj)) (n' : Nat) : Prop :=
  (∃ es' k', MapOk es' ∧ v = v1 ∧ L' = hF r c l w p q f L bc true es' k' ∧ n' = 8) ∨ (∃ es' k', MapOk es' ∧ v = v2 ∧ L' = hF2 r c l w p q f L cd b' es' k' ∧ n' = 9)
def c38 : FC := FC.mk 20 (
  .seq (.steps [⟨.box 64, [.tmp 0], some 7, none⟩,
    ⟨.move, [.const (.bool false)], some 9, none⟩]) (
  .seq (.seq (.steps [⟨.loadN 7, [.tmp 2], some 10, none⟩,
    ⟨.move, [.tmp 1], some 11, none⟩,
    ⟨.loadN 1, [.tmp 3], some 12, none⟩,
    ⟨.callF 39, [.tmp 10, .tmp 11, .tmp 12], some 13, none⟩,
    ⟨.bin .eql, [.tmp 13, .const (.int .i64 0)], some 14, none⟩]) (
  .cond (.tmp 14) (
    .seq (.steps [⟨.move, [.const (.bool true)], some 9, none⟩]) (
    .ret)) (
    .skip))) (
  .seq (.steps [⟨.load1, [.tmp 4], some 15, none⟩,
    ⟨.loadN 3, [.tmp 7], some 16, none⟩,
    ⟨.buildSlice 64 1 [.int .i64 0, .int .i64 0, .bool false] [(0, 3)], [.tmp 16], some 17, none⟩,
    ⟨.append 64 3 24 [.int .i64 0, .int .i64 0, .bool false], [.tmp 15, .tmp 17], some 18, none⟩,
    ⟨.move, [.tmp 1], some 19, none⟩,
    ⟨.store 1, [.tmp 4, .tmp 18], none, none⟩,
    ⟨.store 1, [.tmp 5, .tmp 19], none, none⟩,
    ⟨.store 1, [.tmp 6, .const (.bool false)], none, none⟩]) (
  .seq (.steps [⟨.move, [.const (.bool false)], some 9, none⟩]) (
  .ret))))) [.tmp 9]
theorem c38_ok : compF Tryz.prog 38 = some c38 := by kernel_rfl
/-- spadille/cut.Fill$1 -/
theorem f38 (r c l w : Int) (p q f b' : Nat) (h39 : C39 r c l w p q f b') (row col : Int) (t : Bool) (L : List Cd) (hL : L.length ≤ 64) (bc : Nat) (es : List MapEntry) (k : Nat) (hes : MapOk es) :
    CT Tryz.prog [0] 38 [.agg #[.int .i64 row, .int .i64 col, .bool t], .int .u64 (b' : Int), .pointer (some ⟨1, 0, none⟩), .pointer (some ⟨2, 0, none⟩), .pointer (some ⟨3, 0, none⟩), .pointer (some ⟨4, 0, none⟩), .pointer (some ⟨5, 0, none⟩)] (hF r c l w p q f L bc true es k) 8
    (RF r c l w p q f L bc (row, col, t) b' (.bool true) (.bool false)) := by
  refine ⟨shut_of rfl (namedF r c l w p q f L bc true k hes), ?_⟩
  refine F_of_comp c38_ok rfl ?_
  refine WC_go hE hm ?_
  refine xA rfl rfl rfl rfl rfl rfl ?_
  refine xP rfl rfl rfl rfl ?_
  refine RX_nil ?_
  refine WC_live (live1 1 rfl (live1 2 rfl (live1 3 rfl (live1 4 rfl (live1 5 rfl (live1 6 rfl (live1 7 rfl live0))))))) ?_
  refine WC_seq ?_
  refine WC_go hE hm ?_
  refine xLoadN [_, _, _, _, _, _, _] rfl rfl rfl ?_
  refine xP rfl rfl rfl rfl ?_
  refine xLoadN [_] rfl rfl rfl ?_
  refine xC rfl rfl rfl rfl ((h39 es k hes).call [0, 6] rfl (hGs rfl rfl rfl) rfl rfl (by decide) (hh1 rfl rfl (hh1 rfl (renMap hes _ _) hh0)) (by rintro _ _ _ ⟨_, _, _, _, _, _, rfl⟩; decide)) ?_
  rintro _ _ _ ⟨_, _, _, ⟨y, es', k', hes', rfl, rfl, rfl⟩, rfl, rfl, rfl⟩
  simp only [hM, mergeH, renMap hes', renO_gl]
  refine xEq rfl rfl ?_ ?_ <;> intro h
  ·
    refine RX_nil ?_
    refine WC_liveH (live1 1 rfl (live1 4 rfl (live1 5 rfl (live1 6 rfl (live1 7 rfl (live1 14 rfl live0)))))) (liveHo 0 gl rfl (liveHo 1 (.cells (tcells r c l w p q f) 73 none) rfl (liveHo 2 (.cells [.map (some 6)] 78 none) rfl (liveHo 3 (.cells [gsl 7 L.length] 24 none) rfl (liveHo 4 (.cells [.int .u64 (bc : Int)] 70 none) rfl (liveHo 5 (.cells [.bool true] 4 none) rfl (liveHo 6 (.map es' k') rfl (liveHo 7 (gob 64 3 (cardsV L) L.length) rfl (liveHo 8 (.cells (cardV (row, col, t)) 64 none) rfl liveH0))))))))) ?_
    refine WC_condT rfl ?_
    refine WC_go hE hm ?_
    refine xP rfl rfl rfl rfl ?_
    refine RX_nil ?_
    refine WC_live (live1 9 rfl live0) ?_
    refine WC_le (Le.canon [] (n2 := 8) (lrS 9 rfl rfl lr0) (hrS 0 rfl rfl (hrS 1 rfl rfl (hrS 2 rfl rfl (hr1 3 (.cells [gsl 7 L.length] 24 none) rfl (by simp only [renO, renL, renV_gsl]; rfl) (hrS 4 rfl rfl (hrS 5 rfl rfl (hr1 6 (.map es' k') rfl (renMap hes' _ _) (hr1 7 (gob 64 3 (cardsV L) L.length) rfl (renO_gob _ (flats_cards L) _) hr0)))))))) rfl rfl rfl rfl rfl (hGn rfl)) ?_
    refine WC_ret ?_
    refine thenR ?_
    refine endR rfl ?_
    exact ⟨_, rfl, .inl ⟨es', k', hes', rfl, rfl, rfl⟩, shutRF r c l w p q f L bc true k' hes' rfl⟩
  ·
    refine RX_nil ?_
    refine WC_liveH (live1 1 rfl (live1 4 rfl (live1 5 rfl (live1 6 rfl (live1 7 rfl (live1 14 rfl live0)))))) (liveHo 0 gl rfl (liveHo 1 (.cells (tcells r c l w p q f) 73 none) rfl (liveHo 2 (.cells [.map (some 6)] 78 none) rfl (liveHo 3 (.cells [gsl 7 L.length] 24 none) rfl (liveHo 4 (.cells [.int .u64 (bc : Int)] 70 none) rfl (liveHo 5 (.cells [.bool true] 4 none) rfl (liveHo 6 (.map es' k') rfl (liveHo 7 (gob 64 3 (cardsV L) L.length) rfl (liveHo 8 (.cells (cardV (row, col, t)) 64 none) rfl liveH0))))))))) ?_
    refine WC_condF rfl ?_
    refine WC_skip ?_
    refine thenN ?_
    refine WC_live (live1 1 rfl (live1 4 rfl (live1 5 rfl (live1 6 rfl (live1 7 rfl live0))))) ?_
    refine WC_go hE hm ?_
    refine xR rfl rfl rfl rfl ?_
    refine xLoadN [_, _, _] rfl rfl rfl ?_
    refine xBSlice [_, _, _] rfl rfl rfl rfl rfl ?_
    refine xAppend1 (i := 7) (k := L.length) (j := 9) (cs := cardsV L) (new := cardV (row, col, t)) rfl rfl (by decide) (fun hk => by rw [← gob_pos hk]; rfl) (fun h => by rw [List.length_eq_zero_iff.1 h]; rfl) (cards_length L) rfl rfl rfl (by omega) rfl ?_
    intro H' e1 e2
    replace e1 : aget H' 10 = some (.cells (cardsV L ++ cardV (row, col, t)) 64 (some 3)) := e1
    have f0 : aget H' 0 = some gl := (e2 0 (by decide) (by decide)).trans rfl
    have f1 : aget H' 1 = some (.cells (tcells r c l w p q f) 73 none) := (e2 1 (by decide) (by decide)).trans rfl
    have f2 : aget H' 2 = some (.cells [.map (some 6)] 78 none) := (e2 2 (by decide) (by decide)).trans rfl
    have f3 : aget H' 3 = some (.cells [gsl 7 L.length] 24 none) := (e2 3 (by decide) (by decide)).trans rfl
    have f4 : aget H' 4 = some (.cells [.int .u64 (bc : Int)] 70 none) := (e2 4 (by decide) (by decide)).trans rfl
    have f5 : aget H' 5 = some (.cells [.bool true] 4 none) := (e2 5 (by decide) (by decide)).trans rfl
    have f6 : aget H' 6 = some (.map es' k') := (e2 6 (by decide) (by decide)).trans rfl
    refine xP rfl rfl rfl rfl ?_
    refine xSt (u := gsl 10 (L.length + 1)) rfl rfl f3 (Nat.le_refl _) rfl rfl rfl ?_
    refine xSt rfl rfl (by rw [aget_aput, if_neg (by decide)]; exact f4) (Nat.le_refl _) rfl rfl rfl ?_
    refine xSt rfl rfl (by rw [aget_aput, if_neg (by decide), aget_aput, if_neg (by decide)]; exact f5) (Nat.le_refl _) rfl rfl rfl ?_
    refine RX_nil ?_
    refine WC_liveH live0 (liveHo 0 gl (by simp [aget_aput, f0]) (liveHo 1 (.cells (tcells r c l w p q f) 73 none) (by simp [aget_aput, f1]) (liveHo 2 (.cells [.map (some 6)] 78 none) (by simp [aget_aput, f2]) (liveHo 3 (.cells [gsl 10 (L.length + 1)] 24 none) (by simp [aget_aput, splice]) (liveHo 4 (.cells [.int .u64 (b' : Int)] 70 none) (by simp [aget_aput, splice]) (liveHo 5 (.cells [.bool false] 4 none) (by simp [aget_aput, splice]) (liveHo 6 (.map es' k') (by simp [aget_aput, f6]) (liveHo 10 (.cells (cardsV L ++ cardV (row, col, t)) 64 (some 3)) (by simp [aget_aput, e1]) liveH0)))))))) ?_
    refine WC_go hE hm ?_
    refine xP rfl rfl rfl rfl ?_
    refine RX_nil ?_
    refine WC_live (live1 9 rfl live0) ?_
    refine WC_le (Le.canon [(8, 10)] (n2 := 9) (lrS 9 rfl rfl lr0) (hrS 0 rfl rfl (hrS 1 rfl rfl (hrS 2 rfl rfl (hr1 3 (.cells [gsl 8 (L.length + 1)] 24 none) rfl rfl (hrS 4 rfl rfl (hrS 5 rfl rfl (hr1 6 (.map es' k') rfl (renMap hes' _ _) (hrD 7 (hr1 8 (.cells (cardsV L ++ cardV (row, col, t)) 64 (some 3)) rfl (by simp only [renO, renL_flat _ (flats_cards2 L (row, col, t))]) hr0))))))))) rfl rfl rfl rfl rfl (hGn rfl)) ?_
    refine WC_ret ?_
    refine endR rfl ?_
    exact ⟨_, rfl, .inr ⟨es', k', hes', rfl, rfl, rfl⟩, shutRF2 r c l w p q f L (row, col, t) b' k' hes' rfl⟩

theorem renO_cells (σ : Nat → Nat) {cs : List Value} {t : TypeId} {g : Option Nat} (h : flats cs = true) : renO σ (.cells cs t g) = .cells cs t g := by simp only [renO, renL_flat σ h]
theorem next1_put {r c l w : Int} {p q f b b' : Nat} (ok : OkTable r c l w p q f) {i : Int} (h0 : 0 ≤ i ∧ i ≤ 64) (t : Bool) (h2 : b' < 2 ^ 64) (hz : i < 64 → b.testBit i.toNat = false) (ha : ∀ j : Nat, (j : Int) < i → b.testBit j = true)
    (h : b < b' ∧ i / c + (if t then w else l) ≤ r ∧ i % c + (if t then l else w) ≤ c ∧ (∀ j, b.testBit j = true → b'.testBit j = true) ∧ b'.testBit (i / c * c + i % c).toNat = true) : Next1 b b' := by
  obtain ⟨h3, h4, h5, h6, h7⟩ := h
  obtain ⟨⟨s1, s2⟩, ⟨s3, s4⟩, ⟨s5, s6⟩, s7, s8⟩ := ok.sheet
  have hd := divB h0 ⟨s3, s4⟩
  have e1 : 1 ≤ (if t = true then w else l) := by cases t <;> simp <;> omega
  have e2 : 1 ≤ (if t = true then l else w) := by cases t <;> simp <;> omega
  have hm := mulB (a := i / c) (b := c) (by omega) (by omega)
  have := divmod i c
  exact next1_of (r := r) (hi := 0) (wi := 0) h3 h2 h0.1 hz ha h6 h7 (by omega)
/-- What a search for the next card leaves. -/
def RN (r c l w : Int) (p q f b : Nat) (L : List Cd) (bc : Nat) (v : Value) (L' : List (Nat × AObj)) (n' : Nat) : Prop :=
  (∃ es' k', MapOk es' ∧ v = .tuple #[] ∧ L' = hF r c l w p q f L bc true es' k' ∧ n' = 8) ∨ (∃ cd b' es' k', Next1 b b' ∧ MapOk es' ∧ v = .tuple #[] ∧ L' = hF2 r c l w p q f L cd b' es' k' ∧ n' = 9)
def nextArgs (r c l w : Int) (p q f b : Nat) : List Value := [tableV r c l w p q f, .int .u64 (b : Int), .func (.func 38) #[] #[.pointer (some ⟨1, 0, none⟩), .pointer (some ⟨2, 0, none⟩), .pointer (some ⟨3, 0, none⟩), .pointer (some ⟨4, 0, none⟩), .pointer (some ⟨5, 0, none⟩)]]
end Go.Proofs.YtnagcnlldllagaaGreatDoor
