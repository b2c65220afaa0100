/- A part of the proof that spadilletop.TopSharedCut answers true and leaves its argument as it was (bulk at most 1048576): C7. -/
import Derived.Test.YtnagcnlldllagaaGreatDoorC6
set_option linter.all false
/- A filling is checked. -/
set_option maxRecDepth 1000000
set_option maxHeartbeats 4000000
open Go Go.Cs
namespace Go.Proofs.YtnagcnlldllagaaGreatDoor
theorem opened_cases2 {r c l w : Int} {v : Value} (h : (∃ e : Int, e ≠ 0 ∧ v = .tuple #[tableV 0 0 0 0 0 0 0, .int .i64 e]) ∨ ∃ p q f : Nat, OkTable r c l w p q f ∧ v = .tuple #[tableV r c l w p q f, .int .i64 0]) :
    ∃ (r' c' l' w' : Int) (p q f : Nat) (e : Int), v = .tuple #[tableV r' c' l' w' p q f, .int .i64 e] ∧ (e = 0 → r' = r ∧ c' = c ∧ l' = l ∧ w' = w ∧ OkTable r c l w p q f) := by
  rcases h with ⟨e, he, rfl⟩ | ⟨p, q, f, ok, rfl⟩
  · exact ⟨0, 0, 0, 0, 0, 0, 0, e, rfl, fun h => absurd h he⟩
  · exact ⟨r, c, l, w, p, q, f, 0, rfl, fun _ => ⟨rfl, rfl, rfl, rfl, ok⟩⟩
def okCard (c : Cd) : Prop := (0 ≤ c.1 ∧ c.1 ≤ 6) ∧ 0 ≤ c.2.1 ∧ c.2.1 ≤ 6
theorem cards_at : ∀ (L : List Cd) (j : Nat) (c : Cd), L[j]? = some c → ((cardsV L).drop (j * 3)).take 3 = cardV c ∧ j * 3 + 3 ≤ (cardsV L).length
  | [], j, c, h => by simp at h
  | a :: L, 0, c, h => by
    simp at h; subst h
    simp [cardsV, cardV]
  | a :: L, j + 1, c, h => by
    simp at h
    obtain ⟨h1, h2⟩ := cards_at L j c h
    have e : cardsV (a :: L) = cardV a ++ cardsV L := rfl
    have e3 : (cardV a).length = 3 := rfl
    rw [e]
    constructor
    · rw [show (j + 1) * 3 = (cardV a).length + j * 3 by rw [e3]; omega, List.drop_append]
      simp only [Nat.add_sub_cancel_left]
      rw [List.drop_of_length_le (by omega), List.nil_append]
      exact h1
    · rw [List.length_append, e3]; omega
theorem ldCard {H : Heap} {b j : Nat} {L : List Cd} {k : Nat} {c : Cd} (hk : k ≠ 0) (hb : aget H b = some (gob 64 3 (cardsV L) k)) (hc : L[j]? = some c) : semR (.loadN 3) [.pointer (some ⟨b, 0 + j * 3, none⟩)] H = some (.agg (cardV c).toArray) := by
  obtain ⟨h1, h2⟩ := cards_at L j c hc
  rw [gob_pos hk] at hb
  simp only [semR, rLoadN, hb, Nat.zero_add]
  rw [if_pos h2, h1]
theorem shutV (L : List Cd) {v : Value} (hv : idsV v = []) : ShutR v (rowC L) 2 2 :=
  shutR_of rfl rfl (by rw [hv]; rfl) (nm1 rfl rfl (nm1 (idsO_gob (flats_cards L) _) rfl nm0))
theorem shutG (L : List Cd) (r c l w : Int) : Shut [sheetV r c l w, gsl 1 L.length] (rowC L) 2 :=
  shut_of (by cases L <;> rfl) (nm1 rfl rfl (nm1 (idsO_gob (flats_cards L) _) rfl nm0))
theorem okStep {L : List Cd} {i : Int} {c : Cd} (h : ∀ j : Nat, (j : Int) < i → ∀ c, L[j]? = some c → okCard c) (hc : L[i.toNat]? = some c) (ho : okCard c) : ∀ j : Nat, (j : Int) < i + 1 → ∀ c, L[j]? = some c → okCard c := by
  intro j hj c' hc'
  by_cases hji : (j : Int) < i
  · exact h j hji c' hc'
  · have : j = i.toNat := by omega
    subst this
    rw [hc] at hc'; cases hc'; exact ho
def c12 : FC := FC.mk 107 (
  .seq (.steps [⟨.box 23, [.tmp 0], some 2, none⟩,
    ⟨.move, [.const (.int .i64 0)], some 4, none⟩]) (
  .seq (.steps [⟨.loadN 4, [.tmp 2], some 16, none⟩,
    ⟨.callF 36, [.tmp 16], some 17, none⟩,
    ⟨.move, [.tmp 17], some 15, none⟩,
    ⟨.extract 0, [.tmp 15], some 18, none⟩,
    ⟨.extract 1, [.tmp 15], some 19, none⟩,
    ⟨.alloc 73 [.int .i64 0, .int .i64 0, .int .i64 0, .int .i64 0, .int .u64 0, .int .u64 0, .int .u64 0], [], some 5, none⟩,
    ⟨.store 7, [.tmp 5, .tmp 18], none, none⟩,
    ⟨.move, [.tmp 19], some 6, none⟩]) (
  .seq (.seq (.steps [⟨.move, [.tmp 6], some 20, none⟩,
    ⟨.bin .neq, [.tmp 20, .const (.int .i64 0)], some 21, none⟩]) (
  .cond (.tmp 21) (
    .seq (.steps [⟨.move, [.tmp 6], some 22, none⟩,
      ⟨.move, [.tmp 22], some 4, none⟩]) (
    .ret)) (
    .skip))) (
  .seq (.steps [⟨.move, [.const (.int .u64 0)], some 7, none⟩]) (
  .seq (.steps [⟨.move, [.const (.int .i64 (-1))], some 8, none⟩]) (
  .seq (.seq (.steps [⟨.move, [.tmp 1], some 23, none⟩,
    ⟨.lenS, [.tmp 23], some 24, none⟩,
    ⟨.move, [.const (.int .i64 0)], some 25, none⟩]) (
  .block 0 (
    .loop (
      .seq (.steps [⟨.bin .lss, [.tmp 25, .tmp 24], some 26, none⟩]) (
      .seq (.cond (.tmp 26) (
        .skip) (
        .exit 0)) (
      .seq (.block 1 (
        .seq (.steps [⟨.indexAddrS 3, [.tmp 23, .tmp 25], some 27, none⟩,
          ⟨.loadN 3, [.tmp 27], some 28, none⟩,
          ⟨.alloc 64 [.int .i64 0, .int .i64 0, .bool false], [], some 10, none⟩,
          ⟨.store 3, [.tmp 10, .tmp 28], none, none⟩]) (
        .seq (.steps [⟨.loadN 4, [.tmp 2], some 30, none⟩,
          ⟨.fieldAddr 2, [.tmp 10], some 31, none⟩,
          ⟨.load1, [.tmp 31], some 32, none⟩,
          ⟨.callF 42, [.tmp 30, .tmp 32], some 33, none⟩,
          ⟨.move, [.tmp 33], some 29, none⟩,
          ⟨.extract 0, [.tmp 29], some 34, none⟩,
          ⟨.extract 1, [.tmp 29], some 35, none⟩,
          ⟨.move, [.tmp 34], some 11, none⟩,
          ⟨.move, [.tmp 35], some 12, none⟩]) (
        .seq (.block 2 (
          .seq (.steps [⟨.fieldAddr 2, [.tmp 10], some 37, none⟩,
            ⟨.load1, [.tmp 37], some 38, none⟩,
            ⟨.move, [.tmp 38], some 39, none⟩,
            ⟨.fieldAddr 2, [.tmp 2], some 40, some (39, true)⟩,
            ⟨.load1, [.tmp 40], some 41, some (39, true)⟩,
            ⟨.fieldAddr 3, [.tmp 2], some 42, some (39, true)⟩,
            ⟨.load1, [.tmp 42], some 43, some (39, true)⟩,
            ⟨.bin .eql, [.tmp 41, .tmp 43], some 44, some (39, true)⟩,
            ⟨.pick, [.tmp 39, .tmp 44, .const (.bool false)], some 45, none⟩,
            ⟨.move, [.tmp 45], some 36, none⟩]) (
          .cond (.tmp 36) (
            .seq (.steps [⟨.move, [.const (.int .i64 5)], some 4, none⟩]) (
            .ret)) (
            .seq (.steps [⟨.fieldAddr 0, [.tmp 10], some 47, none⟩,
              ⟨.load1, [.tmp 47], some 48, none⟩,
              ⟨.bin .lss, [.tmp 48, .const (.int .i64 0)], some 49, none⟩,
              ⟨.move, [.tmp 49], some 50, none⟩,
              ⟨.fieldAddr 1, [.tmp 10], some 51, some (50, false)⟩,
              ⟨.load1, [.tmp 51], some 52, some (50, false)⟩,
              ⟨.bin .lss, [.tmp 52, .const (.int .i64 0)], some 53, some (50, false)⟩,
              ⟨.pick, [.tmp 50, .const (.bool true), .tmp 53], some 54, none⟩,
              ⟨.move, [.tmp 54], some 55, none⟩,
              ⟨.fieldAddr 0, [.tmp 10], some 56, some (55, false)⟩,
              ⟨.load1, [.tmp 56], some 57, some (55, false)⟩,
              ⟨.fieldAddr 0, [.tmp 2], some 58, some (55, false)⟩,
              ⟨.load1, [.tmp 58], some 59, some (55, false)⟩,
              ⟨.move, [.tmp 11], some 60, some (55, false)⟩,
              ⟨.bin .sub, [.tmp 59, .tmp 60], some 61, some (55, false)⟩,
              ⟨.bin .gtr, [.tmp 57, .tmp 61], some 62, some (55, false)⟩,
              ⟨.pick, [.tmp 55, .const (.bool true), .tmp 62], some 63, none⟩,
              ⟨.move, [.tmp 63], some 64, none⟩,
              ⟨.fieldAddr 1, [.tmp 10], some 65, some (64, false)⟩,
              ⟨.load1, [.tmp 65], some 66, some (64, false)⟩,
              ⟨.fieldAddr 1, [.tmp 2], some 67, some (64, false)⟩,
              ⟨.load1, [.tmp 67], some 68, some (64, false)⟩,
              ⟨.move, [.tmp 12], some 69, some (64, false)⟩,
              ⟨.bin .sub, [.tmp 68, .tmp 69], some 70, some (64, false)⟩,
              ⟨.bin .gtr, [.tmp 66, .tmp 70], some 71, some (64, false)⟩,
              ⟨.pick, [.tmp 64, .const (.bool true), .tmp 71], some 72, none⟩,
              ⟨.move, [.tmp 72], some 46, none⟩]) (
            .cond (.tmp 46) (
              .seq (.steps [⟨.move, [.const (.int .i64 1)], some 4, none⟩]) (
              .ret)) (
              .seq (.steps [⟨.fieldAddr 0, [.tmp 10], some 74, none⟩,
                ⟨.load1, [.tmp 74], some 75, none⟩,
                ⟨.fieldAddr 1, [.tmp 2], some 76, none⟩,
                ⟨.load1, [.tmp 76], some 77, none⟩,
                ⟨.bin .mul, [.tmp 75, .tmp 77], some 78, none⟩,
                ⟨.fieldAddr 1, [.tmp 10], some 79, none⟩,
                ⟨.load1, [.tmp 79], some 80, none⟩,
                ⟨.bin .add, [.tmp 78, .tmp 80], some 81, none⟩,
                ⟨.move, [.tmp 8], some 82, none⟩,
                ⟨.bin .leq, [.tmp 81, .tmp 82], some 83, none⟩,
                ⟨.move, [.tmp 83], some 73, none⟩]) (
              .cond (.tmp 73) (
                .seq (.steps [⟨.move, [.const (.int .i64 7)], some 4, none⟩]) (
                .ret)) (
                .skip)))))))) (
        .seq (.steps [⟨.fieldAddr 0, [.tmp 10], some 84, none⟩,
          ⟨.load1, [.tmp 84], some 85, none⟩,
          ⟨.fieldAddr 1, [.tmp 2], some 86, none⟩,
          ⟨.load1, [.tmp 86], some 87, none⟩,
          ⟨.bin .mul, [.tmp 85, .tmp 87], some 88, none⟩,
          ⟨.fieldAddr 1, [.tmp 10], some 89, none⟩,
          ⟨.load1, [.tmp 89], some 90, none⟩,
          ⟨.bin .add, [.tmp 88, .tmp 90], some 91, none⟩,
          ⟨.move, [.tmp 91], some 8, none⟩]) (
        .seq (.steps [⟨.loadN 7, [.tmp 5], some 93, none⟩,
          ⟨.move, [.tmp 7], some 94, none⟩,
          ⟨.loadN 3, [.tmp 10], some 95, none⟩,
          ⟨.callF 43, [.tmp 93, .tmp 94, .tmp 95], some 96, none⟩,
          ⟨.move, [.tmp 96], some 92, none⟩,
          ⟨.extract 0, [.tmp 92], some 97, none⟩,
          ⟨.extract 1, [.tmp 92], some 98, none⟩,
          ⟨.move, [.tmp 97], some 13, none⟩,
          ⟨.move, [.tmp 98], some 14, none⟩]) (
        .seq (.seq (.steps [⟨.move, [.tmp 14], some 99, none⟩,
          ⟨.un .not, [.tmp 99], some 100, none⟩]) (
        .cond (.tmp 100) (
          .seq (.steps [⟨.move, [.const (.int .i64 13)], some 4, none⟩]) (
          .ret)) (
          .skip))) (
        .steps [⟨.move, [.tmp 13], some 101, none⟩,
          ⟨.move, [.tmp 101], some 7, none⟩])))))))) (
      .steps [⟨.bin .add, [.tmp 25, .const (.int .i64 1)], some 102, none⟩,
        ⟨.move, [.tmp 102], some 25, none⟩]))))))) (
  .seq (.seq (.steps [⟨.move, [.tmp 7], some 103, none⟩,
    ⟨.fieldAddr 6, [.tmp 5], some 104, none⟩,
    ⟨.load1, [.tmp 104], some 105, none⟩,
    ⟨.bin .neq, [.tmp 103, .tmp 105], some 106, none⟩]) (
  .cond (.tmp 106) (
    .seq (.steps [⟨.move, [.const (.int .i64 21)], some 4, none⟩]) (
    .ret)) (
    .skip))) (
  .seq (.steps [⟨.move, [.const (.int .i64 0)], some 4, none⟩]) (
  .ret))))))))) [.tmp 4]
theorem c12_ok : compF Tryz.prog 12 = some c12 := by kernel_rfl
/-- spadille/cut.Verify -/
theorem f12 (r c l w : Int) (L : List Cd) (hL : L.length ≤ 1048576) : CT Tryz.prog [0] 12 [sheetV r c l w, gsl 1 L.length] (rowC L) 2 (fun v L' n' => ∃ e : Int, v = .int .i64 e ∧ (e = 0 → okSheet r c l w ∧ ∀ cd ∈ L, okCard cd) ∧ L' = rowC L ∧ n' = 2) := by
  refine ⟨shutG L r c l w, ?_⟩
  refine F_of_comp c12_ok rfl ?_
  refine WC_go hE hm ?_
  refine xA rfl rfl rfl rfl rfl rfl ?_
  refine xP rfl rfl rfl rfl ?_
  refine RX_nil ?_
  refine WC_live (live1 1 rfl (live1 2 rfl live0)) ?_
  refine WC_go hE hm ?_
  refine xLoadN [_, _, _, _] rfl rfl rfl ?_
  refine xC rfl rfl rfl rfl (f36 r c l w rfl) ?_
  rintro _ _ _ ⟨hop, rfl, rfl⟩
  obtain ⟨r', c', l', w', p, q, f, e, rfl, hok⟩ := opened_cases2 hop
  refine xP rfl rfl rfl rfl ?_
  refine xP rfl rfl rfl rfl ?_
  refine xP rfl rfl rfl rfl ?_
  refine xA rfl rfl rfl rfl rfl rfl ?_
  refine xStN [_, _, _, _, _, _, _] rfl rfl rfl rfl rfl rfl rfl rfl ?_
  refine xP rfl rfl rfl rfl ?_
  refine RX_nil ?_
  refine WC_live (live1 1 rfl (live1 2 rfl (live1 5 rfl (live1 6 rfl live0)))) ?_
  refine WC_seq ?_
  refine WC_go hE hm ?_
  refine xP rfl rfl rfl rfl ?_
  refine xNe rfl rfl ?_ ?_ <;> intro h
  ·
    refine RX_nil ?_
    refine WC_live (live1 1 rfl (live1 2 rfl (live1 5 rfl (live1 6 rfl (live1 21 rfl live0))))) ?_
    refine WC_condT rfl ?_
    refine WC_go hE hm ?_
    refine xP rfl rfl rfl rfl ?_
    refine xP rfl rfl rfl rfl ?_
    refine RX_nil ?_
    refine WC_live (live1 4 rfl live0) ?_
    refine WC_le (Le.canon [] (n2 := 2) (lrS 4 rfl rfl lr0) (hrS 0 rfl rfl (hr1 1 (gob 64 3 (cardsV L) L.length) rfl (renO_gob _ (flats_cards L) _) hr0)) rfl rfl rfl rfl rfl (hGn rfl)) ?_
    refine WC_ret ?_
    refine thenR ?_
    refine endR rfl ?_
    exact ⟨_, rfl, ⟨e, rfl, fun h' => absurd h' h, rfl, rfl⟩, shutV L rfl⟩
  ·
    refine RX_nil ?_
    refine WC_live (live1 1 rfl (live1 2 rfl (live1 5 rfl (live1 6 rfl (live1 21 rfl live0))))) ?_
    refine WC_condF rfl ?_
    refine WC_skip ?_
    refine thenN ?_
    refine WC_live (live1 1 rfl (live1 2 rfl (live1 5 rfl live0))) ?_
    refine WC_go hE hm ?_
    refine xP rfl rfl rfl rfl ?_
    refine RX_nil ?_
    refine WC_live (live1 1 rfl (live1 2 rfl (live1 5 rfl (live1 7 rfl live0)))) ?_
    refine WC_go hE hm ?_
    refine xP rfl rfl rfl rfl ?_
    refine RX_nil ?_
    refine WC_live (live1 1 rfl (live1 2 rfl (live1 5 rfl (live1 7 rfl (live1 8 rfl live0))))) ?_
    refine WC_seq ?_
    refine WC_go hE hm ?_
    refine xP rfl rfl rfl rfl ?_
    refine xLenG (k := L.length) rfl rfl ?_
    refine xP rfl rfl rfl rfl ?_
    refine RX_nil ?_
    refine WC_live (live1 2 rfl (live1 5 rfl (live1 7 rfl (live1 8 rfl (live1 23 rfl (live1 24 rfl (live1 25 rfl live0))))))) ?_
    refine WC_block ?_
    -- LOOP live [2, 5, 7, 8, 23, 24, 25]
    obtain ⟨rfl, rfl, rfl, rfl, ok⟩ := hok h
    have hs := ok.sheet
    obtain ⟨⟨s1, s2⟩, ⟨s3, s4⟩, ⟨s5, s6⟩, s7, s8⟩ := hs
    refine WC_liveH (live1 2 rfl (live1 5 rfl (live1 7 rfl (live1 8 rfl (live1 23 rfl (live1 24 rfl (live1 25 rfl live0))))))) (liveHo 0 gl rfl (liveHo 1 (gob 64 3 (cardsV L) L.length) rfl (liveHo 2 (.cells [.int .i64 r', .int .i64 c', .int .i64 l', .int .i64 w'] 23 none) rfl (liveHo 3 (.cells (tcells r' c' l' w' p q f) 73 none) rfl liveH0)))) ?_
    refine WC_loopX (X := Int × Nat × Int) (fun x => { T := ofL [(2, .pointer (some ⟨2, 0, none⟩)), (5, .pointer (some ⟨3, 0, none⟩)), (7, .int .u64 (x.2.1 : Int)), (8, .int .i64 x.2.2), (23, gsl 1 L.length), (24, .int .i64 (L.length : Int)), (25, .int .i64 x.1)], D := [], H := ofL [(0, gl), (1, gob 64 3 (cardsV L) L.length), (2, (.cells [.int .i64 r', .int .i64 c', .int .i64 l', .int .i64 w'] 23 none)), (3, .cells (tcells r' c' l' w' p q f) 73 none)], n := 4 }) (fun x => 0 ≤ x.1 ∧ x.1 ≤ L.length ∧ x.2.1 < 2 ^ 64 ∧ (-1 ≤ x.2.2 ∧ x.2.2 ≤ 100) ∧ ∀ j : Nat, (j : Int) < x.1 → ∀ c, L[j]? = some c → okCard c) (fun x => (L.length - x.1).toNat) (0, 0, -1) ⟨by decide, by dsimp only; omega, by decide, by decide, fun j hj => by dsimp only at hj; omega⟩ ?_
    rintro ⟨i, b, last⟩ ⟨i1, i2, hb, hlast, i3⟩
    dsimp only at *
    refine WC_go hE hm ?_
    refine xCmp rfl rfl rfl rfl ?_ ?_ <;> intro h
    ·
      refine RX_nil ?_
      refine WC_live (live1 2 rfl (live1 5 rfl (live1 7 rfl (live1 8 rfl (live1 23 rfl (live1 24 rfl (live1 25 rfl (live1 26 rfl live0)))))))) ?_
      refine WC_seq ?_
      refine WC_condT rfl ?_
      refine WC_skip ?_
      refine thenN ?_
      refine WC_live (live1 2 rfl (live1 5 rfl (live1 7 rfl (live1 8 rfl (live1 23 rfl (live1 24 rfl (live1 25 rfl live0))))))) ?_
      refine WC_seq ?_
      refine WC_block ?_
      refine WC_go hE hm ?_
      have hk : L.length ≠ 0 := by omega
      obtain ⟨⟨row, col, t⟩, hcd⟩ : ∃ cd, L[i.toNat]? = some cd := ⟨_, List.getElem?_eq_getElem (by omega)⟩
      obtain ⟨hi, ehi⟩ : ∃ hi : Int, hi = (if t then w' else l') := ⟨_, rfl⟩
      obtain ⟨wi, ewi⟩ : ∃ wi : Int, wi = (if t then l' else w') := ⟨_, rfl⟩
      have hh1 : 1 ≤ hi ∧ hi ≤ 6 := by rw [ehi]; cases t <;> simp <;> omega
      have hh2 : 1 ≤ wi ∧ wi ≤ 6 := by rw [ewi]; cases t <;> simp <;> omega
      refine xIdxG (k := L.length) rfl rfl (by omega) ?_
      refine xLoadN [.int .i64 row, .int .i64 col, .bool t] rfl rfl (ldCard hk rfl hcd) ?_
      refine xA rfl rfl rfl rfl rfl rfl ?_
      refine xStN [_, _, _] rfl rfl rfl rfl rfl rfl rfl rfl ?_
      refine RX_nil ?_
      refine WC_live (live1 2 rfl (live1 5 rfl (live1 7 rfl (live1 8 rfl (live1 10 rfl (live1 23 rfl (live1 24 rfl (live1 25 rfl live0)))))))) ?_
      refine WC_go hE hm ?_
      refine xLoadN [_, _, _, _] rfl rfl rfl ?_
      refine xP rfl rfl rfl rfl ?_
      refine xR rfl rfl rfl rfl ?_
      refine xC rfl rfl rfl rfl (f42 r' c' l' w' t rfl) ?_
      rintro _ _ _ ⟨rfl, rfl, rfl⟩
      rw [← ehi, ← ewi]
      refine xP rfl rfl rfl rfl ?_
      refine xP rfl rfl rfl rfl ?_
      refine xP rfl rfl rfl rfl ?_
      refine xP rfl rfl rfl rfl ?_
      refine xP rfl rfl rfl rfl ?_
      refine RX_nil ?_
      refine WC_live (live1 2 rfl (live1 5 rfl (live1 7 rfl (live1 8 rfl (live1 10 rfl (live1 11 rfl (live1 12 rfl (live1 23 rfl (live1 24 rfl (live1 25 rfl live0)))))))))) ?_
      refine WC_seq ?_
      refine WC_block ?_
      refine WC_go hE hm ?_
      refine xP rfl rfl rfl rfl ?_
      refine xR rfl rfl rfl rfl ?_
      refine xP rfl rfl rfl rfl ?_
      cases t
      ·
        refine xS rfl ?_
        refine xS rfl ?_
        refine xS rfl ?_
        refine xS rfl ?_
        refine xS rfl ?_
        refine xP rfl rfl rfl rfl ?_
        refine xP rfl rfl rfl rfl ?_
        refine RX_nil ?_
        refine WC_live (live1 2 rfl (live1 5 rfl (live1 7 rfl (live1 8 rfl (live1 10 rfl (live1 11 rfl (live1 12 rfl (live1 23 rfl (live1 24 rfl (live1 25 rfl (live1 36 rfl live0))))))))))) ?_
        refine WC_condF rfl ?_
        refine WC_go hE hm ?_
        refine xP rfl rfl rfl rfl ?_
        refine xR rfl rfl rfl rfl ?_
        refine xCmp rfl rfl rfl rfl ?_ ?_ <;> intro h
        ·
          refine xP rfl rfl rfl rfl ?_
          refine xS rfl ?_
          refine xS rfl ?_
          refine xS rfl ?_
          refine xP rfl rfl rfl rfl ?_
          refine xP rfl rfl rfl rfl ?_
          refine xS rfl ?_
          refine xS rfl ?_
          refine xS rfl ?_
          refine xS rfl ?_
          refine xS rfl ?_
          refine xS rfl ?_
          refine xS rfl ?_
          refine xP rfl rfl rfl rfl ?_
          refine xP rfl rfl rfl rfl ?_
          refine xS rfl ?_
          refine xS rfl ?_
          refine xS rfl ?_
          refine xS rfl ?_
          refine xS rfl ?_
          refine xS rfl ?_
          refine xS rfl ?_
          refine xP rfl rfl rfl rfl ?_
          refine xP rfl rfl rfl rfl ?_
          refine RX_nil ?_
          refine WC_live (live1 2 rfl (live1 5 rfl (live1 7 rfl (live1 8 rfl (live1 10 rfl (live1 23 rfl (live1 24 rfl (live1 25 rfl (live1 46 rfl live0))))))))) ?_
          refine WC_condT rfl ?_
          refine WC_go hE hm ?_
          refine xP rfl rfl rfl rfl ?_
          refine RX_nil ?_
          refine WC_live (live1 4 rfl live0) ?_
          refine WC_le (Le.canon [] (n2 := 2) (lrS 4 rfl rfl lr0) (hrS 0 rfl rfl (hr1 1 (gob 64 3 (cardsV L) L.length) rfl (renO_gob _ (flats_cards L) _) hr0)) rfl rfl rfl rfl rfl (hGn rfl)) ?_
          refine WC_ret ?_
          refine blockR ?_
          refine thenR ?_
          refine blockR ?_
          refine thenR ?_
          refine thenR ?_
          refine blockR ?_
          refine thenR ?_
          refine endR rfl ?_
          exact ⟨_, rfl, ⟨_, rfl, fun h => absurd h (by decide), rfl, rfl⟩, shutV L rfl⟩
        ·
          refine xP rfl rfl rfl rfl ?_
          refine xP rfl rfl rfl rfl ?_
          refine xR rfl rfl rfl rfl ?_
          refine xCmp rfl rfl rfl rfl ?_ ?_ <;> intro h
          ·
            refine xP rfl rfl rfl rfl ?_
            refine xP rfl rfl rfl rfl ?_
            refine xS rfl ?_
            refine xS rfl ?_
            refine xS rfl ?_
            refine xS rfl ?_
            refine xS rfl ?_
            refine xS rfl ?_
            refine xS rfl ?_
            refine xP rfl rfl rfl rfl ?_
            refine xP rfl rfl rfl rfl ?_
            refine xS rfl ?_
            refine xS rfl ?_
            refine xS rfl ?_
            refine xS rfl ?_
            refine xS rfl ?_
            refine xS rfl ?_
            refine xS rfl ?_
            refine xP rfl rfl rfl rfl ?_
            refine xP rfl rfl rfl rfl ?_
            refine RX_nil ?_
            refine WC_live (live1 2 rfl (live1 5 rfl (live1 7 rfl (live1 8 rfl (live1 10 rfl (live1 23 rfl (live1 24 rfl (live1 25 rfl (live1 46 rfl live0))))))))) ?_
            refine WC_condT rfl ?_
            refine WC_go hE hm ?_
            refine xP rfl rfl rfl rfl ?_
            refine RX_nil ?_
            refine WC_live (live1 4 rfl live0) ?_
            refine WC_le (Le.canon [] (n2 := 2) (lrS 4 rfl rfl lr0) (hrS 0 rfl rfl (hr1 1 (gob 64 3 (cardsV L) L.length) rfl (renO_gob _ (flats_cards L) _) hr0)) rfl rfl rfl rfl rfl (hGn rfl)) ?_
            refine WC_ret ?_
            refine blockR ?_
            refine thenR ?_
            refine blockR ?_
            refine thenR ?_
            refine thenR ?_
            refine blockR ?_
            refine thenR ?_
            refine endR rfl ?_
            exact ⟨_, rfl, ⟨_, rfl, fun h => absurd h (by decide), rfl, rfl⟩, shutV L rfl⟩
          ·
            refine xP rfl rfl rfl rfl ?_
            refine xP rfl rfl rfl rfl ?_
            refine xP rfl rfl rfl rfl ?_
            refine xR rfl rfl rfl rfl ?_
            refine xP rfl rfl rfl rfl ?_
            refine xR rfl rfl rfl rfl ?_
            refine xP rfl rfl rfl rfl ?_
            refine xSub rfl rfl (by omega) ?_
            refine xCmp rfl rfl rfl rfl ?_ ?_ <;> intro h
            ·
              refine xP rfl rfl rfl rfl ?_
              refine xP rfl rfl rfl rfl ?_
              refine xS rfl ?_
              refine xS rfl ?_
              refine xS rfl ?_
              refine xS rfl ?_
              refine xS rfl ?_
              refine xS rfl ?_
              refine xS rfl ?_
              refine xP rfl rfl rfl rfl ?_
              refine xP rfl rfl rfl rfl ?_
              refine RX_nil ?_
              refine WC_live (live1 2 rfl (live1 5 rfl (live1 7 rfl (live1 8 rfl (live1 10 rfl (live1 23 rfl (live1 24 rfl (live1 25 rfl (live1 46 rfl live0))))))))) ?_
              refine WC_condT rfl ?_
              refine WC_go hE hm ?_
              refine xP rfl rfl rfl rfl ?_
              refine RX_nil ?_
              refine WC_live (live1 4 rfl live0) ?_
              refine WC_le (Le.canon [] (n2 := 2) (lrS 4 rfl rfl lr0) (hrS 0 rfl rfl (hr1 1 (gob 64 3 (cardsV L) L.length) rfl (renO_gob _ (flats_cards L) _) hr0)) rfl rfl rfl rfl rfl (hGn rfl)) ?_
              refine WC_ret ?_
              refine blockR ?_
              refine thenR ?_
              refine blockR ?_
              refine thenR ?_
              refine thenR ?_
              refine blockR ?_
              refine thenR ?_
              refine endR rfl ?_
              exact ⟨_, rfl, ⟨_, rfl, fun h => absurd h (by decide), rfl, rfl⟩, shutV L rfl⟩
            ·
              refine xP rfl rfl rfl rfl ?_
              refine xP rfl rfl rfl rfl ?_
              refine xP rfl rfl rfl rfl ?_
              refine xR rfl rfl rfl rfl ?_
              refine xP rfl rfl rfl rfl ?_
              refine xR rfl rfl rfl rfl ?_
              refine xP rfl rfl rfl rfl ?_
              refine xSub rfl rfl (by omega) ?_
              refine xCmp rfl rfl rfl rfl ?_ ?_ <;> intro h
              ·
                refine xP rfl rfl rfl rfl ?_
                refine xP rfl rfl rfl rfl ?_
                refine RX_nil ?_
                refine WC_live (live1 2 rfl (live1 5 rfl (live1 7 rfl (live1 8 rfl (live1 10 rfl (live1 23 rfl (live1 24 rfl (live1 25 rfl (live1 46 rfl live0))))))))) ?_
                refine WC_condT rfl ?_
                refine WC_go hE hm ?_
                refine xP rfl rfl rfl rfl ?_
                refine RX_nil ?_
                refine WC_live (live1 4 rfl live0) ?_
                refine WC_le (Le.canon [] (n2 := 2) (lrS 4 rfl rfl lr0) (hrS 0 rfl rfl (hr1 1 (gob 64 3 (cardsV L) L.length) rfl (renO_gob _ (flats_cards L) _) hr0)) rfl rfl rfl rfl rfl (hGn rfl)) ?_
                refine WC_ret ?_
                refine blockR ?_
                refine thenR ?_
                refine blockR ?_
                refine thenR ?_
                refine thenR ?_
                refine blockR ?_
                refine thenR ?_
                refine endR rfl ?_
                exact ⟨_, rfl, ⟨_, rfl, fun h => absurd h (by decide), rfl, rfl⟩, shutV L rfl⟩
              ·
                refine xP rfl rfl rfl rfl ?_
                refine xP rfl rfl rfl rfl ?_
                refine RX_nil ?_
                refine WC_live (live1 2 rfl (live1 5 rfl (live1 7 rfl (live1 8 rfl (live1 10 rfl (live1 23 rfl (live1 24 rfl (live1 25 rfl (live1 46 rfl live0))))))))) ?_
                refine WC_condF rfl ?_
                refine WC_go hE hm ?_
                refine xP rfl rfl rfl rfl ?_
                refine xR rfl rfl rfl rfl ?_
                refine xP rfl rfl rfl rfl ?_
                refine xR rfl rfl rfl rfl ?_
                have hmu := mulB (a := row) (b := c') (by omega) (by omega)
                refine xMul rfl rfl (by omega) ?_
                refine xP rfl rfl rfl rfl ?_
                refine xR rfl rfl rfl rfl ?_
                refine xAdd rfl rfl (by omega) ?_
                refine xP rfl rfl rfl rfl ?_
                refine xCmp rfl rfl rfl rfl ?_ ?_ <;> intro h
                ·
                  refine xP rfl rfl rfl rfl ?_
                  refine RX_nil ?_
                  refine WC_live (live1 2 rfl (live1 5 rfl (live1 7 rfl (live1 10 rfl (live1 23 rfl (live1 24 rfl (live1 25 rfl (live1 73 rfl live0)))))))) ?_
                  refine WC_condT rfl ?_
                  refine WC_go hE hm ?_
                  refine xP rfl rfl rfl rfl ?_
                  refine RX_nil ?_
                  refine WC_live (live1 4 rfl live0) ?_
                  refine WC_le (Le.canon [] (n2 := 2) (lrS 4 rfl rfl lr0) (hrS 0 rfl rfl (hr1 1 (gob 64 3 (cardsV L) L.length) rfl (renO_gob _ (flats_cards L) _) hr0)) rfl rfl rfl rfl rfl (hGn rfl)) ?_
                  refine WC_ret ?_
                  refine blockR ?_
                  refine thenR ?_
                  refine blockR ?_
                  refine thenR ?_
                  refine thenR ?_
                  refine blockR ?_
                  refine thenR ?_
                  refine endR rfl ?_
                  exact ⟨_, rfl, ⟨_, rfl, fun h => absurd h (by decide), rfl, rfl⟩, shutV L rfl⟩
                ·
                  refine xP rfl rfl rfl rfl ?_
                  refine RX_nil ?_
                  refine WC_live (live1 2 rfl (live1 5 rfl (live1 7 rfl (live1 10 rfl (live1 23 rfl (live1 24 rfl (live1 25 rfl (live1 73 rfl live0)))))))) ?_
                  refine WC_condF rfl ?_
                  refine WC_skip ?_
                  refine blockN ?_
                  refine thenN ?_
                  refine WC_live (live1 2 rfl (live1 5 rfl (live1 7 rfl (live1 10 rfl (live1 23 rfl (live1 24 rfl (live1 25 rfl live0))))))) ?_
                  refine WC_go hE hm ?_
                  refine xP rfl rfl rfl rfl ?_
                  refine xR rfl rfl rfl rfl ?_
                  refine xP rfl rfl rfl rfl ?_
                  refine xR rfl rfl rfl rfl ?_
                  have hmu := mulB (a := row) (b := c') (by omega) (by omega)
                  refine xMul rfl rfl (by omega) ?_
                  refine xP rfl rfl rfl rfl ?_
                  refine xR rfl rfl rfl rfl ?_
                  refine xAdd rfl rfl (by omega) ?_
                  refine xP rfl rfl rfl rfl ?_
                  refine RX_nil ?_
                  refine WC_live (live1 2 rfl (live1 5 rfl (live1 7 rfl (live1 8 rfl (live1 10 rfl (live1 23 rfl (live1 24 rfl (live1 25 rfl live0)))))))) ?_
                  refine WC_go hE hm ?_
                  refine xLoadN [_, _, _, _, _, _, _] rfl rfl rfl ?_
                  refine xP rfl rfl rfl rfl ?_
                  refine xLoadN [_, _, _] rfl rfl rfl ?_
                  refine xC rfl rfl rfl rfl (f43 r' c' l' w' p q f b row col false ok hb (by omega) (by omega) rfl) ?_
                  rintro _ _ _ ⟨⟨b', is, hb', rfl, hgo⟩, rfl, rfl⟩
                  refine xP rfl rfl rfl rfl ?_
                  refine xP rfl rfl rfl rfl ?_
                  refine xP rfl rfl rfl rfl ?_
                  refine xP rfl rfl rfl rfl ?_
                  refine xP rfl rfl rfl rfl ?_
                  refine RX_nil ?_
                  refine WC_live (live1 2 rfl (live1 5 rfl (live1 8 rfl (live1 13 rfl (live1 14 rfl (live1 23 rfl (live1 24 rfl (live1 25 rfl live0)))))))) ?_
                  refine WC_seq ?_
                  refine WC_go hE hm ?_
                  refine xP rfl rfl rfl rfl ?_
                  refine xP rfl rfl rfl rfl ?_
                  refine RX_nil ?_
                  refine WC_live (live1 2 rfl (live1 5 rfl (live1 8 rfl (live1 13 rfl (live1 23 rfl (live1 24 rfl (live1 25 rfl (live1 100 rfl live0)))))))) ?_
                  refine WC_cond rfl (fun h => ?_) (fun h => ?_)
                  ·
                    refine WC_go hE hm ?_
                    refine xP rfl rfl rfl rfl ?_
                    refine RX_nil ?_
                    refine WC_live (live1 4 rfl live0) ?_
                    refine WC_le (Le.canon [] (n2 := 2) (lrS 4 rfl rfl lr0) (hrS 0 rfl rfl (hr1 1 (gob 64 3 (cardsV L) L.length) rfl (renO_gob _ (flats_cards L) _) hr0)) rfl rfl rfl rfl rfl (hGn rfl)) ?_
                    refine WC_ret ?_
                    refine thenR ?_
                    refine blockR ?_
                    refine thenR ?_
                    refine thenR ?_
                    refine blockR ?_
                    refine thenR ?_
                    refine endR rfl ?_
                    exact ⟨_, rfl, ⟨_, rfl, fun h => absurd h (by decide), rfl, rfl⟩, shutV L rfl⟩
                  ·
                    refine WC_skip ?_
                    refine thenN ?_
                    refine WC_live (live1 2 rfl (live1 5 rfl (live1 8 rfl (live1 13 rfl (live1 23 rfl (live1 24 rfl (live1 25 rfl live0))))))) ?_
                    refine WC_steps hE hm ?_
                    refine xP rfl rfl rfl rfl ?_
                    refine xP rfl rfl rfl rfl ?_
                    refine RX_nil ?_
                    refine blockN ?_
                    refine thenN ?_
                    refine WC_live (live1 2 rfl (live1 5 rfl (live1 7 rfl (live1 8 rfl (live1 23 rfl (live1 24 rfl (live1 25 rfl live0))))))) ?_
                    refine WC_steps hE hm ?_
                    refine xAdd rfl rfl (by omega) ?_
                    refine xP rfl rfl rfl rfl ?_
                    refine RX_nil ?_
                    refine thenN ⟨(i + 1, b', row * c' + col), ⟨by dsimp only; omega, by dsimp only; omega, hb', by dsimp only; omega, fun j hj => okStep i3 hcd ⟨⟨by dsimp only; omega, by dsimp only; omega⟩, by dsimp only; omega, by dsimp only; omega⟩ j hj⟩, by dsimp only; omega, Le.canon [(2, 2), (3, 3)] (n2 := 4) (lr1 2 (.pointer (some ⟨2, 0, none⟩)) rfl rfl (lr1 5 (.pointer (some ⟨3, 0, none⟩)) rfl rfl (lrS 7 rfl rfl (lrS 8 rfl rfl (lr1 23 (gsl 1 L.length) rfl (renV_gsl _ 1 _) (lrS 24 rfl rfl (lrS 25 rfl rfl lr0))))))) (hrS 0 rfl rfl (hr1 1 (gob 64 3 (cardsV L) L.length) rfl (renO_gob _ (flats_cards L) _) (hrS 2 rfl rfl (hrS 3 rfl rfl hr0)))) rfl rfl rfl rfl rfl (hGn rfl)⟩
      ·
        refine xP rfl rfl rfl rfl ?_
        refine xR rfl rfl rfl rfl ?_
        refine xP rfl rfl rfl rfl ?_
        refine xR rfl rfl rfl rfl ?_
        refine xEq rfl rfl ?_ ?_ <;> intro h
        ·
          refine xP rfl rfl rfl rfl ?_
          refine xP rfl rfl rfl rfl ?_
          refine RX_nil ?_
          refine WC_live (live1 2 rfl (live1 5 rfl (live1 7 rfl (live1 8 rfl (live1 10 rfl (live1 11 rfl (live1 12 rfl (live1 23 rfl (live1 24 rfl (live1 25 rfl (live1 36 rfl live0))))))))))) ?_
          refine WC_condT rfl ?_
          refine WC_go hE hm ?_
          refine xP rfl rfl rfl rfl ?_
          refine RX_nil ?_
          refine WC_live (live1 4 rfl live0) ?_
          refine WC_le (Le.canon [] (n2 := 2) (lrS 4 rfl rfl lr0) (hrS 0 rfl rfl (hr1 1 (gob 64 3 (cardsV L) L.length) rfl (renO_gob _ (flats_cards L) _) hr0)) rfl rfl rfl rfl rfl (hGn rfl)) ?_
          refine WC_ret ?_
          refine blockR ?_
          refine thenR ?_
          refine blockR ?_
          refine thenR ?_
          refine thenR ?_
          refine blockR ?_
          refine thenR ?_
          refine endR rfl ?_
          exact ⟨_, rfl, ⟨_, rfl, fun h => absurd h (by decide), rfl, rfl⟩, shutV L rfl⟩
        ·
          refine xP rfl rfl rfl rfl ?_
          refine xP rfl rfl rfl rfl ?_
          refine RX_nil ?_
          refine WC_live (live1 2 rfl (live1 5 rfl (live1 7 rfl (live1 8 rfl (live1 10 rfl (live1 11 rfl (live1 12 rfl (live1 23 rfl (live1 24 rfl (live1 25 rfl (live1 36 rfl live0))))))))))) ?_
          refine WC_condF rfl ?_
          refine WC_go hE hm ?_
          refine xP rfl rfl rfl rfl ?_
          refine xR rfl rfl rfl rfl ?_
          refine xCmp rfl rfl rfl rfl ?_ ?_ <;> intro h
          ·
            refine xP rfl rfl rfl rfl ?_
            refine xS rfl ?_
            refine xS rfl ?_
            refine xS rfl ?_
            refine xP rfl rfl rfl rfl ?_
            refine xP rfl rfl rfl rfl ?_
            refine xS rfl ?_
            refine xS rfl ?_
            refine xS rfl ?_
            refine xS rfl ?_
            refine xS rfl ?_
            refine xS rfl ?_
            refine xS rfl ?_
            refine xP rfl rfl rfl rfl ?_
            refine xP rfl rfl rfl rfl ?_
            refine xS rfl ?_
            refine xS rfl ?_
            refine xS rfl ?_
            refine xS rfl ?_
            refine xS rfl ?_
            refine xS rfl ?_
            refine xS rfl ?_
            refine xP rfl rfl rfl rfl ?_
            refine xP rfl rfl rfl rfl ?_
            refine RX_nil ?_
            refine WC_live (live1 2 rfl (live1 5 rfl (live1 7 rfl (live1 8 rfl (live1 10 rfl (live1 23 rfl (live1 24 rfl (live1 25 rfl (live1 46 rfl live0))))))))) ?_
            refine WC_condT rfl ?_
            refine WC_go hE hm ?_
            refine xP rfl rfl rfl rfl ?_
            refine RX_nil ?_
            refine WC_live (live1 4 rfl live0) ?_
            refine WC_le (Le.canon [] (n2 := 2) (lrS 4 rfl rfl lr0) (hrS 0 rfl rfl (hr1 1 (gob 64 3 (cardsV L) L.length) rfl (renO_gob _ (flats_cards L) _) hr0)) rfl rfl rfl rfl rfl (hGn rfl)) ?_
            refine WC_ret ?_
            refine blockR ?_
            refine thenR ?_
            refine blockR ?_
            refine thenR ?_
            refine thenR ?_
            refine blockR ?_
            refine thenR ?_
            refine endR rfl ?_
            exact ⟨_, rfl, ⟨_, rfl, fun h => absurd h (by decide), rfl, rfl⟩, shutV L rfl⟩
          ·
            refine xP rfl rfl rfl rfl ?_
            refine xP rfl rfl rfl rfl ?_
            refine xR rfl rfl rfl rfl ?_
            refine xCmp rfl rfl rfl rfl ?_ ?_ <;> intro h
            ·
              refine xP rfl rfl rfl rfl ?_
              refine xP rfl rfl rfl rfl ?_
              refine xS rfl ?_
              refine xS rfl ?_
              refine xS rfl ?_
              refine xS rfl ?_
              refine xS rfl ?_
              refine xS rfl ?_
              refine xS rfl ?_
              refine xP rfl rfl rfl rfl ?_
              refine xP rfl rfl rfl rfl ?_
              refine xS rfl ?_
              refine xS rfl ?_
              refine xS rfl ?_
              refine xS rfl ?_
              refine xS rfl ?_
              refine xS rfl ?_
              refine xS rfl ?_
              refine xP rfl rfl rfl rfl ?_
              refine xP rfl rfl rfl rfl ?_
              refine RX_nil ?_
              refine WC_live (live1 2 rfl (live1 5 rfl (live1 7 rfl (live1 8 rfl (live1 10 rfl (live1 23 rfl (live1 24 rfl (live1 25 rfl (live1 46 rfl live0))))))))) ?_
              refine WC_condT rfl ?_
              refine WC_go hE hm ?_
              refine xP rfl rfl rfl rfl ?_
              refine RX_nil ?_
              refine WC_live (live1 4 rfl live0) ?_
              refine WC_le (Le.canon [] (n2 := 2) (lrS 4 rfl rfl lr0) (hrS 0 rfl rfl (hr1 1 (gob 64 3 (cardsV L) L.length) rfl (renO_gob _ (flats_cards L) _) hr0)) rfl rfl rfl rfl rfl (hGn rfl)) ?_
              refine WC_ret ?_
              refine blockR ?_
              refine thenR ?_
              refine blockR ?_
              refine thenR ?_
              refine thenR ?_
              refine blockR ?_
              refine thenR ?_
              refine endR rfl ?_
              exact ⟨_, rfl, ⟨_, rfl, fun h => absurd h (by decide), rfl, rfl⟩, shutV L rfl⟩
            ·
              refine xP rfl rfl rfl rfl ?_
              refine xP rfl rfl rfl rfl ?_
              refine xP rfl rfl rfl rfl ?_
              refine xR rfl rfl rfl rfl ?_
              refine xP rfl rfl rfl rfl ?_
              refine xR rfl rfl rfl rfl ?_
              refine xP rfl rfl rfl rfl ?_
              refine xSub rfl rfl (by omega) ?_
              refine xCmp rfl rfl rfl rfl ?_ ?_ <;> intro h
              ·
                refine xP rfl rfl rfl rfl ?_
                refine xP rfl rfl rfl rfl ?_
                refine xS rfl ?_
                refine xS rfl ?_
                refine xS rfl ?_
                refine xS rfl ?_
                refine xS rfl ?_
                refine xS rfl ?_
                refine xS rfl ?_
                refine xP rfl rfl rfl rfl ?_
                refine xP rfl rfl rfl rfl ?_
                refine RX_nil ?_
                refine WC_live (live1 2 rfl (live1 5 rfl (live1 7 rfl (live1 8 rfl (live1 10 rfl (live1 23 rfl (live1 24 rfl (live1 25 rfl (live1 46 rfl live0))))))))) ?_
                refine WC_condT rfl ?_
                refine WC_go hE hm ?_
                refine xP rfl rfl rfl rfl ?_
                refine RX_nil ?_
                refine WC_live (live1 4 rfl live0) ?_
                refine WC_le (Le.canon [] (n2 := 2) (lrS 4 rfl rfl lr0) (hrS 0 rfl rfl (hr1 1 (gob 64 3 (cardsV L) L.length) rfl (renO_gob _ (flats_cards L) _) hr0)) rfl rfl rfl rfl rfl (hGn rfl)) ?_
                refine WC_ret ?_
                refine blockR ?_
                refine thenR ?_
                refine blockR ?_
                refine thenR ?_
                refine thenR ?_
                refine blockR ?_
                refine thenR ?_
                refine endR rfl ?_
                exact ⟨_, rfl, ⟨_, rfl, fun h => absurd h (by decide), rfl, rfl⟩, shutV L rfl⟩
              ·
                refine xP rfl rfl rfl rfl ?_
                refine xP rfl rfl rfl rfl ?_
                refine xP rfl rfl rfl rfl ?_
                refine xR rfl rfl rfl rfl ?_
                refine xP rfl rfl rfl rfl ?_
                refine xR rfl rfl rfl rfl ?_
                refine xP rfl rfl rfl rfl ?_
                refine xSub rfl rfl (by omega) ?_
                refine xCmp rfl rfl rfl rfl ?_ ?_ <;> intro h
                ·
                  refine xP rfl rfl rfl rfl ?_
                  refine xP rfl rfl rfl rfl ?_
                  refine RX_nil ?_
                  refine WC_live (live1 2 rfl (live1 5 rfl (live1 7 rfl (live1 8 rfl (live1 10 rfl (live1 23 rfl (live1 24 rfl (live1 25 rfl (live1 46 rfl live0))))))))) ?_
                  refine WC_condT rfl ?_
                  refine WC_go hE hm ?_
                  refine xP rfl rfl rfl rfl ?_
                  refine RX_nil ?_
                  refine WC_live (live1 4 rfl live0) ?_
                  refine WC_le (Le.canon [] (n2 := 2) (lrS 4 rfl rfl lr0) (hrS 0 rfl rfl (hr1 1 (gob 64 3 (cardsV L) L.length) rfl (renO_gob _ (flats_cards L) _) hr0)) rfl rfl rfl rfl rfl (hGn rfl)) ?_
                  refine WC_ret ?_
                  refine blockR ?_
                  refine thenR ?_
                  refine blockR ?_
                  refine thenR ?_
                  refine thenR ?_
                  refine blockR ?_
                  refine thenR ?_
                  refine endR rfl ?_
                  exact ⟨_, rfl, ⟨_, rfl, fun h => absurd h (by decide), rfl, rfl⟩, shutV L rfl⟩
                ·
                  refine xP rfl rfl rfl rfl ?_
                  refine xP rfl rfl rfl rfl ?_
                  refine RX_nil ?_
                  refine WC_live (live1 2 rfl (live1 5 rfl (live1 7 rfl (live1 8 rfl (live1 10 rfl (live1 23 rfl (live1 24 rfl (live1 25 rfl (live1 46 rfl live0))))))))) ?_
                  refine WC_condF rfl ?_
                  refine WC_go hE hm ?_
                  refine xP rfl rfl rfl rfl ?_
                  refine xR rfl rfl rfl rfl ?_
                  refine xP rfl rfl rfl rfl ?_
                  refine xR rfl rfl rfl rfl ?_
                  have hmu := mulB (a := row) (b := c') (by omega) (by omega)
                  refine xMul rfl rfl (by omega) ?_
                  refine xP rfl rfl rfl rfl ?_
                  refine xR rfl rfl rfl rfl ?_
                  refine xAdd rfl rfl (by omega) ?_
                  refine xP rfl rfl rfl rfl ?_
                  refine xCmp rfl rfl rfl rfl ?_ ?_ <;> intro h
                  ·
                    refine xP rfl rfl rfl rfl ?_
                    refine RX_nil ?_
                    refine WC_live (live1 2 rfl (live1 5 rfl (live1 7 rfl (live1 10 rfl (live1 23 rfl (live1 24 rfl (live1 25 rfl (live1 73 rfl live0)))))))) ?_
                    refine WC_condT rfl ?_
                    refine WC_go hE hm ?_
                    refine xP rfl rfl rfl rfl ?_
                    refine RX_nil ?_
                    refine WC_live (live1 4 rfl live0) ?_
                    refine WC_le (Le.canon [] (n2 := 2) (lrS 4 rfl rfl lr0) (hrS 0 rfl rfl (hr1 1 (gob 64 3 (cardsV L) L.length) rfl (renO_gob _ (flats_cards L) _) hr0)) rfl rfl rfl rfl rfl (hGn rfl)) ?_
                    refine WC_ret ?_
                    refine blockR ?_
                    refine thenR ?_
                    refine blockR ?_
                    refine thenR ?_
                    refine thenR ?_
                    refine blockR ?_
                    refine thenR ?_
                    refine endR rfl ?_
                    exact ⟨_, rfl, ⟨_, rfl, fun h => absurd h (by decide), rfl, rfl⟩, shutV L rfl⟩
                  ·
                    refine xP rfl rfl rfl rfl ?_
                    refine RX_nil ?_
                    refine WC_live (live1 2 rfl (live1 5 rfl (live1 7 rfl (live1 10 rfl (live1 23 rfl (live1 24 rfl (live1 25 rfl (live1 73 rfl live0)))))))) ?_
                    refine WC_condF rfl ?_
                    refine WC_skip ?_
                    refine blockN ?_
                    refine thenN ?_
                    refine WC_live (live1 2 rfl (live1 5 rfl (live1 7 rfl (live1 10 rfl (live1 23 rfl (live1 24 rfl (live1 25 rfl live0))))))) ?_
                    refine WC_go hE hm ?_
                    refine xP rfl rfl rfl rfl ?_
                    refine xR rfl rfl rfl rfl ?_
                    refine xP rfl rfl rfl rfl ?_
                    refine xR rfl rfl rfl rfl ?_
                    have hmu := mulB (a := row) (b := c') (by omega) (by omega)
                    refine xMul rfl rfl (by omega) ?_
                    refine xP rfl rfl rfl rfl ?_
                    refine xR rfl rfl rfl rfl ?_
                    refine xAdd rfl rfl (by omega) ?_
                    refine xP rfl rfl rfl rfl ?_
                    refine RX_nil ?_
                    refine WC_live (live1 2 rfl (live1 5 rfl (live1 7 rfl (live1 8 rfl (live1 10 rfl (live1 23 rfl (live1 24 rfl (live1 25 rfl live0)))))))) ?_
                    refine WC_go hE hm ?_
                    refine xLoadN [_, _, _, _, _, _, _] rfl rfl rfl ?_
                    refine xP rfl rfl rfl rfl ?_
                    refine xLoadN [_, _, _] rfl rfl rfl ?_
                    refine xC rfl rfl rfl rfl (f43 r' c' l' w' p q f b row col true ok hb (by omega) (by omega) rfl) ?_
                    rintro _ _ _ ⟨⟨b', is, hb', rfl, hgo⟩, rfl, rfl⟩
                    refine xP rfl rfl rfl rfl ?_
                    refine xP rfl rfl rfl rfl ?_
                    refine xP rfl rfl rfl rfl ?_
                    refine xP rfl rfl rfl rfl ?_
                    refine xP rfl rfl rfl rfl ?_
                    refine RX_nil ?_
                    refine WC_live (live1 2 rfl (live1 5 rfl (live1 8 rfl (live1 13 rfl (live1 14 rfl (live1 23 rfl (live1 24 rfl (live1 25 rfl live0)))))))) ?_
                    refine WC_seq ?_
                    refine WC_go hE hm ?_
                    refine xP rfl rfl rfl rfl ?_
                    refine xP rfl rfl rfl rfl ?_
                    refine RX_nil ?_
                    refine WC_live (live1 2 rfl (live1 5 rfl (live1 8 rfl (live1 13 rfl (live1 23 rfl (live1 24 rfl (live1 25 rfl (live1 100 rfl live0)))))))) ?_
                    refine WC_cond rfl (fun h => ?_) (fun h => ?_)
                    ·
                      refine WC_go hE hm ?_
                      refine xP rfl rfl rfl rfl ?_
                      refine RX_nil ?_
                      refine WC_live (live1 4 rfl live0) ?_
                      refine WC_le (Le.canon [] (n2 := 2) (lrS 4 rfl rfl lr0) (hrS 0 rfl rfl (hr1 1 (gob 64 3 (cardsV L) L.length) rfl (renO_gob _ (flats_cards L) _) hr0)) rfl rfl rfl rfl rfl (hGn rfl)) ?_
                      refine WC_ret ?_
                      refine thenR ?_
                      refine blockR ?_
                      refine thenR ?_
                      refine thenR ?_
                      refine blockR ?_
                      refine thenR ?_
                      refine endR rfl ?_
                      exact ⟨_, rfl, ⟨_, rfl, fun h => absurd h (by decide), rfl, rfl⟩, shutV L rfl⟩
                    ·
                      refine WC_skip ?_
                      refine thenN ?_
                      refine WC_live (live1 2 rfl (live1 5 rfl (live1 8 rfl (live1 13 rfl (live1 23 rfl (live1 24 rfl (live1 25 rfl live0))))))) ?_
                      refine WC_steps hE hm ?_
                      refine xP rfl rfl rfl rfl ?_
                      refine xP rfl rfl rfl rfl ?_
                      refine RX_nil ?_
                      refine blockN ?_
                      refine thenN ?_
                      refine WC_live (live1 2 rfl (live1 5 rfl (live1 7 rfl (live1 8 rfl (live1 23 rfl (live1 24 rfl (live1 25 rfl live0))))))) ?_
                      refine WC_steps hE hm ?_
                      refine xAdd rfl rfl (by omega) ?_
                      refine xP rfl rfl rfl rfl ?_
                      refine RX_nil ?_
                      refine thenN ⟨(i + 1, b', row * c' + col), ⟨by dsimp only; omega, by dsimp only; omega, hb', by dsimp only; omega, fun j hj => okStep i3 hcd ⟨⟨by dsimp only; omega, by dsimp only; omega⟩, by dsimp only; omega, by dsimp only; omega⟩ j hj⟩, by dsimp only; omega, Le.canon [(2, 2), (3, 3)] (n2 := 4) (lr1 2 (.pointer (some ⟨2, 0, none⟩)) rfl rfl (lr1 5 (.pointer (some ⟨3, 0, none⟩)) rfl rfl (lrS 7 rfl rfl (lrS 8 rfl rfl (lr1 23 (gsl 1 L.length) rfl (renV_gsl _ 1 _) (lrS 24 rfl rfl (lrS 25 rfl rfl lr0))))))) (hrS 0 rfl rfl (hr1 1 (gob 64 3 (cardsV L) L.length) rfl (renO_gob _ (flats_cards L) _) (hrS 2 rfl rfl (hrS 3 rfl rfl hr0)))) rfl rfl rfl rfl rfl (hGn rfl)⟩
    ·
      refine RX_nil ?_
      refine WC_live (live1 2 rfl (live1 5 rfl (live1 7 rfl (live1 8 rfl (live1 23 rfl (live1 24 rfl (live1 25 rfl (live1 26 rfl live0)))))))) ?_
      refine WC_seq ?_
      refine WC_condF rfl ?_
      refine WC_exit ?_
      refine thenE ?_
      refine thenE ?_
      refine blockE ?_
      refine thenN ?_
      refine WC_live (live1 5 rfl (live1 7 rfl live0)) ?_
      refine WC_seq ?_
      refine WC_go hE hm ?_
      refine xP rfl rfl rfl rfl ?_
      refine xP rfl rfl rfl rfl ?_
      refine xR rfl rfl rfl rfl ?_
      refine xNe rfl rfl ?_ ?_ <;> intro h
      ·
        refine RX_nil ?_
        refine WC_live (live1 106 rfl live0) ?_
        refine WC_condT rfl ?_
        refine WC_go hE hm ?_
        refine xP rfl rfl rfl rfl ?_
        refine RX_nil ?_
        refine WC_live (live1 4 rfl live0) ?_
        refine WC_le (Le.canon [] (n2 := 2) (lrS 4 rfl rfl lr0) (hrS 0 rfl rfl (hr1 1 (gob 64 3 (cardsV L) L.length) rfl (renO_gob _ (flats_cards L) _) hr0)) rfl rfl rfl rfl rfl (hGn rfl)) ?_
        refine WC_ret ?_
        refine thenR ?_
        refine endR rfl ?_
        exact ⟨_, rfl, ⟨_, rfl, fun h => absurd h (by decide), rfl, rfl⟩, shutV L rfl⟩
      ·
        refine RX_nil ?_
        refine WC_live (live1 106 rfl live0) ?_
        refine WC_condF rfl ?_
        refine WC_skip ?_
        refine thenN ?_
        refine WC_live live0 ?_
        refine WC_go hE hm ?_
        refine xP rfl rfl rfl rfl ?_
        refine RX_nil ?_
        refine WC_live (live1 4 rfl live0) ?_
        refine WC_le (Le.canon [] (n2 := 2) (lrS 4 rfl rfl lr0) (hrS 0 rfl rfl (hr1 1 (gob 64 3 (cardsV L) L.length) rfl (renO_gob _ (flats_cards L) _) hr0)) rfl rfl rfl rfl rfl (hGn rfl)) ?_
        refine WC_ret ?_
        refine endR rfl ?_
        exact ⟨_, rfl, ⟨0, rfl, fun _ => ⟨ok.sheet, fun cd hcd => by
          obtain ⟨j, hj⟩ := List.mem_iff_getElem?.1 hcd
          have hlt := (List.getElem?_eq_some_iff.1 hj).1
          exact i3 j (by omega) cd hj⟩, rfl, rfl⟩, shutV L rfl⟩
end Go.Proofs.YtnagcnlldllagaaGreatDoor
