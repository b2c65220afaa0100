/- A part of the proof that spadilletop.TopSharedCut answers true and leaves its argument as it was (bulk at most 1048576): C11. -/
import Derived.Test.YtnagcnlldllagaaGreatDoorC10
set_option linter.all false
/- The first filling without a cut: what its functions do. -/
set_option maxRecDepth 1000000
set_option maxHeartbeats 4000000
open Go Go.Cs
namespace Go.Proofs.YtnagcnlldllagaaGreatDoor
def putV : Value := .func (.func 48) #[] #[ptrTo 1, ptrTo 2, ptrTo 3, ptrTo 4, ptrTo 5]
/-- What put works on: table, sheet, what is found, map, itself; the map; the cards so far. -/
def hS1 (r c l w : Int) (p q f : Nat) (og : Value) (es : List MapEntry) (k : Nat) (ob : AObj) : List (Nat × AObj) :=
  [(1, .cells (tcells r c l w p q f) 73 none), (2, .cells [.int .i64 r, .int .i64 c, .int .i64 l, .int .i64 w] 23 none), (3, .cells [og] 24 none), (4, .cells [.map (some 6)] 78 none), (5, .cells [putV] 93 none), (6, .map es k), (7, ob)]
def hS (r c l w : Int) (p q f : Nat) (og : Value) (es : List MapEntry) (k : Nat) (ob : AObj) : List (Nat × AObj) := (0, gl) :: hS1 r c l w p q f og es k ob
def R48 (r c l w : Int) (p q f : Nat) (L : List Cd) (cp : Nat) (v : Value) (L' : List (Nat × AObj)) (n' : Nat) : Prop :=
  ∃ es' k' rest', MapOk es' ∧ flats rest' = true ∧ rest'.length = (cp - L.length) * 3 ∧
    ((v = .bool false ∧ L' = hS r c l w p q f (.slice none 0 0) es' k' (rob (cardsV L ++ rest') none cp) ∧ n' = 8) ∨
      ∃ LO : List Cd, LO.length ≤ 64 ∧ v = .bool true ∧ L' = hS r c l w p q f (gsl 8 LO.length) es' k' (rob (cardsV L ++ rest') none cp) ++ [(8, gob 64 3 (cardsV LO) LO.length)] ∧ n' = 9)
def C48 (r c l w : Int) (p q f b : Nat) (L : List Cd) : Prop := ∀ cp rest es k, (L = [] → cp = 0) → L.length ≤ cp → flats rest = true → rest.length = (cp - L.length) * 3 → MapOk es →
  CT Tryz.prog [0] 48 [.int .u64 (b : Int), rsl 7 L.length cp, ptrTo 1, ptrTo 2, ptrTo 3, ptrTo 4, ptrTo 5] (hS r c l w p q f (.slice none 0 0) es k (rob (cardsV L ++ rest) none cp)) 8 (R48 r c l w p q f L cp)

theorem flats_app {a b : List Value} (ha : flats a = true) (hb : flats b = true) : flats (a ++ b) = true := by
  simp only [flats, List.all_append, Bool.and_eq_true] at *; exact ⟨ha, hb⟩
def inA (q : Nat) : Prop := 1 ≤ q ∧ q ≤ 9
/-- While put looks for a next card. -/
def JS (r c l w : Int) (p q f : Nat) (L : List Cd) (cp : Nat) (H : Heap) (A : Blk) : Prop :=
  (∀ x, A x ↔ inA x) ∧ ∃ es k rest, MapOk es ∧ flats rest = true ∧ rest.length = (cp - L.length) * 3 ∧ LiveH H (hS1 r c l w p q f (.slice none 0 0) es k (rob (cardsV L ++ rest) none cp) ++ [(8, .cells [rsl 7 L.length cp] 24 none), (9, .cells [.bool false] 4 none)])
/-- When it has found one. -/
def JE (r c l w : Int) (p q f : Nat) (L : List Cd) (cp : Nat) (H : Heap) (A : Blk) : Prop :=
  ∃ (io : Nat) (LO : List Cd) (es : List MapEntry) (k : Nat) (rest : List Value), (∀ x, A x ↔ inA x ∨ x = io) ∧ 10 ≤ io ∧ LO.length ≤ 64 ∧ MapOk es ∧ flats rest = true ∧ rest.length = (cp - L.length) * 3 ∧
    LiveH H (hS1 r c l w p q f (gsl io LO.length) es k (rob (cardsV L ++ rest) none cp) ++ [(8, .cells [rsl 7 L.length cp] 24 none), (9, .cells [.bool true] 4 none), (io, gob 64 3 (cardsV LO) LO.length)])
theorem liveH_keep {H H' : Heap} {L : List (Nat × AObj)} (h : LiveH H L) (hk : ∀ p ∈ L, aget H' p.1 = aget H p.1) : LiveH H' L := fun p hp => (h p hp).imp id fun e => (hk p hp).trans e
theorem JS_local (r c l w : Int) (p q f : Nat) (L : List Cd) (cp : Nat) : Local (JS r c l w p q f L cp) := by
  rintro H H' A ⟨h1, es, k, rest, h2, h3, h4, h5⟩ hk
  refine ⟨h1, es, k, rest, h2, h3, h4, liveH_keep h5 fun x hx => hk _ ((h1 _).2 ?_)⟩
  simp only [hS1, List.cons_append, List.nil_append, List.mem_cons, List.not_mem_nil, or_false] at hx
  rcases hx with rfl | rfl | rfl | rfl | rfl | rfl | rfl | rfl | rfl <;> exact ⟨Nat.le_of_ble_eq_true rfl, Nat.le_of_ble_eq_true rfl⟩
theorem sigL8 (i7 : Nat) : ∀ i, i < 8 → sigL [0, 1, 2, 3, 4, 5, 6, i7] i = if i = 7 then i7 else i := by
  intro i hi
  match i, hi with
  | 0, _ => rfl
  | 1, _ => rfl
  | 2, _ => rfl
  | 3, _ => rfl
  | 4, _ => rfl
  | 5, _ => rfl
  | 6, _ => rfl
  | 7, _ => rfl
theorem cards_snoc (L : List Cd) (cd : Cd) (rest : List Value) : cardsV (L ++ [cd]) ++ rest = cardsV L ++ (cardV cd ++ rest) := by rw [cards_add]; simp
/-- One card more, wherever the cards lie then. -/
theorem WP_cards {H : Heap} {n j cp : Nat} {L : List Cd} {rest : List Value} {cd : Cd} {z : List Value} {post : Value → Heap → Nat → Prop} (h7 : cp ≠ 0 → aget H 7 = some (.cells (cardsV L ++ rest) 64 none)) (hj : aget H j = some (.cells (cardV cd) 64 none)) (hcp : L.length ≤ cp) (hL : L.length ≤ 64)
    (hrf : flats rest = true) (hrl : rest.length = (cp - L.length) * 3) (hn : 7 < n) (hfr : Fresh H n)
    (cont : ∀ (i7 cp' : Nat) (rest' : List Value) (H4 : Heap) (n4 : Nat), aget H4 i7 = some (.cells (cardsV (L ++ [cd]) ++ rest') 64 none) → L.length + 1 ≤ cp' → flats rest' = true → rest'.length = (cp' - (L.length + 1)) * 3 → ((i7 = 7 ∧ cp' = cp) ∨ (i7 = n ∧ aget H4 7 = aget H 7)) →
      (∀ x, x < n → x ≠ 7 → aget H4 x = aget H x) → Fresh H4 n4 → n ≤ n4 → n4 ≤ n + 1 → i7 < n4 → post (.slice (some ⟨i7, 0, none⟩) (L.length + 1) cp') H4 n4) : WP (.append 64 3 24 z) [rsl 7 L.length cp, .slice (some ⟨j, 0, none⟩) 1 1] H n post := by
  have hnew : cellsOfSlice H 3 (.slice (some ⟨j, 0, none⟩) 1 1) = some (cardV cd) := by
    simp only [cellsOfSlice, hj]
    rfl
  have hcl := cards_length L
  have hfc : flats (cardV cd) = true := rfl
  have hold : cellsOfSlice H 3 (rsl 7 L.length cp) = some (cardsV L) := by
    cases cp with
    | zero =>
      obtain rfl : L = [] := List.length_eq_zero_iff.1 (by omega)
      rfl
    | succ c =>
      simp only [rsl, cellsOfSlice, h7 (by omega)]
      rw [if_pos (by rw [List.length_append]; omega)]
      simp only [List.drop_zero]
      rw [take_cards]
  by_cases hfit : L.length + 1 ≤ cp
  · left
    obtain ⟨c, rfl⟩ : ∃ c, cp = c + 1 := ⟨cp - 1, by omega⟩
    have h7' := h7 (by omega)
    refine ⟨.slice (some ⟨7, 0, none⟩) (L.length + 1) (c + 1), aput H 7 (.cells (cardsV (L ++ [cd]) ++ rest.drop 3) 64 none), n, ?_, cont 7 (c + 1) (rest.drop 3) _ n (by simp [aget_aput]) hfit ?_ ?_ (.inl ⟨rfl, rfl⟩) (fun x _ h => by rw [aget_aput, if_neg (Ne.symm h)]) (fun q h1 h2 => by rw [aget_aput, if_neg (by omega)]; exact hfr q h1 h2) (Nat.le_refl _) (by omega) hn⟩
    · simp only [semW, wAppend, rsl] at hold ⊢
      simp only [hnew, hold]
      rw [if_pos (by omega)]
      simp only [appended, h7']
      rw [if_pos (show (cardV cd).all cell1 = true from rfl), if_pos hfit, if_pos (by rw [List.length_append]; omega)]
      congr 5
      have e1 : 0 + L.length * 3 = (cardsV L).length := by omega
      rw [e1]
      simp only [splice]
      rw [List.take_append_of_le_length (Nat.le_refl _), List.take_length, List.drop_append, cards_snoc, show (cardsV L).length + (cardV cd).length - (cardsV L).length = 3 by simp [cardV], List.drop_of_length_le (by simp)]
      simp
    · simp only [flats, List.all_eq_true] at hrf ⊢
      exact fun x hx => hrf x (List.mem_of_mem_drop hx)
    · rw [List.length_drop, hrl]; omega
  · right
    have hcpL : cp = L.length := by omega
    have key : ∀ nc rest', L.length + 1 ≤ nc → rest'.length = (nc - (L.length + 1)) * 3 → flats rest' = true → post (.slice (some ⟨n, 0, none⟩) (L.length + 1) nc) (aput H n (.cells (cardsV L ++ cardV cd ++ rest') 64 none)) (n + 1) := by
      intro nc rest' q1 q2 q3
      refine cont n nc rest' _ _ (by rw [aget_aput, if_pos rfl, cards_add]) q1 q3 q2 (.inr ⟨rfl, by rw [aget_aput, if_neg (by omega)]⟩) (fun x h _ => by rw [aget_aput, if_neg (by omega)]) (fun q h1 h2 => by rw [aget_aput, if_neg (by omega)]; exact hfr q (by omega) h2) (by omega) (Nat.le_refl _) (by omega)
    cases cp with
    | zero =>
      obtain rfl : L = [] := List.length_eq_zero_iff.1 (by omega)
      exact ⟨cardV cd, [], hnew, rfl, by decide, Nat.le_refl _, by decide, trivial, key⟩
    | succ c =>
      exact ⟨cardV cd, cardsV L, hnew, hold, by omega, by omega, by omega, ⟨_, _, h7 (by omega)⟩, key⟩
def c50 : FC := FC.mk 26 (
  .seq (.steps [⟨.box 64, [.tmp 0], some 7, none⟩,
    ⟨.move, [.const (.bool false)], some 9, none⟩]) (
  .seq (.drawn [(0, ⟨.loadN 7, [.tmp 2], some 10, none⟩),
    (1, ⟨.move, [.tmp 1], some 11, none⟩),
    (2, ⟨.loadN 1, [.tmp 3], some 12, none⟩),
    (3, ⟨.callF 39, [.tmp 10, .tmp 11, .tmp 12], some 13, none⟩),
    (4, ⟨.bin .gtr, [.tmp 13, .const (.int .i64 0)], some 14, none⟩),
    (5, ⟨.move, [.tmp 14], some 15, none⟩),
    (6, ⟨.load1, [.tmp 4], some 16, some (15, true)⟩),
    (7, ⟨.move, [.tmp 1], some 17, some (15, true)⟩),
    (8, ⟨.load1, [.tmp 5], some 18, some (15, true)⟩),
    (9, ⟨.loadN 3, [.tmp 7], some 19, some (15, true)⟩),
    (10, ⟨.buildSlice 64 1 [.int .i64 0, .int .i64 0, .bool false] [(0, 3)], [.tmp 19], some 20, some (15, true)⟩),
    (11, ⟨.append 64 3 24 [.int .i64 0, .int .i64 0, .bool false], [.tmp 18, .tmp 20], some 21, some (15, true)⟩),
    (12, ⟨.callV, [.tmp 16, .tmp 17, .tmp 21], some 22, some (15, true)⟩),
    (13, ⟨.pick, [.tmp 15, .tmp 22, .const (.bool false)], some 23, none⟩),
    (14, ⟨.store 1, [.tmp 6, .tmp 23], none, none⟩)] [0, 0, 0, 7, 15, 31, 63, 63, 63, 63, 575, 1855, 4095, 8191, 16383]) (
  .seq (.steps [⟨.load1, [.tmp 6], some 24, none⟩,
    ⟨.un .not, [.tmp 24], some 25, none⟩,
    ⟨.move, [.tmp 25], some 9, none⟩]) (
  .ret)))) [.tmp 9]
theorem c50_ok : compF Tryz.prog 50 = some c50 := by kernel_rfl

theorem f50 (r c l w : Int) (p q f b : Nat) (ok : OkTable r c l w p q f) (L : List Cd) (hfull : full L.length b) (cp : Nat) (hcp : L.length ≤ cp)
    (ih : ∀ b' cd, Next1 b b' → okCard cd → C48 r c l w p q f b' (L ++ [cd])) :
    Told1 r c l w p q f b 50 [ptrTo 1, ptrTo 4, ptrTo 5, ptrTo 8, ptrTo 9] (JS r c l w p q f L cp) (JE r c l w p q f L cp) 8 := by
  rintro cd b' H n A hnx hcd ⟨hA, es, k, rest, hes, hrf, hrl, hl⟩ hAn h0 hfr hn
  have hn9 : 9 < n := (hAn 9 ((hA 9).2 ⟨by decide, by decide⟩)).2
  have hLen : L.length + 1 ≤ 64 := full_le (hnx.more _ hfull) hnx.top
  have at1 : aget H 1 = some (.cells (tcells r c l w p q f) 73 none) := (hl (1, _) (by simp [hS1])).resolve_left (by simp)
  have at2 : aget H 2 = some (.cells [.int .i64 r, .int .i64 c, .int .i64 l, .int .i64 w] 23 none) := (hl (2, _) (by simp [hS1])).resolve_left (by simp)
  have at3 : aget H 3 = some (.cells [.slice none 0 0] 24 none) := (hl (3, _) (by simp [hS1])).resolve_left (by simp)
  have at4 : aget H 4 = some (.cells [.map (some 6)] 78 none) := (hl (4, _) (by simp [hS1])).resolve_left (by simp)
  have at5 : aget H 5 = some (.cells [putV] 93 none) := (hl (5, _) (by simp [hS1])).resolve_left (by simp)
  have at6 : aget H 6 = some (.map es k) := (hl (6, _) (by simp [hS1])).resolve_left (by simp)
  have at7 : cp ≠ 0 → aget H 7 = some (.cells (cardsV L ++ rest) 64 none) := fun h => by
    rcases hl (7, rob (cardsV L ++ rest) none cp) (by simp [hS1]) with e | e
    · simp only [rob_pos h] at e; cases e
    · simp only [rob_pos h] at e; exact e
  have at8 : aget H 8 = some (.cells [rsl 7 L.length cp] 24 none) := (hl (8, _) (by simp [hS1])).resolve_left (by simp)
  have at9 : aget H 9 = some (.cells [.bool false] 4 none) := (hl (9, _) (by simp [hS1])).resolve_left (by simp)
  refine F_of_comp c50_ok rfl ?_
  refine WC_go hE hm ?_
  refine xNew (ob := .cells (cardV cd) 64 none) (mk := .ptr) hfr (by omega) rfl rfl rfl rfl ?_
  intro H1 a1 a2 a3
  refine xP rfl rfl rfl rfl ?_
  refine RX_nil ?_
  refine WC_live (live1 1 rfl (live1 2 rfl (live1 3 rfl (live1 4 rfl (live1 5 rfl (live1 6 rfl (live1 7 rfl live0))))))) ?_
  have o1 : ∀ x, x < n → aget H1 x = aget H x := fun x hx => a2 x (by omega)
  refine WC_goD hE hm ?_
  refine dR (v := tableV r c l w p q f) rfl rfl rfl (loadBox (xs := tcells r c l w p q f) ((o1 1 (by omega)).trans at1) rfl) ?_
  refine dX rfl (xP rfl rfl rfl rfl (RX_nil ?_))
  refine dR (v := .agg #[.map (some 6)]) rfl rfl rfl (loadBox (xs := [.map (some 6)]) ((o1 4 (by omega)).trans at4) rfl) ?_
  refine dC rfl rfl rfl rfl ((count_ok r c l w p q f ok (2 ^ 64) b' hnx.top (by omega) es k hes).callS [0, 6] (args := [tableV r c l w p q f, .int .u64 (b' : Int), .agg #[.map (some 6)]]) rfl (hGs rfl rfl rfl) rfl
    (fun i hi _ => by match i, hi with | 0, _ => (show 0 < n + 1; omega) | 1, _ => (show 6 < n + 1; omega)) (fun i hi h => by match i, hi with | 0, _ => cases h | 1, _ => cases h) (by decide) (hh1 ((o1 0 (by omega)).trans h0) rfl (hh1 ((o1 6 (by omega)).trans at6) (renMap hes _ _) hh0)) (by rintro _ _ _ ⟨_, _, _, _, _, _, rfl⟩; omega) a3 (by omega)) ?_
  rintro _ H2 n2 ⟨_, _, _, ⟨x, es', k', hes', rfl, rfl, rfl⟩, ⟨rfl, hn2, _, f2, at', kp⟩⟩
  obtain rfl : n2 = n + 1 := by omega
  have m0 : aget H2 0 = some gl := (at' 0 gl rfl).trans rfl
  have m6 : aget H2 6 = some (.map es' k') := (at' 1 (.map es' k') rfl).trans (congrArg some (renMap hes' _ _))
  have o2 : ∀ x, x < n + 1 → x ≠ 0 → x ≠ 6 → aget H2 x = aget H1 x := fun x h1 h2 h3 => kp x h1 fun i hi _ => by match i, hi with | 0, _ => exact Ne.symm h2 | 1, _ => exact Ne.symm h3
  have o2' : ∀ x, x < n → x ≠ 0 → x ≠ 6 → aget H2 x = aget H x := fun x h1 h2 h3 => (o2 x (by omega) h2 h3).trans (o1 x h1)
  refine ⟨stabE (by kernel_rfl), ?_⟩
  -- the end: what is found is told
  refine dX rfl (xCmp (p := x > 0) rfl rfl rfl rfl (fun hx => RX_nil ?_) (fun hx => RX_nil ?_))
  case refine_2 =>
    refine dX rfl (xP rfl rfl rfl rfl (RX_nil ?_))
    refine dS rfl ?_
    refine dS rfl ?_
    refine dS rfl ?_
    refine dS rfl ?_
    refine dS rfl ?_
    refine dS rfl ?_
    refine dS rfl ?_
    refine dX rfl (xP (v := .bool false) rfl rfl rfl rfl (RX_nil ?_))
    refine dStC (b := 9) (o := 0) (v0 := .bool false) (u := .bool false) (cellAt_of ((o2' 9 hn9 (by decide) (by decide)).trans at9) rfl) rfl rfl rfl rfl (by omega) ?_
    intro H3 s1 s2 s3
    refine ⟨stabE (by kernel_rfl), ?_⟩
    refine dNil ?_
    refine WC_live (live1 6 rfl live0) ?_
    have e9 : aget H3 9 = some (.cells [.bool false] 4 none) := s3 _ _ _ ((o2' 9 hn9 (by decide) (by decide)).trans at9)
    refine WC_go hE hm ?_
    refine xLdC (b := 9) (o := 0) (v := .bool false) (cellAt_of e9 rfl) rfl rfl ?_
    refine xP (v := .bool true) rfl rfl rfl rfl ?_
    refine xP rfl rfl rfl rfl ?_
    refine RX_nil ?_
    refine WC_ret ?_
    refine endR rfl ?_
    have o3 : ∀ x, x < n → x ≠ 0 → x ≠ 6 → x ≠ 9 → aget H3 x = aget H x := fun x h1 h2 h3 h4 => (s2 x h4).trans (o2' x h1 h2 h3)
    refine ⟨true, rfl, A, ?_, fun y hy => ⟨(hAn y hy).1, .inl hy, by have := (hAn y hy).2; omega⟩, fun y h1 h2 => ?_, fun y h1 h2 => by rw [s2 y (by omega)]; exact f2 y h1 h2, by omega, by omega⟩
    · show JS r c l w p q f L cp H3 A
      refine ⟨hA, es', k', rest, hes', hrf, hrl, ?_⟩
      refine liveHo 1 _ ((o3 1 (by omega) (by decide) (by decide) (by decide)).trans at1) (liveHo 2 _ ((o3 2 (by omega) (by decide) (by decide) (by decide)).trans at2) (liveHo 3 _ ((o3 3 (by omega) (by decide) (by decide) (by decide)).trans at3) (liveHo 4 _ ((o3 4 (by omega) (by decide) (by decide) (by decide)).trans at4) (liveHo 5 _ ((o3 5 (by omega) (by decide) (by decide) (by decide)).trans at5)
        (liveHo 6 _ ((s2 6 (by decide)).trans m6) ?_)))))
      have t8 := liveHo 8 _ ((o3 8 (by omega) (by decide) (by decide) (by decide)).trans at8) (liveHo 9 _ e9 liveH0)
      by_cases hc0 : cp = 0
      · subst hc0; exact liveHD 7 t8
      · rw [rob_pos hc0]; exact liveHo 7 _ ((o3 7 (by omega) (by decide) (by decide) (by decide)).trans (at7 hc0)) t8
    · by_cases hy0 : y = 0
      · subst hy0; rw [s2 0 (by decide), m0, h0]
      · exact o3 y h1 hy0 (fun e => h2 ((hA y).2 (by subst e; exact ⟨by decide, by decide⟩))) (fun e => h2 ((hA y).2 (by subst e; exact ⟨by decide, by decide⟩)))
  refine dX rfl (xP rfl rfl rfl rfl (RX_nil ?_))
  refine dR (v := putV) rfl rfl rfl (loadBox1 ((o2' 5 (by omega) (by decide) (by decide)).trans at5)) ?_
  refine dX rfl (xP rfl rfl rfl rfl (RX_nil ?_))
  refine dR (v := rsl 7 L.length cp) rfl rfl rfl (loadBox1 ((o2' 8 (by omega) (by decide) (by decide)).trans at8)) ?_
  refine dR (v := .agg (cardV cd).toArray) rfl rfl rfl (loadBox (xs := cardV cd) ((o2 n (by omega) (by omega) (by omega)).trans a1) rfl) ?_
  refine dNew (ob := .cells (cardV cd) 64 none) (mk := .slice 1 1) f2 (by omega) rfl rfl rfl rfl ?_
  intro H3 b1 b2 b3
  have o3 : ∀ x, x < n + 1 → aget H3 x = aget H2 x := fun x hx => b2 x (by omega)
  refine dWP rfl rfl rfl (blt_lim (by omega)) ?_
  refine WP_cards (n := n + 1 + 1) (fun h => (o3 7 (by omega)).trans ((o2' 7 (by omega) (by decide) (by decide)).trans (at7 h))) b1 hcp (by omega) hrf hrl (by omega) b3 ?_
  intro i7 cp' rest' H4 n4 c7 hcp' hrf' hrl' hi7 o4 f4 l4 r4 hi74
  have o4' : ∀ x, x < n → x ≠ 0 → x ≠ 6 → x ≠ 7 → aget H4 x = aget H x := fun x h1 h2 h3 h4 => (o4 x (by omega) h4).trans ((o3 x (by omega)).trans (o2' x h1 h2 h3))
  have d5 : aget H4 5 = some (.cells [putV] 93 none) := (o4' 5 (by omega) (by decide) (by decide) (by decide)).trans at5
  have d6 : aget H4 6 = some (.map es' k') := (o4 6 (by omega) (by decide)).trans ((o3 6 (by omega)).trans m6)
  have d0 : aget H4 0 = some gl := (o4 0 (by omega) (by decide)).trans ((o3 0 (by omega)).trans m0)
  refine ⟨stabOne ⟨6, ⟨.load1, [.tmp 4], some 16, some (15, true)⟩, .r [ptrTo 5] putV⟩ (by kernel_rfl) (loadBox1 d5), ?_⟩
  have hcp0 : cp' ≠ 0 := by omega
  have hsum : 0 + 1 + 1 + 1 + (cp' - (L.length + 1)) * 3 = (cp' - L.length) * 3 := by omega
  have hlen : (L ++ [cd]).length = L.length + 1 := len_snoc L cd
  have h8 := sigL8 i7
  have hsl : (.slice (some ⟨i7, 0, none⟩) (L.length + 1) cp' : Value) = rsl i7 (L ++ [cd]).length cp' := by
    rw [hlen]; cases cp' with | zero => exact absurd rfl hcp0 | succ c => rfl
  have hcall := (ih b' cd hnx hcd cp' rest' es' k' (fun h => by simp at h) (by rw [hlen]; exact hcp') hrf' (by rw [hlen]; exact hrl') hes').callS [0, 1, 2, 3, 4, 5, 6, i7] (H := H4) (n := n4) (args := [.int .u64 (b' : Int), .slice (some ⟨i7, 0, none⟩) (L.length + 1) cp', ptrTo 1, ptrTo 2, ptrTo 3, ptrTo 4, ptrTo 5])
    (by rw [hsl]; show _ = [_, renV _ (rsl 7 (L ++ [cd]).length cp'), _, _, _, _, _]; rw [renV_rsl]; rfl) (hGs rfl rfl rfl) rfl
    (fun i hi hl => by
      rw [h8 i hi]
      split <;> omega) (fun i hi hl => by
      exfalso
      rw [rob_pos hcp0] at hl
      match i, hi with
      | 0, _ => cases hl
      | 1, _ => cases hl
      | 2, _ => cases hl
      | 3, _ => cases hl
      | 4, _ => cases hl
      | 5, _ => cases hl
      | 6, _ => cases hl
      | 7, _ => cases hl) (by
      simp only [List.nodup_cons, List.mem_cons, List.not_mem_nil, or_false, not_or, List.nodup_nil, not_false_eq_true, and_true]
      rcases hi7 with ⟨h, _⟩ | ⟨h, _⟩ <;> omega)
    (by
      rw [rob_pos hcp0]
      exact hh1 d0 rfl (hh1 ((o4' 1 (by omega) (by decide) (by decide) (by decide)).trans at1) rfl (hh1 ((o4' 2 (by omega) (by decide) (by decide) (by decide)).trans at2) rfl (hh1 ((o4' 3 (by omega) (by decide) (by decide) (by decide)).trans at3) rfl (hh1 ((o4' 4 (by omega) (by decide) (by decide) (by decide)).trans at4) rfl (hh1 d5 rfl (hh1 d6 (renMap hes' _ _)
        (hh1 c7 (renO_cells _ (flats_app (flats_cards _) hrf')) hh0))))))))
    (by rintro _ _ _ ⟨_, _, _, _, _, _, ⟨_, _, rfl⟩ | ⟨_, _, _, _, rfl⟩⟩ <;> omega) f4 (by omega)
  refine dC (f := 48) (args := [.int .u64 (b' : Int), .slice (some ⟨i7, 0, none⟩) (L.length + 1) cp', ptrTo 1, ptrTo 2, ptrTo 3, ptrTo 4, ptrTo 5]) rfl rfl rfl rfl hcall ?_
  rintro v H5 n5 ⟨vs, L', ns', ⟨es2, k2, rest2, hes2, hrf2, hrl2, hR⟩, ⟨hv, hn5, hle5, f5, at5', kp5⟩⟩
  refine ⟨stabE (by kernel_rfl), ?_⟩
  rw [hlen] at hrl2
  have sC : ∀ x, x < 7 → sigC (sigL [0, 1, 2, 3, 4, 5, 6, i7]) 8 n4 x = x := by
    intro x hx
    match x, hx with
    | 0, _ => rfl
    | 1, _ => rfl
    | 2, _ => rfl
    | 3, _ => rfl
    | 4, _ => rfl
    | 5, _ => rfl
    | 6, _ => rfl
  -- what stays as it was
  have kp : ∀ x, x < n4 → 7 ≤ x → x ≠ i7 → aget H5 x = aget H4 x := fun x h1 h2 h3 => kp5 x h1 fun i hi _ => by
    rw [h8 i hi]
    split <;> omega
  -- the cards so far
  have seven : cp ≠ 0 → ∃ rest3, aget H5 i7 = some (.cells (cardsV (L ++ [cd]) ++ rest2) 64 none) → flats rest3 = true ∧ rest3.length = (cp - L.length) * 3 ∧ aget H5 7 = some (.cells (cardsV L ++ rest3) 64 none) := by
    intro hc0
    rcases hi7 with ⟨rfl, rfl⟩ | ⟨h, h'⟩
    · refine ⟨cardV cd ++ rest2, fun h => ⟨flats_app rfl hrf2, ?_, by rw [h, cards_snoc]⟩⟩
      rw [List.length_append, hrl2]
      simp only [cardV, List.length_cons, List.length_nil]
      exact hsum
    · refine ⟨rest, fun _ => ⟨hrf, hrl, ?_⟩⟩
      rw [kp 7 (by omega) (by omega) (by omega), h', o3 7 (by omega), o2' 7 (by omega) (by decide) (by decide)]
      exact at7 hc0
  have rest0 : ∃ rest3, flats rest3 = true ∧ rest3.length = (cp - L.length) * 3 ∧ (aget H5 i7 = some (.cells (cardsV (L ++ [cd]) ++ rest2) 64 none) → cp ≠ 0 → aget H5 7 = some (.cells (cardsV L ++ rest3) 64 none)) := by
    by_cases hc0 : cp = 0
    · exact ⟨rest, hrf, hrl, fun _ h => absurd hc0 h⟩
    · obtain ⟨rest3, h⟩ := seven hc0
      by_cases hx : aget H5 i7 = some (.cells (cardsV (L ++ [cd]) ++ rest2) 64 none)
      · exact ⟨rest3, (h hx).1, (h hx).2.1, fun _ _ => (h hx).2.2⟩
      · exact ⟨rest, hrf, hrl, fun h' => absurd h' hx⟩
  obtain ⟨rest3, hrf3, hrl3, h73⟩ := rest0
  have e8 : aget H5 8 = some (.cells [rsl 7 L.length cp] 24 none) := (kp 8 (by omega) (by decide) (by rcases hi7 with ⟨h, _⟩ | ⟨h, _⟩ <;> omega)).trans ((o4' 8 (by omega) (by decide) (by decide) (by decide)).trans at8)
  have e9 : aget H5 9 = some (.cells [.bool false] 4 none) := (kp 9 (by omega) (by decide) (by rcases hi7 with ⟨h, _⟩ | ⟨h, _⟩ <;> omega)).trans ((o4' 9 (by omega) (by decide) (by decide) (by decide)).trans at9)
  have out : ∀ y, y < n → ¬ inA y → y ≠ 0 → aget H5 y = aget H y := by
    intro y h1 h2 h3
    have : ¬ (1 ≤ y ∧ y ≤ 9) := h2
    rw [kp y (by omega) (by omega) (by rcases hi7 with ⟨h, _⟩ | ⟨h, _⟩ <;> omega)]
    exact o4' y h1 h3 (by omega) (by omega)
  have hns : 8 ≤ ns' ∧ ns' ≤ 9 := by
    rcases hR with ⟨_, _, h⟩ | ⟨_, _, _, _, h⟩
    · omega
    · omega
  obtain ⟨bo, hvb⟩ : ∃ bo, v = .bool bo := by
    rcases hR with ⟨rfl, _, _⟩ | ⟨_, _, rfl, _, _⟩
    · exact ⟨false, hv⟩
    · exact ⟨true, hv⟩
  subst hvb
  refine dX rfl (xP (v := .bool bo) rfl rfl rfl rfl (RX_nil ?_))
  refine dStC (b := 9) (o := 0) (v0 := .bool false) (u := .bool bo) (cellAt_of e9 rfl) rfl rfl rfl rfl (by omega) ?_
  intro H6 s1 s2 s3
  refine ⟨stabE (by kernel_rfl), ?_⟩
  refine dNil ?_
  refine WC_live (live1 6 rfl live0) ?_
  have e9' : aget H6 9 = some (.cells [.bool bo] 4 none) := s3 _ _ _ e9
  refine WC_go hE hm ?_
  refine xLdC (b := 9) (o := 0) (v := .bool bo) (cellAt_of e9' rfl) rfl rfl ?_
  refine xP (v := .bool (!bo)) rfl rfl rfl rfl ?_
  refine xP rfl rfl rfl rfl ?_
  refine RX_nil ?_
  refine WC_ret ?_
  refine endR rfl ?_
  have f6 : Fresh H6 n5 := fun y h1 h2 => by
    rw [s2 y (by omega)]; exact f5 y h1 h2
  rcases hR with ⟨rfl, rfl, rfl⟩ | ⟨LO, hLO, rfl, rfl, rfl⟩
  · cases hv
    have q0 : aget H5 0 = some gl := (at5' 0 gl rfl).trans rfl
    have q1 : aget H5 1 = some (.cells (tcells r c l w p q f) 73 none) := (at5' 1 _ rfl).trans rfl
    have q2 : aget H5 2 = some (.cells [.int .i64 r, .int .i64 c, .int .i64 l, .int .i64 w] 23 none) := (at5' 2 _ rfl).trans rfl
    have q3 : aget H5 3 = some (.cells [.slice none 0 0] 24 none) := (at5' 3 _ rfl).trans rfl
    have q4 : aget H5 4 = some (.cells [.map (some 6)] 78 none) := (at5' 4 _ rfl).trans rfl
    have q5 : aget H5 5 = some (.cells [putV] 93 none) := (at5' 5 _ rfl).trans rfl
    have q6 : aget H5 6 = some (.map es2 k2) := (at5' 6 _ rfl).trans (congrArg some (renMap hes2 _ _))
    have q7 : aget H5 i7 = some (.cells (cardsV (L ++ [cd]) ++ rest2) 64 none) := by
      have := at5' 7 (rob (cardsV (L ++ [cd]) ++ rest2) none cp') rfl
      rw [rob_pos hcp0, renO_cells _ (flats_app (flats_cards _) hrf2)] at this
      exact this
    refine ⟨true, rfl, A, ?_, fun y hy => ⟨(hAn y hy).1, .inl hy, by have := (hAn y hy).2; omega⟩, fun y h1 h2 => ?_, f6, by omega, by omega⟩
    · show JS r c l w p q f L cp H6 A
      refine ⟨hA, es2, k2, rest3, hes2, hrf3, hrl3, ?_⟩
      refine liveHo 1 _ ((s2 1 (by decide)).trans q1) (liveHo 2 _ ((s2 2 (by decide)).trans q2) (liveHo 3 _ ((s2 3 (by decide)).trans q3) (liveHo 4 _ ((s2 4 (by decide)).trans q4) (liveHo 5 _ ((s2 5 (by decide)).trans q5) (liveHo 6 _ ((s2 6 (by decide)).trans q6) ?_)))))
      have t8 := liveHo 8 _ ((s2 8 (by decide)).trans e8) (liveHo 9 _ e9' liveH0)
      by_cases hc0 : cp = 0
      · subst hc0; exact liveHD 7 t8
      · rw [rob_pos hc0]; exact liveHo 7 _ ((s2 7 (by decide)).trans (h73 q7 hc0)) t8
    · by_cases hy0 : y = 0
      · subst hy0; rw [s2 0 (by decide), q0, h0]
      · have hny : ¬ inA y := fun h => h2 ((hA y).2 h)
        rw [s2 y (fun e => hny (by subst e; exact ⟨by decide, by decide⟩))]
        exact out y h1 hny hy0
  · cases hv
    have q0 : aget H5 0 = some gl := (at5' 0 gl rfl).trans rfl
    have q1 : aget H5 1 = some (.cells (tcells r c l w p q f) 73 none) := (at5' 1 _ rfl).trans rfl
    have q2 : aget H5 2 = some (.cells [.int .i64 r, .int .i64 c, .int .i64 l, .int .i64 w] 23 none) := (at5' 2 _ rfl).trans rfl
    have s8 : sigC (sigL [0, 1, 2, 3, 4, 5, 6, i7]) 8 n4 8 = n4 := by show 8 - 8 + n4 = n4; omega
    have q3 : aget H5 3 = some (.cells [gsl n4 LO.length] 24 none) := by
      have := at5' 3 (.cells [gsl 8 LO.length] 24 none) rfl
      simp only [renO, renL, renV_gsl, s8] at this
      exact this
    have q4 : aget H5 4 = some (.cells [.map (some 6)] 78 none) := (at5' 4 _ rfl).trans rfl
    have q5 : aget H5 5 = some (.cells [putV] 93 none) := (at5' 5 _ rfl).trans rfl
    have q6 : aget H5 6 = some (.map es2 k2) := (at5' 6 _ rfl).trans (congrArg some (renMap hes2 _ _))
    have q7 : aget H5 i7 = some (.cells (cardsV (L ++ [cd]) ++ rest2) 64 none) := by
      have := at5' 7 (rob (cardsV (L ++ [cd]) ++ rest2) none cp') rfl
      rw [rob_pos hcp0, renO_cells _ (flats_app (flats_cards _) hrf2)] at this
      exact this
    have q8 : aget H5 n4 = some (gob 64 3 (cardsV LO) LO.length) := by
      have := at5' 8 (gob 64 3 (cardsV LO) LO.length) rfl
      rw [s8, renO_gob _ (flats_cards LO)] at this
      exact this
    have hn4 : n5 = n4 + 1 := by omega
    refine ⟨false, rfl, fun y => inA y ∨ y = n4, ?_, fun y hy => ?_, fun y h1 h2 => ?_, f6, by omega, by omega⟩
    · show JE r c l w p q f L cp H6 _
      refine ⟨n4, LO, es2, k2, rest3, fun y => Iff.rfl, by omega, hLO, hes2, hrf3, hrl3, ?_⟩
      refine liveHo 1 _ ((s2 1 (by decide)).trans q1) (liveHo 2 _ ((s2 2 (by decide)).trans q2) (liveHo 3 _ ((s2 3 (by decide)).trans q3) (liveHo 4 _ ((s2 4 (by decide)).trans q4) (liveHo 5 _ ((s2 5 (by decide)).trans q5) (liveHo 6 _ ((s2 6 (by decide)).trans q6) ?_)))))
      have t8 := liveHo 8 _ ((s2 8 (by decide)).trans e8) (liveHo 9 _ e9' (liveHo n4 _ ((s2 n4 (by omega)).trans q8) liveH0))
      by_cases hc0 : cp = 0
      · subst hc0; exact liveHD 7 t8
      · rw [rob_pos hc0]; exact liveHo 7 _ ((s2 7 (by decide)).trans (h73 q7 hc0)) t8
    · rcases hy with hy | rfl
      · have := hy.1
        have := hy.2
        exact ⟨by omega, .inl ((hA y).2 hy), by omega⟩
      · exact ⟨by omega, .inr (by omega), by omega⟩
    · by_cases hy0 : y = 0
      · subst hy0; rw [s2 0 (by decide), q0, h0]
      · have hny : ¬ inA y := fun h => h2 ((hA y).2 h)
        rw [s2 y (fun e => hny (by subst e; exact ⟨by decide, by decide⟩))]
        exact out y h1 hny hy0
end Go.Proofs.YtnagcnlldllagaaGreatDoor
