/- A part of the proof that spadilletop.TopSharedCut answers true and leaves its argument as it was (bulk at most 1048576): C6. -/
import Derived.Test.YtnagcnlldllagaaGreatDoorC4
import Derived.Test.YtnagcnlldllagaaGreatDoorC5
set_option linter.all false
/- The first filling: the whole. -/
set_option maxRecDepth 1000000
set_option maxHeartbeats 4000000
open Go Go.Cs
namespace Go.Proofs.YtnagcnlldllagaaGreatDoor
theorem opened_cases {r c l w : Int} {v : Value} (h : (∃ e : Int, e ≠ 0 ∧ v = .tuple #[tableV 0 0 0 0 0 0 0, .int .i64 e]) ∨ ∃ p q f : Nat, OkTable r c l w p q f ∧ v = .tuple #[tableV r c l w p q f, .int .i64 0]) :
    ∃ (r' c' l' w' : Int) (p q f : Nat) (e : Int), v = .tuple #[tableV r' c' l' w' p q f, .int .i64 e] ∧ (e = 0 → OkTable r' c' l' w' p q f) := by
  rcases h with ⟨e, he, rfl⟩ | ⟨p, q, f, ok, rfl⟩
  · exact ⟨0, 0, 0, 0, 0, 0, 0, e, rfl, fun h => absurd h he⟩
  · exact ⟨r, c, l, w, p, q, f, 0, rfl, fun _ => ok⟩
def LFc (r c l w : Int) (p q f : Nat) (L : List Cd) (b : Nat) (es : List MapEntry) (k : Nat) : List (Nat × AObj) :=
  [(0, gl), (1, .cells (tcells r c l w p q f) 73 none), (2, .cells [.map (some 6)] 78 none), (3, .cells [gsl 7 L.length] 24 none), (4, .cells [.int .u64 (b : Int)] 70 none), (6, .map es k), (7, gob 64 3 (cardsV L) L.length), (8, .cells [.bool true] 4 none)]
def LFd (r c l w : Int) (p q f : Nat) (L : List Cd) (cd : Cd) (b : Nat) (es : List MapEntry) (k : Nat) : List (Nat × AObj) :=
  [(0, gl), (1, .cells (tcells r c l w p q f) 73 none), (2, .cells [.map (some 6)] 78 none), (3, .cells [gsl 9 (L.length + 1)] 24 none), (4, .cells [.int .u64 (b : Int)] 70 none), (6, .map es k), (8, .cells [.bool false] 4 none), (9, .cells (cardsV L ++ cardV cd) 64 (some 3))]
theorem callNext (r c l w : Int) (p q f b : Nat) (ok : OkTable r c l w p q f) (hb : b < 2 ^ 64) (L : List Cd) (hL : L.length ≤ 64) (es : List MapEntry) (k : Nat) (hes : MapOk es) :
    F Tryz.prog [0] 37 [tableV r c l w p q f, .int .u64 (b : Int), .func (.func 38) #[] #[.pointer (some ⟨1, 0, none⟩), .pointer (some ⟨2, 0, none⟩), .pointer (some ⟨3, 0, none⟩), .pointer (some ⟨4, 0, none⟩), .pointer (some ⟨8, 0, none⟩)]] (ofL (LFc r c l w p q f L b es k)) (8 + 1)
    (fun v H' n' => v = .tuple #[] ∧ ((∃ es' k', MapOk es' ∧ LiveH H' (LFc r c l w p q f L b es' k') ∧ n' = 9) ∨ ∃ cd b' es' k', Next1 b b' ∧ MapOk es' ∧ LiveH H' (LFd r c l w p q f L cd b' es' k') ∧ n' = 10)) := by
  have hc : ∀ b', b' < 2 ^ 64 → C39 r c l w p q f b' := fun b' hb' => count_ok r c l w p q f ok (2 ^ 64) b' hb' (by omega)
  cases L with
  | nil =>
    refine ((f37F_nil r c l w p q f b ok hb hc hL b es k hes).call [0, 1, 2, 3, 4, 8, 6, 999999999] rfl (hGs rfl rfl rfl) rfl rfl (by decide) (hh1 rfl rfl (hh1 rfl rfl (hh1 rfl rfl (hh1 rfl rfl (hh1 rfl rfl (hh1 rfl rfl (hh1 rfl (renMap hes _ _) (hhD hh0)))))))) (by rintro _ _ _ (⟨_, _, _, _, _, rfl⟩ | ⟨_, _, _, _, _, _, _, _, rfl⟩) <;> decide)).mono ?_
    rintro _ _ _ ⟨_, _, _, (⟨es', k', hes', rfl, rfl, rfl⟩ | ⟨cd, b', es', k', h1, hes', rfl, rfl, rfl⟩), rfl, rfl, rfl⟩
    · exact ⟨rfl, .inl ⟨es', k', hes', (liveHo 0 gl rfl (liveHo 1 (.cells (tcells r c l w p q f) 73 none) rfl (liveHo 2 (.cells [.map (some 6)] 78 none) rfl (liveHo 3 (.cells [gsl 7 ([] : List Cd).length] 24 none) rfl (liveHo 4 (.cells [.int .u64 (b : Int)] 70 none) rfl (liveHo 6 (.map es' k') (congrArg some (renMap hes' _ _)) (liveHD 7 (liveHo 8 (.cells [.bool true] 4 none) rfl liveH0)))))))), rfl⟩⟩
    · exact ⟨rfl, .inr ⟨cd, b', es', k', h1, hes', (liveHo 0 gl rfl (liveHo 1 (.cells (tcells r c l w p q f) 73 none) rfl (liveHo 2 (.cells [.map (some 6)] 78 none) rfl (liveHo 3 (.cells [gsl 9 (([] : List Cd).length + 1)] 24 none) rfl (liveHo 4 (.cells [.int .u64 (b' : Int)] 70 none) rfl (liveHo 6 (.map es' k') (congrArg some (renMap hes' _ _)) (liveHo 8 (.cells [.bool false] 4 none) rfl (liveHo 9 (.cells (cardsV ([] : List Cd) ++ cardV cd) 64 (some 3)) (congrArg some (renO_cells _ (flats_cards2 _ _))) liveH0)))))))), rfl⟩⟩
  | cons a L =>
    refine ((f37F_cons r c l w p q f b ok hb hc a L hL b es k hes).call [0, 1, 2, 3, 4, 8, 6, 7] rfl (hGs rfl rfl rfl) rfl rfl (by decide) (hh1 rfl rfl (hh1 rfl rfl (hh1 rfl rfl (hh1 rfl rfl (hh1 rfl rfl (hh1 rfl rfl (hh1 rfl (renMap hes _ _) (hh1 rfl (renO_gob _ (flats_cards _) _) hh0)))))))) (by rintro _ _ _ (⟨_, _, _, _, _, rfl⟩ | ⟨_, _, _, _, _, _, _, _, rfl⟩) <;> decide)).mono ?_
    rintro _ _ _ ⟨_, _, _, (⟨es', k', hes', rfl, rfl, rfl⟩ | ⟨cd, b', es', k', h1, hes', rfl, rfl, rfl⟩), rfl, rfl, rfl⟩
    · exact ⟨rfl, .inl ⟨es', k', hes', (liveHo 0 gl rfl (liveHo 1 (.cells (tcells r c l w p q f) 73 none) rfl (liveHo 2 (.cells [.map (some 6)] 78 none) rfl (liveHo 3 (.cells [gsl 7 (a :: L).length] 24 none) rfl (liveHo 4 (.cells [.int .u64 (b : Int)] 70 none) rfl (liveHo 6 (.map es' k') (congrArg some (renMap hes' _ _)) (liveHo 7 (gob 64 3 (cardsV (a :: L)) (a :: L).length) (congrArg some (renO_gob _ (flats_cards _) _)) (liveHo 8 (.cells [.bool true] 4 none) rfl liveH0)))))))), rfl⟩⟩
    · exact ⟨rfl, .inr ⟨cd, b', es', k', h1, hes', (liveHo 0 gl rfl (liveHo 1 (.cells (tcells r c l w p q f) 73 none) rfl (liveHo 2 (.cells [.map (some 6)] 78 none) rfl (liveHo 3 (.cells [gsl 9 ((a :: L).length + 1)] 24 none) rfl (liveHo 4 (.cells [.int .u64 (b' : Int)] 70 none) rfl (liveHo 6 (.map es' k') (congrArg some (renMap hes' _ _)) (liveHo 8 (.cells [.bool false] 4 none) rfl (liveHo 9 (.cells (cardsV (a :: L) ++ cardV cd) 64 (some 3)) (congrArg some (renO_cells _ (flats_cards2 _ _))) liveH0)))))))), rfl⟩⟩

/-- A row of cards. -/
def rowC (L : List Cd) : List (Nat × AObj) := [(0, gl), (1, gob 64 3 (cardsV L) L.length)]
theorem shutC (L : List Cd) (e : Int) : ShutR (.tuple #[gsl 1 L.length, .int .i64 e]) (rowC L) 1 2 :=
  shutR_of rfl rfl (by cases L <;> rfl) (nm1 rfl rfl (nm1 (idsO_gob (flats_cards L) _) rfl nm0))
def c8 : FC := FC.mk 30 (
  .seq (.steps [⟨.box 23, [.tmp 0], some 1, none⟩,
    ⟨.move, [.const (.slice none 0 0)], some 2, none⟩,
    ⟨.move, [.const (.int .i64 0)], some 3, none⟩]) (
  .seq (.steps [⟨.loadN 4, [.tmp 1], some 11, none⟩,
    ⟨.callF 36, [.tmp 11], some 12, none⟩,
    ⟨.move, [.tmp 12], some 10, none⟩,
    ⟨.extract 0, [.tmp 10], some 13, none⟩,
    ⟨.extract 1, [.tmp 10], some 14, none⟩,
    ⟨.alloc 73 [.int .i64 0, .int .i64 0, .int .i64 0, .int .i64 0, .int .u64 0, .int .u64 0, .int .u64 0], [], some 4, none⟩,
    ⟨.store 7, [.tmp 4, .tmp 13], none, none⟩,
    ⟨.move, [.tmp 14], some 5, none⟩]) (
  .seq (.seq (.steps [⟨.move, [.tmp 5], some 15, none⟩,
    ⟨.bin .neq, [.tmp 15, .const (.int .i64 0)], some 16, none⟩]) (
  .cond (.tmp 16) (
    .seq (.steps [⟨.move, [.tmp 5], some 17, none⟩,
      ⟨.move, [.const (.slice none 0 0)], some 2, none⟩,
      ⟨.move, [.tmp 17], some 3, none⟩]) (
    .ret)) (
    .skip))) (
  .seq (.steps [⟨.mkMap, [], some 18, none⟩,
    ⟨.build [.map none] [(0, 1)], [.tmp 18], some 19, none⟩,
    ⟨.alloc 78 [.map none], [], some 6, none⟩,
    ⟨.store 1, [.tmp 6, .tmp 19], none, none⟩]) (
  .seq (.steps [⟨.alloc 24 [.slice none 0 0], [], some 7, none⟩]) (
  .seq (.steps [⟨.alloc 70 [.int .u64 0], [], some 8, none⟩,
    ⟨.store 1, [.tmp 8, .const (.int .u64 0)], none, none⟩]) (
  .seq (.block 0 (
    .loop (
      .seq (.seq (.steps [⟨.load1, [.tmp 8], some 20, none⟩,
        ⟨.fieldAddr 6, [.tmp 4], some 21, none⟩,
        ⟨.load1, [.tmp 21], some 22, none⟩,
        ⟨.bin .neq, [.tmp 20, .tmp 22], some 23, none⟩]) (
      .cond (.tmp 23) (
        .skip) (
        .exit 0))) (
      .block 1 (
        .seq (.steps [⟨.alloc 4 [.bool false], [], some 9, none⟩,
          ⟨.store 1, [.tmp 9, .const (.bool true)], none, none⟩]) (
        .seq (.steps [⟨.loadN 7, [.tmp 4], some 24, none⟩,
          ⟨.load1, [.tmp 8], some 25, none⟩,
          ⟨.mkFunc (.func 38) 0, [.tmp 4, .tmp 6, .tmp 7, .tmp 8, .tmp 9], some 26, none⟩,
          ⟨.callF 37, [.tmp 24, .tmp 25, .tmp 26], some 27, none⟩]) (
        .seq (.steps [⟨.load1, [.tmp 9], some 28, none⟩]) (
        .cond (.tmp 28) (
          .seq (.steps [⟨.move, [.const (.slice none 0 0)], some 2, none⟩,
            ⟨.move, [.const (.int .i64 12)], some 3, none⟩]) (
          .ret)) (
          .skip))))))))) (
  .seq (.steps [⟨.load1, [.tmp 7], some 29, none⟩,
    ⟨.move, [.tmp 29], some 2, none⟩,
    ⟨.move, [.const (.int .i64 0)], some 3, none⟩]) (
  .ret))))))))) [.tmp 2, .tmp 3]
theorem c8_ok : compF Tryz.prog 8 = some c8 := by kernel_rfl
/-- spadille/cut.Fill -/
theorem f8 (r c l w : Int) : CT Tryz.prog [0] 8 [sheetV r c l w] [(0, gl)] 1 (fun v L' n' => ∃ (L : List Cd) (e : Int), L.length ≤ 64 ∧ v = .tuple #[gsl 1 L.length, .int .i64 e] ∧ L' = rowC L ∧ n' = 2) := by
  refine ⟨shut_of rfl (nm1 rfl rfl nm0), ?_⟩
  refine F_of_comp c8_ok rfl ?_
  refine WC_go hE hm ?_
  refine xA rfl rfl rfl rfl rfl rfl ?_
  refine xP rfl rfl rfl rfl ?_
  refine xP rfl rfl rfl rfl ?_
  refine RX_nil ?_
  refine WC_live (live1 1 rfl live0) ?_
  refine WC_go hE hm ?_
  refine xLoadN [_, _, _, _] rfl rfl rfl ?_
  refine xC rfl rfl rfl rfl (f36 r c l w rfl) ?_
  rintro _ _ _ ⟨hop, rfl, rfl⟩
  obtain ⟨r', c', l', w', p, q, f, e, rfl, hok⟩ := opened_cases hop
  refine xP rfl rfl rfl rfl ?_
  refine xP rfl rfl rfl rfl ?_
  refine xP rfl rfl rfl rfl ?_
  refine xA rfl rfl rfl rfl rfl rfl ?_
  refine xStN [_, _, _, _, _, _, _] rfl rfl rfl rfl rfl rfl rfl rfl ?_
  refine xP rfl rfl rfl rfl ?_
  refine RX_nil ?_
  refine WC_live (live1 4 rfl (live1 5 rfl live0)) ?_
  refine WC_seq ?_
  refine WC_go hE hm ?_
  refine xP rfl rfl rfl rfl ?_
  refine xNe rfl rfl ?_ ?_ <;> intro h
  ·
    refine RX_nil ?_
    refine WC_live (live1 4 rfl (live1 5 rfl (live1 16 rfl live0))) ?_
    refine WC_condT rfl ?_
    refine WC_go hE hm ?_
    refine xP rfl rfl rfl rfl ?_
    refine xP rfl rfl rfl rfl ?_
    refine xP rfl rfl rfl rfl ?_
    refine RX_nil ?_
    refine WC_live (live1 2 rfl (live1 3 rfl live0)) ?_
    refine WC_le (Le.canon [] (n2 := 2) (lr1 2 (gsl 1 0) rfl rfl (lrS 3 rfl rfl lr0)) (hrS 0 rfl rfl (hrD 1 hr0)) rfl rfl rfl rfl rfl (hGn rfl)) ?_
    refine WC_ret ?_
    refine thenR ?_
    refine endR rfl ?_
    exact ⟨_, rfl, ⟨[], e, by decide, rfl, rfl, rfl⟩, shutC [] _⟩
  ·
    refine RX_nil ?_
    refine WC_live (live1 4 rfl (live1 5 rfl (live1 16 rfl live0))) ?_
    refine WC_condF rfl ?_
    refine WC_skip ?_
    refine thenN ?_
    refine WC_live (live1 4 rfl live0) ?_
    refine WC_go hE hm ?_
    refine xA rfl rfl rfl rfl rfl rfl ?_
    refine xBuild [_] rfl rfl rfl ?_
    refine xA rfl rfl rfl rfl rfl rfl ?_
    refine xW rfl rfl rfl rfl rfl ?_
    refine RX_nil ?_
    refine WC_live (live1 4 rfl (live1 6 rfl live0)) ?_
    refine WC_go hE hm ?_
    refine xA rfl rfl rfl rfl rfl rfl ?_
    refine RX_nil ?_
    refine WC_live (live1 4 rfl (live1 6 rfl (live1 7 rfl live0))) ?_
    refine WC_go hE hm ?_
    refine xA rfl rfl rfl rfl rfl rfl ?_
    refine xW rfl rfl rfl rfl rfl ?_
    refine RX_nil ?_
    refine WC_live (live1 4 rfl (live1 6 rfl (live1 7 rfl (live1 8 rfl live0)))) ?_
    refine WC_seq ?_
    refine WC_block ?_
    -- LOOP live [4, 6, 7, 8]
    have ok := hok h
    refine WC_le (Le.canon [(1, 2), (2, 4), (3, 5), (4, 6), (6, 3)] (n2 := 8) (lr1 4 (.pointer (some ⟨1, 0, none⟩)) rfl rfl (lr1 6 (.pointer (some ⟨2, 0, none⟩)) rfl rfl (lr1 7 (.pointer (some ⟨3, 0, none⟩)) rfl rfl (lr1 8 (.pointer (some ⟨4, 0, none⟩)) rfl rfl lr0)))) (hrS 0 rfl rfl (hr1 1 (.cells (tcells r' c' l' w' p q f) 73 none) rfl rfl (hr1 2 (.cells [.map (some 6)] 78 none) rfl rfl (hr1 3 (.cells [gsl 7 0] 24 none) rfl rfl (hr1 4 (.cells [.int .u64 ((0 : Nat) : Int)] 70 none) rfl rfl (hr1 6 (.map [] 0) rfl rfl (hrD 7 hr0))))))) rfl rfl rfl rfl rfl (hGn rfl)) ?_
    refine WC_loopX (X := List Cd × Nat × List MapEntry × Nat) (fun x => { T := ofL [(4, .pointer (some ⟨1, 0, none⟩)), (6, .pointer (some ⟨2, 0, none⟩)), (7, .pointer (some ⟨3, 0, none⟩)), (8, .pointer (some ⟨4, 0, none⟩))], D := [], H := ofL [(0, gl), (1, .cells (tcells r' c' l' w' p q f) 73 none), (2, .cells [.map (some 6)] 78 none), (3, .cells [gsl 7 x.1.length] 24 none), (4, .cells [.int .u64 (x.2.1 : Int)] 70 none), (6, .map x.2.2.1 x.2.2.2), (7, gob 64 3 (cardsV x.1) x.1.length)], n := 8 }) (fun x => x.2.1 < 2 ^ 64 ∧ full x.1.length x.2.1 ∧ MapOk x.2.2.1) (fun x => 2 ^ 64 - x.2.1) ([], 0, [], 0) ⟨by decide, fun j hj => (by cases hj), fun e he => (by cases he)⟩ ?_
    rintro ⟨L, b, es, k⟩ ⟨hb, hf, hes⟩
    dsimp only at *
    have hL := full_le hf hb
    refine WC_seq ?_
    refine WC_go hE hm ?_
    refine xR rfl rfl rfl rfl ?_
    refine xP rfl rfl rfl rfl ?_
    refine xR rfl rfl rfl rfl ?_
    refine xNe rfl rfl ?_ ?_ <;> intro h
    ·
      refine RX_nil ?_
      refine WC_live (live1 4 rfl (live1 6 rfl (live1 7 rfl (live1 8 rfl (live1 23 rfl live0))))) ?_
      refine WC_condT rfl ?_
      refine WC_skip ?_
      refine thenN ?_
      refine WC_live (live1 4 rfl (live1 6 rfl (live1 7 rfl (live1 8 rfl live0)))) ?_
      refine WC_block ?_
      refine WC_go hE hm ?_
      refine xA rfl rfl rfl rfl rfl rfl ?_
      refine xW rfl rfl rfl rfl rfl ?_
      refine RX_nil ?_
      refine WC_liveH (live1 4 rfl (live1 6 rfl (live1 7 rfl (live1 8 rfl (live1 9 rfl live0))))) (LH := LFc r' c' l' w' p q f L b es k) (liveHo 0 gl rfl (liveHo 1 (.cells (tcells r' c' l' w' p q f) 73 none) rfl (liveHo 2 (.cells [.map (some 6)] 78 none) rfl (liveHo 3 (.cells [gsl 7 L.length] 24 none) rfl (liveHo 4 (.cells [.int .u64 (b : Int)] 70 none) rfl (liveHo 6 (.map es k) rfl (liveHo 7 (gob 64 3 (cardsV L) L.length) rfl (liveHo 8 (.cells [.bool true] 4 none) rfl liveH0)))))))) ?_
      refine WC_go hE hm ?_
      refine xLoadN [_, _, _, _, _, _, _] rfl rfl rfl ?_
      refine xR rfl rfl rfl rfl ?_
      refine xP rfl rfl rfl rfl ?_
      refine xC rfl rfl rfl rfl (callNext r' c' l' w' p q f b ok hb L hL es k hes) ?_
      rintro _ H' _ ⟨rfl, hcase⟩
      rcases hcase with ⟨es', k', hes', hl, rfl⟩ | ⟨cd, b', es', k', h1, hes', hl, rfl⟩
      ·
        refine RX_nil ?_
        refine WC_liveH (live1 4 rfl (live1 6 rfl (live1 7 rfl (live1 8 rfl (live1 9 rfl live0))))) hl ?_
        refine WC_go hE hm ?_
        refine xR rfl rfl rfl rfl ?_
        refine RX_nil ?_
        refine WC_live (live1 4 rfl (live1 6 rfl (live1 7 rfl (live1 8 rfl (live1 28 rfl live0))))) ?_
        refine WC_cond rfl (fun h => ?_) (fun h => ?_)
        ·
          refine WC_go hE hm ?_
          refine xP rfl rfl rfl rfl ?_
          refine xP rfl rfl rfl rfl ?_
          refine RX_nil ?_
          refine WC_live (live1 2 rfl (live1 3 rfl live0)) ?_
          refine WC_le (Le.canon [] (n2 := 2) (lr1 2 (gsl 1 0) rfl rfl (lrS 3 rfl rfl lr0)) (hrS 0 rfl rfl (hrD 1 hr0)) rfl rfl rfl rfl rfl (hGn rfl)) ?_
          refine WC_ret ?_
          refine blockR ?_
          refine thenR ?_
          refine blockR ?_
          refine thenR ?_
          refine endR rfl ?_
          exact ⟨_, rfl, ⟨[], 12, by decide, rfl, rfl, rfl⟩, shutC [] _⟩
        ·
          refine WC_skip ?_
          refine blockN ?_
          cases h
      ·
        refine RX_nil ?_
        refine WC_liveH (live1 4 rfl (live1 6 rfl (live1 7 rfl (live1 8 rfl (live1 9 rfl live0))))) hl ?_
        refine WC_go hE hm ?_
        refine xR rfl rfl rfl rfl ?_
        refine RX_nil ?_
        refine WC_live (live1 4 rfl (live1 6 rfl (live1 7 rfl (live1 8 rfl (live1 28 rfl live0))))) ?_
        refine WC_cond rfl (fun h => ?_) (fun h => ?_)
        ·
          refine WC_go hE hm ?_
          refine xP rfl rfl rfl rfl ?_
          refine xP rfl rfl rfl rfl ?_
          refine RX_nil ?_
          refine WC_live (live1 2 rfl (live1 3 rfl live0)) ?_
          refine WC_ret ?_
          refine blockR ?_
          refine thenR ?_
          refine blockR ?_
          refine thenR ?_
          refine endR rfl ?_
          cases h
        ·
          refine WC_skip ?_
          refine blockN ?_
          refine thenN ⟨(L ++ [cd], b', es', k'), ⟨h1.top, by rw [List.length_append]; exact h1.more _ hf, hes'⟩, by have := h1.lt; have := h1.top; dsimp only; omega, Le.canon [(1, 1), (2, 2), (3, 3), (4, 4), (6, 6), (7, 9)] (n2 := 8) (lr1 4 (.pointer (some ⟨1, 0, none⟩)) rfl rfl (lr1 6 (.pointer (some ⟨2, 0, none⟩)) rfl rfl (lr1 7 (.pointer (some ⟨3, 0, none⟩)) rfl rfl (lr1 8 (.pointer (some ⟨4, 0, none⟩)) rfl rfl lr0)))) (hrS 0 rfl rfl (hrS 1 rfl rfl (hrS 2 rfl rfl (hr1 3 (.cells [gsl 7 (L ++ [cd]).length] 24 none) rfl (by rw [List.length_append]; rfl) (hrS 4 rfl rfl (hr1 6 (.map es' k') rfl (renMap hes' _ _) (hr1 7 (gob 64 3 (cardsV (L ++ [cd])) (L ++ [cd]).length) rfl (by rw [renO_gob _ (flats_cards _), cards_add, List.length_append]; rfl) hr0))))))) rfl rfl rfl rfl rfl (hGn rfl)⟩
    ·
      refine RX_nil ?_
      refine WC_live (live1 4 rfl (live1 6 rfl (live1 7 rfl (live1 8 rfl (live1 23 rfl live0))))) ?_
      refine WC_condF rfl ?_
      refine WC_exit ?_
      refine thenE ?_
      refine thenE ?_
      refine blockE ?_
      refine thenN ?_
      refine WC_live (live1 7 rfl live0) ?_
      refine WC_go hE hm ?_
      refine xR rfl rfl rfl rfl ?_
      refine xP rfl rfl rfl rfl ?_
      refine xP rfl rfl rfl rfl ?_
      refine RX_nil ?_
      refine WC_live (live1 2 rfl (live1 3 rfl live0)) ?_
      refine WC_le (Le.canon [(1, 7)] (n2 := 2) (lr1 2 (gsl 1 L.length) rfl (renV_gsl _ 1 _) (lrS 3 rfl rfl lr0)) (hrS 0 rfl rfl (hr1 1 (gob 64 3 (cardsV L) L.length) rfl (renO_gob _ (flats_cards L) _) hr0)) rfl rfl rfl rfl rfl (hGn rfl)) ?_
      refine WC_ret ?_
      refine endR rfl ?_
      exact ⟨_, rfl, ⟨L, 0, full_le hf hb, rfl, rfl, rfl⟩, shutC L 0⟩
end Go.Proofs.YtnagcnlldllagaaGreatDoor

/- How many squares have each colour. -/
set_option maxRecDepth 1000000
set_option maxHeartbeats 4000000
open Go Go.Cs
namespace Go.Proofs.YtnagcnlldllagaaGreatDoor
def rowI (ms : List Int) : List (Nat × AObj) := [(0, gl), (1, .cells (ints ms) 3 none)]
def c52 : FC := FC.mk 35 (
  .seq (.steps [⟨.box 23, [.tmp 0], some 2, none⟩,
    ⟨.move, [.const (.slice none 0 0)], some 4, none⟩]) (
  .seq (.steps [⟨.move, [.tmp 1], some 7, none⟩,
    ⟨.mkSlice 3 8 [.int .i64 0], [.tmp 7, .tmp 7], some 8, none⟩,
    ⟨.move, [.tmp 8], some 5, none⟩]) (
  .seq (.seq (.steps [⟨.fieldAddr 0, [.tmp 2], some 9, none⟩,
    ⟨.load1, [.tmp 9], some 10, none⟩,
    ⟨.fieldAddr 1, [.tmp 2], some 11, none⟩,
    ⟨.load1, [.tmp 11], some 12, none⟩,
    ⟨.bin .mul, [.tmp 10, .tmp 12], some 13, none⟩,
    ⟨.move, [.const (.int .i64 0)], some 14, none⟩]) (
  .block 0 (
    .loop (
      .seq (.steps [⟨.bin .lss, [.tmp 14, .tmp 13], some 15, none⟩]) (
      .seq (.cond (.tmp 15) (
        .skip) (
        .exit 0)) (
      .seq (.block 1 (
        .seq (.steps [⟨.move, [.tmp 14], some 16, none⟩,
          ⟨.move, [.tmp 16], some 6, none⟩]) (
        .steps [⟨.move, [.tmp 5], some 17, none⟩,
          ⟨.move, [.tmp 6], some 18, none⟩,
          ⟨.fieldAddr 1, [.tmp 2], some 19, none⟩,
          ⟨.load1, [.tmp 19], some 20, none⟩,
          ⟨.bin .quo, [.tmp 18, .tmp 20], some 21, none⟩,
          ⟨.move, [.tmp 6], some 22, none⟩,
          ⟨.fieldAddr 1, [.tmp 2], some 23, none⟩,
          ⟨.load1, [.tmp 23], some 24, none⟩,
          ⟨.bin .rem, [.tmp 22, .tmp 24], some 25, none⟩,
          ⟨.bin .add, [.tmp 21, .tmp 25], some 26, none⟩,
          ⟨.move, [.tmp 1], some 27, none⟩,
          ⟨.bin .rem, [.tmp 26, .tmp 27], some 28, none⟩,
          ⟨.indexAddrS 1, [.tmp 17, .tmp 28], some 29, none⟩,
          ⟨.load1, [.tmp 29], some 30, none⟩,
          ⟨.bin .add, [.tmp 30, .const (.int .i64 1)], some 31, none⟩,
          ⟨.indexAddrS 1, [.tmp 17, .tmp 28], some 32, none⟩,
          ⟨.store 1, [.tmp 32, .tmp 31], none, none⟩]))) (
      .steps [⟨.bin .add, [.tmp 14, .const (.int .i64 1)], some 33, none⟩,
        ⟨.move, [.tmp 33], some 14, none⟩]))))))) (
  .seq (.steps [⟨.move, [.tmp 5], some 34, none⟩,
    ⟨.move, [.tmp 34], some 4, none⟩]) (
  .ret))))) [.tmp 4]
theorem c52_ok : compF Tryz.prog 52 = some c52 := by kernel_rfl
/-- (spadille/cut.Sheet).colours -/
theorem f52 (r c l w k : Int) (hs : okSheet r c l w) (hk : 1 ≤ k ∧ k ≤ 6) : CT Tryz.prog [0] 52 [sheetV r c l w, .int .i64 k] [(0, gl)] 1 (fun v L' n' => ∃ ms : List Int, ms.length = k.toNat ∧ v = .slice (some ⟨1, 0, none⟩) k.toNat k.toNat ∧ L' = rowI ms ∧ n' = 2) := by
  refine ⟨shut_of rfl (nm1 rfl rfl nm0), ?_⟩
  obtain ⟨⟨s1, s2⟩, ⟨s3, s4⟩, ⟨s5, s6⟩, s7, s8⟩ := hs
  have hmu := mulB (a := r) (b := c) (by omega) (by omega)
  refine F_of_comp c52_ok rfl ?_
  refine WC_go hE hm ?_
  refine xA rfl rfl rfl rfl rfl rfl ?_
  refine xP rfl rfl rfl rfl ?_
  refine RX_nil ?_
  refine WC_live (live1 1 rfl (live1 2 rfl live0)) ?_
  refine WC_go hE hm ?_
  refine xP rfl rfl rfl rfl ?_
  refine xMkInts rfl rfl (by omega) rfl rfl ?_
  refine xP rfl rfl rfl rfl ?_
  refine RX_nil ?_
  refine WC_live (live1 1 rfl (live1 2 rfl (live1 5 rfl live0))) ?_
  refine WC_seq ?_
  refine WC_go hE hm ?_
  refine xP rfl rfl rfl rfl ?_
  refine xR rfl rfl rfl rfl ?_
  refine xP rfl rfl rfl rfl ?_
  refine xR rfl rfl rfl rfl ?_
  refine xMul rfl rfl (by omega) ?_
  refine xP rfl rfl rfl rfl ?_
  refine RX_nil ?_
  refine WC_live (live1 1 rfl (live1 2 rfl (live1 5 rfl (live1 13 rfl (live1 14 rfl live0))))) ?_
  refine WC_block ?_
  -- LOOP live [1, 2, 5, 13, 14]
  refine WC_liveH (live1 1 rfl (live1 2 rfl (live1 5 rfl (live1 13 rfl (live1 14 rfl live0))))) (liveHo 0 gl rfl (liveHo 1 (.cells [.int .i64 r, .int .i64 c, .int .i64 l, .int .i64 w] 23 none) rfl (liveHo 2 (.cells (ints (List.replicate k.toNat 0)) 3 none) rfl liveH0))) ?_
  refine WC_loopX (X := List Int × Int) (fun x => { T := ofL [(1, .int .i64 k), (2, .pointer (some ⟨1, 0, none⟩)), (5, .slice (some ⟨2, 0, none⟩) k.toNat k.toNat), (13, .int .i64 (r * c)), (14, .int .i64 x.2)], D := [], H := ofL [(0, gl), (1, .cells [.int .i64 r, .int .i64 c, .int .i64 l, .int .i64 w] 23 none), (2, .cells (ints x.1) 3 none)], n := _ }) (fun x => x.1.length = k.toNat ∧ 0 ≤ x.2 ∧ x.2 ≤ r * c) (fun x => (r * c - x.2).toNat) (List.replicate k.toNat 0, 0) ⟨by simp, Int.le_refl _, by dsimp only; omega⟩ ?_
  rintro ⟨ms, i⟩ ⟨hms, i1, i2⟩
  dsimp only at *
  refine WC_go hE hm ?_
  refine xCmp rfl rfl rfl rfl ?_ ?_ <;> intro h
  ·
    refine RX_nil ?_
    refine WC_live (live1 1 rfl (live1 2 rfl (live1 5 rfl (live1 13 rfl (live1 14 rfl (live1 15 rfl live0)))))) ?_
    refine WC_seq ?_
    refine WC_condT rfl ?_
    refine WC_skip ?_
    refine thenN ?_
    refine WC_live (live1 1 rfl (live1 2 rfl (live1 5 rfl (live1 13 rfl (live1 14 rfl live0))))) ?_
    refine WC_seq ?_
    refine WC_block ?_
    refine WC_go hE hm ?_
    refine xP rfl rfl rfl rfl ?_
    refine xP rfl rfl rfl rfl ?_
    refine RX_nil ?_
    refine WC_live (live1 1 rfl (live1 2 rfl (live1 5 rfl (live1 6 rfl (live1 13 rfl (live1 14 rfl live0)))))) ?_
    refine WC_steps hE hm ?_
    refine xP rfl rfl rfl rfl ?_
    refine xP rfl rfl rfl rfl ?_
    refine xP rfl rfl rfl rfl ?_
    refine xR rfl rfl rfl rfl ?_
    have hdv := divB (i := i) (c := c) ⟨i1, by omega⟩ ⟨s3, s4⟩
    have hj1 := Int.emod_nonneg (i / c + i % c) (show k ≠ 0 by omega)
    have hj2 := Int.emod_lt_of_pos (i / c + i % c) (show 0 < k by omega)
    refine xQuo rfl rfl (by omega) ?_
    refine xP rfl rfl rfl rfl ?_
    refine xP rfl rfl rfl rfl ?_
    refine xR rfl rfl rfl rfl ?_
    refine xRem rfl rfl (by omega) ?_
    refine xAdd rfl rfl (by omega) ?_
    refine xP rfl rfl rfl rfl ?_
    refine xRem rfl rfl (by omega) ?_
    refine xIdx rfl rfl (by omega) ?_
    refine xLdI (l := ms) rfl rfl rfl (by omega) ?_
    refine xP rfl rfl rfl rfl ?_
    refine xIdx rfl rfl (by omega) ?_
    refine xStI (l := ms) rfl rfl rfl (by omega) rfl ?_
    refine RX_nil ?_
    refine blockN ?_
    refine thenN ?_
    refine WC_live (live1 1 rfl (live1 2 rfl (live1 5 rfl (live1 13 rfl (live1 14 rfl live0))))) ?_
    refine WC_steps hE hm ?_
    refine xAdd rfl rfl (by omega) ?_
    refine xP rfl rfl rfl rfl ?_
    refine RX_nil ?_
    refine thenN ⟨(_, i + 1), ⟨by rw [← hms]; exact List.length_set, by dsimp only; omega, by dsimp only; omega⟩, by dsimp only; omega, Le.liveH (live1 1 rfl (live1 2 rfl (live1 5 rfl (live1 13 rfl (live1 14 rfl live0))))) (liveHo 0 gl rfl (liveHo 1 (.cells [.int .i64 r, .int .i64 c, .int .i64 l, .int .i64 w] 23 none) rfl (liveHo 2 (.cells (ints _) 3 none) rfl liveH0)))⟩
  ·
    refine RX_nil ?_
    refine WC_live (live1 1 rfl (live1 2 rfl (live1 5 rfl (live1 13 rfl (live1 14 rfl (live1 15 rfl live0)))))) ?_
    refine WC_seq ?_
    refine WC_condF rfl ?_
    refine WC_exit ?_
    refine thenE ?_
    refine thenE ?_
    refine blockE ?_
    refine thenN ?_
    refine WC_live (live1 5 rfl live0) ?_
    refine WC_go hE hm ?_
    refine xP rfl rfl rfl rfl ?_
    refine xP rfl rfl rfl rfl ?_
    refine RX_nil ?_
    refine WC_live (live1 4 rfl live0) ?_
    refine WC_le (Le.canon [(1, 2)] (n2 := 2) (lr1 4 (.slice (some ⟨1, 0, none⟩) k.toNat k.toNat) rfl rfl lr0) (hrS 0 rfl rfl (hr1 1 (.cells (ints ms) 3 none) rfl (renO_cells _ (flats_ints' ms)) hr0)) rfl rfl rfl rfl rfl (hGn rfl)) ?_
    refine WC_ret ?_
    refine endR rfl ?_
    exact ⟨_, rfl, ⟨ms, hms, rfl, rfl, rfl⟩, shutR_of rfl rfl rfl (nm1 rfl rfl (nm1 (idsL_ints ms) rfl nm0))⟩
def c26 : FC := FC.mk 23 (
  .seq (.steps [⟨.box 23, [.tmp 0], some 2, none⟩,
    ⟨.move, [.const (.slice none 0 0)], some 4, none⟩,
    ⟨.move, [.const (.int .i64 0)], some 5, none⟩]) (
  .seq (.seq (.steps [⟨.loadN 4, [.tmp 2], some 7, none⟩,
    ⟨.callF 51, [.tmp 7], some 8, none⟩,
    ⟨.move, [.tmp 8], some 6, none⟩]) (
  .block 0 (
    .seq (.steps [⟨.move, [.tmp 6], some 10, none⟩,
      ⟨.bin .neq, [.tmp 10, .const (.int .i64 0)], some 11, none⟩,
      ⟨.move, [.tmp 11], some 9, none⟩]) (
    .cond (.tmp 9) (
      .seq (.steps [⟨.move, [.tmp 6], some 12, none⟩,
        ⟨.move, [.const (.slice none 0 0)], some 4, none⟩,
        ⟨.move, [.tmp 12], some 5, none⟩]) (
      .ret)) (
      .seq (.steps [⟨.move, [.tmp 1], some 14, none⟩,
        ⟨.bin .lss, [.tmp 14, .const (.int .i64 1)], some 15, none⟩,
        ⟨.move, [.tmp 15], some 16, none⟩,
        ⟨.move, [.tmp 1], some 17, some (16, false)⟩,
        ⟨.bin .gtr, [.tmp 17, .const (.int .i64 6)], some 18, some (16, false)⟩,
        ⟨.pick, [.tmp 16, .const (.bool true), .tmp 18], some 19, none⟩,
        ⟨.move, [.tmp 19], some 13, none⟩]) (
      .cond (.tmp 13) (
        .seq (.steps [⟨.move, [.const (.slice none 0 0)], some 4, none⟩,
          ⟨.move, [.const (.int .i64 1)], some 5, none⟩]) (
        .ret)) (
        .skip))))))) (
  .seq (.steps [⟨.loadN 4, [.tmp 2], some 20, none⟩,
    ⟨.move, [.tmp 1], some 21, none⟩,
    ⟨.callF 52, [.tmp 20, .tmp 21], some 22, none⟩,
    ⟨.move, [.tmp 22], some 4, none⟩,
    ⟨.move, [.const (.int .i64 0)], some 5, none⟩]) (
  .ret)))) [.tmp 4, .tmp 5]
theorem c26_ok : compF Tryz.prog 26 = some c26 := by kernel_rfl
/-- spadille/cut.Colours -/
theorem f26 (r c l w k : Int) : CT Tryz.prog [0] 26 [sheetV r c l w, .int .i64 k] [(0, gl)] 1 (fun v L' n' => (∃ e : Int, v = .tuple #[.slice none 0 0, .int .i64 e] ∧ L' = [(0, gl)] ∧ n' = 1) ∨ ∃ ms : List Int, ms.length = k.toNat ∧ k ≤ 6 ∧ v = .tuple #[.slice (some ⟨1, 0, none⟩) k.toNat k.toNat, .int .i64 0] ∧ L' = rowI ms ∧ n' = 2) := by
  refine ⟨shut_of rfl (nm1 rfl rfl nm0), ?_⟩
  refine F_of_comp c26_ok rfl ?_
  refine WC_go hE hm ?_
  refine xA rfl rfl rfl rfl rfl rfl ?_
  refine xP rfl rfl rfl rfl ?_
  refine xP rfl rfl rfl rfl ?_
  refine RX_nil ?_
  refine WC_live (live1 1 rfl (live1 2 rfl live0)) ?_
  refine WC_seq ?_
  refine WC_go hE hm ?_
  refine xLoadN [_, _, _, _] rfl rfl rfl ?_
  refine xC rfl rfl rfl rfl (f51 r c l w rfl) ?_
  rintro _ _ _ ⟨⟨e, rfl, he⟩, rfl, rfl⟩
  refine xP rfl rfl rfl rfl ?_
  refine RX_nil ?_
  refine WC_live (live1 1 rfl (live1 2 rfl (live1 6 rfl live0))) ?_
  refine WC_block ?_
  refine WC_go hE hm ?_
  refine xP rfl rfl rfl rfl ?_
  refine xNe rfl rfl ?_ ?_ <;> intro h
  ·
    refine xP rfl rfl rfl rfl ?_
    refine RX_nil ?_
    refine WC_live (live1 1 rfl (live1 2 rfl (live1 6 rfl (live1 9 rfl live0)))) ?_
    refine WC_condT rfl ?_
    refine WC_go hE hm ?_
    refine xP rfl rfl rfl rfl ?_
    refine xP rfl rfl rfl rfl ?_
    refine xP rfl rfl rfl rfl ?_
    refine RX_nil ?_
    refine WC_live (live1 4 rfl (live1 5 rfl live0)) ?_
    refine WC_le (Le.canon [] (n2 := 1) (lr1 4 (.slice none 0 0) rfl rfl (lrS 5 rfl rfl lr0)) (hrS 0 rfl rfl hr0) rfl rfl rfl rfl rfl (hGn rfl)) ?_
    refine WC_ret ?_
    refine blockR ?_
    refine thenR ?_
    refine endR rfl ?_
    exact ⟨_, rfl, .inl ⟨_, rfl, rfl, rfl⟩, shutR_of rfl rfl rfl (nm1 rfl rfl nm0)⟩
  ·
    refine xP rfl rfl rfl rfl ?_
    refine RX_nil ?_
    refine WC_live (live1 1 rfl (live1 2 rfl (live1 6 rfl (live1 9 rfl live0)))) ?_
    refine WC_condF rfl ?_
    refine WC_go hE hm ?_
    refine xP rfl rfl rfl rfl ?_
    refine xCmp rfl rfl rfl rfl ?_ ?_ <;> intro h
    ·
      refine xP rfl rfl rfl rfl ?_
      refine xS rfl ?_
      refine xS rfl ?_
      refine xP rfl rfl rfl rfl ?_
      refine xP rfl rfl rfl rfl ?_
      refine RX_nil ?_
      refine WC_live (live1 1 rfl (live1 2 rfl (live1 13 rfl live0))) ?_
      refine WC_condT rfl ?_
      refine WC_go hE hm ?_
      refine xP rfl rfl rfl rfl ?_
      refine xP rfl rfl rfl rfl ?_
      refine RX_nil ?_
      refine WC_live (live1 4 rfl (live1 5 rfl live0)) ?_
      refine WC_le (Le.canon [] (n2 := 1) (lr1 4 (.slice none 0 0) rfl rfl (lrS 5 rfl rfl lr0)) (hrS 0 rfl rfl hr0) rfl rfl rfl rfl rfl (hGn rfl)) ?_
      refine WC_ret ?_
      refine blockR ?_
      refine thenR ?_
      refine endR rfl ?_
      exact ⟨_, rfl, .inl ⟨_, rfl, rfl, rfl⟩, shutR_of rfl rfl rfl (nm1 rfl rfl nm0)⟩
    ·
      refine xP rfl rfl rfl rfl ?_
      refine xP rfl rfl rfl rfl ?_
      refine xCmp rfl rfl rfl rfl ?_ ?_ <;> intro h
      ·
        refine xP rfl rfl rfl rfl ?_
        refine xP rfl rfl rfl rfl ?_
        refine RX_nil ?_
        refine WC_live (live1 1 rfl (live1 2 rfl (live1 13 rfl live0))) ?_
        refine WC_condT rfl ?_
        refine WC_go hE hm ?_
        refine xP rfl rfl rfl rfl ?_
        refine xP rfl rfl rfl rfl ?_
        refine RX_nil ?_
        refine WC_live (live1 4 rfl (live1 5 rfl live0)) ?_
        refine WC_le (Le.canon [] (n2 := 1) (lr1 4 (.slice none 0 0) rfl rfl (lrS 5 rfl rfl lr0)) (hrS 0 rfl rfl hr0) rfl rfl rfl rfl rfl (hGn rfl)) ?_
        refine WC_ret ?_
        refine blockR ?_
        refine thenR ?_
        refine endR rfl ?_
        exact ⟨_, rfl, .inl ⟨_, rfl, rfl, rfl⟩, shutR_of rfl rfl rfl (nm1 rfl rfl nm0)⟩
      ·
        refine xP rfl rfl rfl rfl ?_
        refine xP rfl rfl rfl rfl ?_
        refine RX_nil ?_
        refine WC_live (live1 1 rfl (live1 2 rfl (live1 13 rfl live0))) ?_
        refine WC_condF rfl ?_
        refine WC_skip ?_
        refine blockN ?_
        refine thenN ?_
        refine WC_live (live1 1 rfl (live1 2 rfl live0)) ?_
        refine WC_go hE hm ?_
        refine xLoadN [_, _, _, _] rfl rfl rfl ?_
        refine xP rfl rfl rfl rfl ?_
        refine xC rfl rfl rfl rfl ((f52 r c l w k (he (by assumption)) (by omega)).call [0] rfl (hGs rfl rfl rfl) rfl rfl (by decide) (hh1 rfl rfl hh0) (by rintro _ _ _ ⟨_, _, _, _, rfl⟩; decide)) ?_
        rintro _ _ _ ⟨_, _, _, ⟨ms, hms, rfl, rfl, rfl⟩, rfl, rfl, rfl⟩
        refine xP rfl rfl rfl rfl ?_
        refine xP rfl rfl rfl rfl ?_
        refine RX_nil ?_
        refine WC_live (live1 4 rfl (live1 5 rfl live0)) ?_
        refine WC_le (Le.canon [(1, 2)] (n2 := 2) (lr1 4 (.slice (some ⟨1, 0, none⟩) k.toNat k.toNat) rfl rfl (lrS 5 rfl rfl lr0)) (hrS 0 rfl rfl (hr1 1 (.cells (ints ms) 3 none) (congrArg some (renO_cells _ (flats_ints' ms))) (renO_cells _ (flats_ints' ms)) hr0)) rfl rfl rfl rfl rfl (hGn rfl)) ?_
        refine WC_ret ?_
        refine endR rfl ?_
        exact ⟨_, rfl, .inr ⟨ms, hms, by omega, rfl, rfl, rfl⟩, shutR_of rfl rfl rfl (nm1 rfl rfl (nm1 (idsL_ints ms) rfl nm0))⟩
end Go.Proofs.YtnagcnlldllagaaGreatDoor
