/- A part of the proof that spadilletop.TopSharedCut answers true and leaves its argument as it was (bulk at most 1048576): C5. -/
import Derived.Test.YtnagcnlldllagaaGreatDoorC3
set_option linter.all false
/- The search for a next card. -/
set_option maxRecDepth 1000000
set_option maxHeartbeats 4000000
open Go Go.Cs
namespace Go.Proofs.YtnagcnlldllagaaGreatDoor
/-- (spadille/cut.table).next -/
theorem f37F_cons (r c l w : Int) (p q f b : Nat) (ok : OkTable r c l w p q f) (hb : b < 2 ^ 64) (hcount : ∀ b', b' < 2 ^ 64 → C39 r c l w p q f b') (a : Cd) (L : List Cd) (hL : (a :: L).length ≤ 64) (bc : Nat) (es : List MapEntry) (k : Nat) (hes : MapOk es) :
    CT Tryz.prog [0] 37 (nextArgs r c l w p q f b) (hF r c l w p q f (a :: L) bc true es k) 8 (RN r c l w p q f b (a :: L) bc) := by
  refine ⟨shut_of rfl (namedF r c l w p q f (a :: L) bc true k hes), ?_⟩
  refine F_of_comp c37_ok rfl ?_
  refine WC_go hE hm ?_
  refine xA rfl rfl rfl rfl rfl rfl ?_
  refine RX_nil ?_
  refine WC_live (live1 1 rfl (live1 2 rfl (live1 3 rfl live0))) ?_
  refine WC_go hE hm ?_
  refine xLoadN [_, _, _, _, _, _, _] rfl rfl rfl ?_
  refine xP rfl rfl rfl rfl ?_
  refine xC rfl rfl rfl rfl (f58 r c l w p q f b ok.sheet.2.1.1 hb rfl) ?_
  rintro _ _ _ ⟨⟨i, i1, i2, i3, i4, rfl⟩, rfl, rfl⟩
  have hdv := divB ⟨i1, i2⟩ ok.sheet.2.1
  refine xP rfl rfl rfl rfl ?_
  refine xP rfl rfl rfl rfl ?_
  refine xP rfl rfl rfl rfl ?_
  refine xP rfl rfl rfl rfl ?_
  refine xP rfl rfl rfl rfl ?_
  refine RX_nil ?_
  refine WC_live (live1 1 rfl (live1 2 rfl (live1 3 rfl (live1 6 rfl (live1 7 rfl live0))))) ?_
  refine WC_go hE hm ?_
  refine xBSlice [_, _] rfl rfl rfl rfl rfl ?_
  refine xP rfl rfl rfl rfl ?_
  refine xP rfl rfl rfl rfl ?_
  refine RX_nil ?_
  refine WC_live (live1 1 rfl (live1 2 rfl (live1 3 rfl (live1 6 rfl (live1 7 rfl (live1 19 rfl (live1 20 rfl (live1 21 rfl live0)))))))) ?_
  refine WC_block ?_
  refine WC_loopK 3 ?_
  refine WCR_succ ?_
  refine WC_go hE hm ?_
  refine xP rfl rfl rfl rfl ?_
  refine RX_nil ?_
  refine WC_live (live1 1 rfl (live1 2 rfl (live1 3 rfl (live1 6 rfl (live1 7 rfl (live1 19 rfl (live1 20 rfl (live1 21 rfl (live1 22 rfl live0))))))))) ?_
  refine WC_seq ?_
  refine WC_condT rfl ?_
  refine WC_skip ?_
  refine thenN ?_
  refine WC_live (live1 1 rfl (live1 2 rfl (live1 3 rfl (live1 6 rfl (live1 7 rfl (live1 19 rfl (live1 20 rfl (live1 21 rfl live0)))))))) ?_
  refine WC_seq ?_
  refine WC_block ?_
  refine WC_go hE hm ?_
  refine xP rfl rfl rfl rfl ?_
  refine xR rfl rfl rfl rfl ?_
  refine xP rfl rfl rfl rfl ?_
  refine RX_nil ?_
  refine WC_live (live1 1 rfl (live1 2 rfl (live1 3 rfl (live1 6 rfl (live1 7 rfl (live1 9 rfl (live1 19 rfl (live1 20 rfl (live1 21 rfl live0))))))))) ?_
  refine WC_go hE hm ?_
  refine xP rfl rfl rfl rfl ?_
  refine xP rfl rfl rfl rfl ?_
  refine xP rfl rfl rfl rfl ?_
  refine xBuild [_, _, _] rfl rfl rfl ?_
  refine xA rfl rfl rfl rfl rfl rfl ?_
  refine xStN [_, _, _] rfl rfl rfl rfl rfl rfl rfl rfl ?_
  refine RX_nil ?_
  refine WC_live (live1 1 rfl (live1 2 rfl (live1 3 rfl (live1 6 rfl (live1 7 rfl (live1 9 rfl (live1 10 rfl (live1 19 rfl (live1 20 rfl (live1 21 rfl live0)))))))))) ?_
  refine WC_seq ?_
  refine WC_go hE hm ?_
  refine xP rfl rfl rfl rfl ?_
  refine xP rfl rfl rfl rfl ?_
  refine xS rfl ?_
  refine xS rfl ?_
  refine xS rfl ?_
  refine xS rfl ?_
  refine xS rfl ?_
  refine xS rfl ?_
  refine xS rfl ?_
  refine xP rfl rfl rfl rfl ?_
  refine RX_nil ?_
  refine WC_live (live1 1 rfl (live1 2 rfl (live1 3 rfl (live1 6 rfl (live1 7 rfl (live1 10 rfl (live1 19 rfl (live1 20 rfl (live1 21 rfl (live1 38 rfl live0)))))))))) ?_
  refine WC_condF rfl ?_
  refine WC_skip ?_
  refine thenN ?_
  refine WC_live (live1 1 rfl (live1 2 rfl (live1 3 rfl (live1 6 rfl (live1 7 rfl (live1 10 rfl (live1 19 rfl (live1 20 rfl (live1 21 rfl live0))))))))) ?_
  refine WC_go hE hm ?_
  refine xLoadN [_, _, _, _, _, _, _] rfl rfl rfl ?_
  refine xP rfl rfl rfl rfl ?_
  refine xLoadN [_, _, _] rfl rfl rfl ?_
  refine xC rfl rfl rfl rfl (f43 r c l w p q f b (i / c) (i % c) false ok hb hdv.1 hdv.2 rfl) ?_
  rintro _ _ _ ⟨⟨bA, isA, hbA, rfl, hgoA⟩, rfl, rfl⟩
  refine xP rfl rfl rfl rfl ?_
  refine xP rfl rfl rfl rfl ?_
  refine xP rfl rfl rfl rfl ?_
  refine xP rfl rfl rfl rfl ?_
  refine xP rfl rfl rfl rfl ?_
  refine RX_nil ?_
  refine WC_live (live1 1 rfl (live1 2 rfl (live1 3 rfl (live1 6 rfl (live1 7 rfl (live1 10 rfl (live1 11 rfl (live1 12 rfl (live1 19 rfl (live1 20 rfl (live1 21 rfl live0))))))))))) ?_
  refine WC_go hE hm ?_
  refine xP rfl rfl rfl rfl ?_
  refine xP rfl rfl rfl rfl ?_
  cases isA
  ·
    refine xS rfl ?_
    refine xS rfl ?_
    refine xS rfl ?_
    refine xS rfl ?_
    refine xS rfl ?_
    refine xP rfl rfl rfl rfl ?_
    refine RX_nil ?_
    refine WC_live (live1 1 rfl (live1 2 rfl (live1 3 rfl (live1 6 rfl (live1 7 rfl (live1 19 rfl (live1 20 rfl (live1 21 rfl (live1 53 rfl live0))))))))) ?_
    refine WC_condF rfl ?_
    refine WC_skip ?_
    refine blockN ?_
    refine thenN ?_
    refine WC_live (live1 1 rfl (live1 2 rfl (live1 3 rfl (live1 6 rfl (live1 7 rfl (live1 19 rfl (live1 20 rfl (live1 21 rfl live0)))))))) ?_
    refine WC_steps hE hm ?_
    refine xAdd rfl rfl (by omega) ?_
    refine xP rfl rfl rfl rfl ?_
    refine RX_nil ?_
    refine thenN ?_
    refine WCR_live (live1 1 rfl (live1 2 rfl (live1 3 rfl (live1 6 rfl (live1 7 rfl (live1 19 rfl (live1 20 rfl (live1 21 rfl live0)))))))) ?_
    refine WCR_succ ?_
    refine WC_go hE hm ?_
    refine xP rfl rfl rfl rfl ?_
    refine RX_nil ?_
    refine WC_live (live1 1 rfl (live1 2 rfl (live1 3 rfl (live1 6 rfl (live1 7 rfl (live1 19 rfl (live1 20 rfl (live1 21 rfl (live1 22 rfl live0))))))))) ?_
    refine WC_seq ?_
    refine WC_condT rfl ?_
    refine WC_skip ?_
    refine thenN ?_
    refine WC_live (live1 1 rfl (live1 2 rfl (live1 3 rfl (live1 6 rfl (live1 7 rfl (live1 19 rfl (live1 20 rfl (live1 21 rfl live0)))))))) ?_
    refine WC_seq ?_
    refine WC_block ?_
    refine WC_go hE hm ?_
    refine xP rfl rfl rfl rfl ?_
    refine xR rfl rfl rfl rfl ?_
    refine xP rfl rfl rfl rfl ?_
    refine RX_nil ?_
    refine WC_live (live1 1 rfl (live1 2 rfl (live1 3 rfl (live1 6 rfl (live1 7 rfl (live1 9 rfl (live1 19 rfl (live1 20 rfl (live1 21 rfl live0))))))))) ?_
    refine WC_go hE hm ?_
    refine xP rfl rfl rfl rfl ?_
    refine xP rfl rfl rfl rfl ?_
    refine xP rfl rfl rfl rfl ?_
    refine xBuild [_, _, _] rfl rfl rfl ?_
    refine xA rfl rfl rfl rfl rfl rfl ?_
    refine xStN [_, _, _] rfl rfl rfl rfl rfl rfl rfl rfl ?_
    refine RX_nil ?_
    refine WC_live (live1 1 rfl (live1 2 rfl (live1 3 rfl (live1 6 rfl (live1 7 rfl (live1 9 rfl (live1 10 rfl (live1 19 rfl (live1 20 rfl (live1 21 rfl live0)))))))))) ?_
    refine WC_seq ?_
    refine WC_go hE hm ?_
    refine xP rfl rfl rfl rfl ?_
    refine xP rfl rfl rfl rfl ?_
    refine xP rfl rfl rfl rfl ?_
    refine xP rfl rfl rfl rfl ?_
    refine xR rfl rfl rfl rfl ?_
    refine xP rfl rfl rfl rfl ?_
    refine xP rfl rfl rfl rfl ?_
    refine xR rfl rfl rfl rfl ?_
    refine xEq rfl rfl ?_ ?_ <;> intro h
    ·
      refine xP rfl rfl rfl rfl ?_
      refine RX_nil ?_
      refine WC_live (live1 1 rfl (live1 2 rfl (live1 3 rfl (live1 6 rfl (live1 7 rfl (live1 10 rfl (live1 19 rfl (live1 20 rfl (live1 21 rfl (live1 38 rfl live0)))))))))) ?_
      refine WC_condT rfl ?_
      refine WC_le (Le.canon [] (n2 := 8) lr0 (hrS 0 rfl rfl (hrS 1 rfl rfl (hrS 2 rfl rfl (hr1 3 (.cells [gsl 7 (a :: L).length] 24 none) rfl rfl (hrS 4 rfl rfl (hrS 5 rfl rfl (hr1 6 (.map es k) rfl (renMap hes _ _) (hr1 7 (gob 64 3 (cardsV (a :: L)) (a :: L).length) rfl (renO_gob _ (flats_cards _) _) hr0)))))))) rfl rfl rfl rfl rfl (hGn rfl)) ?_
      refine WC_ret ?_
      refine thenR ?_
      refine blockR ?_
      refine thenR ?_
      refine thenR ?_
      refine blockR ?_
      refine endR rfl ?_
      exact ⟨_, rfl, .inl ⟨es, k, hes, rfl, rfl, rfl⟩, shutRF r c l w p q f (a :: L) bc true k hes rfl⟩
    ·
      refine xP rfl rfl rfl rfl ?_
      refine RX_nil ?_
      refine WC_live (live1 1 rfl (live1 2 rfl (live1 3 rfl (live1 6 rfl (live1 7 rfl (live1 10 rfl (live1 19 rfl (live1 20 rfl (live1 21 rfl (live1 38 rfl live0)))))))))) ?_
      refine WC_condF rfl ?_
      refine WC_skip ?_
      refine thenN ?_
      refine WC_live (live1 1 rfl (live1 2 rfl (live1 3 rfl (live1 6 rfl (live1 7 rfl (live1 10 rfl (live1 19 rfl (live1 20 rfl (live1 21 rfl live0))))))))) ?_
      refine WC_go hE hm ?_
      refine xLoadN [_, _, _, _, _, _, _] rfl rfl rfl ?_
      refine xP rfl rfl rfl rfl ?_
      refine xLoadN [_, _, _] rfl rfl rfl ?_
      refine xC rfl rfl rfl rfl (f43 r c l w p q f b (i / c) (i % c) true ok hb hdv.1 hdv.2 rfl) ?_
      rintro _ _ _ ⟨⟨bB, isB, hbB, rfl, hgoB⟩, rfl, rfl⟩
      refine xP rfl rfl rfl rfl ?_
      refine xP rfl rfl rfl rfl ?_
      refine xP rfl rfl rfl rfl ?_
      refine xP rfl rfl rfl rfl ?_
      refine xP rfl rfl rfl rfl ?_
      refine RX_nil ?_
      refine WC_live (live1 1 rfl (live1 2 rfl (live1 3 rfl (live1 6 rfl (live1 7 rfl (live1 10 rfl (live1 11 rfl (live1 12 rfl (live1 19 rfl (live1 20 rfl (live1 21 rfl live0))))))))))) ?_
      refine WC_go hE hm ?_
      refine xP rfl rfl rfl rfl ?_
      refine xP rfl rfl rfl rfl ?_
      cases isB
      ·
        refine xS rfl ?_
        refine xS rfl ?_
        refine xS rfl ?_
        refine xS rfl ?_
        refine xS rfl ?_
        refine xP rfl rfl rfl rfl ?_
        refine RX_nil ?_
        refine WC_live (live1 1 rfl (live1 2 rfl (live1 3 rfl (live1 6 rfl (live1 7 rfl (live1 19 rfl (live1 20 rfl (live1 21 rfl (live1 53 rfl live0))))))))) ?_
        refine WC_condF rfl ?_
        refine WC_skip ?_
        refine blockN ?_
        refine thenN ?_
        refine WC_live (live1 1 rfl (live1 2 rfl (live1 3 rfl (live1 6 rfl (live1 7 rfl (live1 19 rfl (live1 20 rfl (live1 21 rfl live0)))))))) ?_
        refine WC_steps hE hm ?_
        refine xAdd rfl rfl (by omega) ?_
        refine xP rfl rfl rfl rfl ?_
        refine RX_nil ?_
        refine thenN ?_
        refine WCR_live (live1 1 rfl (live1 2 rfl (live1 3 rfl (live1 6 rfl (live1 7 rfl (live1 19 rfl (live1 20 rfl (live1 21 rfl live0)))))))) ?_
        refine WCR_succ ?_
        refine WC_go hE hm ?_
        refine xP rfl rfl rfl rfl ?_
        refine RX_nil ?_
        refine WC_live (live1 1 rfl (live1 2 rfl (live1 3 rfl (live1 6 rfl (live1 7 rfl (live1 19 rfl (live1 20 rfl (live1 21 rfl (live1 22 rfl live0))))))))) ?_
        refine WC_seq ?_
        refine WC_condF rfl ?_
        refine WC_le (Le.canon [] (n2 := 8) lr0 (hrS 0 rfl rfl (hrS 1 rfl rfl (hrS 2 rfl rfl (hr1 3 (.cells [gsl 7 (a :: L).length] 24 none) rfl rfl (hrS 4 rfl rfl (hrS 5 rfl rfl (hr1 6 (.map es k) rfl (renMap hes _ _) (hr1 7 (gob 64 3 (cardsV (a :: L)) (a :: L).length) rfl (renO_gob _ (flats_cards _) _) hr0)))))))) rfl rfl rfl rfl rfl (hGn rfl)) ?_
        refine WC_exit ?_
        refine thenE ?_
        refine thenE ?_
        refine blockE ?_
        refine endN rfl ?_
        exact ⟨_, rfl, .inl ⟨es, k, hes, rfl, rfl, rfl⟩, shutRF r c l w p q f (a :: L) bc true k hes rfl⟩
      ·
        refine xP rfl rfl rfl rfl ?_
        refine xLoadN [_, _, _] rfl rfl rfl ?_
        refine xP rfl rfl rfl rfl ?_
        refine xC rfl rfl rfl rfl ((f38 r c l w p q f bB (hcount bB hbB) (i / c) (i % c) _ (a :: L) hL bc _ _ hes).call [0, 1, 2, 3, 4, 5, 6, 7] rfl (hGs rfl rfl rfl) rfl rfl (by decide) (hh1 rfl rfl (hh1 rfl rfl (hh1 rfl rfl (hh1 rfl rfl (hh1 rfl rfl (hh1 rfl rfl (hh1 rfl (renMap hes _ _) (hh1 rfl (renO_gob _ (flats_cards _) _) hh0)))))))) (by rintro _ _ _ (⟨_, _, _, _, _, rfl⟩ | ⟨_, _, _, _, _, rfl⟩) <;> decide)) ?_
        rintro _ _ _ ⟨_, _, _, hRF, rfl, rfl, rfl⟩
        rcases hRF.symm with ⟨es1, k1, hes1, rfl, rfl, rfl⟩ | ⟨es1, k1, hes1, rfl, rfl, rfl⟩
        ·
          refine xP rfl rfl rfl rfl ?_
          refine xP rfl rfl rfl rfl ?_
          refine RX_nil ?_
          refine WC_liveH (live1 53 rfl live0) (liveHo 0 gl rfl (liveHo 1 (.cells (tcells r c l w p q f) 73 none) rfl (liveHo 2 (.cells [.map (some 6)] 78 none) rfl (liveHo 3 (.cells [gsl 12 ((a :: L).length + 1)] 24 none) rfl (liveHo 4 (.cells [.int .u64 (bB : Int)] 70 none) rfl (liveHo 5 (.cells [.bool false] 4 none) rfl (liveHo 6 (.map es1 k1) (congrArg some (renMap hes1 _ _)) (liveHo 12 (.cells (cardsV (a :: L) ++ cardV (i / c, i % c, true)) 64 (some 3)) (congrArg some (renO_cells _ (flats_cards2 _ _))) liveH0)))))))) ?_
          refine WC_condT rfl ?_
          refine WC_le (Le.canon [(8, 12)] (n2 := 9) lr0 (hrS 0 rfl rfl (hrS 1 rfl rfl (hrS 2 rfl rfl (hr1 3 (.cells [gsl 8 ((a :: L).length + 1)] 24 none) rfl rfl (hr1 4 (.cells [.int .u64 (bB : Int)] 70 none) rfl rfl (hrS 5 rfl rfl (hr1 6 (.map es1 k1) rfl (renMap hes1 _ _) (hrD 7 (hr1 8 (.cells (cardsV (a :: L) ++ cardV (i / c, i % c, true)) 64 (some 3)) rfl (renO_cells _ (flats_cards2 _ _)) hr0))))))))) rfl rfl rfl rfl rfl (hGn rfl)) ?_
          refine WC_ret ?_
          refine blockR ?_
          refine thenR ?_
          refine thenR ?_
          refine blockR ?_
          refine endR rfl ?_
          exact ⟨_, rfl, .inr ⟨(i / c, i % c, true), bB, es1, k1, next1_put ok ⟨i1, i2⟩ true hbB i3 i4 (hgoB rfl), hes1, rfl, rfl, rfl⟩, shutRF2 r c l w p q f (a :: L) (i / c, i % c, true) bB k1 hes1 rfl⟩
        ·
          refine xP rfl rfl rfl rfl ?_
          refine xP rfl rfl rfl rfl ?_
          refine RX_nil ?_
          refine WC_liveH (live1 1 rfl (live1 2 rfl (live1 3 rfl (live1 6 rfl (live1 7 rfl (live1 19 rfl (live1 20 rfl (live1 21 rfl (live1 53 rfl live0))))))))) (liveHo 0 gl rfl (liveHo 1 (.cells (tcells r c l w p q f) 73 none) rfl (liveHo 2 (.cells [.map (some 6)] 78 none) rfl (liveHo 3 (.cells [gsl 7 (a :: L).length] 24 none) rfl (liveHo 4 (.cells [.int .u64 (bc : Int)] 70 none) rfl (liveHo 5 (.cells [.bool true] 4 none) rfl (liveHo 6 (.map es1 k1) (congrArg some (renMap hes1 _ _)) (liveHo 7 (gob 64 3 (cardsV (a :: L)) (a :: L).length) (congrArg some (renO_gob _ (flats_cards _) _)) (liveHo 8 (.cells (tcells r c l w p q f) 73 none) rfl (liveH1 9 rfl liveH0)))))))))) ?_
          refine WC_condF rfl ?_
          refine WC_skip ?_
          refine blockN ?_
          refine thenN ?_
          refine WC_live (live1 1 rfl (live1 2 rfl (live1 3 rfl (live1 6 rfl (live1 7 rfl (live1 19 rfl (live1 20 rfl (live1 21 rfl live0)))))))) ?_
          refine WC_steps hE hm ?_
          refine xAdd rfl rfl (by omega) ?_
          refine xP rfl rfl rfl rfl ?_
          refine RX_nil ?_
          refine thenN ?_
          refine WCR_live (live1 1 rfl (live1 2 rfl (live1 3 rfl (live1 6 rfl (live1 7 rfl (live1 19 rfl (live1 20 rfl (live1 21 rfl live0)))))))) ?_
          refine WCR_succ ?_
          refine WC_go hE hm ?_
          refine xP rfl rfl rfl rfl ?_
          refine RX_nil ?_
          refine WC_live (live1 1 rfl (live1 2 rfl (live1 3 rfl (live1 6 rfl (live1 7 rfl (live1 19 rfl (live1 20 rfl (live1 21 rfl (live1 22 rfl live0))))))))) ?_
          refine WC_seq ?_
          refine WC_condF rfl ?_
          refine WC_le (Le.canon [] (n2 := 8) lr0 (hrS 0 rfl rfl (hrS 1 rfl rfl (hrS 2 rfl rfl (hr1 3 (.cells [gsl 7 (a :: L).length] 24 none) rfl rfl (hrS 4 rfl rfl (hrS 5 rfl rfl (hr1 6 (.map es1 k1) rfl (renMap hes1 _ _) (hr1 7 (gob 64 3 (cardsV (a :: L)) (a :: L).length) rfl (renO_gob _ (flats_cards _) _) hr0)))))))) rfl rfl rfl rfl rfl (hGn rfl)) ?_
          refine WC_exit ?_
          refine thenE ?_
          refine thenE ?_
          refine blockE ?_
          refine endN rfl ?_
          exact ⟨_, rfl, .inl ⟨es1, k1, hes1, rfl, rfl, rfl⟩, shutRF r c l w p q f (a :: L) bc true k1 hes1 rfl⟩
  ·
    refine xP rfl rfl rfl rfl ?_
    refine xLoadN [_, _, _] rfl rfl rfl ?_
    refine xP rfl rfl rfl rfl ?_
    refine xC rfl rfl rfl rfl ((f38 r c l w p q f bA (hcount bA hbA) (i / c) (i % c) _ (a :: L) hL bc _ _ hes).call [0, 1, 2, 3, 4, 5, 6, 7] rfl (hGs rfl rfl rfl) rfl rfl (by decide) (hh1 rfl rfl (hh1 rfl rfl (hh1 rfl rfl (hh1 rfl rfl (hh1 rfl rfl (hh1 rfl rfl (hh1 rfl (renMap hes _ _) (hh1 rfl (renO_gob _ (flats_cards _) _) hh0)))))))) (by rintro _ _ _ (⟨_, _, _, _, _, rfl⟩ | ⟨_, _, _, _, _, rfl⟩) <;> decide)) ?_
    rintro _ _ _ ⟨_, _, _, hRF, rfl, rfl, rfl⟩
    rcases hRF.symm with ⟨es1, k1, hes1, rfl, rfl, rfl⟩ | ⟨es1, k1, hes1, rfl, rfl, rfl⟩
    ·
      refine xP rfl rfl rfl rfl ?_
      refine xP rfl rfl rfl rfl ?_
      refine RX_nil ?_
      refine WC_liveH (live1 53 rfl live0) (liveHo 0 gl rfl (liveHo 1 (.cells (tcells r c l w p q f) 73 none) rfl (liveHo 2 (.cells [.map (some 6)] 78 none) rfl (liveHo 3 (.cells [gsl 11 ((a :: L).length + 1)] 24 none) rfl (liveHo 4 (.cells [.int .u64 (bA : Int)] 70 none) rfl (liveHo 5 (.cells [.bool false] 4 none) rfl (liveHo 6 (.map es1 k1) (congrArg some (renMap hes1 _ _)) (liveHo 11 (.cells (cardsV (a :: L) ++ cardV (i / c, i % c, false)) 64 (some 3)) (congrArg some (renO_cells _ (flats_cards2 _ _))) liveH0)))))))) ?_
      refine WC_condT rfl ?_
      refine WC_le (Le.canon [(8, 11)] (n2 := 9) lr0 (hrS 0 rfl rfl (hrS 1 rfl rfl (hrS 2 rfl rfl (hr1 3 (.cells [gsl 8 ((a :: L).length + 1)] 24 none) rfl rfl (hr1 4 (.cells [.int .u64 (bA : Int)] 70 none) rfl rfl (hrS 5 rfl rfl (hr1 6 (.map es1 k1) rfl (renMap hes1 _ _) (hrD 7 (hr1 8 (.cells (cardsV (a :: L) ++ cardV (i / c, i % c, false)) 64 (some 3)) rfl (renO_cells _ (flats_cards2 _ _)) hr0))))))))) rfl rfl rfl rfl rfl (hGn rfl)) ?_
      refine WC_ret ?_
      refine blockR ?_
      refine thenR ?_
      refine thenR ?_
      refine blockR ?_
      refine endR rfl ?_
      exact ⟨_, rfl, .inr ⟨(i / c, i % c, false), bA, es1, k1, next1_put ok ⟨i1, i2⟩ false hbA i3 i4 (hgoA rfl), hes1, rfl, rfl, rfl⟩, shutRF2 r c l w p q f (a :: L) (i / c, i % c, false) bA k1 hes1 rfl⟩
    ·
      refine xP rfl rfl rfl rfl ?_
      refine xP rfl rfl rfl rfl ?_
      refine RX_nil ?_
      refine WC_liveH (live1 1 rfl (live1 2 rfl (live1 3 rfl (live1 6 rfl (live1 7 rfl (live1 19 rfl (live1 20 rfl (live1 21 rfl (live1 53 rfl live0))))))))) (liveHo 0 gl rfl (liveHo 1 (.cells (tcells r c l w p q f) 73 none) rfl (liveHo 2 (.cells [.map (some 6)] 78 none) rfl (liveHo 3 (.cells [gsl 7 (a :: L).length] 24 none) rfl (liveHo 4 (.cells [.int .u64 (bc : Int)] 70 none) rfl (liveHo 5 (.cells [.bool true] 4 none) rfl (liveHo 6 (.map es1 k1) (congrArg some (renMap hes1 _ _)) (liveHo 7 (gob 64 3 (cardsV (a :: L)) (a :: L).length) (congrArg some (renO_gob _ (flats_cards _) _)) (liveHo 8 (.cells (tcells r c l w p q f) 73 none) rfl (liveH1 9 rfl liveH0)))))))))) ?_
      refine WC_condF rfl ?_
      refine WC_skip ?_
      refine blockN ?_
      refine thenN ?_
      refine WC_live (live1 1 rfl (live1 2 rfl (live1 3 rfl (live1 6 rfl (live1 7 rfl (live1 19 rfl (live1 20 rfl (live1 21 rfl live0)))))))) ?_
      refine WC_steps hE hm ?_
      refine xAdd rfl rfl (by omega) ?_
      refine xP rfl rfl rfl rfl ?_
      refine RX_nil ?_
      refine thenN ?_
      refine WCR_live (live1 1 rfl (live1 2 rfl (live1 3 rfl (live1 6 rfl (live1 7 rfl (live1 19 rfl (live1 20 rfl (live1 21 rfl live0)))))))) ?_
      refine WCR_succ ?_
      refine WC_go hE hm ?_
      refine xP rfl rfl rfl rfl ?_
      refine RX_nil ?_
      refine WC_live (live1 1 rfl (live1 2 rfl (live1 3 rfl (live1 6 rfl (live1 7 rfl (live1 19 rfl (live1 20 rfl (live1 21 rfl (live1 22 rfl live0))))))))) ?_
      refine WC_seq ?_
      refine WC_condT rfl ?_
      refine WC_skip ?_
      refine thenN ?_
      refine WC_live (live1 1 rfl (live1 2 rfl (live1 3 rfl (live1 6 rfl (live1 7 rfl (live1 19 rfl (live1 20 rfl (live1 21 rfl live0)))))))) ?_
      refine WC_seq ?_
      refine WC_block ?_
      refine WC_go hE hm ?_
      refine xP rfl rfl rfl rfl ?_
      refine xR rfl rfl rfl rfl ?_
      refine xP rfl rfl rfl rfl ?_
      refine RX_nil ?_
      refine WC_live (live1 1 rfl (live1 2 rfl (live1 3 rfl (live1 6 rfl (live1 7 rfl (live1 9 rfl (live1 19 rfl (live1 20 rfl (live1 21 rfl live0))))))))) ?_
      refine WC_go hE hm ?_
      refine xP rfl rfl rfl rfl ?_
      refine xP rfl rfl rfl rfl ?_
      refine xP rfl rfl rfl rfl ?_
      refine xBuild [_, _, _] rfl rfl rfl ?_
      refine xA rfl rfl rfl rfl rfl rfl ?_
      refine xStN [_, _, _] rfl rfl rfl rfl rfl rfl rfl rfl ?_
      refine RX_nil ?_
      refine WC_live (live1 1 rfl (live1 2 rfl (live1 3 rfl (live1 6 rfl (live1 7 rfl (live1 9 rfl (live1 10 rfl (live1 19 rfl (live1 20 rfl (live1 21 rfl live0)))))))))) ?_
      refine WC_seq ?_
      refine WC_go hE hm ?_
      refine xP rfl rfl rfl rfl ?_
      refine xP rfl rfl rfl rfl ?_
      refine xP rfl rfl rfl rfl ?_
      refine xP rfl rfl rfl rfl ?_
      refine xR rfl rfl rfl rfl ?_
      refine xP rfl rfl rfl rfl ?_
      refine xP rfl rfl rfl rfl ?_
      refine xR rfl rfl rfl rfl ?_
      refine xEq rfl rfl ?_ ?_ <;> intro h
      ·
        refine xP rfl rfl rfl rfl ?_
        refine RX_nil ?_
        refine WC_live (live1 1 rfl (live1 2 rfl (live1 3 rfl (live1 6 rfl (live1 7 rfl (live1 10 rfl (live1 19 rfl (live1 20 rfl (live1 21 rfl (live1 38 rfl live0)))))))))) ?_
        refine WC_condT rfl ?_
        refine WC_le (Le.canon [] (n2 := 8) lr0 (hrS 0 rfl rfl (hrS 1 rfl rfl (hrS 2 rfl rfl (hr1 3 (.cells [gsl 7 (a :: L).length] 24 none) rfl rfl (hrS 4 rfl rfl (hrS 5 rfl rfl (hr1 6 (.map es1 k1) rfl (renMap hes1 _ _) (hr1 7 (gob 64 3 (cardsV (a :: L)) (a :: L).length) rfl (renO_gob _ (flats_cards _) _) hr0)))))))) rfl rfl rfl rfl rfl (hGn rfl)) ?_
        refine WC_ret ?_
        refine thenR ?_
        refine blockR ?_
        refine thenR ?_
        refine thenR ?_
        refine blockR ?_
        refine endR rfl ?_
        exact ⟨_, rfl, .inl ⟨es1, k1, hes1, rfl, rfl, rfl⟩, shutRF r c l w p q f (a :: L) bc true k1 hes1 rfl⟩
      ·
        refine xP rfl rfl rfl rfl ?_
        refine RX_nil ?_
        refine WC_live (live1 1 rfl (live1 2 rfl (live1 3 rfl (live1 6 rfl (live1 7 rfl (live1 10 rfl (live1 19 rfl (live1 20 rfl (live1 21 rfl (live1 38 rfl live0)))))))))) ?_
        refine WC_condF rfl ?_
        refine WC_skip ?_
        refine thenN ?_
        refine WC_live (live1 1 rfl (live1 2 rfl (live1 3 rfl (live1 6 rfl (live1 7 rfl (live1 10 rfl (live1 19 rfl (live1 20 rfl (live1 21 rfl live0))))))))) ?_
        refine WC_go hE hm ?_
        refine xLoadN [_, _, _, _, _, _, _] rfl rfl rfl ?_
        refine xP rfl rfl rfl rfl ?_
        refine xLoadN [_, _, _] rfl rfl rfl ?_
        refine xC rfl rfl rfl rfl (f43 r c l w p q f b (i / c) (i % c) true ok hb hdv.1 hdv.2 rfl) ?_
        rintro _ _ _ ⟨⟨bB, isB, hbB, rfl, hgoB⟩, rfl, rfl⟩
        refine xP rfl rfl rfl rfl ?_
        refine xP rfl rfl rfl rfl ?_
        refine xP rfl rfl rfl rfl ?_
        refine xP rfl rfl rfl rfl ?_
        refine xP rfl rfl rfl rfl ?_
        refine RX_nil ?_
        refine WC_live (live1 1 rfl (live1 2 rfl (live1 3 rfl (live1 6 rfl (live1 7 rfl (live1 10 rfl (live1 11 rfl (live1 12 rfl (live1 19 rfl (live1 20 rfl (live1 21 rfl live0))))))))))) ?_
        refine WC_go hE hm ?_
        refine xP rfl rfl rfl rfl ?_
        refine xP rfl rfl rfl rfl ?_
        cases isB
        ·
          refine xS rfl ?_
          refine xS rfl ?_
          refine xS rfl ?_
          refine xS rfl ?_
          refine xS rfl ?_
          refine xP rfl rfl rfl rfl ?_
          refine RX_nil ?_
          refine WC_live (live1 1 rfl (live1 2 rfl (live1 3 rfl (live1 6 rfl (live1 7 rfl (live1 19 rfl (live1 20 rfl (live1 21 rfl (live1 53 rfl live0))))))))) ?_
          refine WC_condF rfl ?_
          refine WC_skip ?_
          refine blockN ?_
          refine thenN ?_
          refine WC_live (live1 1 rfl (live1 2 rfl (live1 3 rfl (live1 6 rfl (live1 7 rfl (live1 19 rfl (live1 20 rfl (live1 21 rfl live0)))))))) ?_
          refine WC_steps hE hm ?_
          refine xAdd rfl rfl (by omega) ?_
          refine xP rfl rfl rfl rfl ?_
          refine RX_nil ?_
          refine thenN ?_
          refine WCR_live (live1 1 rfl (live1 2 rfl (live1 3 rfl (live1 6 rfl (live1 7 rfl (live1 19 rfl (live1 20 rfl (live1 21 rfl live0)))))))) ?_
          refine WCR_succ ?_
          refine WC_go hE hm ?_
          refine xP rfl rfl rfl rfl ?_
          refine RX_nil ?_
          refine WC_live (live1 1 rfl (live1 2 rfl (live1 3 rfl (live1 6 rfl (live1 7 rfl (live1 19 rfl (live1 20 rfl (live1 21 rfl (live1 22 rfl live0))))))))) ?_
          refine WC_seq ?_
          refine WC_condF rfl ?_
          refine WC_le (Le.canon [] (n2 := 8) lr0 (hrS 0 rfl rfl (hrS 1 rfl rfl (hrS 2 rfl rfl (hr1 3 (.cells [gsl 7 (a :: L).length] 24 none) rfl rfl (hrS 4 rfl rfl (hrS 5 rfl rfl (hr1 6 (.map es1 k1) rfl (renMap hes1 _ _) (hr1 7 (gob 64 3 (cardsV (a :: L)) (a :: L).length) rfl (renO_gob _ (flats_cards _) _) hr0)))))))) rfl rfl rfl rfl rfl (hGn rfl)) ?_
          refine WC_exit ?_
          refine thenE ?_
          refine thenE ?_
          refine blockE ?_
          refine endN rfl ?_
          exact ⟨_, rfl, .inl ⟨es1, k1, hes1, rfl, rfl, rfl⟩, shutRF r c l w p q f (a :: L) bc true k1 hes1 rfl⟩
        ·
          refine xP rfl rfl rfl rfl ?_
          refine xLoadN [_, _, _] rfl rfl rfl ?_
          refine xP rfl rfl rfl rfl ?_
          refine xC rfl rfl rfl rfl ((f38 r c l w p q f bB (hcount bB hbB) (i / c) (i % c) _ (a :: L) hL bc _ _ hes1).call [0, 1, 2, 3, 4, 5, 6, 7] rfl (hGs rfl rfl rfl) rfl rfl (by decide) (hh1 rfl rfl (hh1 rfl rfl (hh1 rfl rfl (hh1 rfl rfl (hh1 rfl rfl (hh1 rfl rfl (hh1 rfl (renMap hes1 _ _) (hh1 rfl (renO_gob _ (flats_cards _) _) hh0)))))))) (by rintro _ _ _ (⟨_, _, _, _, _, rfl⟩ | ⟨_, _, _, _, _, rfl⟩) <;> decide)) ?_
          rintro _ _ _ ⟨_, _, _, hRF, rfl, rfl, rfl⟩
          rcases hRF.symm with ⟨es2, k2, hes2, rfl, rfl, rfl⟩ | ⟨es2, k2, hes2, rfl, rfl, rfl⟩
          ·
            refine xP rfl rfl rfl rfl ?_
            refine xP rfl rfl rfl rfl ?_
            refine RX_nil ?_
            refine WC_liveH (live1 53 rfl live0) (liveHo 0 gl rfl (liveHo 1 (.cells (tcells r c l w p q f) 73 none) rfl (liveHo 2 (.cells [.map (some 6)] 78 none) rfl (liveHo 3 (.cells [gsl 12 ((a :: L).length + 1)] 24 none) rfl (liveHo 4 (.cells [.int .u64 (bB : Int)] 70 none) rfl (liveHo 5 (.cells [.bool false] 4 none) rfl (liveHo 6 (.map es2 k2) (congrArg some (renMap hes2 _ _)) (liveHo 12 (.cells (cardsV (a :: L) ++ cardV (i / c, i % c, true)) 64 (some 3)) (congrArg some (renO_cells _ (flats_cards2 _ _))) liveH0)))))))) ?_
            refine WC_condT rfl ?_
            refine WC_le (Le.canon [(8, 12)] (n2 := 9) lr0 (hrS 0 rfl rfl (hrS 1 rfl rfl (hrS 2 rfl rfl (hr1 3 (.cells [gsl 8 ((a :: L).length + 1)] 24 none) rfl rfl (hr1 4 (.cells [.int .u64 (bB : Int)] 70 none) rfl rfl (hrS 5 rfl rfl (hr1 6 (.map es2 k2) rfl (renMap hes2 _ _) (hrD 7 (hr1 8 (.cells (cardsV (a :: L) ++ cardV (i / c, i % c, true)) 64 (some 3)) rfl (renO_cells _ (flats_cards2 _ _)) hr0))))))))) rfl rfl rfl rfl rfl (hGn rfl)) ?_
            refine WC_ret ?_
            refine blockR ?_
            refine thenR ?_
            refine thenR ?_
            refine blockR ?_
            refine endR rfl ?_
            exact ⟨_, rfl, .inr ⟨(i / c, i % c, true), bB, es2, k2, next1_put ok ⟨i1, i2⟩ true hbB i3 i4 (hgoB rfl), hes2, rfl, rfl, rfl⟩, shutRF2 r c l w p q f (a :: L) (i / c, i % c, true) bB k2 hes2 rfl⟩
          ·
            refine xP rfl rfl rfl rfl ?_
            refine xP rfl rfl rfl rfl ?_
            refine RX_nil ?_
            refine WC_liveH (live1 1 rfl (live1 2 rfl (live1 3 rfl (live1 6 rfl (live1 7 rfl (live1 19 rfl (live1 20 rfl (live1 21 rfl (live1 53 rfl live0))))))))) (liveHo 0 gl rfl (liveHo 1 (.cells (tcells r c l w p q f) 73 none) rfl (liveHo 2 (.cells [.map (some 6)] 78 none) rfl (liveHo 3 (.cells [gsl 7 (a :: L).length] 24 none) rfl (liveHo 4 (.cells [.int .u64 (bc : Int)] 70 none) rfl (liveHo 5 (.cells [.bool true] 4 none) rfl (liveHo 6 (.map es2 k2) (congrArg some (renMap hes2 _ _)) (liveHo 7 (gob 64 3 (cardsV (a :: L)) (a :: L).length) (congrArg some (renO_gob _ (flats_cards _) _)) (liveHo 8 (.cells (tcells r c l w p q f) 73 none) rfl (liveH1 9 rfl liveH0)))))))))) ?_
            refine WC_condF rfl ?_
            refine WC_skip ?_
            refine blockN ?_
            refine thenN ?_
            refine WC_live (live1 1 rfl (live1 2 rfl (live1 3 rfl (live1 6 rfl (live1 7 rfl (live1 19 rfl (live1 20 rfl (live1 21 rfl live0)))))))) ?_
            refine WC_steps hE hm ?_
            refine xAdd rfl rfl (by omega) ?_
            refine xP rfl rfl rfl rfl ?_
            refine RX_nil ?_
            refine thenN ?_
            refine WCR_live (live1 1 rfl (live1 2 rfl (live1 3 rfl (live1 6 rfl (live1 7 rfl (live1 19 rfl (live1 20 rfl (live1 21 rfl live0)))))))) ?_
            refine WCR_succ ?_
            refine WC_go hE hm ?_
            refine xP rfl rfl rfl rfl ?_
            refine RX_nil ?_
            refine WC_live (live1 1 rfl (live1 2 rfl (live1 3 rfl (live1 6 rfl (live1 7 rfl (live1 19 rfl (live1 20 rfl (live1 21 rfl (live1 22 rfl live0))))))))) ?_
            refine WC_seq ?_
            refine WC_condF rfl ?_
            refine WC_le (Le.canon [] (n2 := 8) lr0 (hrS 0 rfl rfl (hrS 1 rfl rfl (hrS 2 rfl rfl (hr1 3 (.cells [gsl 7 (a :: L).length] 24 none) rfl rfl (hrS 4 rfl rfl (hrS 5 rfl rfl (hr1 6 (.map es2 k2) rfl (renMap hes2 _ _) (hr1 7 (gob 64 3 (cardsV (a :: L)) (a :: L).length) rfl (renO_gob _ (flats_cards _) _) hr0)))))))) rfl rfl rfl rfl rfl (hGn rfl)) ?_
            refine WC_exit ?_
            refine thenE ?_
            refine thenE ?_
            refine blockE ?_
            refine endN rfl ?_
            exact ⟨_, rfl, .inl ⟨es2, k2, hes2, rfl, rfl, rfl⟩, shutRF r c l w p q f (a :: L) bc true k2 hes2 rfl⟩
end Go.Proofs.YtnagcnlldllagaaGreatDoor
