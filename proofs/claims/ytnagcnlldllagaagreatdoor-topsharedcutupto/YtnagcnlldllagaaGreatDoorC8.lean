/- A part of the proof that spadilletop.TopSharedCut answers true and leaves its argument as it was (bulk at most 1048576): C8. -/
import Derived.Test.YtnagcnlldllagaaGreatDoorC7
set_option linter.all false
/- The cuts that are free. -/
set_option maxRecDepth 1000000
set_option maxHeartbeats 4000000
open Go Go.Cs
namespace Go.Proofs.YtnagcnlldllagaaGreatDoor
theorem wrap8 (x : Int) : ∃ m : Nat, m < 2 ^ 8 ∧ IntKind.u8.wrap x = (m : Int) := by
  have h : 0 ≤ IntKind.u8.wrap x ∧ IntKind.u8.wrap x < 256 := by
    unfold IntKind.wrap; simp [IntKind.bits, IntKind.signed]; omega
  exact ⟨(IntKind.u8.wrap x).toNat, by omega, by omega⟩
theorem bits8 (o : BinOp) (a b : Int) : ∃ m : Nat, m < 2 ^ 8 ∧ bits o .u8 a b = (m : Int) := wrap8 _
theorem shl8 (x j : Nat) : (((x <<< j) % 2 ^ IntKind.u8.bits : Nat)) < 2 ^ 8 := Nat.mod_lt _ (by decide)
def c44 : FC := FC.mk 54 (
  .seq (.steps [⟨.box 23, [.tmp 0], some 2, none⟩,
    ⟨.move, [.const (.int .u8 0)], some 4, none⟩,
    ⟨.move, [.const (.int .u8 0)], some 5, none⟩]) (
  .seq (.steps [⟨.fieldAddr 0, [.tmp 2], some 10, none⟩,
    ⟨.load1, [.tmp 10], some 11, none⟩,
    ⟨.bin .shl, [.const (.int .u8 1), .tmp 11], some 12, none⟩,
    ⟨.bin .sub, [.tmp 12, .const (.int .u8 2)], some 13, none⟩,
    ⟨.fieldAddr 1, [.tmp 2], some 14, none⟩,
    ⟨.load1, [.tmp 14], some 15, none⟩,
    ⟨.bin .shl, [.const (.int .u8 1), .tmp 15], some 16, none⟩,
    ⟨.bin .sub, [.tmp 16, .const (.int .u8 2)], some 17, none⟩,
    ⟨.move, [.tmp 13], some 4, none⟩,
    ⟨.move, [.tmp 17], some 5, none⟩]) (
  .seq (.seq (.steps [⟨.move, [.tmp 1], some 18, none⟩,
    ⟨.lenS, [.tmp 18], some 19, none⟩,
    ⟨.move, [.const (.int .i64 0)], some 20, none⟩]) (
  .block 0 (
    .loop (
      .seq (.steps [⟨.bin .lss, [.tmp 20, .tmp 19], some 21, none⟩]) (
      .seq (.cond (.tmp 21) (
        .skip) (
        .exit 0)) (
      .seq (.block 1 (
        .seq (.steps [⟨.indexAddrS 3, [.tmp 18, .tmp 20], some 22, none⟩,
          ⟨.loadN 3, [.tmp 22], some 23, none⟩,
          ⟨.alloc 64 [.int .i64 0, .int .i64 0, .bool false], [], some 7, none⟩,
          ⟨.store 3, [.tmp 7, .tmp 23], none, none⟩]) (
        .seq (.steps [⟨.loadN 4, [.tmp 2], some 25, none⟩,
          ⟨.fieldAddr 2, [.tmp 7], some 26, none⟩,
          ⟨.load1, [.tmp 26], some 27, none⟩,
          ⟨.callF 42, [.tmp 25, .tmp 27], some 28, none⟩,
          ⟨.move, [.tmp 28], some 24, none⟩,
          ⟨.extract 0, [.tmp 24], some 29, none⟩,
          ⟨.extract 1, [.tmp 24], some 30, none⟩,
          ⟨.move, [.tmp 29], some 8, none⟩,
          ⟨.move, [.tmp 30], some 9, none⟩]) (
        .seq (.steps [⟨.move, [.tmp 4], some 31, none⟩,
          ⟨.move, [.tmp 8], some 32, none⟩,
          ⟨.bin .sub, [.tmp 32, .const (.int .i64 1)], some 33, none⟩,
          ⟨.bin .shl, [.const (.int .u8 1), .tmp 33], some 34, none⟩,
          ⟨.bin .sub, [.tmp 34, .const (.int .u8 1)], some 35, none⟩,
          ⟨.fieldAddr 0, [.tmp 7], some 36, none⟩,
          ⟨.load1, [.tmp 36], some 37, none⟩,
          ⟨.bin .add, [.tmp 37, .const (.int .i64 1)], some 38, none⟩,
          ⟨.bin .shl, [.tmp 35, .tmp 38], some 39, none⟩,
          ⟨.bin .andNot, [.tmp 31, .tmp 39], some 40, none⟩,
          ⟨.move, [.tmp 40], some 4, none⟩]) (
        .steps [⟨.move, [.tmp 5], some 41, none⟩,
          ⟨.move, [.tmp 9], some 42, none⟩,
          ⟨.bin .sub, [.tmp 42, .const (.int .i64 1)], some 43, none⟩,
          ⟨.bin .shl, [.const (.int .u8 1), .tmp 43], some 44, none⟩,
          ⟨.bin .sub, [.tmp 44, .const (.int .u8 1)], some 45, none⟩,
          ⟨.fieldAddr 1, [.tmp 7], some 46, none⟩,
          ⟨.load1, [.tmp 46], some 47, none⟩,
          ⟨.bin .add, [.tmp 47, .const (.int .i64 1)], some 48, none⟩,
          ⟨.bin .shl, [.tmp 45, .tmp 48], some 49, none⟩,
          ⟨.bin .andNot, [.tmp 41, .tmp 49], some 50, none⟩,
          ⟨.move, [.tmp 50], some 5, none⟩]))))) (
      .steps [⟨.bin .add, [.tmp 20, .const (.int .i64 1)], some 51, none⟩,
        ⟨.move, [.tmp 51], some 20, none⟩]))))))) (
  .seq (.steps [⟨.move, [.tmp 4], some 52, none⟩,
    ⟨.move, [.tmp 5], some 53, none⟩,
    ⟨.move, [.tmp 52], some 4, none⟩,
    ⟨.move, [.tmp 53], some 5, none⟩]) (
  .ret))))) [.tmp 4, .tmp 5]
theorem c44_ok : compF Tryz.prog 44 = some c44 := by kernel_rfl
/-- (spadille/cut.Sheet).free -/
theorem f44 (r c l w : Int) (L : List Cd) (hL : L.length ≤ 1048576) (hs : okSheet r c l w) (hcs : ∀ cd ∈ L, okCard cd) : CT Tryz.prog [0] 44 [sheetV r c l w, gsl 1 L.length] (rowC L) 2 (fun v L' n' => ∃ x y : Nat, x < 2 ^ 8 ∧ y < 2 ^ 8 ∧ v = .tuple #[.int .u8 (x : Int), .int .u8 (y : Int)] ∧ L' = rowC L ∧ n' = 2) := by
  refine ⟨shutG L r c l w, ?_⟩
  obtain ⟨⟨s1, s2⟩, ⟨s3, s4⟩, ⟨s5, s6⟩, s7, s8⟩ := hs
  refine F_of_comp c44_ok rfl ?_
  refine WC_go hE hm ?_
  refine xA rfl rfl rfl rfl rfl rfl ?_
  refine xP rfl rfl rfl rfl ?_
  refine xP rfl rfl rfl rfl ?_
  refine RX_nil ?_
  refine WC_live (live1 1 rfl (live1 2 rfl live0)) ?_
  refine WC_go hE hm ?_
  refine xP rfl rfl rfl rfl ?_
  refine xR rfl rfl rfl rfl ?_
  refine xShl (x := 1) rfl rfl rfl (by omega) ?_
  obtain ⟨a0, a0b, a0e⟩ := wrap8 ((((1 <<< min r.toNat IntKind.u8.bits) % 2 ^ IntKind.u8.bits : Nat) : Int) - 2)
  refine xP (v := .int .u8 (a0 : Int)) rfl rfl rfl (congrArg (fun z => some (Value.int .u8 z)) a0e) ?_
  refine xP rfl rfl rfl rfl ?_
  refine xR rfl rfl rfl rfl ?_
  refine xShl (x := 1) rfl rfl rfl (by omega) ?_
  obtain ⟨b0, b0b, b0e⟩ := wrap8 ((((1 <<< min c.toNat IntKind.u8.bits) % 2 ^ IntKind.u8.bits : Nat) : Int) - 2)
  refine xP (v := .int .u8 (b0 : Int)) rfl rfl rfl (congrArg (fun z => some (Value.int .u8 z)) b0e) ?_
  refine xP rfl rfl rfl rfl ?_
  refine xP rfl rfl rfl rfl ?_
  refine RX_nil ?_
  refine WC_live (live1 1 rfl (live1 2 rfl (live1 4 rfl (live1 5 rfl live0)))) ?_
  refine WC_seq ?_
  refine WC_go hE hm ?_
  refine xP rfl rfl rfl rfl ?_
  refine xLenG (k := L.length) rfl rfl ?_
  refine xP rfl rfl rfl rfl ?_
  refine RX_nil ?_
  refine WC_live (live1 2 rfl (live1 4 rfl (live1 5 rfl (live1 18 rfl (live1 19 rfl (live1 20 rfl live0)))))) ?_
  refine WC_block ?_
  -- LOOP live [2, 4, 5, 18, 19, 20]
  refine WC_liveH (live1 2 rfl (live1 4 rfl (live1 5 rfl (live1 18 rfl (live1 19 rfl (live1 20 rfl live0)))))) (liveHo 0 gl rfl (liveHo 1 (gob 64 3 (cardsV L) L.length) rfl (liveHo 2 (.cells [.int .i64 r, .int .i64 c, .int .i64 l, .int .i64 w] 23 none) rfl liveH0))) ?_
  refine WC_loopX (X := Int × Nat × Nat) (fun x => { T := ofL [(2, .pointer (some ⟨2, 0, none⟩)), (4, .int .u8 (x.2.1 : Int)), (5, .int .u8 (x.2.2 : Int)), (18, gsl 1 L.length), (19, .int .i64 (L.length : Int)), (20, .int .i64 x.1)], D := [], H := ofL [(0, gl), (1, gob 64 3 (cardsV L) L.length), (2, (.cells [.int .i64 r, .int .i64 c, .int .i64 l, .int .i64 w] 23 none))], n := 3 }) (fun x => 0 ≤ x.1 ∧ x.1 ≤ L.length ∧ x.2.1 < 2 ^ 8 ∧ x.2.2 < 2 ^ 8) (fun x => (L.length - x.1).toNat) (0, a0, b0) ⟨by dsimp only; omega, by dsimp only; omega, a0b, b0b⟩ ?_
  rintro ⟨i, a, b⟩ ⟨i1, i2, i3, i4⟩
  dsimp only at *
  refine WC_go hE hm ?_
  refine xCmp rfl rfl rfl rfl ?_ ?_ <;> intro h
  ·
    refine RX_nil ?_
    refine WC_live (live1 2 rfl (live1 4 rfl (live1 5 rfl (live1 18 rfl (live1 19 rfl (live1 20 rfl (live1 21 rfl live0))))))) ?_
    refine WC_seq ?_
    refine WC_condT rfl ?_
    refine WC_skip ?_
    refine thenN ?_
    refine WC_live (live1 2 rfl (live1 4 rfl (live1 5 rfl (live1 18 rfl (live1 19 rfl (live1 20 rfl live0)))))) ?_
    refine WC_seq ?_
    refine WC_block ?_
    refine WC_go hE hm ?_
    have hk : L.length ≠ 0 := by omega
    obtain ⟨⟨row, col, t⟩, hcd⟩ : ∃ cd, L[i.toNat]? = some cd := ⟨_, List.getElem?_eq_getElem (by omega)⟩
    have hoc := hcs _ (List.mem_of_getElem? hcd)
    obtain ⟨⟨o1, o2⟩, o3, o4⟩ := hoc
    dsimp only at o1 o2 o3 o4
    obtain ⟨hi, ehi⟩ : ∃ hi : Int, hi = (if t then w else l) := ⟨_, rfl⟩
    obtain ⟨wi, ewi⟩ : ∃ wi : Int, wi = (if t then l else w) := ⟨_, rfl⟩
    have hh1 : 1 ≤ hi ∧ hi ≤ 6 := by rw [ehi]; cases t <;> simp <;> omega
    have hh2 : 1 ≤ wi ∧ wi ≤ 6 := by rw [ewi]; cases t <;> simp <;> omega
    refine xIdxG (k := L.length) rfl rfl (by omega) ?_
    refine xLoadN [.int .i64 row, .int .i64 col, .bool t] rfl rfl (ldCard hk rfl hcd) ?_
    refine xA rfl rfl rfl rfl rfl rfl ?_
    refine xStN [_, _, _] rfl rfl rfl rfl rfl rfl rfl rfl ?_
    refine RX_nil ?_
    refine WC_live (live1 2 rfl (live1 4 rfl (live1 5 rfl (live1 7 rfl (live1 18 rfl (live1 19 rfl (live1 20 rfl live0))))))) ?_
    refine WC_go hE hm ?_
    refine xLoadN [_, _, _, _] rfl rfl rfl ?_
    refine xP rfl rfl rfl rfl ?_
    refine xR rfl rfl rfl rfl ?_
    refine xC rfl rfl rfl rfl (f42 r c l w t rfl) ?_
    rintro _ _ _ ⟨rfl, rfl, rfl⟩
    rw [← ehi, ← ewi]
    refine xP rfl rfl rfl rfl ?_
    refine xP rfl rfl rfl rfl ?_
    refine xP rfl rfl rfl rfl ?_
    refine xP rfl rfl rfl rfl ?_
    refine xP rfl rfl rfl rfl ?_
    refine RX_nil ?_
    refine WC_live (live1 2 rfl (live1 4 rfl (live1 5 rfl (live1 7 rfl (live1 8 rfl (live1 9 rfl (live1 18 rfl (live1 19 rfl (live1 20 rfl live0))))))))) ?_
    refine WC_go hE hm ?_
    refine xP rfl rfl rfl rfl ?_
    refine xP rfl rfl rfl rfl ?_
    refine xSub rfl rfl (by omega) ?_
    refine xShl (x := 1) rfl rfl rfl (by omega) ?_
    obtain ⟨p1, p1b, p1e⟩ := wrap8 ((((1 <<< min (hi - 1).toNat IntKind.u8.bits) % 2 ^ IntKind.u8.bits : Nat) : Int) - 1)
    refine xP (v := .int .u8 (p1 : Int)) rfl rfl rfl (congrArg (fun z => some (Value.int .u8 z)) p1e) ?_
    refine xP rfl rfl rfl rfl ?_
    refine xR rfl rfl rfl rfl ?_
    refine xAdd rfl rfl (by omega) ?_
    refine xShl (x := p1) rfl rfl rfl (by omega) ?_
    obtain ⟨a2, a2b, a2e⟩ := bits8 .andNot (a : Int) (((p1 <<< min (row + 1).toNat IntKind.u8.bits) % 2 ^ IntKind.u8.bits : Nat) : Int)
    refine xP (v := .int .u8 (a2 : Int)) rfl rfl rfl (congrArg (fun z => some (Value.int .u8 z)) a2e) ?_
    refine xP rfl rfl rfl rfl ?_
    refine RX_nil ?_
    refine WC_live (live1 2 rfl (live1 4 rfl (live1 5 rfl (live1 7 rfl (live1 9 rfl (live1 18 rfl (live1 19 rfl (live1 20 rfl live0)))))))) ?_
    refine WC_steps hE hm ?_
    refine xP rfl rfl rfl rfl ?_
    refine xP rfl rfl rfl rfl ?_
    refine xSub rfl rfl (by omega) ?_
    refine xShl (x := 1) rfl rfl rfl (by omega) ?_
    obtain ⟨p2, p2b, p2e⟩ := wrap8 ((((1 <<< min (wi - 1).toNat IntKind.u8.bits) % 2 ^ IntKind.u8.bits : Nat) : Int) - 1)
    refine xP (v := .int .u8 (p2 : Int)) rfl rfl rfl (congrArg (fun z => some (Value.int .u8 z)) p2e) ?_
    refine xP rfl rfl rfl rfl ?_
    refine xR rfl rfl rfl rfl ?_
    refine xAdd rfl rfl (by omega) ?_
    refine xShl (x := p2) rfl rfl rfl (by omega) ?_
    obtain ⟨b2, b2b, b2e⟩ := bits8 .andNot (b : Int) (((p2 <<< min (col + 1).toNat IntKind.u8.bits) % 2 ^ IntKind.u8.bits : Nat) : Int)
    refine xP (v := .int .u8 (b2 : Int)) rfl rfl rfl (congrArg (fun z => some (Value.int .u8 z)) b2e) ?_
    refine xP rfl rfl rfl rfl ?_
    refine RX_nil ?_
    refine blockN ?_
    refine thenN ?_
    refine WC_live (live1 2 rfl (live1 4 rfl (live1 5 rfl (live1 18 rfl (live1 19 rfl (live1 20 rfl live0)))))) ?_
    refine WC_steps hE hm ?_
    refine xAdd rfl rfl (by omega) ?_
    refine xP rfl rfl rfl rfl ?_
    refine RX_nil ?_
    refine thenN ⟨(i + 1, a2, b2), ⟨by dsimp only; omega, by dsimp only; omega, a2b, b2b⟩, by dsimp only; omega, Le.canon [(2, 2)] (n2 := 3) (lr1 2 (.pointer (some ⟨2, 0, none⟩)) rfl rfl (lrS 4 rfl rfl (lrS 5 rfl rfl (lr1 18 (gsl 1 L.length) rfl (renV_gsl _ 1 _) (lrS 19 rfl rfl (lrS 20 rfl rfl lr0)))))) (hrS 0 rfl rfl (hr1 1 (gob 64 3 (cardsV L) L.length) rfl (renO_gob _ (flats_cards L) _) (hrS 2 rfl rfl hr0))) rfl rfl rfl rfl rfl (hGn rfl)⟩
  ·
    refine RX_nil ?_
    refine WC_live (live1 2 rfl (live1 4 rfl (live1 5 rfl (live1 18 rfl (live1 19 rfl (live1 20 rfl (live1 21 rfl live0))))))) ?_
    refine WC_seq ?_
    refine WC_condF rfl ?_
    refine WC_le (Le.canon [] (n2 := 2) (lrS 4 rfl rfl (lrS 5 rfl rfl lr0)) (hrS 0 rfl rfl (hr1 1 (gob 64 3 (cardsV L) L.length) rfl (renO_gob _ (flats_cards L) _) hr0)) rfl rfl rfl rfl rfl (hGn rfl)) ?_
    refine WC_exit ?_
    refine thenE ?_
    refine thenE ?_
    refine blockE ?_
    refine thenN ?_
    refine WC_live (live1 4 rfl (live1 5 rfl live0)) ?_
    refine WC_go hE hm ?_
    refine xP rfl rfl rfl rfl ?_
    refine xP rfl rfl rfl rfl ?_
    refine xP rfl rfl rfl rfl ?_
    refine xP rfl rfl rfl rfl ?_
    refine RX_nil ?_
    refine WC_live (live1 4 rfl (live1 5 rfl live0)) ?_
    refine WC_ret ?_
    refine endR rfl ?_
    exact ⟨_, rfl, ⟨_, _, i3, i4, rfl, rfl, rfl⟩, shutV L rfl⟩
end Go.Proofs.YtnagcnlldllagaaGreatDoor

/- The cuts that are left. -/
set_option maxRecDepth 1000000
set_option maxHeartbeats 4000000
open Go Go.Cs
namespace Go.Proofs.YtnagcnlldllagaaGreatDoor
/-- A caller's heap: the row of cards and one box of its own. -/
def rowB (L : List Cd) (o : AObj) : List (Nat × AObj) := [(0, gl), (1, gob 64 3 (cardsV L) L.length), (2, o)]
theorem callC {f : FuncId} {r c l w : Int} {L : List Cd} {R : Value → List (Nat × AObj) → Nat → Prop} (h : CT Tryz.prog [0] f [sheetV r c l w, gsl 1 L.length] (rowC L) 2 R)
    (Q : Value → Prop) (hR : ∀ v L' n', R v L' n' → Q v ∧ L' = rowC L ∧ n' = 2) (hQ : ∀ v, Q v → ∀ σ, renV σ v = v) (o : AObj) :
    F Tryz.prog [0] f [sheetV r c l w, gsl 1 L.length] (ofL (rowB L o)) 3 (fun v H' n' => Q v ∧ LiveH H' (rowB L o) ∧ n' = 3) := by
  cases L with
  | nil =>
    refine (h.call [0, 999999999] rfl (hGs rfl rfl rfl) rfl rfl (by decide) (hh1 rfl rfl (hhD hh0)) (fun v L' n' hr => by obtain ⟨_, _, rfl⟩ := hR _ _ _ hr; decide)).mono ?_
    rintro _ _ _ ⟨v, L', n', hr, rfl, rfl, rfl⟩
    obtain ⟨q, rfl, rfl⟩ := hR _ _ _ hr
    exact ⟨by rw [hQ _ q]; exact q, liveHo 0 gl rfl (liveHD 1 (liveHo 2 o rfl liveH0)), rfl⟩
  | cons a L =>
    refine (h.call [0, 1] rfl (hGs rfl rfl rfl) rfl rfl (by decide) (hh1 rfl rfl (hh1 rfl (renO_gob _ (flats_cards _) _) hh0)) (fun v L' n' hr => by obtain ⟨_, _, rfl⟩ := hR _ _ _ hr; decide)).mono ?_
    rintro _ _ _ ⟨v, L', n', hr, rfl, rfl, rfl⟩
    obtain ⟨q, rfl, rfl⟩ := hR _ _ _ hr
    exact ⟨by rw [hQ _ q]; exact q, liveHo 0 gl rfl (liveHo 1 (gob 64 3 (cardsV (a :: L)) (a :: L).length) (congrArg some (renO_gob _ (flats_cards _) _)) (liveHo 2 o rfl liveH0)), rfl⟩
/-- Two rows of ints behind the row of cards. -/
def rowCC (L : List Cd) (l1 : List Int) (k1 : Nat) (l2 : List Int) (k2 : Nat) : List (Nat × AObj) := [(0, gl), (1, gob 64 3 (cardsV L) L.length), (2, gob 3 1 (ints l1) k1), (3, gob 3 1 (ints l2) k2)]
theorem shutCC (L : List Cd) (l1 : List Int) (k1 : Nat) (l2 : List Int) (k2 : Nat) (e : Int) : ShutR (.tuple #[gsl 2 k1, gsl 3 k2, .int .i64 e]) (rowCC L l1 k1 l2 k2) 2 4 :=
  shutR_of rfl rfl (by cases k1 <;> cases k2 <;> rfl) (nm1 rfl rfl (nm1 (idsO_gob (flats_cards L) _) rfl (nm1 (idsO_gob (flats_ints' l1) _) rfl (nm1 (idsO_gob (flats_ints' l2) _) rfl nm0))))
def c14 : FC := FC.mk 26 (
  .seq (.steps [⟨.box 23, [.tmp 0], some 2, none⟩,
    ⟨.move, [.const (.slice none 0 0)], some 4, none⟩,
    ⟨.move, [.const (.slice none 0 0)], some 5, none⟩,
    ⟨.move, [.const (.int .i64 0)], some 6, none⟩]) (
  .seq (.seq (.steps [⟨.loadN 4, [.tmp 2], some 10, none⟩,
    ⟨.move, [.tmp 1], some 11, none⟩,
    ⟨.callF 12, [.tmp 10, .tmp 11], some 12, none⟩,
    ⟨.move, [.tmp 12], some 7, none⟩]) (
  .seq (.steps [⟨.move, [.tmp 7], some 13, none⟩,
    ⟨.bin .neq, [.tmp 13, .const (.int .i64 0)], some 14, none⟩]) (
  .cond (.tmp 14) (
    .seq (.steps [⟨.move, [.tmp 7], some 15, none⟩,
      ⟨.move, [.const (.slice none 0 0)], some 4, none⟩,
      ⟨.move, [.const (.slice none 0 0)], some 5, none⟩,
      ⟨.move, [.tmp 15], some 6, none⟩]) (
    .ret)) (
    .skip)))) (
  .seq (.steps [⟨.loadN 4, [.tmp 2], some 17, none⟩,
    ⟨.move, [.tmp 1], some 18, none⟩,
    ⟨.callF 44, [.tmp 17, .tmp 18], some 19, none⟩,
    ⟨.move, [.tmp 19], some 16, none⟩,
    ⟨.extract 0, [.tmp 16], some 20, none⟩,
    ⟨.extract 1, [.tmp 16], some 21, none⟩,
    ⟨.move, [.tmp 20], some 8, none⟩,
    ⟨.move, [.tmp 21], some 9, none⟩]) (
  .seq (.steps [⟨.move, [.tmp 8], some 22, none⟩,
    ⟨.callF 45, [.tmp 22], some 23, none⟩,
    ⟨.move, [.tmp 9], some 24, none⟩,
    ⟨.callF 45, [.tmp 24], some 25, none⟩,
    ⟨.move, [.tmp 23], some 4, none⟩,
    ⟨.move, [.tmp 25], some 5, none⟩,
    ⟨.move, [.const (.int .i64 0)], some 6, none⟩]) (
  .ret))))) [.tmp 4, .tmp 5, .tmp 6]
theorem c14_ok : compF Tryz.prog 14 = some c14 := by kernel_rfl
/-- spadille/cut.Cuts -/
theorem f14 (r c l w : Int) (L : List Cd) (hL : L.length ≤ 1048576) : CT Tryz.prog [0] 14 [sheetV r c l w, gsl 1 L.length] (rowC L) 2 (fun v L' n' => ∃ (m1 : List Int) (k1 : Nat) (m2 : List Int) (k2 : Nat) (e : Int), m1.length = k1 ∧ k1 ≤ 8 ∧ m2.length = k2 ∧ k2 ≤ 8 ∧ v = .tuple #[gsl 2 k1, gsl 3 k2, .int .i64 e] ∧ L' = rowCC L m1 k1 m2 k2 ∧ n' = 4) := by
  refine ⟨shutG L r c l w, ?_⟩
  refine F_of_comp c14_ok rfl ?_
  refine WC_go hE hm ?_
  refine xA rfl rfl rfl rfl rfl rfl ?_
  refine xP rfl rfl rfl rfl ?_
  refine xP rfl rfl rfl rfl ?_
  refine xP rfl rfl rfl rfl ?_
  refine RX_nil ?_
  refine WC_liveH (live1 1 rfl (live1 2 rfl live0)) (LH := rowB L (.cells [.int .i64 r, .int .i64 c, .int .i64 l, .int .i64 w] 23 none)) (liveHo 0 gl rfl (liveHo 1 (gob 64 3 (cardsV L) L.length) rfl (liveHo 2 (.cells [.int .i64 r, .int .i64 c, .int .i64 l, .int .i64 w] 23 none) rfl liveH0))) ?_
  refine WC_seq ?_
  refine WC_go hE hm ?_
  refine xLoadN [_, _, _, _] rfl rfl rfl ?_
  refine xP rfl rfl rfl rfl ?_
  refine xC rfl rfl rfl rfl (callC (f12 r c l w L hL) (fun v => ∃ e : Int, v = .int .i64 e ∧ (e = 0 → okSheet r c l w ∧ ∀ cd ∈ L, okCard cd)) (by rintro _ _ _ ⟨e, h1, h2, h3, h4⟩; exact ⟨⟨e, h1, h2⟩, h3, h4⟩) (by rintro _ ⟨e, rfl, _⟩ σ; rfl) (.cells [.int .i64 r, .int .i64 c, .int .i64 l, .int .i64 w] 23 none)) ?_
  rintro _ H1 _ ⟨⟨e, rfl, hok⟩, hl, rfl⟩
  refine xP rfl rfl rfl rfl ?_
  refine RX_nil ?_
  refine WC_liveH (live1 1 rfl (live1 2 rfl (live1 7 rfl live0))) hl ?_
  refine WC_go hE hm ?_
  refine xP rfl rfl rfl rfl ?_
  refine xNe rfl rfl ?_ ?_ <;> intro h
  ·
    refine RX_nil ?_
    refine WC_live (live1 1 rfl (live1 2 rfl (live1 7 rfl (live1 14 rfl live0)))) ?_
    refine WC_condT rfl ?_
    refine WC_go hE hm ?_
    refine xP rfl rfl rfl rfl ?_
    refine xP rfl rfl rfl rfl ?_
    refine xP rfl rfl rfl rfl ?_
    refine xP rfl rfl rfl rfl ?_
    refine RX_nil ?_
    refine WC_live (live1 4 rfl (live1 5 rfl (live1 6 rfl live0))) ?_
    refine WC_le (Le.canon [(2, 2), (3, 3)] (n2 := 4) (lr1 4 (gsl 2 0) rfl rfl (lr1 5 (gsl 3 0) rfl rfl (lrS 6 rfl rfl lr0))) (hrS 0 rfl rfl (hr1 1 (gob 64 3 (cardsV L) L.length) rfl (renO_gob _ (flats_cards L) _) (hrD 2 (hrD 3 hr0)))) rfl rfl rfl rfl rfl (hGn rfl)) ?_
    refine WC_ret ?_
    refine thenR ?_
    refine endR rfl ?_
    exact ⟨_, rfl, ⟨[], 0, [], 0, e, rfl, by decide, rfl, by decide, rfl, rfl, rfl⟩, shutCC L [] 0 [] 0 e⟩
  ·
    refine RX_nil ?_
    refine WC_live (live1 1 rfl (live1 2 rfl (live1 7 rfl (live1 14 rfl live0)))) ?_
    refine WC_condF rfl ?_
    refine WC_skip ?_
    refine thenN ?_
    refine WC_live (live1 1 rfl (live1 2 rfl live0)) ?_
    refine WC_go hE hm ?_
    refine xLoadN [_, _, _, _] rfl rfl rfl ?_
    refine xP rfl rfl rfl rfl ?_
    obtain ⟨hs, hcs⟩ := hok h
    refine xC rfl rfl rfl rfl (callC (f44 r c l w L hL hs hcs) (fun v => ∃ x y : Nat, x < 2 ^ 8 ∧ y < 2 ^ 8 ∧ v = .tuple #[.int .u8 (x : Int), .int .u8 (y : Int)]) (by rintro _ _ _ ⟨x, y, h1, h2, h3, h4, h5⟩; exact ⟨⟨x, y, h1, h2, h3⟩, h4, h5⟩) (by rintro _ ⟨x, y, _, _, rfl⟩ σ; rfl) (.cells [.int .i64 r, .int .i64 c, .int .i64 l, .int .i64 w] 23 none)) ?_
    rintro _ H2 _ ⟨⟨x, y, xb, yb, rfl⟩, hl2, rfl⟩
    refine xP rfl rfl rfl rfl ?_
    refine xP rfl rfl rfl rfl ?_
    refine xP rfl rfl rfl rfl ?_
    refine xP rfl rfl rfl rfl ?_
    refine xP rfl rfl rfl rfl ?_
    refine RX_nil ?_
    refine WC_liveH (live1 8 rfl (live1 9 rfl live0)) hl2 ?_
    refine WC_go hE hm ?_
    refine xP rfl rfl rfl rfl ?_
    refine xC rfl rfl rfl rfl ((f45 x xb).call [0] rfl (hGs rfl rfl rfl) rfl rfl (by decide) (hh1 rfl rfl hh0) (by rintro _ _ _ ⟨_, _, _, _, _, _, rfl⟩; decide)) ?_
    rintro _ _ _ ⟨_, _, _, ⟨k1, m1, k1l, k1b, rfl, rfl, rfl⟩, rfl, rfl, rfl⟩
    rw [renV_gsl]
    refine xP rfl rfl rfl rfl ?_
    refine xC rfl rfl rfl rfl ((f45 y yb).call [0] rfl (hGs rfl rfl rfl) rfl rfl (by decide) (hh1 rfl rfl hh0) (by rintro _ _ _ ⟨_, _, _, _, _, _, rfl⟩; decide)) ?_
    rintro _ _ _ ⟨_, _, _, ⟨k2, m2, k2l, k2b, rfl, rfl, rfl⟩, rfl, rfl, rfl⟩
    rw [renV_gsl]
    refine xP rfl rfl rfl rfl ?_
    refine xP rfl rfl rfl rfl ?_
    refine xP rfl rfl rfl rfl ?_
    refine RX_nil ?_
    refine WC_live (live1 4 rfl (live1 5 rfl (live1 6 rfl live0))) ?_
    refine WC_le (Le.canon [(2, 3), (3, 4)] (n2 := 4) (lr1 4 (gsl 2 k1) rfl (renV_gsl _ 2 _) (lr1 5 (gsl 3 k2) rfl (renV_gsl _ 3 _) (lrS 6 rfl rfl lr0))) (hrS 0 rfl rfl (hr1 1 (gob 64 3 (cardsV L) L.length) rfl (renO_gob _ (flats_cards L) _) (hr1 2 (gob 3 1 (ints m1) k1) (congrArg some (renO_gob _ (flats_ints' m1) _)) (renO_gob _ (flats_ints' m1) _) (hr1 3 (gob 3 1 (ints m2) k2) (congrArg some (renO_gob _ (flats_ints' m2) _)) (renO_gob _ (flats_ints' m2) _) hr0)))) rfl rfl rfl rfl rfl (hGn rfl)) ?_
    refine WC_ret ?_
    refine endR rfl ?_
    exact ⟨_, rfl, ⟨m1, k1, m2, k2, 0, k1l, k1b, k2l, k2b, rfl, rfl, rfl⟩, shutCC L _ _ _ _ _⟩
end Go.Proofs.YtnagcnlldllagaaGreatDoor

/- Straight and Rounds (they lean on what is shown of rounds). -/
set_option maxRecDepth 1000000
set_option maxHeartbeats 4000000
open Go Go.Cs
namespace Go.Proofs.YtnagcnlldllagaaGreatDoor
/-- What rounds must do. -/
def C47 (r c l w : Int) (L : List Cd) : Prop := CT Tryz.prog [0] 47 [sheetV r c l w, gsl 1 L.length] (rowC L) 2 (fun v L' n' => ∃ k : Int, 0 ≤ k ∧ k ≤ 36 ∧ v = .int .i64 k ∧ L' = rowC L ∧ n' = 2)
def c64 : FC := FC.mk 9 (
  .seq (.steps [⟨.box 64, [.tmp 0], some 2, none⟩,
    ⟨.move, [.const (.bool false)], some 4, none⟩]) (
  .seq (.steps [⟨.fieldAddr 0, [.tmp 2], some 5, none⟩,
    ⟨.load1, [.tmp 5], some 6, none⟩,
    ⟨.move, [.tmp 1], some 7, none⟩,
    ⟨.bin .lss, [.tmp 6, .tmp 7], some 8, none⟩,
    ⟨.move, [.tmp 8], some 4, none⟩]) (
  .ret))) [.tmp 4]
theorem c64_ok : compF Tryz.prog 64 = some c64 := by kernel_rfl
/-- (spadille/cut.Sheet).rounds$2 -/
theorem f64 (cd : Cd) (at' : Int) {H : Heap} {n : Nat} (hg : aget H 0 = some gl) : F Tryz.prog [0] 64 [.agg (cardV cd).toArray, .int .i64 at'] H n (fun v H' n' => (∃ b : Bool, v = .bool b) ∧ H' = H ∧ n' = n) := by
  refine pureF rfl ?_ hg
  refine F_of_comp c64_ok rfl ?_
  refine WC_go hE hm ?_
  refine xA rfl rfl rfl rfl rfl rfl ?_
  refine xP rfl rfl rfl rfl ?_
  refine RX_nil ?_
  refine WC_live (live1 1 rfl (live1 2 rfl live0)) ?_
  refine WC_go hE hm ?_
  refine xP rfl rfl rfl rfl ?_
  refine xR rfl rfl rfl rfl ?_
  refine xP rfl rfl rfl rfl ?_
  refine xCmp rfl rfl rfl rfl ?_ ?_ <;> intro h
  ·
    refine xP rfl rfl rfl rfl ?_
    refine RX_nil ?_
    refine WC_live (live1 4 rfl live0) ?_
    refine WC_ret ?_
    refine endR rfl ?_
    exact ⟨⟨_, rfl⟩, rfl, rfl⟩
  ·
    refine xP rfl rfl rfl rfl ?_
    refine RX_nil ?_
    refine WC_live (live1 4 rfl live0) ?_
    refine WC_ret ?_
    refine endR rfl ?_
    exact ⟨⟨_, rfl⟩, rfl, rfl⟩
def c65 : FC := FC.mk 9 (
  .seq (.steps [⟨.box 64, [.tmp 0], some 2, none⟩,
    ⟨.move, [.const (.bool false)], some 4, none⟩]) (
  .seq (.steps [⟨.fieldAddr 1, [.tmp 2], some 5, none⟩,
    ⟨.load1, [.tmp 5], some 6, none⟩,
    ⟨.move, [.tmp 1], some 7, none⟩,
    ⟨.bin .lss, [.tmp 6, .tmp 7], some 8, none⟩,
    ⟨.move, [.tmp 8], some 4, none⟩]) (
  .ret))) [.tmp 4]
theorem c65_ok : compF Tryz.prog 65 = some c65 := by kernel_rfl
/-- (spadille/cut.Sheet).rounds$3 -/
theorem f65 (cd : Cd) (at' : Int) {H : Heap} {n : Nat} (hg : aget H 0 = some gl) : F Tryz.prog [0] 65 [.agg (cardV cd).toArray, .int .i64 at'] H n (fun v H' n' => (∃ b : Bool, v = .bool b) ∧ H' = H ∧ n' = n) := by
  refine pureF rfl ?_ hg
  refine F_of_comp c65_ok rfl ?_
  refine WC_go hE hm ?_
  refine xA rfl rfl rfl rfl rfl rfl ?_
  refine xP rfl rfl rfl rfl ?_
  refine RX_nil ?_
  refine WC_live (live1 1 rfl (live1 2 rfl live0)) ?_
  refine WC_go hE hm ?_
  refine xP rfl rfl rfl rfl ?_
  refine xR rfl rfl rfl rfl ?_
  refine xP rfl rfl rfl rfl ?_
  refine xCmp rfl rfl rfl rfl ?_ ?_ <;> intro h
  ·
    refine xP rfl rfl rfl rfl ?_
    refine RX_nil ?_
    refine WC_live (live1 4 rfl live0) ?_
    refine WC_ret ?_
    refine endR rfl ?_
    exact ⟨⟨_, rfl⟩, rfl, rfl⟩
  ·
    refine xP rfl rfl rfl rfl ?_
    refine RX_nil ?_
    refine WC_live (live1 4 rfl live0) ?_
    refine WC_ret ?_
    refine endR rfl ?_
    exact ⟨⟨_, rfl⟩, rfl, rfl⟩
def c19 : FC := FC.mk 17 (
  .seq (.steps [⟨.box 23, [.tmp 0], some 2, none⟩,
    ⟨.move, [.const (.bool false)], some 4, none⟩,
    ⟨.move, [.const (.int .i64 0)], some 5, none⟩]) (
  .seq (.seq (.steps [⟨.loadN 4, [.tmp 2], some 7, none⟩,
    ⟨.move, [.tmp 1], some 8, none⟩,
    ⟨.callF 12, [.tmp 7, .tmp 8], some 9, none⟩,
    ⟨.move, [.tmp 9], some 6, none⟩]) (
  .seq (.steps [⟨.move, [.tmp 6], some 10, none⟩,
    ⟨.bin .neq, [.tmp 10, .const (.int .i64 0)], some 11, none⟩]) (
  .cond (.tmp 11) (
    .seq (.steps [⟨.move, [.tmp 6], some 12, none⟩,
      ⟨.move, [.const (.bool false)], some 4, none⟩,
      ⟨.move, [.tmp 12], some 5, none⟩]) (
    .ret)) (
    .skip)))) (
  .seq (.steps [⟨.loadN 4, [.tmp 2], some 13, none⟩,
    ⟨.move, [.tmp 1], some 14, none⟩,
    ⟨.callF 47, [.tmp 13, .tmp 14], some 15, none⟩,
    ⟨.bin .lss, [.tmp 15, .const (.int .i64 36)], some 16, none⟩,
    ⟨.move, [.tmp 16], some 4, none⟩,
    ⟨.move, [.const (.int .i64 0)], some 5, none⟩]) (
  .ret)))) [.tmp 4, .tmp 5]
theorem c19_ok : compF Tryz.prog 19 = some c19 := by kernel_rfl
/-- spadille/cut.Straight -/
theorem f19 (r c l w : Int) (L : List Cd) (hL : L.length ≤ 1048576) (h47 : okSheet r c l w → (∀ cd ∈ L, okCard cd) → C47 r c l w L) : CT Tryz.prog [0] 19 [sheetV r c l w, gsl 1 L.length] (rowC L) 2 (fun v L' n' => ∃ (b : Bool) (e : Int), v = .tuple #[.bool b, .int .i64 e] ∧ L' = rowC L ∧ n' = 2) := by
  refine ⟨shutG L r c l w, ?_⟩
  refine F_of_comp c19_ok rfl ?_
  refine WC_go hE hm ?_
  refine xA rfl rfl rfl rfl rfl rfl ?_
  refine xP rfl rfl rfl rfl ?_
  refine xP rfl rfl rfl rfl ?_
  refine RX_nil ?_
  refine WC_liveH (live1 1 rfl (live1 2 rfl live0)) (LH := rowB L (.cells [.int .i64 r, .int .i64 c, .int .i64 l, .int .i64 w] 23 none)) (liveHo 0 gl rfl (liveHo 1 (gob 64 3 (cardsV L) L.length) rfl (liveHo 2 (.cells [.int .i64 r, .int .i64 c, .int .i64 l, .int .i64 w] 23 none) rfl liveH0))) ?_
  refine WC_seq ?_
  refine WC_go hE hm ?_
  refine xLoadN [_, _, _, _] rfl rfl rfl ?_
  refine xP rfl rfl rfl rfl ?_
  refine xC rfl rfl rfl rfl (callC (f12 r c l w L hL) (fun v => ∃ e : Int, v = .int .i64 e ∧ (e = 0 → okSheet r c l w ∧ ∀ cd ∈ L, okCard cd)) (by rintro _ _ _ ⟨e, h1, h2, h3, h4⟩; exact ⟨⟨e, h1, h2⟩, h3, h4⟩) (by rintro _ ⟨e, rfl, _⟩ σ; rfl) (.cells [.int .i64 r, .int .i64 c, .int .i64 l, .int .i64 w] 23 none)) ?_
  rintro _ H1 _ ⟨⟨e, rfl, hok⟩, hl, rfl⟩
  refine xP rfl rfl rfl rfl ?_
  refine RX_nil ?_
  refine WC_liveH (live1 1 rfl (live1 2 rfl (live1 6 rfl live0))) hl ?_
  refine WC_go hE hm ?_
  refine xP rfl rfl rfl rfl ?_
  refine xNe rfl rfl ?_ ?_ <;> intro h
  ·
    refine RX_nil ?_
    refine WC_live (live1 1 rfl (live1 2 rfl (live1 6 rfl (live1 11 rfl live0)))) ?_
    refine WC_condT rfl ?_
    refine WC_go hE hm ?_
    refine xP rfl rfl rfl rfl ?_
    refine xP rfl rfl rfl rfl ?_
    refine xP rfl rfl rfl rfl ?_
    refine RX_nil ?_
    refine WC_live (live1 4 rfl (live1 5 rfl live0)) ?_
    refine WC_le (Le.canon [] (n2 := 2) (lrS 4 rfl rfl (lrS 5 rfl rfl lr0)) (hrS 0 rfl rfl (hr1 1 (gob 64 3 (cardsV L) L.length) rfl (renO_gob _ (flats_cards L) _) hr0)) rfl rfl rfl rfl rfl (hGn rfl)) ?_
    refine WC_ret ?_
    refine thenR ?_
    refine endR rfl ?_
    exact ⟨_, rfl, ⟨_, _, rfl, rfl, rfl⟩, shutV L rfl⟩
  ·
    refine RX_nil ?_
    refine WC_live (live1 1 rfl (live1 2 rfl (live1 6 rfl (live1 11 rfl live0)))) ?_
    refine WC_condF rfl ?_
    refine WC_skip ?_
    refine thenN ?_
    refine WC_live (live1 1 rfl (live1 2 rfl live0)) ?_
    refine WC_go hE hm ?_
    refine xLoadN [_, _, _, _] rfl rfl rfl ?_
    refine xP rfl rfl rfl rfl ?_
    obtain ⟨hs, hcs⟩ := hok h
    refine xC rfl rfl rfl rfl (callC (h47 hs hcs) (fun v => ∃ k : Int, 0 ≤ k ∧ k ≤ 36 ∧ v = .int .i64 k) (by rintro _ _ _ ⟨k, h1, h2, h3, h4, h5⟩; exact ⟨⟨k, h1, h2, h3⟩, h4, h5⟩) (by rintro _ ⟨k, _, _, rfl⟩ σ; rfl) (.cells [.int .i64 r, .int .i64 c, .int .i64 l, .int .i64 w] 23 none)) ?_
    rintro _ H2 _ ⟨⟨k, k1, k2, rfl⟩, hl2, rfl⟩
    refine xCmp rfl rfl rfl rfl ?_ ?_ <;> intro h
    ·
      refine xP rfl rfl rfl rfl ?_
      refine xP rfl rfl rfl rfl ?_
      refine RX_nil ?_
      refine WC_liveH (live1 4 rfl (live1 5 rfl live0)) hl2 ?_
      refine WC_le (Le.canon [] (n2 := 2) (lrS 4 rfl rfl (lrS 5 rfl rfl lr0)) (hrS 0 rfl rfl (hr1 1 (gob 64 3 (cardsV L) L.length) rfl (renO_gob _ (flats_cards L) _) hr0)) rfl rfl rfl rfl rfl (hGn rfl)) ?_
      refine WC_ret ?_
      refine endR rfl ?_
      exact ⟨_, rfl, ⟨_, _, rfl, rfl, rfl⟩, shutV L rfl⟩
    ·
      refine xP rfl rfl rfl rfl ?_
      refine xP rfl rfl rfl rfl ?_
      refine RX_nil ?_
      refine WC_liveH (live1 4 rfl (live1 5 rfl live0)) hl2 ?_
      refine WC_le (Le.canon [] (n2 := 2) (lrS 4 rfl rfl (lrS 5 rfl rfl lr0)) (hrS 0 rfl rfl (hr1 1 (gob 64 3 (cardsV L) L.length) rfl (renO_gob _ (flats_cards L) _) hr0)) rfl rfl rfl rfl rfl (hGn rfl)) ?_
      refine WC_ret ?_
      refine endR rfl ?_
      exact ⟨_, rfl, ⟨_, _, rfl, rfl, rfl⟩, shutV L rfl⟩
def c21 : FC := FC.mk 20 (
  .seq (.steps [⟨.box 23, [.tmp 0], some 2, none⟩,
    ⟨.move, [.const (.int .i64 0)], some 4, none⟩,
    ⟨.move, [.const (.int .i64 0)], some 5, none⟩]) (
  .seq (.seq (.steps [⟨.loadN 4, [.tmp 2], some 8, none⟩,
    ⟨.move, [.tmp 1], some 9, none⟩,
    ⟨.callF 12, [.tmp 8, .tmp 9], some 10, none⟩,
    ⟨.move, [.tmp 10], some 6, none⟩]) (
  .seq (.steps [⟨.move, [.tmp 6], some 11, none⟩,
    ⟨.bin .neq, [.tmp 11, .const (.int .i64 0)], some 12, none⟩]) (
  .cond (.tmp 12) (
    .seq (.steps [⟨.move, [.tmp 6], some 13, none⟩,
      ⟨.move, [.const (.int .i64 0)], some 4, none⟩,
      ⟨.move, [.tmp 13], some 5, none⟩]) (
    .ret)) (
    .skip)))) (
  .seq (.steps [⟨.loadN 4, [.tmp 2], some 14, none⟩,
    ⟨.move, [.tmp 1], some 15, none⟩,
    ⟨.callF 47, [.tmp 14, .tmp 15], some 16, none⟩,
    ⟨.move, [.tmp 16], some 7, none⟩]) (
  .seq (.seq (.steps [⟨.move, [.tmp 7], some 17, none⟩,
    ⟨.bin .geq, [.tmp 17, .const (.int .i64 36)], some 18, none⟩]) (
  .cond (.tmp 18) (
    .seq (.steps [⟨.move, [.const (.int .i64 0)], some 4, none⟩,
      ⟨.move, [.const (.int .i64 12)], some 5, none⟩]) (
    .ret)) (
    .skip))) (
  .seq (.steps [⟨.move, [.tmp 7], some 19, none⟩,
    ⟨.move, [.tmp 19], some 4, none⟩,
    ⟨.move, [.const (.int .i64 0)], some 5, none⟩]) (
  .ret)))))) [.tmp 4, .tmp 5]
theorem c21_ok : compF Tryz.prog 21 = some c21 := by kernel_rfl
/-- spadille/cut.Rounds -/
theorem f21 (r c l w : Int) (L : List Cd) (hL : L.length ≤ 1048576) (h47 : okSheet r c l w → (∀ cd ∈ L, okCard cd) → C47 r c l w L) : CT Tryz.prog [0] 21 [sheetV r c l w, gsl 1 L.length] (rowC L) 2 (fun v L' n' => ∃ (k e : Int), v = .tuple #[.int .i64 k, .int .i64 e] ∧ L' = rowC L ∧ n' = 2) := by
  refine ⟨shutG L r c l w, ?_⟩
  refine F_of_comp c21_ok rfl ?_
  refine WC_go hE hm ?_
  refine xA rfl rfl rfl rfl rfl rfl ?_
  refine xP rfl rfl rfl rfl ?_
  refine xP rfl rfl rfl rfl ?_
  refine RX_nil ?_
  refine WC_liveH (live1 1 rfl (live1 2 rfl live0)) (LH := rowB L (.cells [.int .i64 r, .int .i64 c, .int .i64 l, .int .i64 w] 23 none)) (liveHo 0 gl rfl (liveHo 1 (gob 64 3 (cardsV L) L.length) rfl (liveHo 2 (.cells [.int .i64 r, .int .i64 c, .int .i64 l, .int .i64 w] 23 none) rfl liveH0))) ?_
  refine WC_seq ?_
  refine WC_go hE hm ?_
  refine xLoadN [_, _, _, _] rfl rfl rfl ?_
  refine xP rfl rfl rfl rfl ?_
  refine xC rfl rfl rfl rfl (callC (f12 r c l w L hL) (fun v => ∃ e : Int, v = .int .i64 e ∧ (e = 0 → okSheet r c l w ∧ ∀ cd ∈ L, okCard cd)) (by rintro _ _ _ ⟨e, h1, h2, h3, h4⟩; exact ⟨⟨e, h1, h2⟩, h3, h4⟩) (by rintro _ ⟨e, rfl, _⟩ σ; rfl) (.cells [.int .i64 r, .int .i64 c, .int .i64 l, .int .i64 w] 23 none)) ?_
  rintro _ H1 _ ⟨⟨e, rfl, hok⟩, hl, rfl⟩
  refine xP rfl rfl rfl rfl ?_
  refine RX_nil ?_
  refine WC_liveH (live1 1 rfl (live1 2 rfl (live1 6 rfl live0))) hl ?_
  refine WC_go hE hm ?_
  refine xP rfl rfl rfl rfl ?_
  refine xNe rfl rfl ?_ ?_ <;> intro h
  ·
    refine RX_nil ?_
    refine WC_live (live1 1 rfl (live1 2 rfl (live1 6 rfl (live1 12 rfl live0)))) ?_
    refine WC_condT rfl ?_
    refine WC_go hE hm ?_
    refine xP rfl rfl rfl rfl ?_
    refine xP rfl rfl rfl rfl ?_
    refine xP rfl rfl rfl rfl ?_
    refine RX_nil ?_
    refine WC_live (live1 4 rfl (live1 5 rfl live0)) ?_
    refine WC_le (Le.canon [] (n2 := 2) (lrS 4 rfl rfl (lrS 5 rfl rfl lr0)) (hrS 0 rfl rfl (hr1 1 (gob 64 3 (cardsV L) L.length) rfl (renO_gob _ (flats_cards L) _) hr0)) rfl rfl rfl rfl rfl (hGn rfl)) ?_
    refine WC_ret ?_
    refine thenR ?_
    refine endR rfl ?_
    exact ⟨_, rfl, ⟨_, _, rfl, rfl, rfl⟩, shutV L rfl⟩
  ·
    refine RX_nil ?_
    refine WC_live (live1 1 rfl (live1 2 rfl (live1 6 rfl (live1 12 rfl live0)))) ?_
    refine WC_condF rfl ?_
    refine WC_skip ?_
    refine thenN ?_
    refine WC_live (live1 1 rfl (live1 2 rfl live0)) ?_
    refine WC_go hE hm ?_
    refine xLoadN [_, _, _, _] rfl rfl rfl ?_
    refine xP rfl rfl rfl rfl ?_
    obtain ⟨hs, hcs⟩ := hok h
    refine xC rfl rfl rfl rfl (callC (h47 hs hcs) (fun v => ∃ k : Int, 0 ≤ k ∧ k ≤ 36 ∧ v = .int .i64 k) (by rintro _ _ _ ⟨k, h1, h2, h3, h4, h5⟩; exact ⟨⟨k, h1, h2, h3⟩, h4, h5⟩) (by rintro _ ⟨k, _, _, rfl⟩ σ; rfl) (.cells [.int .i64 r, .int .i64 c, .int .i64 l, .int .i64 w] 23 none)) ?_
    rintro _ H2 _ ⟨⟨k, k1, k2, rfl⟩, hl2, rfl⟩
    refine xP rfl rfl rfl rfl ?_
    refine RX_nil ?_
    refine WC_liveH (live1 7 rfl live0) hl2 ?_
    refine WC_seq ?_
    refine WC_go hE hm ?_
    refine xP rfl rfl rfl rfl ?_
    refine xCmp rfl rfl rfl rfl ?_ ?_ <;> intro h
    ·
      refine RX_nil ?_
      refine WC_live (live1 7 rfl (live1 18 rfl live0)) ?_
      refine WC_condT rfl ?_
      refine WC_go hE hm ?_
      refine xP rfl rfl rfl rfl ?_
      refine xP rfl rfl rfl rfl ?_
      refine RX_nil ?_
      refine WC_live (live1 4 rfl (live1 5 rfl live0)) ?_
      refine WC_le (Le.canon [] (n2 := 2) (lrS 4 rfl rfl (lrS 5 rfl rfl lr0)) (hrS 0 rfl rfl (hr1 1 (gob 64 3 (cardsV L) L.length) rfl (renO_gob _ (flats_cards L) _) hr0)) rfl rfl rfl rfl rfl (hGn rfl)) ?_
      refine WC_ret ?_
      refine thenR ?_
      refine endR rfl ?_
      exact ⟨_, rfl, ⟨_, _, rfl, rfl, rfl⟩, shutV L rfl⟩
    ·
      refine RX_nil ?_
      refine WC_live (live1 7 rfl (live1 18 rfl live0)) ?_
      refine WC_condF rfl ?_
      refine WC_skip ?_
      refine thenN ?_
      refine WC_live (live1 7 rfl live0) ?_
      refine WC_go hE hm ?_
      refine xP rfl rfl rfl rfl ?_
      refine xP rfl rfl rfl rfl ?_
      refine xP rfl rfl rfl rfl ?_
      refine RX_nil ?_
      refine WC_live (live1 4 rfl (live1 5 rfl live0)) ?_
      refine WC_le (Le.canon [] (n2 := 2) (lrS 4 rfl rfl (lrS 5 rfl rfl lr0)) (hrS 0 rfl rfl (hr1 1 (gob 64 3 (cardsV L) L.length) rfl (renO_gob _ (flats_cards L) _) hr0)) rfl rfl rfl rfl rfl (hGn rfl)) ?_
      refine WC_ret ?_
      refine endR rfl ?_
      exact ⟨_, rfl, ⟨_, _, rfl, rfl, rfl⟩, shutV L rfl⟩
end Go.Proofs.YtnagcnlldllagaaGreatDoor
