/- A part of the proof that spadilletop.TopSharedCut answers true and leaves its argument as it was (bulk at most 1048576): C10. -/
import Derived.Test.YtnagcnlldllagaaGreatDoorC9
import Derived.Test.YtnagcnlldllagaaGreatDoorCsL
set_option linter.all false
/- Rows of cards of whatever room: free, Clone. -/
set_option maxRecDepth 1000000
set_option maxHeartbeats 4000000
open Go Go.Cs
namespace Go.Proofs.YtnagcnlldllagaaGreatDoor
/-- A slice of so many elements, of known room; its block. -/
def rsl (i k : Nat) : Nat → Value
  | 0 => .slice none 0 0
  | c + 1 => .slice (some ⟨i, 0, none⟩) k (c + 1)
def rob (cs : List Value) (gr : Option Nat) : Nat → AObj
  | 0 => .dead
  | _ + 1 => .cells cs 64 gr
def rowG (cs : List Value) (gr : Option Nat) (cp : Nat) : List (Nat × AObj) := [(0, gl), (1, rob cs gr cp)]
theorem rob_pos {cs : List Value} {gr : Option Nat} {c : Nat} (h : c ≠ 0) : rob cs gr c = .cells cs 64 gr := by cases c with | zero => exact absurd rfl h | succ c => rfl
theorem renV_rsl (σ : Nat → Nat) (i k c : Nat) : renV σ (rsl i k c) = rsl (σ i) k c := by cases c <;> rfl
theorem renO_rob (σ : Nat → Nat) {cs : List Value} (h : flats cs = true) (gr : Option Nat) (c : Nat) : renO σ (rob cs gr c) = rob cs gr c := by
  cases c with
  | zero => rfl
  | succ c => simp only [rob, renO, renL_flat σ h]
theorem idsO_rob {cs : List Value} (h : flats cs = true) (gr : Option Nat) (c : Nat) : idsO (rob cs gr c) = [] := by
  cases c with
  | zero => rfl
  | succ c => exact idsL_flat h
theorem SliceAt.rsl (i k c : Nat) (h : k ≤ c) : SliceAt (rsl i k c) i 0 k := by
  cases c with
  | zero => obtain rfl : k = 0 := by omega
            constructor
  | succ c => constructor
theorem ldCardR {H : Heap} {b j : Nat} {L : List Cd} {rest : List Value} {gr : Option Nat} {k : Nat} {c : Cd} (hk : k ≠ 0) (hb : aget H b = some (rob (cardsV L ++ rest) gr k)) (hc : L[j]? = some c) : semR (.loadN 3) [.pointer (some ⟨b, 0 + j * 3, none⟩)] H = some (.agg (cardV c).toArray) := by
  obtain ⟨h1, h2⟩ := cards_at L j c hc
  rw [rob_pos hk] at hb
  simp only [semR, rLoadN, hb, Nat.zero_add]
  rw [if_pos (by rw [List.length_append]; omega), List.drop_append_of_le_length (by omega), List.take_append_of_le_length (by simp; omega), h1]
theorem shutVr {L : List Cd} (rest : List Value) (gr : Option Nat) (cp : Nat) (hfl : flats (cardsV L ++ rest) = true) {v : Value} (hv : idsV v = []) : ShutR v (rowG (cardsV L ++ rest) gr cp) 2 2 :=
  shutR_of rfl rfl (by rw [hv]; rfl) (nm1 rfl rfl (nm1 (idsO_rob hfl _ _) rfl nm0))
theorem shutGr (L : List Cd) (rest : List Value) (gr : Option Nat) (cp : Nat) (hfl : flats (cardsV L ++ rest) = true) (r c l w : Int) : Shut [sheetV r c l w, rsl 1 L.length cp] (rowG (cardsV L ++ rest) gr cp) 2 :=
  shut_of (by cases cp <;> rfl) (nm1 rfl rfl (nm1 (idsO_rob hfl _ _) rfl nm0))
section
variable {P : Program} {G : List Nat} {E : Env} {N n0 : Nat} {r : List Step} {Q : St → Prop} {ars : List Operand} {d : Option Tmp} {g : Option (Tmp × Bool)} {L : List (Nat × Value)} {D : List Value} {H : Heap} {n : Nat}
theorem xLenR {i k c : Nat} (hc : k ≤ c) (hw : wantT (.lst L) g = some true) (ha : evs G (.lst L) ars = some [rsl i k c]) (h : RX P G E r Q { T := .lst (putL d (.int .i64 (k : Int)) L), D := D, H := H, n := n }) : RX P G E (⟨.lenS, ars, d, g⟩ :: r) Q { T := .lst L, D := D, H := H, n := n } :=
  xP (v := .int .i64 (k : Int)) rfl hw ha (SliceAt.rsl i k c hc).lenS h
theorem xIdxR {es i k c : Nat} {j : Int} (hc : k ≤ c) (hw : wantT (.lst L) g = some true) (ha : evs G (.lst L) ars = some [rsl i k c, .int .i64 j]) (hj : 0 ≤ j ∧ j < (k : Int))
    (h : RX P G E r Q { T := .lst (putL d (.pointer (some ⟨i, 0 + j.toNat * es, none⟩)) L), D := D, H := H, n := n }) : RX P G E (⟨.indexAddrS es, ars, d, g⟩ :: r) Q { T := .lst L, D := D, H := H, n := n } := by
  obtain ⟨m, rfl⟩ := Int.eq_ofNat_of_zero_le hj.1
  exact xP (v := .pointer (some ⟨i, 0 + (m : Int).toNat * es, none⟩)) rfl hw ha ((SliceAt.rsl i k c hc).idx (by omega)) h
end
theorem f44g (r c l w : Int) (L : List Cd) (rest : List Value) (gr : Option Nat) (cp : Nat) (hcp : L.length ≤ cp) (hfl : flats (cardsV L ++ rest) = true) (hL : L.length ≤ 1048576) (hs : okSheet r c l w) (hcs : ∀ cd ∈ L, okCard cd) : CT Tryz.prog [0] 44 [sheetV r c l w, rsl 1 L.length cp] (rowG (cardsV L ++ rest) gr cp) 2 (fun v L' n' => ∃ x y : Nat, x < 2 ^ 8 ∧ y < 2 ^ 8 ∧ v = .tuple #[.int .u8 (x : Int), .int .u8 (y : Int)] ∧ L' = rowG (cardsV L ++ rest) gr cp ∧ n' = 2) := by
  refine ⟨shutGr L rest gr cp hfl r c l w, ?_⟩
  obtain ⟨⟨s1, s2⟩, ⟨s3, s4⟩, ⟨s5, s6⟩, s7, s8⟩ := hs
  refine F_of_comp c44_ok rfl ?_
  refine WC_go hE hm ?_
  refine xA rfl rfl rfl rfl rfl rfl ?_
  refine xP rfl rfl rfl rfl ?_
  refine xP rfl rfl rfl rfl ?_
  refine RX_nil ?_
  refine WC_live (live1 1 rfl (live1 2 rfl live0)) ?_
  refine WC_go hE hm ?_
  refine xP rfl rfl rfl rfl ?_
  refine xR rfl rfl rfl rfl ?_
  refine xShl (x := 1) rfl rfl rfl (by omega) ?_
  obtain ⟨a0, a0b, a0e⟩ := wrap8 ((((1 <<< min r.toNat IntKind.u8.bits) % 2 ^ IntKind.u8.bits : Nat) : Int) - 2)
  refine xP (v := .int .u8 (a0 : Int)) rfl rfl rfl (congrArg (fun z => some (Value.int .u8 z)) a0e) ?_
  refine xP rfl rfl rfl rfl ?_
  refine xR rfl rfl rfl rfl ?_
  refine xShl (x := 1) rfl rfl rfl (by omega) ?_
  obtain ⟨b0, b0b, b0e⟩ := wrap8 ((((1 <<< min c.toNat IntKind.u8.bits) % 2 ^ IntKind.u8.bits : Nat) : Int) - 2)
  refine xP (v := .int .u8 (b0 : Int)) rfl rfl rfl (congrArg (fun z => some (Value.int .u8 z)) b0e) ?_
  refine xP rfl rfl rfl rfl ?_
  refine xP rfl rfl rfl rfl ?_
  refine RX_nil ?_
  refine WC_live (live1 1 rfl (live1 2 rfl (live1 4 rfl (live1 5 rfl live0)))) ?_
  refine WC_seq ?_
  refine WC_go hE hm ?_
  refine xP rfl rfl rfl rfl ?_
  refine xLenR (k := L.length) (c := cp) hcp rfl rfl ?_
  refine xP rfl rfl rfl rfl ?_
  refine RX_nil ?_
  refine WC_live (live1 2 rfl (live1 4 rfl (live1 5 rfl (live1 18 rfl (live1 19 rfl (live1 20 rfl live0)))))) ?_
  refine WC_block ?_
  -- LOOP live [2, 4, 5, 18, 19, 20]
  refine WC_liveH (live1 2 rfl (live1 4 rfl (live1 5 rfl (live1 18 rfl (live1 19 rfl (live1 20 rfl live0)))))) (liveHo 0 gl rfl (liveHo 1 (rob (cardsV L ++ rest) gr cp) rfl (liveHo 2 (.cells [.int .i64 r, .int .i64 c, .int .i64 l, .int .i64 w] 23 none) rfl liveH0))) ?_
  refine WC_loopX (X := Int × Nat × Nat) (fun x => { T := ofL [(2, .pointer (some ⟨2, 0, none⟩)), (4, .int .u8 (x.2.1 : Int)), (5, .int .u8 (x.2.2 : Int)), (18, rsl 1 L.length cp), (19, .int .i64 (L.length : Int)), (20, .int .i64 x.1)], D := [], H := ofL [(0, gl), (1, rob (cardsV L ++ rest) gr cp), (2, (.cells [.int .i64 r, .int .i64 c, .int .i64 l, .int .i64 w] 23 none))], n := 3 }) (fun x => 0 ≤ x.1 ∧ x.1 ≤ L.length ∧ x.2.1 < 2 ^ 8 ∧ x.2.2 < 2 ^ 8) (fun x => (L.length - x.1).toNat) (0, a0, b0) ⟨by dsimp only; omega, by dsimp only; omega, a0b, b0b⟩ ?_
  rintro ⟨i, a, b⟩ ⟨i1, i2, i3, i4⟩
  dsimp only at *
  refine WC_go hE hm ?_
  refine xCmp rfl rfl rfl rfl ?_ ?_ <;> intro h
  ·
    refine RX_nil ?_
    refine WC_live (live1 2 rfl (live1 4 rfl (live1 5 rfl (live1 18 rfl (live1 19 rfl (live1 20 rfl (live1 21 rfl live0))))))) ?_
    refine WC_seq ?_
    refine WC_condT rfl ?_
    refine WC_skip ?_
    refine thenN ?_
    refine WC_live (live1 2 rfl (live1 4 rfl (live1 5 rfl (live1 18 rfl (live1 19 rfl (live1 20 rfl live0)))))) ?_
    refine WC_seq ?_
    refine WC_block ?_
    refine WC_go hE hm ?_
    have hk : L.length ≠ 0 := by omega
    obtain ⟨⟨row, col, t⟩, hcd⟩ : ∃ cd, L[i.toNat]? = some cd := ⟨_, List.getElem?_eq_getElem (by omega)⟩
    have hoc := hcs _ (List.mem_of_getElem? hcd)
    obtain ⟨⟨o1, o2⟩, o3, o4⟩ := hoc
    dsimp only at o1 o2 o3 o4
    obtain ⟨hi, ehi⟩ : ∃ hi : Int, hi = (if t then w else l) := ⟨_, rfl⟩
    obtain ⟨wi, ewi⟩ : ∃ wi : Int, wi = (if t then l else w) := ⟨_, rfl⟩
    have hh1 : 1 ≤ hi ∧ hi ≤ 6 := by rw [ehi]; cases t <;> simp <;> omega
    have hh2 : 1 ≤ wi ∧ wi ≤ 6 := by rw [ewi]; cases t <;> simp <;> omega
    refine xIdxR (k := L.length) (c := cp) hcp rfl rfl (by omega) ?_
    refine xLoadN [.int .i64 row, .int .i64 col, .bool t] rfl rfl (ldCardR (Nat.ne_of_gt (Nat.lt_of_lt_of_le (Nat.pos_of_ne_zero hk) hcp)) rfl hcd) ?_
    refine xA rfl rfl rfl rfl rfl rfl ?_
    refine xStN [_, _, _] rfl rfl rfl rfl rfl rfl rfl rfl ?_
    refine RX_nil ?_
    refine WC_live (live1 2 rfl (live1 4 rfl (live1 5 rfl (live1 7 rfl (live1 18 rfl (live1 19 rfl (live1 20 rfl live0))))))) ?_
    refine WC_go hE hm ?_
    refine xLoadN [_, _, _, _] rfl rfl rfl ?_
    refine xP rfl rfl rfl rfl ?_
    refine xR rfl rfl rfl rfl ?_
    refine xC rfl rfl rfl rfl (f42 r c l w t rfl) ?_
    rintro _ _ _ ⟨rfl, rfl, rfl⟩
    rw [← ehi, ← ewi]
    refine xP rfl rfl rfl rfl ?_
    refine xP rfl rfl rfl rfl ?_
    refine xP rfl rfl rfl rfl ?_
    refine xP rfl rfl rfl rfl ?_
    refine xP rfl rfl rfl rfl ?_
    refine RX_nil ?_
    refine WC_live (live1 2 rfl (live1 4 rfl (live1 5 rfl (live1 7 rfl (live1 8 rfl (live1 9 rfl (live1 18 rfl (live1 19 rfl (live1 20 rfl live0))))))))) ?_
    refine WC_go hE hm ?_
    refine xP rfl rfl rfl rfl ?_
    refine xP rfl rfl rfl rfl ?_
    refine xSub rfl rfl (by omega) ?_
    refine xShl (x := 1) rfl rfl rfl (by omega) ?_
    obtain ⟨p1, p1b, p1e⟩ := wrap8 ((((1 <<< min (hi - 1).toNat IntKind.u8.bits) % 2 ^ IntKind.u8.bits : Nat) : Int) - 1)
    refine xP (v := .int .u8 (p1 : Int)) rfl rfl rfl (congrArg (fun z => some (Value.int .u8 z)) p1e) ?_
    refine xP rfl rfl rfl rfl ?_
    refine xR rfl rfl rfl rfl ?_
    refine xAdd rfl rfl (by omega) ?_
    refine xShl (x := p1) rfl rfl rfl (by omega) ?_
    obtain ⟨a2, a2b, a2e⟩ := bits8 .andNot (a : Int) (((p1 <<< min (row + 1).toNat IntKind.u8.bits) % 2 ^ IntKind.u8.bits : Nat) : Int)
    refine xP (v := .int .u8 (a2 : Int)) rfl rfl rfl (congrArg (fun z => some (Value.int .u8 z)) a2e) ?_
    refine xP rfl rfl rfl rfl ?_
    refine RX_nil ?_
    refine WC_live (live1 2 rfl (live1 4 rfl (live1 5 rfl (live1 7 rfl (live1 9 rfl (live1 18 rfl (live1 19 rfl (live1 20 rfl live0)))))))) ?_
    refine WC_steps hE hm ?_
    refine xP rfl rfl rfl rfl ?_
    refine xP rfl rfl rfl rfl ?_
    refine xSub rfl rfl (by omega) ?_
    refine xShl (x := 1) rfl rfl rfl (by omega) ?_
    obtain ⟨p2, p2b, p2e⟩ := wrap8 ((((1 <<< min (wi - 1).toNat IntKind.u8.bits) % 2 ^ IntKind.u8.bits : Nat) : Int) - 1)
    refine xP (v := .int .u8 (p2 : Int)) rfl rfl rfl (congrArg (fun z => some (Value.int .u8 z)) p2e) ?_
    refine xP rfl rfl rfl rfl ?_
    refine xR rfl rfl rfl rfl ?_
    refine xAdd rfl rfl (by omega) ?_
    refine xShl (x := p2) rfl rfl rfl (by omega) ?_
    obtain ⟨b2, b2b, b2e⟩ := bits8 .andNot (b : Int) (((p2 <<< min (col + 1).toNat IntKind.u8.bits) % 2 ^ IntKind.u8.bits : Nat) : Int)
    refine xP (v := .int .u8 (b2 : Int)) rfl rfl rfl (congrArg (fun z => some (Value.int .u8 z)) b2e) ?_
    refine xP rfl rfl rfl rfl ?_
    refine RX_nil ?_
    refine blockN ?_
    refine thenN ?_
    refine WC_live (live1 2 rfl (live1 4 rfl (live1 5 rfl (live1 18 rfl (live1 19 rfl (live1 20 rfl live0)))))) ?_
    refine WC_steps hE hm ?_
    refine xAdd rfl rfl (by omega) ?_
    refine xP rfl rfl rfl rfl ?_
    refine RX_nil ?_
    refine thenN ⟨(i + 1, a2, b2), ⟨by dsimp only; omega, by dsimp only; omega, a2b, b2b⟩, by dsimp only; omega, Le.canon [(2, 2)] (n2 := 3) (lr1 2 (.pointer (some ⟨2, 0, none⟩)) rfl rfl (lrS 4 rfl rfl (lrS 5 rfl rfl (lr1 18 (rsl 1 L.length cp) rfl (renV_rsl _ 1 _ _) (lrS 19 rfl rfl (lrS 20 rfl rfl lr0)))))) (hrS 0 rfl rfl (hr1 1 (rob (cardsV L ++ rest) gr cp) rfl (renO_rob _ hfl _ _) (hrS 2 rfl rfl hr0))) rfl rfl rfl rfl rfl (hGn rfl)⟩
  ·
    refine RX_nil ?_
    refine WC_live (live1 2 rfl (live1 4 rfl (live1 5 rfl (live1 18 rfl (live1 19 rfl (live1 20 rfl (live1 21 rfl live0))))))) ?_
    refine WC_seq ?_
    refine WC_condF rfl ?_
    refine WC_le (Le.canon [] (n2 := 2) (lrS 4 rfl rfl (lrS 5 rfl rfl lr0)) (hrS 0 rfl rfl (hr1 1 (rob (cardsV L ++ rest) gr cp) rfl (renO_rob _ hfl _ _) hr0)) rfl rfl rfl rfl rfl (hGn rfl)) ?_
    refine WC_exit ?_
    refine thenE ?_
    refine thenE ?_
    refine blockE ?_
    refine thenN ?_
    refine WC_live (live1 4 rfl (live1 5 rfl live0)) ?_
    refine WC_go hE hm ?_
    refine xP rfl rfl rfl rfl ?_
    refine xP rfl rfl rfl rfl ?_
    refine xP rfl rfl rfl rfl ?_
    refine xP rfl rfl rfl rfl ?_
    refine RX_nil ?_
    refine WC_live (live1 4 rfl (live1 5 rfl live0)) ?_
    refine WC_ret ?_
    refine endR rfl ?_
    exact ⟨_, rfl, ⟨_, _, i3, i4, rfl, rfl, rfl⟩, shutVr rest gr cp hfl rfl⟩
/-- A row of whatever room and its copy. -/
def rowGK (L : List Cd) (cs : List Value) (gr : Option Nat) (cp : Nat) : List (Nat × AObj) := [(0, gl), (1, rob cs gr cp), (2, gob 64 3 (cardsV L) L.length)]
theorem shutGK (L : List Cd) (rest : List Value) (gr : Option Nat) (cp : Nat) (hfl : flats (cardsV L ++ rest) = true) : ShutR (gsl 2 L.length) (rowGK L (cardsV L ++ rest) gr cp) 2 3 :=
  shutR_of rfl rfl (ids_gsl rfl _) (nm1 rfl rfl (nm1 (idsO_rob hfl _ _) rfl (nm1 (idsO_gob (flats_cards L) _) rfl nm0)))
theorem take_cards (L : List Cd) (rest : List Value) : (cardsV L ++ rest).take (L.length * 3) = cardsV L := by
  rw [List.take_append_of_le_length (by rw [cards_length]; omega), List.take_of_length_le (by rw [cards_length]; omega)]
theorem f49g (L : List Cd) (rest : List Value) (gr : Option Nat) (cp : Nat) (hL0 : L ≠ []) (hcp : L.length ≤ cp) (hfl : flats (cardsV L ++ rest) = true) (hL : L.length ≤ 1048576) : CT Tryz.prog [0] 49 [rsl 1 L.length cp] (rowG (cardsV L ++ rest) gr cp) 2 (fun v L' n' => v = gsl 2 L.length ∧ L' = rowGK L (cardsV L ++ rest) gr cp ∧ n' = 3) := by
  refine ⟨shut_of (by cases cp <;> rfl) (nm1 rfl rfl (nm1 (idsO_rob hfl _ _) rfl nm0)), ?_⟩
  obtain ⟨a, L, rfl⟩ : ∃ a L', L = a :: L' := by cases L with | nil => exact absurd rfl hL0 | cons a L => exact ⟨a, L, rfl⟩
  obtain ⟨c, rfl⟩ : ∃ c, cp = c + 1 := ⟨cp - 1, by simp at hcp; omega⟩
  have hl := cards_length (a :: L)
  have e := take_cards (a :: L) rest
  have hfc := flats_cards (a :: L)
  refine F_of_comp c49_ok rfl ?_
  refine WC_go hE hm ?_
  refine xP rfl rfl rfl rfl ?_
  refine RX_nil ?_
  refine WC_live (live1 0 rfl live0) ?_
  refine WC_seq ?_
  refine WC_go hE hm ?_
  refine xP rfl rfl rfl rfl ?_
  refine xP rfl rfl rfl rfl ?_
  refine RX_nil ?_
  refine WC_live (live1 0 rfl (live1 4 rfl live0)) ?_
  refine WC_cond rfl (fun h => ?_) (fun h => ?_)
  ·
    cases h
  ·
    refine WC_skip ?_
    refine thenN ?_
    refine WC_live (live1 0 rfl live0) ?_
    refine WC_go hE hm ?_
    refine xBSlice [] rfl rfl rfl rfl rfl ?_
    refine xP rfl rfl rfl rfl ?_
    refine xW rfl rfl rfl (append_empty (i := 1) (k := (a :: L).length) (c := c + 1) (t' := 64) (t2 := 64) (gr := gr) (cs := cardsV (a :: L) ++ rest) rfl rfl (by simp) hcp (by rw [List.length_append]; omega) (by rw [e]; exact flats_cards _) (by omega)) rfl ?_
    rw [e]
    refine xP rfl rfl rfl rfl ?_
    refine RX_nil ?_
    refine WC_live (live1 2 rfl live0) ?_
    refine WC_le (Le.canon [(2, 3)] (n2 := 3) (lr1 2 (gsl 2 (a :: L).length) rfl rfl lr0) (hrS 0 rfl rfl (hr1 1 (rob (cardsV (a :: L) ++ rest) gr (c + 1)) rfl (renO_rob _ hfl _ _) (hr1 2 (gob 64 3 (cardsV (a :: L)) (a :: L).length) rfl (renO_gob _ (flats_cards _) _) hr0))) rfl rfl rfl rfl rfl (hGn rfl)) ?_
    refine WC_ret ?_
    refine endR rfl ?_
    exact ⟨_, rfl, ⟨rfl, rfl, rfl⟩, shutGK (a :: L) rest gr (c + 1) hfl⟩


end Go.Proofs.YtnagcnlldllagaaGreatDoor

/- The search for a next card, with any function that is told of it. -/
set_option maxRecDepth 1000000
set_option maxHeartbeats 4000000
open Go Go.Cs
namespace Go.Proofs.YtnagcnlldllagaaGreatDoor
/-- What holds of some blocks. -/
abbrev Blk := Nat → Prop
def Local (J : Heap → Blk → Prop) : Prop := ∀ H H' A, J H A → (∀ q, A q → aget H' q = aget H q) → J H' A
/-- A function that is told of cards: J holds while it wants more, J' when it does not. -/
def Told1 (r c l w : Int) (p q f b : Nat) (g : FuncId) (bs : List Value) (J J' : Heap → Blk → Prop) (C : Nat) : Prop :=
  ∀ (cd : Cd) (b' : Nat) (H : Heap) (n : Nat) (A : Blk), Next1 b b' → okCard cd → J H A → (∀ q, A q → 0 < q ∧ q < n) → aget H 0 = some gl → Fresh H n → n + C < lim →
    F Tryz.prog [0] g ([.agg (cardV cd).toArray, .int .u64 (b' : Int)] ++ bs) H n (fun v H' n' => ∃ bo, v = .bool bo ∧ ∃ A', (if bo = true then J H' A' else J' H' A') ∧ (∀ q, A' q → 0 < q ∧ (A q ∨ n ≤ q) ∧ q < n') ∧ (∀ q, q < n → ¬ A q → aget H' q = aget H q) ∧ Fresh H' n' ∧ n ≤ n' ∧ n' ≤ n + C)

theorem put_ok {r c l w : Int} {p q f b b' : Nat} (ok : OkTable r c l w p q f) {i : Int} (h0 : 0 ≤ i ∧ i ≤ 64) (t : Bool)
    (h : b < b' ∧ i / c + (if t then w else l) ≤ r ∧ i % c + (if t then l else w) ≤ c ∧ (∀ j, b.testBit j = true → b'.testBit j = true) ∧ b'.testBit (i / c * c + i % c).toNat = true) : okCard (i / c, i % c, t) := by
  obtain ⟨h3, h4, h5, h6, h7⟩ := h
  obtain ⟨⟨s1, s2⟩, ⟨s3, s4⟩, ⟨s5, s6⟩, s7, s8⟩ := ok.sheet
  have hd := divB h0 ⟨s3, s4⟩
  have e1 : 1 ≤ (if t = true then w else l) := by cases t <;> simp <;> omega
  have e2 : 1 ≤ (if t = true then l else w) := by cases t <;> simp <;> omega
  exact ⟨⟨by dsimp only; omega, by dsimp only; omega⟩, by dsimp only; omega, by dsimp only; omega⟩

theorem f37g (r c l w : Int) (p q f b : Nat) (ok : OkTable r c l w p q f) (hb : b < 2 ^ 64) (g : FuncId) (bs : List Value) {J J' : Heap → Blk → Prop} {C : Nat} (hJ : Local J) (hg : Told1 r c l w p q f b g bs J J' C)
    {H : Heap} {n : Nat} {A : Blk} (hj : J H A) (hA : ∀ q, A q → 0 < q ∧ q < n) (h0 : aget H 0 = some gl) (hfr : Fresh H n) (hn : n + 2 * C + 8 < lim) :
    F Tryz.prog [0] 37 [tableV r c l w p q f, .int .u64 (b : Int), .func (.func g) #[] bs.toArray] H n (fun v H' n' => v = .tuple #[] ∧ ∃ A', (J H' A' ∨ J' H' A') ∧ (∀ q, A' q → 0 < q ∧ (A q ∨ n ≤ q) ∧ q < n') ∧ (∀ q, q < n → ¬ A q → aget H' q = aget H q) ∧ Fresh H' n' ∧ n ≤ n' ∧ n' ≤ n + 2 * C + 8) := by
  have hn0 : 0 < n := by
    rcases Nat.eq_zero_or_pos n with h | h
    · rw [hfr 0 (by omega) (by omega)] at h0; cases h0
    · exact h
  refine F_of_comp c37_ok rfl ?_
  refine WC_go hE hm ?_
  refine xNew (ob := .cells (tcells r c l w p q f) 73 none) (mk := .ptr) hfr (by omega) rfl rfl rfl rfl ?_
  intro H1 a1 a2 a3
  refine RX_nil ?_
  refine WC_live (live1 1 rfl (live1 2 rfl (live1 3 rfl live0))) ?_
  have g1 : aget H1 0 = some gl := (a2 0 (by omega)).trans h0
  refine WC_go hE hm ?_
  refine xR (v := tableV r c l w p q f) rfl rfl rfl (loadBox (xs := tcells r c l w p q f) a1 rfl) ?_
  refine xP rfl rfl rfl rfl ?_
  refine xC rfl rfl rfl rfl (f58 r c l w p q f b ok.sheet.2.1.1 hb g1) ?_
  rintro _ _ _ ⟨⟨i, i1, i2, i3, i4, rfl⟩, rfl, rfl⟩
  have hdv := divB ⟨i1, i2⟩ ok.sheet.2.1
  refine xP rfl rfl rfl rfl ?_
  refine xP rfl rfl rfl rfl ?_
  refine xP rfl rfl rfl rfl ?_
  refine xP rfl rfl rfl rfl ?_
  refine xP rfl rfl rfl rfl ?_
  refine RX_nil ?_
  refine WC_live (live1 1 rfl (live1 2 rfl (live1 3 rfl (live1 6 rfl (live1 7 rfl live0))))) ?_
  refine WC_go hE hm ?_
  refine xNew (ob := .cells [.bool false, .bool true] 4 none) (mk := .slice 2 2) a3 (by omega) rfl rfl rfl rfl ?_
  intro H2 b1 b2 b3
  refine xP rfl rfl rfl rfl ?_
  refine xP rfl rfl rfl rfl ?_
  refine RX_nil ?_
  refine WC_live (live1 1 rfl (live1 2 rfl (live1 3 rfl (live1 6 rfl (live1 7 rfl (live1 19 rfl (live1 20 rfl (live1 21 rfl live0)))))))) ?_
  refine WC_block ?_
  have t2 : aget H2 n = some (.cells (tcells r c l w p q f) 73 none) := (b2 n (by omega)).trans a1
  have o2 : ∀ q, q < n → aget H2 q = aget H q := fun q hq => (b2 q (by omega)).trans (a2 q (by omega))
  refine WC_loopX (X := Nat × Heap × Nat) (fun y => { T := ofL [(1, .int .u64 (b : Int)), (2, .func (.func g) #[] bs.toArray), (3, ptrTo n), (6, .int .i64 (i / c)), (7, .int .i64 (i % c)), (19, .slice (some ⟨n + 1, 0, none⟩) 2 2), (20, .int .i64 2), (21, .int .i64 (y.1 : Int))], D := [], H := y.2.1, n := y.2.2 })
    (fun y => y.1 ≤ 2 ∧ (∃ A', J y.2.1 A' ∧ (∀ q, A' q → 0 < q ∧ (A q ∨ n + 2 ≤ q) ∧ q < y.2.2)) ∧ (∀ q, q < n + 2 → ¬ A q → aget y.2.1 q = aget H2 q) ∧ Fresh y.2.1 y.2.2 ∧ n + 2 ≤ y.2.2 ∧ y.2.2 ≤ n + 2 + y.1 * (C + 1)) (fun y => 2 - y.1) (0, H2, n + 1 + 1)
    ⟨Nat.zero_le _, ⟨A, hJ _ _ _ hj fun q hq => o2 q (hA q hq).2, fun q hq => ⟨(hA q hq).1, .inl hq, by have := (hA q hq).2; dsimp only; omega⟩⟩, fun _ _ _ => rfl, b3, Nat.le_refl _, by dsimp only; omega⟩ ?_
  rintro ⟨k, Hk, nk⟩ ⟨hk, ⟨Ak, jk, hAk⟩, k1, k2, k3, k4⟩
  dsimp only at *
  have hkC : k * (C + 1) ≤ 2 * (C + 1) := Nat.mul_le_mul_right _ hk
  have own : ∀ q, n ≤ q → q < n + 2 → ¬ A q := fun q h1 h2 h3 => by have := (hA q h3).2; omega
  have tk : aget Hk n = some (.cells (tcells r c l w p q f) 73 none) := (k1 n (by omega) (own n (by omega) (by omega))).trans t2
  have sk : aget Hk (n + 1) = some (.cells [.bool false, .bool true] 4 none) := (k1 _ (by omega) (own _ (by omega) (by omega))).trans b1
  have gk : aget Hk 0 = some gl := (k1 0 (by omega) (fun h => by have := (hA 0 h).1; omega)).trans ((o2 0 hn0).trans h0)
  have fin : ∀ {Hx : Heap} {nx : Nat} {Ax : Blk}, (J Hx Ax ∨ J' Hx Ax) → (∀ q, Ax q → 0 < q ∧ (A q ∨ n + 2 ≤ q) ∧ q < nx) → (∀ q, q < n + 2 → ¬ A q → aget Hx q = aget H2 q) → Fresh Hx nx → n + 2 ≤ nx → nx ≤ n + 2 + 2 * (C + 1) →
      (Value.tuple #[] = .tuple #[] ∧ ∃ A', (J Hx A' ∨ J' Hx A') ∧ (∀ q, A' q → 0 < q ∧ (A q ∨ n ≤ q) ∧ q < nx) ∧ (∀ q, q < n → ¬ A q → aget Hx q = aget H q) ∧ Fresh Hx nx ∧ n ≤ nx ∧ nx ≤ n + 2 * C + 8) := by
    intro Hx nx Ax h1 h2 h3 h4 h5 h6
    refine ⟨rfl, Ax, h1, fun q hq => ?_, fun q hq1 hq2 => (h3 q (by omega) hq2).trans (o2 q hq1), h4, by omega, by omega⟩
    obtain ⟨q1, q2, q3⟩ := h2 q hq
    exact ⟨q1, q2.imp id fun h => by omega, q3⟩
  refine WC_go hE hm ?_
  refine xCmp (p := (k : Int) < 2) rfl rfl rfl rfl ?_ ?_ <;> intro h
  case refine_2 =>
    refine RX_nil ?_
    refine WC_seq ?_
    refine WC_condF rfl ?_
    refine WC_exit ?_
    refine thenE ?_
    refine thenE ?_
    refine blockE ?_
    refine endN rfl ?_
    exact fin (.inl jk) hAk k1 k2 (by omega) (by omega)
  have hk2 : k < 2 := by omega
  have hkS : (k + 1) * (C + 1) = k * (C + 1) + (C + 1) := Nat.succ_mul _ _
  have hkS2 : (k + 1) * (C + 1) ≤ 2 * (C + 1) := Nat.mul_le_mul_right _ hk2
  refine RX_nil ?_
  refine WC_seq ?_
  refine WC_condT rfl ?_
  refine WC_skip ?_
  refine thenN ?_
  refine WC_live (live1 1 rfl (live1 2 rfl (live1 3 rfl (live1 6 rfl (live1 7 rfl (live1 19 rfl (live1 20 rfl (live1 21 rfl live0)))))))) ?_
  refine WC_seq ?_
  refine WC_block ?_
  obtain ⟨tn, htn⟩ : ∃ tn : Bool, ([.bool false, .bool true] : List Value)[k]? = some (.bool tn) := by
    match k, hk2 with
    | 0, _ => exact ⟨false, rfl⟩
    | 1, _ => exact ⟨true, rfl⟩
  refine WC_go hE hm ?_
  refine xP (v := ptrAt (n + 1) (0 + k * 1)) rfl rfl rfl ((SliceAt.mk (n + 1) 0 2 2).idx hk2) ?_
  refine xLdC (b := n + 1) (o := 0 + k * 1) (v := .bool tn) (cellAt_of sk (by rw [Nat.zero_add, Nat.mul_one]; exact htn)) rfl rfl ?_
  refine xP rfl rfl rfl rfl ?_
  refine RX_nil ?_
  refine WC_live (live1 1 rfl (live1 2 rfl (live1 3 rfl (live1 6 rfl (live1 7 rfl (live1 9 rfl (live1 19 rfl (live1 20 rfl (live1 21 rfl live0))))))))) ?_
  refine WC_go hE hm ?_
  refine xP rfl rfl rfl rfl ?_
  refine xP rfl rfl rfl rfl ?_
  refine xP rfl rfl rfl rfl ?_
  refine xBuild (cardV (i / c, i % c, tn)) rfl rfl rfl ?_
  refine xNew (ob := .cells [.int .i64 0, .int .i64 0, .bool false] 64 none) (mk := .ptr) k2 (by omega) rfl rfl rfl rfl ?_
  intro H3 c1 c2 c3
  refine xFill (b := nk) (ys := cardV (i / c, i % c, tn)) c1 rfl rfl rfl rfl rfl (by omega) ?_
  intro H4 d1 d2
  refine RX_nil ?_
  refine WC_live (live1 1 rfl (live1 2 rfl (live1 3 rfl (live1 6 rfl (live1 7 rfl (live1 9 rfl (live1 10 rfl (live1 19 rfl (live1 20 rfl (live1 21 rfl live0)))))))))) ?_
  have o4 : ∀ q, q < nk → aget H4 q = aget Hk q := fun q hq => (d2 q (by omega)).trans (c2 q (by omega))
  have f4 : Fresh H4 (nk + 1) := fun q h1 h2 => by rw [d2 q (by omega)]; exact c3 q h1 h2
  have t4 : aget H4 n = some (.cells (tcells r c l w p q f) 73 none) := (o4 n (by omega)).trans tk
  have j4 : J H4 Ak := hJ _ _ _ jk fun q hq => o4 q (hAk q hq).2.2
  have g4 : aget H4 0 = some gl := (o4 0 (by omega)).trans gk
  have keep4 : ∀ q, q < n + 2 → ¬ A q → aget H4 q = aget H2 q := fun q h1 h2 => (o4 q (by omega)).trans (k1 q h1 h2)
  -- turned, and both sides alike: no more
  have tail : ∀ (T : AL Value), aget T 1 = some (.int .u64 (b : Int)) → aget T 2 = some (.func (.func g) #[] bs.toArray) → aget T 3 = some (ptrTo n) → aget T 6 = some (.int .i64 (i / c)) → aget T 7 = some (.int .i64 (i % c)) → aget T 10 = some (ptrTo nk) → aget T 19 = some (.slice (some ⟨n + 1, 0, none⟩) 2 2) → aget T 20 = some (.int .i64 2) → aget T 21 = some (.int .i64 (k : Int)) →
      ∀ (Q : EX → St → Prop), (∀ T' H' n' A', aget T' 1 = some (.int .u64 (b : Int)) → aget T' 2 = some (.func (.func g) #[] bs.toArray) → aget T' 3 = some (ptrTo n) → aget T' 6 = some (.int .i64 (i / c)) → aget T' 7 = some (.int .i64 (i % c)) → aget T' 19 = some (.slice (some ⟨n + 1, 0, none⟩) 2 2) → aget T' 20 = some (.int .i64 2) → aget T' 21 = some (.int .i64 (k : Int)) →
          J H' A' → (∀ q, A' q → 0 < q ∧ (A q ∨ n + 2 ≤ q) ∧ q < n') → (∀ q, q < n + 2 → ¬ A q → aget H' q = aget H2 q) → Fresh H' n' → n + 2 ≤ n' → n' ≤ n + 2 + (k + 1) * (C + 1) → Q .normal { T := T', D := [], H := H', n := n' }) →
        (∀ T' H' n' A', J' H' A' → (∀ q, A' q → 0 < q ∧ (A q ∨ n + 2 ≤ q) ∧ q < n') → (∀ q, q < n + 2 → ¬ A q → aget H' q = aget H2 q) → Fresh H' n' → n + 2 ≤ n' → n' ≤ n + 2 + (k + 1) * (C + 1) → Q .ret { T := T', D := [], H := H', n := n' }) →
      WC Tryz.prog [0] 55 n (.seq (.steps [⟨.loadN 7, [.tmp 3], some 40, none⟩, ⟨.move, [.tmp 1], some 41, none⟩, ⟨.loadN 3, [.tmp 10], some 42, none⟩, ⟨.callF 43, [.tmp 40, .tmp 41, .tmp 42], some 43, none⟩, ⟨.move, [.tmp 43], some 39, none⟩, ⟨.extract 0, [.tmp 39], some 44, none⟩, ⟨.extract 1, [.tmp 39], some 45, none⟩, ⟨.move, [.tmp 44], some 11, none⟩, ⟨.move, [.tmp 45], some 12, none⟩]) (
        .seq (.steps [⟨.move, [.tmp 12], some 46, none⟩, ⟨.move, [.tmp 46], some 47, none⟩, ⟨.move, [.tmp 2], some 48, some (47, true)⟩, ⟨.loadN 3, [.tmp 10], some 49, some (47, true)⟩, ⟨.move, [.tmp 11], some 50, some (47, true)⟩, ⟨.callV, [.tmp 48, .tmp 49, .tmp 50], some 51, some (47, true)⟩, ⟨.un .not, [.tmp 51], some 52, some (47, true)⟩, ⟨.pick, [.tmp 47, .tmp 52, .const (.bool false)], some 53, none⟩]) (
        .cond (.tmp 53) (.ret) (.skip)))) Q { T := T, D := [], H := H4, n := nk + 1 } := by
    intro T q1 q2 q3 q6 q7 q10 q19 q20 q21 Q hN hR
    refine WC_live (live1 1 q1 (live1 2 q2 (live1 3 q3 (live1 6 q6 (live1 7 q7 (live1 10 q10 (live1 19 q19 (live1 20 q20 (live1 21 q21 live0))))))))) ?_
    refine WC_go hE hm ?_
    refine xR (v := tableV r c l w p q f) rfl rfl rfl (loadBox (xs := tcells r c l w p q f) t4 rfl) ?_
    refine xP rfl rfl rfl rfl ?_
    refine xR (v := .agg (cardV (i / c, i % c, tn)).toArray) rfl rfl rfl (loadBox (xs := cardV (i / c, i % c, tn)) d1 rfl) ?_
    refine xC rfl rfl rfl rfl (f43 r c l w p q f b (i / c) (i % c) tn ok hb hdv.1 hdv.2 g4) ?_
    rintro _ H4 _ ⟨⟨b', is, hb', rfl, hgo⟩, rfl, rfl⟩
    refine xP rfl rfl rfl rfl ?_
    refine xP rfl rfl rfl rfl ?_
    refine xP rfl rfl rfl rfl ?_
    refine xP rfl rfl rfl rfl ?_
    refine xP rfl rfl rfl rfl ?_
    refine RX_nil ?_
    refine WC_live (live1 1 rfl (live1 2 rfl (live1 3 rfl (live1 6 rfl (live1 7 rfl (live1 10 rfl (live1 11 rfl (live1 12 rfl (live1 19 rfl (live1 20 rfl (live1 21 rfl live0))))))))))) ?_
    refine WC_go hE hm ?_
    refine xP rfl rfl rfl rfl ?_
    refine xP rfl rfl rfl rfl ?_
    cases is with
    | false =>
      refine xS rfl ?_
      refine xS rfl ?_
      refine xS rfl ?_
      refine xS rfl ?_
      refine xS rfl ?_
      refine xP (v := .bool false) rfl rfl rfl rfl ?_
      refine RX_nil ?_
      refine WC_condF rfl ?_
      refine WC_skip ?_
      refine hN _ _ _ Ak rfl rfl rfl rfl rfl rfl rfl rfl j4 (fun q hq => ?_) keep4 f4 (by omega) (by omega)
      obtain ⟨z1, z2, z3⟩ := hAk q hq
      exact ⟨z1, z2, by omega⟩
    | true =>
      have hgo := hgo rfl
      refine xP rfl rfl rfl rfl ?_
      refine xR (v := .agg (cardV (i / c, i % c, tn)).toArray) rfl rfl rfl (loadBox (xs := cardV (i / c, i % c, tn)) d1 rfl) ?_
      refine xP rfl rfl rfl rfl ?_
      refine xC (f := g) (args := [.agg (cardV (i / c, i % c, tn)).toArray, .int .u64 (b' : Int)] ++ bs) rfl rfl rfl rfl
        (hg (i / c, i % c, tn) b' H4 (nk + 1) Ak (next1_put ok ⟨i1, i2⟩ tn hb' i3 i4 hgo) (put_ok ok ⟨i1, i2⟩ tn hgo) j4 (fun q hq => ⟨(hAk q hq).1, by have := (hAk q hq).2.2; omega⟩) g4 f4 (by omega)) ?_
      rintro _ H5 n5 ⟨bo, rfl, A5, j5, hA5, k5, f5, l5, r5⟩
      have hA5' : ∀ q, A5 q → 0 < q ∧ (A q ∨ n + 2 ≤ q) ∧ q < n5 := fun q hq => by
        obtain ⟨z1, z2, z3⟩ := hA5 q hq
        refine ⟨z1, ?_, z3⟩
        rcases z2 with z2 | z2
        · exact (hAk q z2).2.1
        · right; omega
      have keep5 : ∀ q, q < n + 2 → ¬ A q → aget H5 q = aget H2 q := fun q h1 h2 => (k5 q (by omega) (fun h3 => by
        rcases (hAk q h3).2.1 with h | h
        · exact h2 h
        · omega)).trans (keep4 q h1 h2)
      cases bo with
      | true =>
        refine xP (v := .bool false) rfl rfl rfl rfl ?_
        refine xP (v := .bool false) rfl rfl rfl rfl ?_
        refine RX_nil ?_
        refine WC_condF rfl ?_
        refine WC_skip ?_
        exact hN _ _ _ A5 rfl rfl rfl rfl rfl rfl rfl rfl (by simpa using j5) hA5' keep5 f5 (by omega) (by omega)
      | false =>
        refine xP (v := .bool true) rfl rfl rfl rfl ?_
        refine xP (v := .bool true) rfl rfl rfl rfl ?_
        refine RX_nil ?_
        refine WC_condT rfl ?_
        refine WC_ret ?_
        exact hR _ _ _ A5 (by simpa using j5) hA5' keep5 f5 (by omega) (by omega)
  refine WC_seq ?_
  refine WC_go hE hm ?_
  refine xP rfl rfl rfl rfl ?_
  refine xP rfl rfl rfl rfl ?_
  cases tn with
  | false =>
    refine xS rfl ?_
    refine xS rfl ?_
    refine xS rfl ?_
    refine xS rfl ?_
    refine xS rfl ?_
    refine xS rfl ?_
    refine xS rfl ?_
    refine xP (v := .bool false) rfl rfl rfl rfl ?_
    refine RX_nil ?_
    refine WC_condF rfl ?_
    refine WC_skip ?_
    refine thenN ?_
    refine tail _ rfl rfl rfl rfl rfl rfl rfl rfl rfl _ (fun T' H' n' A' e1 e2 e3 e6 e7 e19 e20 e21 u1 u2 u3 u4 u5 u6 => ?_) (fun T' H' n' A' u1 u2 u3 u4 u5 u6 => ?_)
    · refine blockN ?_
      refine thenN ?_
      refine WC_live (live1 1 e1 (live1 2 e2 (live1 3 e3 (live1 6 e6 (live1 7 e7 (live1 19 e19 (live1 20 e20 (live1 21 e21 live0)))))))) ?_
      refine WC_steps hE hm ?_
      refine xAdd rfl rfl (by omega) ?_
      refine xP rfl rfl rfl rfl ?_
      refine RX_nil ?_
      exact thenN ⟨(k + 1, H', n'), ⟨by dsimp only; omega, ⟨A', u1, u2⟩, u3, u4, u5, u6⟩, by dsimp only; omega, Le.live (live1 1 rfl (live1 2 rfl (live1 3 rfl (live1 6 rfl (live1 7 rfl (live1 19 rfl (live1 20 rfl (live1 21 rfl live0))))))))⟩
    · refine blockR ?_
      refine thenR ?_
      refine thenR ?_
      refine blockR ?_
      refine endR rfl ?_
      exact fin (.inr u1) u2 u3 u4 u5 (by omega)
  | true =>
    refine xP rfl rfl rfl rfl ?_
    refine xP rfl rfl rfl rfl ?_
    refine xLdC (b := n) (o := 0 + 0 + 2) (v := .int .i64 l) (cellAt_of t4 rfl) rfl rfl ?_
    refine xP rfl rfl rfl rfl ?_
    refine xP rfl rfl rfl rfl ?_
    refine xLdC (b := n) (o := 0 + 0 + 3) (v := .int .i64 w) (cellAt_of t4 rfl) rfl rfl ?_
    refine xEq rfl rfl ?_ ?_ <;> intro hlw
    · refine xP (v := .bool true) rfl rfl rfl rfl ?_
      refine RX_nil ?_
      refine WC_condT rfl ?_
      refine WC_ret ?_
      refine thenR ?_
      refine blockR ?_
      refine thenR ?_
      refine thenR ?_
      refine blockR ?_
      refine endR rfl ?_
      exact fin (.inl j4) (fun q hq => ⟨(hAk q hq).1, (hAk q hq).2.1, by have := (hAk q hq).2.2; omega⟩) keep4 f4 (by omega) (by omega)
    · refine xP (v := .bool false) rfl rfl rfl rfl ?_
      refine RX_nil ?_
      refine WC_condF rfl ?_
      refine WC_skip ?_
      refine thenN ?_
      refine tail _ rfl rfl rfl rfl rfl rfl rfl rfl rfl _ (fun T' H' n' A' e1 e2 e3 e6 e7 e19 e20 e21 u1 u2 u3 u4 u5 u6 => ?_) (fun T' H' n' A' u1 u2 u3 u4 u5 u6 => ?_)
      · refine blockN ?_
        refine thenN ?_
        refine WC_live (live1 1 e1 (live1 2 e2 (live1 3 e3 (live1 6 e6 (live1 7 e7 (live1 19 e19 (live1 20 e20 (live1 21 e21 live0)))))))) ?_
        refine WC_steps hE hm ?_
        refine xAdd rfl rfl (by omega) ?_
        refine xP rfl rfl rfl rfl ?_
        refine RX_nil ?_
        exact thenN ⟨(k + 1, H', n'), ⟨by dsimp only; omega, ⟨A', u1, u2⟩, u3, u4, u5, u6⟩, by dsimp only; omega, Le.live (live1 1 rfl (live1 2 rfl (live1 3 rfl (live1 6 rfl (live1 7 rfl (live1 19 rfl (live1 20 rfl (live1 21 rfl live0))))))))⟩
      · refine blockR ?_
        refine thenR ?_
        refine thenR ?_
        refine blockR ?_
        refine endR rfl ?_
        exact fin (.inr u1) u2 u3 u4 u5 (by omega)
end Go.Proofs.YtnagcnlldllagaaGreatDoor
