/- A part of the proof that spadilletop.TopSharedCut answers true and leaves its argument as it was (bulk at most 1048576): D1. -/
import Derived.Test.YtnagcnlldllagaaGreatDoorC12
set_option linter.all false
/- The seat's eye. -/
set_option maxRecDepth 1000000
set_option maxHeartbeats 4000000
open Go Go.Cs
namespace Go.Proofs.YtnagcnlldllagaaGreatDoor
theorem e4 : compF Tryz.prog 4 = some (cApart 57 26 6 [.int .i64 0, .int .i64 0, .int .i64 0, .int .i64 0, .slice none 0 0, .int .i64 0] 29 30 31 32) := by kernel_rfl
theorem e29 : compF Tryz.prog 29 = some (cGreat 57) := by kernel_rfl
theorem e30 : compF Tryz.prog 30 = some (cLook 57) := by kernel_rfl
theorem e31 : compF Tryz.prog 31 = some (cSame 57) := by kernel_rfl
theorem e32 : compF Tryz.prog 32 = some (cAlike 31) := by kernel_rfl
theorem e35 : compF Tryz.prog 35 = some (cNum 3) := by kernel_rfl
theorem e62 : compF Tryz.prog 62 = some (cYes 3) := by kernel_rfl
theorem e40 : compF Tryz.prog 40 = some (cEvery 3 3) := by kernel_rfl
theorem e46 : compF Tryz.prog 46 = some (cEvery 1 3) := by kernel_rfl
theorem e10 : compF Tryz.prog 10 = some (cRow 40 41) := by kernel_rfl
theorem e16 : compF Tryz.prog 16 = some (cRow 46 35) := by kernel_rfl
theorem e9 : compF Tryz.prog 9 = some (cClo 10) := by kernel_rfl
theorem e24 : compF Tryz.prog 24 = some (cClo 10) := by kernel_rfl
theorem e15 : compF Tryz.prog 15 = some (cClo 16) := by kernel_rfl
theorem e17 : compF Tryz.prog 17 = some (cClo 16) := by kernel_rfl
theorem e27 : compF Tryz.prog 27 = some (cClo 16) := by kernel_rfl
theorem e34 : compF Tryz.prog 34 = some (cStruct [(0, 35), (1, 35), (2, 35), (3, 35)]) := by kernel_rfl
theorem e41 : compF Tryz.prog 41 = some (cStruct [(0, 35), (1, 35), (2, 62)]) := by kernel_rfl
theorem e6 : compF Tryz.prog 6 = some (cStruct [(0, 34), (4, 10), (5, 35)]) := by kernel_rfl

/-- A card's items. -/
def cardIts (q j : Nat) : List Cs.Item := [.int q j, .int q (j + 1), .bool q (j + 2)]
def tellCard (c : Cd) : List Int := [c.1, c.2.1, if c.2.2 then 1 else 0]
def valsN (f : Nat → List Int) : Nat → List Int
  | 0 => []
  | k + 1 => valsN f k ++ f k
def rowIts (q j m : Nat) : List Cs.Item := .len m :: itemsN (fun k => cardIts q (j + k * 3)) m
def numIts (q j m : Nat) : List Cs.Item := .len m :: itemsN (fun k => [.int q (j + k * 1)]) m
def tellRow (L : List Cd) : List Int := (L.length : Int) :: valsN (fun k => tellCard (L.getD k (0, 0, false))) L.length
def tellNums (L : List Int) : List Int := (L.length : Int) :: valsN (fun k => [L.getD k 0]) L.length
def xIts (b q j m : Nat) : List Cs.Item := [.int b (0 + 0), .int b (0 + 1), .int b (0 + 2), .int b (0 + 3)] ++ (rowIts q j m ++ ([.int b (0 + 5)] ++ []))
def xTell (r c l w k : Int) (L : List Cd) : List Int := [r, c, l, w] ++ (tellRow L ++ ([k] ++ []))

theorem tellsItems {H : Heap} {its : Nat → List Cs.Item} {f : Nat → List Int} : ∀ {m : Nat}, (∀ k, k < m → Tells H (its k) (f k)) → Tells H (itemsN its m) (valsN f m)
  | 0, _ => trivial
  | m + 1, h => Tells.join (tellsItems fun k hk => h k (by omega)) (h m (by omega))
theorem valsN_len {f : Nat → List Int} {e : Nat} (h : ∀ k, (f k).length = e) : ∀ m, (valsN f m).length = m * e
  | 0 => by simp [valsN]
  | m + 1 => by rw [valsN, List.length_append, valsN_len h m, h m, Nat.succ_mul]
theorem itemsN_len {f : Nat → List Cs.Item} {e : Nat} (h : ∀ k, (f k).length = e) : ∀ m, (itemsN f m).length = m * e
  | 0 => by simp [itemsN]
  | m + 1 => by rw [itemsN, List.length_append, itemsN_len h m, h m, Nat.succ_mul]
theorem mem_itemsN {f : Nat → List Cs.Item} {it : Cs.Item} : ∀ {m : Nat}, it ∈ itemsN f m → ∃ k, k < m ∧ it ∈ f k
  | 0, h => by cases h
  | m + 1, h => by
    rcases List.mem_append.1 h with h | h
    · obtain ⟨k, h1, h2⟩ := mem_itemsN h
      exact ⟨k, by omega, h2⟩
    · exact ⟨m, by omega, h⟩
theorem tellRow_len (L : List Cd) : (tellRow L).length = 1 + L.length * 3 := by
  simp only [tellRow, List.length_cons]
  rw [valsN_len (e := 3) (fun _ => rfl)]; omega
theorem rowIts_len (q j m : Nat) : (rowIts q j m).length = 1 + m * 3 := by
  simp only [rowIts, List.length_cons]
  rw [itemsN_len (e := 3) (fun _ => rfl)]; omega
theorem numIts_len (q j m : Nat) : (numIts q j m).length = 1 + m := by
  simp only [numIts, List.length_cons]
  rw [itemsN_len (e := 1) (fun _ => rfl)]; omega
theorem xTell_len (r c l w k : Int) (L : List Cd) : (xTell r c l w k L).length = 6 + L.length * 3 := by
  simp only [xTell, List.length_append, tellRow_len, List.length_cons, List.length_nil]; omega
/-- Where a row's items lie. -/
theorem rowIts_place {q j m : Nat} {it : Cs.Item} (h : it ∈ rowIts q j m) {q' j' : Nat} (hp : it.place = some (q', j')) : q' = q ∧ m ≠ 0 ∧ ∃ k d, k < m ∧ d < 3 ∧ j' = j + k * 3 + d := by
  rcases List.mem_cons.1 h with rfl | h
  · cases hp
  · obtain ⟨k, hk, h⟩ := mem_itemsN h
    simp only [cardIts, List.mem_cons, List.not_mem_nil, or_false] at h
    rcases h with rfl | rfl | rfl <;> simp only [Cs.Item.place, Option.some.injEq, Prod.mk.injEq] at hp <;> obtain ⟨rfl, rfl⟩ := hp
    · exact ⟨rfl, by omega, k, 0, hk, by omega, rfl⟩
    · exact ⟨rfl, by omega, k, 1, hk, by omega, rfl⟩
    · exact ⟨rfl, by omega, k, 2, hk, by omega, rfl⟩
theorem numIts_place {q j m : Nat} {it : Cs.Item} (h : it ∈ numIts q j m) {q' j' : Nat} (hp : it.place = some (q', j')) : q' = q ∧ m ≠ 0 ∧ ∃ k, k < m ∧ j' = j + k * 1 := by
  rcases List.mem_cons.1 h with rfl | h
  · cases hp
  · obtain ⟨k, hk, h⟩ := mem_itemsN h
    simp only [List.mem_cons, List.not_mem_nil, or_false] at h
    subst h
    simp only [Cs.Item.place, Option.some.injEq, Prod.mk.injEq] at hp
    obtain ⟨rfl, rfl⟩ := hp
    exact ⟨rfl, by omega, k, hk, rfl⟩
theorem xIts_place {b q j m : Nat} {it : Cs.Item} (h : it ∈ xIts b q j m) {q' j' : Nat} (hp : it.place = some (q', j')) : (q' = b ∧ j' < 6) ∨ (q' = q ∧ m ≠ 0 ∧ ∃ k d, k < m ∧ d < 3 ∧ j' = j + k * 3 + d) := by
  simp only [xIts, List.mem_append, List.mem_cons, List.not_mem_nil, or_false] at h
  rcases h with (rfl | rfl | rfl | rfl) | h | rfl
  all_goals first | exact .inr (rowIts_place h hp) | (simp only [Cs.Item.place, Option.some.injEq, Prod.mk.injEq] at hp; obtain ⟨rfl, rfl⟩ := hp; exact .inl ⟨rfl, by omega⟩)

abbrev See (f : FuncId) (a b : List Value) (its : List Cs.Item) (hdr : List (Nat × Nat × Value)) : Prop := Sees Tryz.prog [0] 3 f a b its hdr
theorem noHdr {P : Nat × Nat × Value → Prop} : ∀ x ∈ ([] : List (Nat × Nat × Value)), P x := fun _ h => by cases h
theorem seesCard (q j : Nat) (hdr : List (Nat × Nat × Value)) : See 41 [] [ptrAt q j] (cardIts q j) hdr := by
  refine Sees.more (hdr := []) ?_ noHdr
  refine struct_ok hE hm [(0, 35, [.int q (j + 0)]), (1, 35, [.int q (j + 1)]), (2, 62, [.bool q (j + 2)])] e41 noHdr ?_
  intro x hx
  simp only [List.mem_cons, List.not_mem_nil, or_false] at hx
  rcases hx with rfl | rfl | rfl
  · exact num_ok hE hm e35 q _
  · exact num_ok hE hm e35 q _
  · exact yes_ok hE hm e62 q _
theorem seesSheet (q : Nat) (hdr : List (Nat × Nat × Value)) : See 34 [] [ptrAt q (0 + 0)] [.int q (0 + 0), .int q (0 + 1), .int q (0 + 2), .int q (0 + 3)] hdr := by
  refine Sees.more (hdr := []) ?_ noHdr
  refine struct_ok hE hm [(0, 35, [.int q (0 + 0)]), (1, 35, [.int q (0 + 1)]), (2, 35, [.int q (0 + 2)]), (3, 35, [.int q (0 + 3)])] e34 noHdr ?_
  intro x hx
  simp only [List.mem_cons, List.not_mem_nil, or_false] at hx
  rcases hx with rfl | rfl | rfl | rfl <;> exact num_ok hE hm e35 q _
theorem seesRow {s : Value} {q j m b o : Nat} (hs : SliceAt s q j m) (hm' : m < 16777216) {hdr : List (Nat × Nat × Value)} (hh : ∀ x ∈ hdr, isHdr x.2.2 = true) (hin : (b, o, s) ∈ hdr) : See 10 [] [ptrAt b o] (rowIts q j m) hdr :=
  row_ok hE hm e10 hin (every_ok hE hm e40 hs hh hm' fun k _ => seesCard q (j + k * 3) hdr)
theorem seesNums {s : Value} {q j m b o : Nat} (hs : SliceAt s q j m) (hm' : m < 16777216) {hdr : List (Nat × Nat × Value)} (hh : ∀ x ∈ hdr, isHdr x.2.2 = true) (hin : (b, o, s) ∈ hdr) : See 16 [] [ptrAt b o] (numIts q j m) hdr :=
  row_ok hE hm e16 hin (every_ok hE hm e46 hs hh hm' fun k _ => (num_ok hE hm e35 q (j + k * 1)).more noHdr)
theorem hdr1 {b o : Nat} {s : Value} (h : isHdr s = true) : ∀ x ∈ [(b, o, s)], isHdr x.2.2 = true := by
  intro x hx
  rcases List.mem_cons.1 hx with rfl | hx
  · exact h
  · cases hx
theorem seesX {s : Value} {q j m b : Nat} (hs : SliceAt s q j m) (hm' : m < 16777216) (hh : isHdr s = true) : See 6 [] [ptrAt b 0] (xIts b q j m) [(b, 0 + 4, s)] := by
  refine struct_ok hE hm [(0, 34, [.int b (0 + 0), .int b (0 + 1), .int b (0 + 2), .int b (0 + 3)]), (4, 10, rowIts q j m), (5, 35, [.int b (0 + 5)])] e6 (hdr1 hh) ?_
  intro x hx
  simp only [List.mem_cons, List.not_mem_nil, or_false] at hx
  rcases hx with rfl | rfl | rfl
  · exact seesSheet b _
  · exact seesRow hs hm' (hdr1 hh) List.mem_cons_self
  · exact (num_ok hE hm e35 b _).more noHdr

/-! what is told -/
theorem tellsRow {H : Heap} {q j : Nat} {L : List Cd} (h : ∀ (k d : Nat) (c : Cd), L[k]? = some c → d < 3 → rdAt H q (j + k * 3 + d) = (cardV c)[d]?) : Tells H (rowIts q j L.length) (tellRow L) := by
  refine ⟨rfl, tellsItems fun k hk => ?_⟩
  have hc : L[k]? = some L[k] := List.getElem?_eq_getElem hk
  have hd : L.getD k (0, 0, false) = L[k] := by rw [List.getD_eq_getElem?_getD, hc]; rfl
  rw [hd]
  have h0 := h k 0 _ hc (by omega)
  have h1 := h k 1 _ hc (by omega)
  have h2 := h k 2 _ hc (by omega)
  rw [Nat.add_zero] at h0
  refine ⟨?_, ?_, ?_, trivial⟩
  · simp only [Cs.Item.tell, h0]; rfl
  · simp only [Cs.Item.tell, h1]; rfl
  · simp only [Cs.Item.tell, h2]; rfl
theorem tellsNums {H : Heap} {q j : Nat} {L : List Int} (h : ∀ (k : Nat) (x : Int), L[k]? = some x → rdAt H q (j + k * 1) = some (.int .i64 x)) : Tells H (numIts q j L.length) (tellNums L) := by
  refine ⟨rfl, tellsItems fun k hk => ?_⟩
  have hc : L[k]? = some L[k] := List.getElem?_eq_getElem hk
  have hd : L.getD k 0 = L[k] := by rw [List.getD_eq_getElem?_getD, hc]; rfl
  rw [hd]
  refine ⟨?_, trivial⟩
  simp only [Cs.Item.tell, h k _ hc]
theorem tellsX {H : Heap} {b q j : Nat} {r c l w k : Int} {s : Value} {L : List Cd} (hb : aget H b = some (.cells [.int .i64 r, .int .i64 c, .int .i64 l, .int .i64 w, s, .int .i64 k] 26 none)) (hr : Tells H (rowIts q j L.length) (tellRow L)) : Tells H (xIts b q j L.length) (xTell r c l w k L) := by
  have e : ∀ d, rdAt H b d = [Value.int .i64 r, .int .i64 c, .int .i64 l, .int .i64 w, s, .int .i64 k][d]? := by
    intro d; unfold rdAt; rw [hb]
  refine Tells.join (a := [.int b (0 + 0), .int b (0 + 1), .int b (0 + 2), .int b (0 + 3)]) (l1 := [r, c, l, w]) ⟨?_, ?_, ?_, ?_, trivial⟩ (Tells.join hr ⟨?_, trivial⟩)
  all_goals simp only [Cs.Item.tell, e]; rfl
theorem cards_get {L : List Cd} {k d : Nat} {c : Cd} (h : L[k]? = some c) (hd : d < 3) : (cardsV L)[0 + k * 3 + d]? = (cardV c)[d]? := by
  have h1 := (cards_at L k c h).1
  rw [← h1, List.getElem?_take, if_pos hd, List.getElem?_drop, Nat.zero_add]
theorem rd_cells' {H : Heap} {i : Nat} {cs : List Value} {t : TypeId} {gr : Option Nat} (h : aget H i = some (.cells cs t gr)) (d : Nat) : rdAt H i d = cs[d]? := by unfold rdAt; rw [h]
theorem cell_cells {H : Heap} {i : Nat} {cs : List Value} {t : TypeId} {gr : Option Nat} (h : aget H i = some (.cells cs t gr)) (d : Nat) : cellAt H i d = cs[d]? := by unfold cellAt; rw [h]
theorem rd_pin {H : Heap} {i off : Nat} {vs : List Value} {ob : Obj} (h : aget H i = some (.pin (List.replicate off none ++ vs.map some) ob)) (d : Nat) : rdAt H i (off + d) = vs[d]? := by
  have : (List.replicate off none ++ vs.map some : List (Option Value))[off + d]? = (vs.map some)[d]? := by
    rw [List.getElem?_append_right (by simp)]; simp
  unfold rdAt
  rw [h]
  simp only [this, List.getElem?_map]
  cases vs[d]? <;> rfl

/-! results -/
structure ResOk (H : Heap) (lo hi : Nat) (r : Res) (w : List Int) : Prop where
  sees : See r.f r.as r.bs r.its r.hdr
  small : r.its.length ≤ 200
  wr : WrAt H r.its
  seen : SeenAt H r.its r.hdr w (fun p => lo ≤ p ∧ p < hi)
theorem rs0 (H : Heap) (lo hi : Nat) : RsAt Tryz.prog [0] 3 H lo hi (.slice none 0 0) 0 0 [] [] 200 :=
  ⟨.nil 0 0, (by simp), fun _ _ h => (by simp at h), fun h => absurd rfl h, fun _ h => (by cases h), fun _ h => (by cases h), fun _ h => (by cases h), rfl, fun _ _ _ h => (by simp at h), fun _ _ _ _ _ h => (by simp at h)⟩
theorem rs1 {H : Heap} {lo hi q : Nat} {r : Res} {w : List Int} (h : ResOk H lo hi r w) (hc : cellAt H q 0 = some r.clo) (hq : lo ≤ q ∧ q < hi) : RsAt Tryz.prog [0] 3 H lo hi (.slice (some ⟨q, 0, none⟩) 1 1) q 0 [r] [w] 200 := by
  have one : ∀ (k : Nat) (r' : Res), [r][k]? = some r' → k = 0 ∧ r' = r := by
    intro k r' h
    cases k with
    | zero => cases h; exact ⟨rfl, rfl⟩
    | succ k => simp at h
  refine ⟨.mk q 0 1 1, by simp, fun k r' hk => ?_, fun _ => hq, fun r' hr => ?_, fun r' hr => ?_, fun r' hr => ?_, rfl, fun k r' w' hk hw => ?_, fun k k' r1 r2 hne h1 h2 => ?_⟩
  · obtain ⟨rfl, rfl⟩ := one k r' hk; exact hc
  · rw [List.mem_singleton.1 hr]; exact h.sees
  · rw [List.mem_singleton.1 hr]; exact h.small
  · rw [List.mem_singleton.1 hr]; exact h.wr
  · obtain ⟨rfl, rfl⟩ := one k r' hk; cases hw; exact h.seen
  · exact absurd ((one k r1 h1).1.trans (one k' r2 h2).1.symm) hne
theorem rs2 {H : Heap} {lo hi q : Nat} {r r' : Res} {w w' : List Int} (h : ResOk H lo hi r w) (h' : ResOk H lo hi r' w') (hc : cellAt H q 0 = some r.clo) (hc' : cellAt H q 1 = some r'.clo) (hq : lo ≤ q ∧ q < hi)
    (hd : ∀ it ∈ r.its, ∀ it' ∈ r'.its, ∀ q j, it.place = some (q, j) → it'.place ≠ some (q, j)) : RsAt Tryz.prog [0] 3 H lo hi (.slice (some ⟨q, 0, none⟩) 2 2) q 0 [r, r'] [w, w'] 200 := by
  have two : ∀ (k : Nat) (x : Res), [r, r'][k]? = some x → (k = 0 ∧ x = r) ∨ (k = 1 ∧ x = r') := by
    intro k x h
    match k, h with
    | 0, h => cases h; exact .inl ⟨rfl, rfl⟩
    | 1, h => cases h; exact .inr ⟨rfl, rfl⟩
    | k + 2, h => simp at h
  have mem : ∀ x ∈ [r, r'], x = r ∨ x = r' := fun x hx => by simpa using hx
  refine ⟨.mk q 0 2 2, by simp, fun k x hk => ?_, fun _ => hq, fun x hx => ?_, fun x hx => ?_, fun x hx => ?_, rfl, fun k x y hk hw => ?_, fun k k' r1 r2 hne h1 h2 => ?_⟩
  · rcases two k x hk with ⟨rfl, rfl⟩ | ⟨rfl, rfl⟩
    · exact hc
    · exact hc'
  · rcases mem x hx with rfl | rfl
    · exact h.sees
    · exact h'.sees
  · rcases mem x hx with rfl | rfl
    · exact h.small
    · exact h'.small
  · rcases mem x hx with rfl | rfl
    · exact h.wr
    · exact h'.wr
  · rcases two k x hk with ⟨rfl, rfl⟩ | ⟨rfl, rfl⟩
    · cases hw; exact h.seen
    · cases hw; exact h'.seen
  · rcases two k r1 h1 with ⟨rfl, rfl⟩ | ⟨rfl, rfl⟩ <;> rcases two k' r2 h2 with ⟨rfl, rfl⟩ | ⟨rfl, rfl⟩
    · exact absurd rfl hne
    · exact hd
    · exact fun it hit it' hit' p j hp hp' => hd it' hit' it hit p j hp' hp
    · exact absurd rfl hne
/-- A row of cards as a result. -/
theorem resCards {H : Heap} {lo hi bx i : Nat} {f : FuncId} (hf : compF Tryz.prog f = some (cClo 10)) {L : List Cd} {t t2 : TypeId} {gr : Option Nat} (hL : L.length ≤ 64) (hbx : aget H bx = some (.cells [gsl i L.length] t2 none)) (hb : lo ≤ bx ∧ bx < hi)
    (hi' : L ≠ [] → aget H i = some (.cells (cardsV L) t gr) ∧ lo ≤ i ∧ i < hi) : ResOk H lo hi ⟨f, [], [ptrAt bx 0], rowIts i 0 L.length, [(bx, 0, gsl i L.length)]⟩ (tellRow L) := by
  have hh : isHdr (gsl i L.length) = true := by cases L.length <;> rfl
  have hne : ∀ {k : Nat} {c : Cd}, L[k]? = some c → L ≠ [] := by rintro k c h rfl; simp at h
  refine ⟨clo_ok hE hm hf (seesRow (.gsl i L.length) (by omega) (hdr1 hh) List.mem_cons_self), by rw [rowIts_len]; omega, ?_, tellsRow ?_, ?_, ?_⟩
  · intro it hit q j hp
    obtain ⟨rfl, h0, k, d, hk, hd, rfl⟩ := rowIts_place hit hp
    have hc : L[k]? = some L[k] := List.getElem?_eq_getElem hk
    rw [cell_cells (hi' (hne hc)).1, cards_get hc hd]
    exact ⟨_, List.getElem?_eq_getElem (show d < (cardV L[k]).length by exact hd)⟩
  · intro k d c hc hd
    rw [rd_cells' (hi' (hne hc)).1, cards_get hc hd]
  · intro it hit q j hp
    obtain ⟨rfl, h0, _⟩ := rowIts_place hit hp
    exact (hi' (by rintro rfl; exact h0 rfl)).2
  · intro x hx
    rw [List.mem_singleton.1 hx]
    exact ⟨rd_cells' hbx 0, hb, hh⟩
/-- A row of numbers as a result. -/
theorem resNums {H : Heap} {lo hi bx i : Nat} {f : FuncId} (hf : compF Tryz.prog f = some (cClo 16)) {L : List Int} {s : Value} {t t2 : TypeId} {gr : Option Nat} (hL : L.length ≤ 64) (hs : SliceAt s i 0 L.length) (hh : isHdr s = true) (hbx : aget H bx = some (.cells [s] t2 none)) (hb : lo ≤ bx ∧ bx < hi)
    (hi' : L ≠ [] → aget H i = some (.cells (ints L) t gr) ∧ lo ≤ i ∧ i < hi) : ResOk H lo hi ⟨f, [], [ptrAt bx 0], numIts i 0 L.length, [(bx, 0, s)]⟩ (tellNums L) := by
  have hne : ∀ {k : Nat} {x : Int}, L[k]? = some x → L ≠ [] := by rintro k c h rfl; simp at h
  have get : ∀ {k : Nat} {x : Int}, L[k]? = some x → (ints L)[0 + k * 1]? = some (.int .i64 x) := by
    intro k x h
    rw [Nat.zero_add, Nat.mul_one, ints, List.getElem?_map, h]; rfl
  refine ⟨clo_ok hE hm hf (seesNums hs (by omega) (hdr1 hh) List.mem_cons_self), by rw [numIts_len]; omega, ?_, tellsNums ?_, ?_, ?_⟩
  · intro it hit q j hp
    obtain ⟨rfl, h0, k, hk, rfl⟩ := numIts_place hit hp
    have hc : L[k]? = some L[k] := List.getElem?_eq_getElem hk
    rw [cell_cells (hi' (hne hc)).1, get hc]
    exact ⟨_, rfl⟩
  · intro k x hc
    rw [rd_cells' (hi' (hne hc)).1, get hc]
  · intro it hit q j hp
    obtain ⟨rfl, h0, _⟩ := numIts_place hit hp
    exact (hi' (by rintro rfl; exact h0 rfl)).2
  · intro x hx
    rw [List.mem_singleton.1 hx]
    exact ⟨rd_cells' hbx 0, hb, hh⟩
/-- The law's argument: its own copy. -/
def ArgX (r c l w k : Int) (L : List Cd) (H : Heap) (b : Nat) : Prop := ∃ i, aget H b = some (.cells [.int .i64 r, .int .i64 c, .int .i64 l, .int .i64 w, gsl i L.length, .int .i64 k] 26 none) ∧ (L ≠ [] → aget H i = some (.cells (cardsV L) 64 (some 3)) ∧ 0 < i ∧ i < b)
end Go.Proofs.YtnagcnlldllagaaGreatDoor

/- The seven calls. -/
set_option maxRecDepth 1000000
set_option maxHeartbeats 4000000
open Go Go.Cs
namespace Go.Proofs.YtnagcnlldllagaaGreatDoor
/-- What a call must do. -/
def CallOk (r c l w k : Int) (L : List Cd) (fc : FuncId) : Prop := ∀ (H : Heap) (n b : Nat), ArgX r c l w k L H b → aget H 0 = some gl → b < n → Fresh H n → n + 1000 < lim →
  F Tryz.prog [0] fc [ptrAt b 0] H n (fun v H' n' => ∃ q j rs ws, RsAt Tryz.prog [0] 3 H' n n' v q j rs ws 200 ∧ (∀ q, q < n → aget H' q = aget H q) ∧ Fresh H' n' ∧ n ≤ n' ∧ n' ≤ n + 1000)

/-- A call that takes no memory, over any heap. -/
theorem callNil {f : FuncId} {as1 : List Value} {R : Value → List (Nat × AObj) → Nat → Prop} (h : CT Tryz.prog [0] f as1 [(0, gl)] 1 R) (ha : ∀ σ, renL σ as1 = as1) {H : Heap} {n : Nat} (h0 : aget H 0 = some gl) (hb : ∀ v L' n', R v L' n' → n' ≤ 8 ∧ L'.lookup 0 = some gl) (hfr : Fresh H n) (hn : n + 8 < lim) (hn0 : 0 < n) :
    F Tryz.prog [0] f as1 H n (fun v H' n' => ∃ τ vs L' ns', R vs L' ns' ∧ v = renV τ vs ∧ (∀ j, 1 ≤ j → τ j = j - 1 + n) ∧ n' = n + (ns' - 1) ∧ 1 ≤ ns' ∧ Fresh H' n' ∧ (∀ j o, 1 ≤ j → L'.lookup j = some o → aget H' (j - 1 + n) = some (renO τ o)) ∧ ∀ q, q < n → aget H' q = aget H q) := by
  have hlim : lim = 999999000 := rfl
  have hbd : big = 1000000000 := rfl
  refine (h.callS [0] (H := H) (n := n) (args := as1) (ha _).symm (hGs rfl rfl rfl) rfl (fun j hj hl => ?_) (fun j hj hl => ?_) (by decide) (hh1 (o' := gl) h0 rfl hh0) (fun v L' n' hr => by have := (hb v L' n' hr).1; omega) hfr (by omega)).mono ?_
  · obtain rfl : j = 0 := by omega
    exact hn0
  · obtain rfl : j = 0 := by omega
    cases hl
  · rintro v H' n' ⟨vs, L', ns', hR, ⟨hv, hn', hle, hf, hat, hk⟩⟩
    obtain ⟨b1, b2⟩ := hb _ _ _ hR
    have hτ : ∀ j, 1 ≤ j → sigC (sigL [0]) 1 n j = j - 1 + n := by
      intro j hj
      simp only [sigC]
      cases hb' : Nat.blt j 1 with
      | true => rw [Nat.blt_eq] at hb'; omega
      | false => rfl
    refine ⟨sigC (sigL [0]) 1 n, vs, L', ns', hR, hv, hτ, hn', hle, hf, fun j o hj ho => ?_, fun q hq => ?_⟩
    · have := hat j o ho
      rwa [hτ j hj] at this
    · by_cases hq0 : q = 0
      · subst hq0
        have := hat 0 gl b2
        rw [show sigC (sigL [0]) 1 n 0 = 0 from rfl] at this
        rw [this, h0]; rfl
      · refine hk q hq fun j hj hl => ?_
        obtain rfl : j = 0 := by omega
        exact Ne.symm hq0

theorem ArgX.sheet {r c l w k : Int} {L : List Cd} {H : Heap} {b i : Nat} (h : aget H b = some (.cells [.int .i64 r, .int .i64 c, .int .i64 l, .int .i64 w, gsl i L.length, .int .i64 k] 26 none)) : semR (.loadN 4) [ptrAt b 0] H = some (sheetV r c l w) := by
  simp only [ptrAt, semR, rLoadN, h]
  rfl
theorem ld1 {H : Heap} {b o : Nat} {cs : List Value} {t : TypeId} {gr : Option Nat} {v : Value} (h : aget H b = some (.cells cs t gr)) (hv : cs[o]? = some v) : semR .load1 [ptrAt b o] H = some v := by
  simp only [ptrAt, semR, rLoad1, h]; exact hv
/-- The call of a function of a sheet and a row of cards. -/
theorem callArg {f : FuncId} {r c l w : Int} {L : List Cd} {R : Value → List (Nat × AObj) → Nat → Prop} (h : CT Tryz.prog [0] f [sheetV r c l w, gsl 1 L.length] (rowC L) 2 R) {H : Heap} {n i : Nat} (h0 : aget H 0 = some gl) (hi : L ≠ [] → aget H i = some (.cells (cardsV L) 64 (some 3)) ∧ 0 < i ∧ i < n)
    (hb : ∀ v L' n', R v L' n' → n' ≤ 8 ∧ L'.lookup 0 = some gl ∧ L'.lookup 1 = some (gob 64 3 (cardsV L) L.length)) (hfr : Fresh H n) (hn : n + 8 < lim) (hn0 : 0 < n) :
    F Tryz.prog [0] f [sheetV r c l w, gsl i L.length] H n (fun v H' n' => ∃ τ vs L' ns', R vs L' ns' ∧ v = renV τ vs ∧ (∀ j, 2 ≤ j → τ j = j - 2 + n) ∧ n' = n + (ns' - 2) ∧ 2 ≤ ns' ∧ Fresh H' n' ∧ (∀ j o, 2 ≤ j → L'.lookup j = some o → aget H' (j - 2 + n) = some (renO τ o)) ∧ ∀ q, q < n → aget H' q = aget H q) := by
  have hL : L.length ≠ 0 → L ≠ [] := by rintro h rfl; exact h rfl
  have e : gob 64 3 (cardsV L) L.length = rob (cardsV L) (some 3) L.length := by cases L <;> rfl
  have h' : CT Tryz.prog [0] f ([sheetV r c l w] ++ [rsl 1 L.length L.length]) (rowG (cardsV L) (some 3) L.length) 2 R := by
    rw [← rowC_rowG, ← gsl_rsl]; exact h
  rw [gsl_rsl]
  exact callRow h' (fun σ => rfl) h0 (fun hne => hi (hL hne)) (flats_cards L) (fun v L' n' hr => by have := hb v L' n' hr; rw [e] at this; exact this) hfr hn hn0
def cCards (f g : FuncId) : FC := FC.mk 15 (
  .seq (.steps [⟨.move, [.const (.slice none 0 0)], some 2, none⟩]) (
  .seq (.steps [⟨.move, [.tmp 0], some 6, none⟩,
    ⟨.nilCheck, [.tmp 6], some 7, none⟩,
    ⟨.fieldAddr 0, [.tmp 7], some 8, none⟩,
    ⟨.loadN 4, [.tmp 8], some 9, none⟩,
    ⟨.callF f, [.tmp 9], some 10, none⟩,
    ⟨.move, [.tmp 10], some 5, none⟩,
    ⟨.extract 0, [.tmp 5], some 11, none⟩,
    ⟨.extract 1, [.tmp 5], some 12, none⟩,
    ⟨.alloc 24 [.slice none 0 0], [], some 3, none⟩,
    ⟨.store 1, [.tmp 3, .tmp 11], none, none⟩,
    ⟨.move, [.tmp 12], some 4, none⟩]) (
  .seq (.steps [⟨.mkFunc (.func g) 0, [.tmp 3], some 13, none⟩,
    ⟨.buildSlice 38 1 [.nilFunc] [(0, 1)], [.tmp 13], some 14, none⟩,
    ⟨.move, [.tmp 14], some 2, none⟩]) (
  .ret)))) [.tmp 2]
def cNone (f : FuncId) : FC := FC.mk 12 (
  .seq (.steps [⟨.move, [.const (.slice none 0 0)], some 2, none⟩]) (
  .seq (.steps [⟨.move, [.tmp 0], some 3, none⟩,
    ⟨.nilCheck, [.tmp 3], some 4, none⟩,
    ⟨.fieldAddr 0, [.tmp 4], some 5, none⟩,
    ⟨.loadN 4, [.tmp 5], some 6, none⟩,
    ⟨.move, [.tmp 0], some 7, none⟩,
    ⟨.nilCheck, [.tmp 7], some 8, none⟩,
    ⟨.fieldAddr 4, [.tmp 8], some 9, none⟩,
    ⟨.load1, [.tmp 9], some 10, none⟩,
    ⟨.callF f, [.tmp 6, .tmp 10], some 11, none⟩]) (
  .seq (.steps [⟨.move, [.const (.slice none 0 0)], some 2, none⟩]) (
  .ret)))) [.tmp 2]
def c13 : FC := FC.mk 22 (
  .seq (.steps [⟨.move, [.const (.slice none 0 0)], some 2, none⟩]) (
  .seq (.drawn [(0, ⟨.move, [.tmp 0], some 7, none⟩),
    (1, ⟨.nilCheck, [.tmp 7], some 8, none⟩),
    (2, ⟨.fieldAddr 0, [.tmp 8], some 9, none⟩),
    (3, ⟨.loadN 4, [.tmp 9], some 10, none⟩),
    (4, ⟨.move, [.tmp 0], some 11, none⟩),
    (5, ⟨.nilCheck, [.tmp 11], some 12, none⟩),
    (6, ⟨.fieldAddr 4, [.tmp 12], some 13, none⟩),
    (7, ⟨.load1, [.tmp 13], some 14, none⟩),
    (13, ⟨.alloc 41 [.slice none 0 0], [], some 3, none⟩),
    (14, ⟨.alloc 41 [.slice none 0 0], [], some 4, none⟩),
    (8, ⟨.callF 14, [.tmp 10, .tmp 14], some 15, none⟩),
    (9, ⟨.move, [.tmp 15], some 6, none⟩),
    (10, ⟨.extract 0, [.tmp 6], some 16, none⟩),
    (11, ⟨.extract 1, [.tmp 6], some 17, none⟩),
    (12, ⟨.extract 2, [.tmp 6], some 18, none⟩),
    (15, ⟨.store 1, [.tmp 3, .tmp 16], none, none⟩),
    (16, ⟨.store 1, [.tmp 4, .tmp 17], none, none⟩),
    (17, ⟨.move, [.tmp 18], some 5, none⟩)] [0, 1, 3, 7, 0, 16, 48, 112, 255, 511, 1023, 1023, 1023, 0, 0, 26623, 61439, 131071]) (
  .seq (.steps [⟨.mkFunc (.func 15) 0, [.tmp 3], some 19, none⟩,
    ⟨.mkFunc (.func 17) 0, [.tmp 4], some 20, none⟩,
    ⟨.buildSlice 38 2 [.nilFunc, .nilFunc] [(0, 1), (1, 1)], [.tmp 19, .tmp 20], some 21, none⟩,
    ⟨.move, [.tmp 21], some 2, none⟩]) (
  .ret)))) [.tmp 2]
theorem c13_ok : compF Tryz.prog 13 = some c13 := by kernel_rfl
def c25 : FC := FC.mk 19 (
  .seq (.steps [⟨.move, [.const (.slice none 0 0)], some 2, none⟩]) (
  .seq (.drawn [(0, ⟨.move, [.tmp 0], some 6, none⟩),
    (1, ⟨.nilCheck, [.tmp 6], some 7, none⟩),
    (2, ⟨.fieldAddr 0, [.tmp 7], some 8, none⟩),
    (3, ⟨.loadN 4, [.tmp 8], some 9, none⟩),
    (4, ⟨.move, [.tmp 0], some 10, none⟩),
    (5, ⟨.nilCheck, [.tmp 10], some 11, none⟩),
    (6, ⟨.fieldAddr 5, [.tmp 11], some 12, none⟩),
    (7, ⟨.load1, [.tmp 12], some 13, none⟩),
    (12, ⟨.alloc 41 [.slice none 0 0], [], some 3, none⟩),
    (8, ⟨.callF 26, [.tmp 9, .tmp 13], some 14, none⟩),
    (9, ⟨.move, [.tmp 14], some 5, none⟩),
    (10, ⟨.extract 0, [.tmp 5], some 15, none⟩),
    (11, ⟨.extract 1, [.tmp 5], some 16, none⟩),
    (13, ⟨.store 1, [.tmp 3, .tmp 15], none, none⟩),
    (14, ⟨.move, [.tmp 16], some 4, none⟩)] [0, 1, 3, 7, 0, 16, 48, 112, 255, 511, 1023, 1023, 0, 6143, 16383]) (
  .seq (.steps [⟨.mkFunc (.func 27) 0, [.tmp 3], some 17, none⟩,
    ⟨.buildSlice 38 1 [.nilFunc] [(0, 1)], [.tmp 17], some 18, none⟩,
    ⟨.move, [.tmp 18], some 2, none⟩]) (
  .ret)))) [.tmp 2]
theorem c25_ok : compF Tryz.prog 25 = some c25 := by kernel_rfl
theorem callCards {r c l w k : Int} {L : List Cd} {f g fc : FuncId} (hc : compF Tryz.prog fc = some (cCards f g)) (hf : CT Tryz.prog [0] f [sheetV r c l w] [(0, gl)] 1 (fun v L' n' => ∃ (L : List Cd) (e : Int), L.length ≤ 64 ∧ v = .tuple #[gsl 1 L.length, .int .i64 e] ∧ L' = rowC L ∧ n' = 2)) (hg : compF Tryz.prog g = some (cClo 10)) : CallOk r c l w k L fc := by
  rintro H n b ⟨i, hx, hi⟩ h0 hb hfr hn
  have hlim : lim = 999999000 := rfl
  refine F_of_comp hc rfl ?_
  refine WC_go hE hm ?_
  refine xP rfl rfl rfl rfl ?_
  refine RX_nil ?_
  refine WC_live (live1 0 rfl live0) ?_
  refine WC_go hE hm ?_
  refine xP rfl rfl rfl rfl ?_
  refine xP rfl rfl rfl rfl ?_
  refine xP rfl rfl rfl rfl ?_
  refine xR (v := sheetV r c l w) rfl rfl rfl (ArgX.sheet hx) ?_
  refine xC rfl rfl rfl rfl (callNil hf (fun _ => rfl) h0 (by rintro _ _ _ ⟨L, e, h1, rfl, rfl, rfl⟩; exact ⟨by decide, rfl⟩) hfr (by omega) (by omega)) ?_
  rintro _ H1 n1 ⟨τ, _, _, _, ⟨L', e, hL', rfl, rfl, rfl⟩, rfl, hτ, hn1, _, f1, at1, kp1⟩
  obtain rfl : n1 = n + 1 := by omega
  have t1 : τ 1 = n := by have := hτ 1 (by omega); omega
  have hv : renV τ (.tuple #[gsl 1 L'.length, .int .i64 e]) = .tuple #[gsl n L'.length, .int .i64 e] := by
    show Value.tuple #[renV τ (gsl 1 L'.length), .int .i64 e] = _
    rw [renV_gsl, t1]
  rw [hv]
  have m1 : L' ≠ [] → aget H1 n = some (.cells (cardsV L') 64 (some 3)) := fun hne => by
    have := at1 1 _ (by omega) (show (rowC L').lookup 1 = some (gob 64 3 (cardsV L') L'.length) from rfl)
    rw [renO_gob _ (flats_cards _), gob_pos (by intro h; exact hne (List.length_eq_zero_iff.1 h))] at this
    rw [show 1 - 1 + n = n by omega] at this
    exact this
  refine xP rfl rfl rfl rfl ?_
  refine xP rfl rfl rfl rfl ?_
  refine xP rfl rfl rfl rfl ?_
  refine xNew (ob := .cells [.slice none 0 0] 24 none) (mk := .ptr) f1 (by omega) rfl rfl rfl rfl ?_
  intro H2 a1 a2 a3
  refine xStO (u := gsl n L'.length) [gsl n L'.length] a1 (by decide) (gsl_cells _ _) (gsl_cell1 _ _) rfl rfl rfl (by omega) ?_
  intro H3 b1 b2
  refine xP rfl rfl rfl rfl ?_
  refine RX_nil ?_
  refine WC_live (live1 3 rfl live0) ?_
  refine WC_go hE hm ?_
  refine xP rfl rfl rfl rfl ?_
  refine xNew (ob := .cells [.func (.func g) #[] #[ptrAt (n + 1) 0]] 38 none) (mk := .slice 1 1) (fun q h1 h2 => by rw [b2 q (by omega)]; exact a3 q h1 h2) (by omega) rfl rfl rfl rfl ?_
  intro H4 c1 c2 c3
  refine xP rfl rfl rfl rfl ?_
  refine RX_nil ?_
  refine WC_live (live1 2 rfl live0) ?_
  refine WC_ret ?_
  refine endR rfl ?_
  have o4 : ∀ q, q < n + 1 → aget H4 q = aget H1 q := fun q hq => (c2 q (by omega)).trans ((b2 q (by omega)).trans (a2 q (by omega)))
  refine ⟨n + 1 + 1, 0, _, _, rs1 (resCards (i := n) (bx := n + 1) hg hL' ((c2 _ (by omega)).trans b1) (by omega) (fun hne => ⟨(o4 n (by omega)).trans (m1 hne), by omega, by omega⟩)) (cell_cells c1 0) (by omega), fun q hq => (o4 q (by omega)).trans (kp1 q hq), c3, by omega, by omega⟩

theorem callNone {r c l w k : Int} {L : List Cd} {f fc : FuncId} {R : Value → List (Nat × AObj) → Nat → Prop} (hc : compF Tryz.prog fc = some (cNone f)) (hf : CT Tryz.prog [0] f [sheetV r c l w, gsl 1 L.length] (rowC L) 2 R) (hR : ∀ v L' n', R v L' n' → L' = rowC L ∧ n' = 2) : CallOk r c l w k L fc := by
  rintro H n b ⟨i, hx, hi⟩ h0 hb hfr hn
  have hlim : lim = 999999000 := rfl
  refine F_of_comp hc rfl ?_
  refine WC_go hE hm ?_
  refine xP rfl rfl rfl rfl ?_
  refine RX_nil ?_
  refine WC_live (live1 0 rfl live0) ?_
  refine WC_go hE hm ?_
  refine xP rfl rfl rfl rfl ?_
  refine xP rfl rfl rfl rfl ?_
  refine xP rfl rfl rfl rfl ?_
  refine xR (v := sheetV r c l w) rfl rfl rfl (ArgX.sheet hx) ?_
  refine xP rfl rfl rfl rfl ?_
  refine xP rfl rfl rfl rfl ?_
  refine xP rfl rfl rfl rfl ?_
  refine xR (v := gsl i L.length) rfl rfl rfl (ld1 (o := 0 + 4) hx rfl) ?_
  refine xC rfl rfl rfl rfl (callArg hf h0 (fun hne => by have := hi hne; exact ⟨this.1, this.2.1, by omega⟩) (by intro v L' n' h; obtain ⟨rfl, rfl⟩ := hR _ _ _ h; exact ⟨by decide, rfl, rfl⟩) hfr (by omega) (by omega)) ?_
  rintro v H1 n1 ⟨τ, vs, _, _, hr, _, hτ, hn1, _, f1, at1, kp1⟩
  obtain ⟨rfl, rfl⟩ := hR _ _ _ hr
  obtain rfl : n1 = n := by omega
  refine RX_nil ?_
  refine WC_live live0 ?_
  refine WC_go hE hm ?_
  refine xP rfl rfl rfl rfl ?_
  refine RX_nil ?_
  refine WC_live (live1 2 rfl live0) ?_
  refine WC_ret ?_
  refine endR rfl ?_
  exact ⟨0, 0, [], [], rs0 _ _ _, kp1, f1, by omega, by omega⟩

theorem call13 {r c l w k : Int} {L : List Cd} (hL : L.length ≤ 1048576) : CallOk r c l w k L 13 := by
  rintro H n b ⟨i, hx, hi⟩ h0 hb hfr hn
  have hlim : lim = 999999000 := rfl
  refine F_of_comp c13_ok rfl ?_
  refine WC_go hE hm ?_
  refine xP rfl rfl rfl rfl ?_
  refine RX_nil ?_
  refine WC_live (live1 0 rfl live0) ?_
  refine WC_goD hE hm ?_
  refine dX rfl (xP rfl rfl rfl rfl (RX_nil ?_))
  refine dX rfl (xP rfl rfl rfl rfl (RX_nil ?_))
  refine dX rfl (xP rfl rfl rfl rfl (RX_nil ?_))
  refine dR (v := sheetV r c l w) rfl rfl rfl (ArgX.sheet hx) ?_
  refine dX rfl (xP rfl rfl rfl rfl (RX_nil ?_))
  refine dX rfl (xP rfl rfl rfl rfl (RX_nil ?_))
  refine dX rfl (xP rfl rfl rfl rfl (RX_nil ?_))
  refine dR (v := gsl i L.length) rfl rfl rfl (ld1 (o := 0 + 4) hx rfl) ?_
  refine dNew (ob := .cells [.slice none 0 0] 41 none) (mk := .ptr) hfr (by omega) rfl rfl rfl rfl ?_
  intro H1 a1 a2 a3
  refine dNew (ob := .cells [.slice none 0 0] 41 none) (mk := .ptr) a3 (by omega) rfl rfl rfl rfl ?_
  intro H2 b1 b2 b3
  have o2 : ∀ q, q < n → aget H2 q = aget H q := fun q hq => (b2 q (by omega)).trans (a2 q (by omega))
  refine dC (f := 14) (args := [sheetV r c l w, gsl i L.length]) rfl rfl rfl rfl (callArg (f14 r c l w L hL) ((o2 0 (by omega)).trans h0) (fun hne => by have := hi hne; exact ⟨(o2 i (by omega)).trans this.1, this.2.1, by omega⟩) (by rintro _ _ _ ⟨m1, k1, m2, k2, e, h1, h2, h3, h4, rfl, rfl, rfl⟩; exact ⟨by decide, rfl, rfl⟩) b3 (by omega) (by omega)) ?_
  rintro _ H3 n3 ⟨τ, _, _, _, ⟨m1, k1, m2, k2, e, rfl, hk1, rfl, hk2, rfl, rfl, rfl⟩, rfl, hτ, hn3, _, f3, at3, kp3⟩
  obtain rfl : n3 = n + 4 := by omega
  have t2 : τ 2 = n + 2 := by have := hτ 2 (by omega); omega
  have t3 : τ 3 = n + 3 := by have := hτ 3 (by omega); omega
  have g1 : m1 ≠ [] → aget H3 (n + 2) = some (.cells (ints m1) 3 (some 1)) := fun hne => by
    have := at3 2 _ (by omega) (show (rowCC L m1 m1.length m2 m2.length).lookup 2 = some (gob 3 1 (ints m1) m1.length) from rfl)
    rw [renO_gob _ (flats_ints' _), gob_pos (by intro h; exact hne (List.length_eq_zero_iff.1 h))] at this
    rw [show 2 - 2 + (n + 1 + 1) = n + 2 by omega] at this
    exact this
  have g2 : m2 ≠ [] → aget H3 (n + 3) = some (.cells (ints m2) 3 (some 1)) := fun hne => by
    have := at3 3 _ (by omega) (show (rowCC L m1 m1.length m2 m2.length).lookup 3 = some (gob 3 1 (ints m2) m2.length) from rfl)
    rw [renO_gob _ (flats_ints' _), gob_pos (by intro h; exact hne (List.length_eq_zero_iff.1 h))] at this
    rw [show 3 - 2 + (n + 1 + 1) = n + 3 by omega] at this
    exact this
  have p1 : aget H3 n = some (.cells [.slice none 0 0] 41 none) := (kp3 n (by omega)).trans ((b2 n (by omega)).trans a1)
  have p2 : aget H3 (n + 1) = some (.cells [.slice none 0 0] 41 none) := (kp3 (n + 1) (by omega)).trans b1
  refine ⟨stabTwo ⟨13, ⟨.alloc 41 [.slice none 0 0], [], some 3, none⟩, .a [] (.cells [.slice none 0 0] 41 none) .ptr n⟩ ⟨14, ⟨.alloc 41 [.slice none 0 0], [], some 4, none⟩, .a [] (.cells [.slice none 0 0] 41 none) .ptr (n + 1)⟩ (by kernel_rfl) p1 p2, ?_⟩
  have hv : renV τ (.tuple #[gsl 2 m1.length, gsl 3 m2.length, .int .i64 e]) = .tuple #[gsl (n + 2) m1.length, gsl (n + 3) m2.length, .int .i64 e] := by
    show Value.tuple #[renV τ (gsl 2 m1.length), renV τ (gsl 3 m2.length), .int .i64 e] = _
    rw [renV_gsl, renV_gsl, t2, t3]
  rw [hv]
  refine dX rfl (xP rfl rfl rfl rfl (RX_nil ?_))
  refine dX rfl (xP rfl rfl rfl rfl (RX_nil ?_))
  refine dX rfl (xP rfl rfl rfl rfl (RX_nil ?_))
  refine dX rfl (xP rfl rfl rfl rfl (RX_nil ?_))
  refine dStC (b := n) (o := 0) (v0 := .slice none 0 0) (u := gsl (n + 2) m1.length) (cell_cells p1 0) (gsl_cells _ _) (gsl_cell1 _ _) rfl rfl (by omega) ?_
  intro H4 c1 c2 c3
  refine ⟨stabE (by kernel_rfl), ?_⟩
  refine dStC (b := n + 1) (o := 0) (v0 := .slice none 0 0) (u := gsl (n + 3) m2.length) (cell_cells ((c2 (n + 1) (by omega)).trans p2) 0) (gsl_cells _ _) (gsl_cell1 _ _) rfl rfl (by omega) ?_
  intro H5 d1 d2 d3
  refine ⟨stabE (by kernel_rfl), ?_⟩
  refine dX rfl (xP rfl rfl rfl rfl (RX_nil ?_))
  refine dNil ?_
  have q1 : aget H5 n = some (.cells [gsl (n + 2) m1.length] 41 none) := (d2 n (by omega)).trans (c3 _ _ _ p1)
  have q2 : aget H5 (n + 1) = some (.cells [gsl (n + 3) m2.length] 41 none) := d3 _ _ _ ((c2 (n + 1) (by omega)).trans p2)
  have o5 : ∀ q, q ≠ n → q ≠ n + 1 → aget H5 q = aget H3 q := fun q h1 h2 => (d2 q h2).trans (c2 q h1)
  refine WC_live (live1 3 rfl (live1 4 rfl live0)) ?_
  refine WC_go hE hm ?_
  refine xP rfl rfl rfl rfl ?_
  refine xP rfl rfl rfl rfl ?_
  refine xNew (ob := .cells [.func (.func 15) #[] #[ptrAt n 0], .func (.func 17) #[] #[ptrAt (n + 1) 0]] 38 none) (mk := .slice 2 2) (fun q h1 h2 => by rw [o5 q (by omega) (by omega)]; exact f3 q h1 h2) (by omega) rfl rfl rfl rfl ?_
  intro H6 r1 r2 r3
  refine xP rfl rfl rfl rfl ?_
  refine RX_nil ?_
  refine WC_live (live1 2 rfl live0) ?_
  refine WC_ret ?_
  refine endR rfl ?_
  have isH : ∀ j k, isHdr (gsl j k) = true := fun j k => by cases k <;> rfl
  refine ⟨n + 4, 0, _, _, rs2 (resNums (i := n + 2) (bx := n) e15 (by omega) (.gsl _ _) (isH _ _) ((r2 _ (by omega)).trans q1) (by omega) (fun hne => ⟨(r2 _ (by omega)).trans ((o5 _ (by omega) (by omega)).trans (g1 hne)), by omega, by omega⟩)) (resNums (i := n + 3) (bx := n + 1) e17 (by omega) (.gsl _ _) (isH _ _) ((r2 _ (by omega)).trans q2) (by omega) (fun hne => ⟨(r2 _ (by omega)).trans ((o5 _ (by omega) (by omega)).trans (g2 hne)), by omega, by omega⟩)) (cell_cells r1 0) (cell_cells r1 1) (by omega) ?_, fun q hq => (r2 q (by omega)).trans ((o5 q (by omega) (by omega)).trans ((kp3 q (by omega)).trans (o2 q hq))), r3, by omega, by omega⟩
  intro it hit it' hit' p j hp hp'
  have z1 := (numIts_place hit hp).1
  have z2 := (numIts_place hit' hp').1
  omega

theorem call25 {r c l w k : Int} {L : List Cd} : CallOk r c l w k L 25 := by
  rintro H n b ⟨i, hx, hi⟩ h0 hb hfr hn
  have hlim : lim = 999999000 := rfl
  refine F_of_comp c25_ok rfl ?_
  refine WC_go hE hm ?_
  refine xP rfl rfl rfl rfl ?_
  refine RX_nil ?_
  refine WC_live (live1 0 rfl live0) ?_
  refine WC_goD hE hm ?_
  refine dX rfl (xP rfl rfl rfl rfl (RX_nil ?_))
  refine dX rfl (xP rfl rfl rfl rfl (RX_nil ?_))
  refine dX rfl (xP rfl rfl rfl rfl (RX_nil ?_))
  refine dR (v := sheetV r c l w) rfl rfl rfl (ArgX.sheet hx) ?_
  refine dX rfl (xP rfl rfl rfl rfl (RX_nil ?_))
  refine dX rfl (xP rfl rfl rfl rfl (RX_nil ?_))
  refine dX rfl (xP rfl rfl rfl rfl (RX_nil ?_))
  refine dR (v := .int .i64 k) rfl rfl rfl (ld1 (o := 0 + 5) hx rfl) ?_
  refine dNew (ob := .cells [.slice none 0 0] 41 none) (mk := .ptr) hfr (by omega) rfl rfl rfl rfl ?_
  intro H1 a1 a2 a3
  refine dC (f := 26) (args := [sheetV r c l w, .int .i64 k]) rfl rfl rfl rfl (callNil (f26 r c l w k) (fun _ => rfl) ((a2 0 (by omega)).trans h0) (by rintro _ _ _ (⟨e, rfl, rfl, rfl⟩ | ⟨ms, h1, h2, rfl, rfl, rfl⟩) <;> exact ⟨by decide, rfl⟩) a3 (by omega) (by omega)) ?_
  rintro _ H3 n3 ⟨τ, vs, L3, ns3, hR, rfl, hτ, hn3, _, f3, at3, kp3⟩
  -- a row of numbers, either way
  obtain ⟨ms, s, i0, e, hms, hv, hs, hh, hcl, hcl1, hle1, hle2, hrow⟩ : ∃ (ms : List Int) (s : Value) (i0 : Nat) (e : Int), ms.length ≤ 6 ∧ renV τ vs = .tuple #[s, .int .i64 e] ∧ SliceAt s i0 0 ms.length ∧ isHdr s = true ∧ s.cells.toList = [s] ∧ cell1 s = true ∧ n + 1 ≤ n3 ∧ n3 ≤ n + 2 ∧ (ms ≠ [] → aget H3 i0 = some (.cells (ints ms) 3 none) ∧ n < i0 ∧ i0 < n3) := by
    rcases hR with ⟨e, rfl, rfl, rfl⟩ | ⟨ms, h1, h2, rfl, rfl, rfl⟩
    · exact ⟨[], .slice none 0 0, 0, e, by decide, rfl, .nil _ _, rfl, rfl, rfl, by omega, by omega, fun h => absurd rfl h⟩
    · have t1 : τ 1 = n + 1 := by have := hτ 1 (by omega); omega
      refine ⟨ms, .slice (some ⟨n + 1, 0, none⟩) ms.length ms.length, n + 1, 0, by omega, by rw [h1]; show Value.tuple #[.slice (some ⟨τ 1, 0, none⟩) k.toNat k.toNat, .int .i64 0] = _; rw [t1], .mk _ _ _ _, rfl, rfl, rfl, by omega, by omega, fun _ => ⟨?_, by omega, by omega⟩⟩
      have := at3 1 _ (by omega) (show (rowI ms).lookup 1 = some (.cells (ints ms) 3 none) from rfl)
      rw [show 1 - 1 + (n + 1) = n + 1 by omega] at this
      rw [this]
      simp only [renO, renL_flat _ (flats_ints' ms)]
  clear hR at3 hτ hn3
  have p1 : aget H3 n = some (.cells [.slice none 0 0] 41 none) := (kp3 n (by omega)).trans a1
  refine ⟨stabOne ⟨12, ⟨.alloc 41 [.slice none 0 0], [], some 3, none⟩, .a [] (.cells [.slice none 0 0] 41 none) .ptr n⟩ (by kernel_rfl) p1, ?_⟩
  rw [hv]
  refine dX rfl (xP rfl rfl rfl rfl (RX_nil ?_))
  refine dX rfl (xP rfl rfl rfl rfl (RX_nil ?_))
  refine dX rfl (xP rfl rfl rfl rfl (RX_nil ?_))
  refine dStC (b := n) (o := 0) (v0 := .slice none 0 0) (u := s) (cell_cells p1 0) hcl hcl1 rfl rfl (by omega) ?_
  intro H4 c1 c2 c3
  refine ⟨stabE (by kernel_rfl), ?_⟩
  refine dX rfl (xP rfl rfl rfl rfl (RX_nil ?_))
  refine dNil ?_
  have q1 : aget H4 n = some (.cells [s] 41 none) := c3 _ _ _ p1
  refine WC_live (live1 3 rfl live0) ?_
  refine WC_go hE hm ?_
  refine xP rfl rfl rfl rfl ?_
  refine xNew (ob := .cells [.func (.func 27) #[] #[ptrAt n 0]] 38 none) (mk := .slice 1 1) (fun q h1 h2 => by rw [c2 q (by omega)]; exact f3 q h1 h2) (by omega) rfl rfl rfl rfl ?_
  intro H6 r1 r2 r3
  refine xP rfl rfl rfl rfl ?_
  refine RX_nil ?_
  refine WC_live (live1 2 rfl live0) ?_
  refine WC_ret ?_
  refine endR rfl ?_
  refine ⟨n3, 0, _, _, rs1 (resNums (i := i0) (bx := n) e27 (by omega) hs hh ((r2 _ (by omega)).trans q1) (by omega) (fun hne => by obtain ⟨y1, y2, y3⟩ := hrow hne; exact ⟨(r2 _ (by omega)).trans ((c2 _ (by omega)).trans y1), by omega, by omega⟩)) (cell_cells r1 0) (by omega), fun q hq => (r2 q (by omega)).trans ((c2 q (by omega)).trans ((kp3 q (by omega)).trans (a2 q (by omega)))), r3, by omega, by omega⟩
end Go.Proofs.YtnagcnlldllagaaGreatDoor
