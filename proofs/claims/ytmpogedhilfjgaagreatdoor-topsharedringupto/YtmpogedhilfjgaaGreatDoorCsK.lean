/- A part of the proof that the law spadilletop.TopSharedRing answers true and leaves its argument as it was (CsK) -/
import Derived.Test.YtmpogedhilfjgaaGreatDoorCsI
set_option linter.all false
set_option maxRecDepth 1000000
namespace Go.Cs
def ptrAt (b o : Nat) : Value := .pointer (some ⟨b, o, none⟩)
def cellAt (H : Heap) (q j : Nat) : Option Value := match aget H q with
  | some (.cells cs _ _) => cs[j]?
  | _ => none
def rdAt (H : Heap) (q j : Nat) : Option Value := match aget H q with
  | some (.cells cs _ _) => cs[j]?
  | some (.pin cs _) => match cs[j]? with
    | some (some v) => some v
    | _ => none
  | _ => none
def lim : Nat := 999999999999999000
def Fresh (H : Heap) (n : Nat) : Prop := ∀ q, n ≤ q → q < lim → aget H q = none
theorem cellAt_some {H : Heap} {q j : Nat} {v : Value} (h : cellAt H q j = some v) : ∃ cs t g, aget H q = some (.cells cs t g) ∧ cs[j]? = some v := by
  unfold cellAt at h
  split at h
  · rename_i cs t g hg; exact ⟨cs, t, g, hg, h⟩
  · cases h
theorem cellAt_of {H : Heap} {q j : Nat} {v : Value} {cs : List Value} {t : TypeId} {g : Option Nat} (h : aget H q = some (.cells cs t g)) (hv : cs[j]? = some v) : cellAt H q j = some v := by
  unfold cellAt; rw [h]; exact hv
theorem cellAt_congr {H H' : Heap} {q : Nat} (h : aget H' q = aget H q) (j : Nat) : cellAt H' q j = cellAt H q j := by unfold cellAt; rw [h]
theorem rdAt_congr {H H' : Heap} {q : Nat} (h : aget H' q = aget H q) (j : Nat) : rdAt H' q j = rdAt H q j := by unfold rdAt; rw [h]
theorem rd_of_cell {H : Heap} {q j : Nat} {v : Value} (h : cellAt H q j = some v) : rdAt H q j = some v := by
  obtain ⟨cs, t, g, h1, h2⟩ := cellAt_some h
  unfold rdAt; rw [h1]; exact h2
theorem cell_of_rd {H : Heap} {q j : Nat} {v u : Value} (h : cellAt H q j = some v) (k : rdAt H q j = some u) : cellAt H q j = some u := by
  rw [rd_of_cell h] at k; rw [h, k]
section
variable {P : Program} {G : List Nat} {E : Env} {N n0 : Nat} {r : List Step} {Q : St → Prop} {as : List Operand} {d : Option Tmp} {g : Option (Tmp × Bool)} {L : List (Nat × Value)} {D : List Value} {H : Heap} {n : Nat}
theorem xLdC {v : Value} {b o : Nat} (hc : cellAt H b o = some v) (hw : wantT (.lst L) g = some true) (ha : evs G (.lst L) as = some [.pointer (some ⟨b, o, none⟩)])
    (h : RX P G E r Q { T := .lst (putL d v L), D := D, H := H, n := n }) : RX P G E (⟨.load1, as, d, g⟩ :: r) Q { T := .lst L, D := D, H := H, n := n } := by
  obtain ⟨cs, t, gr, h1, h2⟩ := cellAt_some hc
  exact xLd hw ha h1 h2 h
theorem xLdR {v : Value} {b o : Nat} (hc : rdAt H b o = some v) (hw : wantT (.lst L) g = some true) (ha : evs G (.lst L) as = some [.pointer (some ⟨b, o, none⟩)])
    (h : RX P G E r Q { T := .lst (putL d v L), D := D, H := H, n := n }) : RX P G E (⟨.load1, as, d, g⟩ :: r) Q { T := .lst L, D := D, H := H, n := n } :=
  xR (v := v) rfl hw ha (by
    simp only [semR, rLoad1]
    unfold rdAt at hc
    split at hc <;> rename_i hg <;> simp only [hg]
    · exact hc
    · exact hc
    · cases hc) h
theorem splice_at {cs : List Value} {o : Nat} {u : Value} (h : o < cs.length) (j : Nat) : (splice cs o [u])[j]? = if j = o then some u else cs[j]? := by
  simp only [splice, List.length_cons, List.length_nil]
  by_cases h1 : j < o
  · rw [List.append_assoc, List.getElem?_append_left (by simp; omega), List.getElem?_take_of_lt h1, if_neg (by omega)]
  · by_cases h2 : j = o
    · subst h2
      rw [List.append_assoc, List.getElem?_append_right (by simp; omega)]
      simp [Nat.min_eq_left (Nat.le_of_lt h)]
    · rw [List.getElem?_append_right (by simp; omega), if_neg h2]
      simp only [List.length_append, List.length_take, List.length_cons, List.length_nil, List.getElem?_drop]
      rw [Nat.min_eq_left (Nat.le_of_lt h)]
      congr 1
      omega
theorem xStC3 {u v0 : Value} {b o : Nat} (hc : cellAt H b o = some v0) (hu : u.cells.toList = [u]) (hu1 : cell1 u = true) (hw : wantT (.lst L) g = some true) (ha : evs G (.lst L) as = some [.pointer (some ⟨b, o, none⟩), u]) (hn : n < lim)
    (h : ∀ H1 : Heap, (∀ q j, cellAt H1 q j = if q = b ∧ j = o then some u else cellAt H q j) → (∀ q, q ≠ b → aget H1 q = aget H q) → (v0 = u → aget H1 b = aget H b) → RX P G E r Q { T := .lst (putL d undef L), D := D, H := H1, n := n }) :
    RX P G E (⟨.store 1, as, d, g⟩ :: r) Q { T := .lst L, D := D, H := H, n := n } := by
  obtain ⟨cs, t, gr, h1, h2⟩ := cellAt_some hc
  have hlt : o < cs.length := (List.getElem?_eq_some_iff.1 h2).1
  refine xSt hw ha h1 hlt hu hu1 (by rw [Nat.blt_eq]; exact Nat.lt_trans hn (by decide)) (h _ (fun q j => ?_) (fun q hq => by rw [aget_aput, if_neg (Ne.symm hq)]) fun hvu => ?_)
  rotate_left
  · subst hvu
    rw [aget_aput, if_pos rfl, h1]
    congr 2
    apply List.ext_getElem?
    intro j
    rw [splice_at hlt]
    by_cases hj : j = o
    · rw [if_pos hj, hj, h2]
    · rw [if_neg hj]
  by_cases hq : b = q
  · subst hq
    have : cellAt (aput H b (.cells (splice cs o [u]) t gr)) b j = (splice cs o [u])[j]? := by unfold cellAt; rw [aget_aput, if_pos rfl]
    rw [this, splice_at hlt]
    have : cellAt H b j = cs[j]? := by unfold cellAt; rw [h1]
    rw [this]
    by_cases hj : j = o <;> simp [hj]
  · rw [if_neg (fun hh => hq hh.1.symm)]
    exact cellAt_congr (by rw [aget_aput, if_neg hq]) j
theorem xStC {u v0 : Value} {b o : Nat} (hc : cellAt H b o = some v0) (hu : u.cells.toList = [u]) (hu1 : cell1 u = true) (hw : wantT (.lst L) g = some true) (ha : evs G (.lst L) as = some [.pointer (some ⟨b, o, none⟩), u]) (hn : n < lim)
    (h : ∀ H1 : Heap, (∀ q j, cellAt H1 q j = if q = b ∧ j = o then some u else cellAt H q j) → (∀ q, q ≠ b → aget H1 q = aget H q) → RX P G E r Q { T := .lst (putL d undef L), D := D, H := H1, n := n }) :
    RX P G E (⟨.store 1, as, d, g⟩ :: r) Q { T := .lst L, D := D, H := H, n := n } := xStC3 hc hu hu1 hw ha hn fun H1 a b _ => h H1 a b
theorem Fresh.at {H : Heap} {n : Nat} (h : Fresh H n) (hn : n < lim) : aget H n = none := h n (Nat.le_refl _) hn
theorem blt_lim {n : Nat} (h : n < lim) : Nat.blt n big = true := by rw [Nat.blt_eq]; exact Nat.lt_trans h (by decide)
theorem xNew {ob : AObj} {mk : Mk} {k : Kind} {vs : List Value} (hfr : Fresh H n) (hn : n < lim) (hc : k.cls = .A) (hw : wantT (.lst L) g = some true) (ha : evs G (.lst L) as = some vs) (hv : semA k vs = some (ob, mk))
    (h : ∀ H1 : Heap, aget H1 n = some ob → (∀ q, q ≠ n → aget H1 q = aget H q) → Fresh H1 (n + 1) → RX P G E r Q { T := .lst (putL d (mk.val n) L), D := D, H := H1, n := n + 1 }) :
    RX P G E (⟨k, as, d, g⟩ :: r) Q { T := .lst L, D := D, H := H, n := n } :=
  xA hc hw ha hv (hfr.at hn) (blt_lim hn) (h _ (by simp [aget_aput]) (fun q hq => by rw [aget_aput, if_neg (Ne.symm hq)]) fun q h1 h2 => by rw [aget_aput, if_neg (by omega)]; exact hfr q (by omega) h2)
end
structure EyeAt (t : TypeId) (H : Heap) (b o i : Nat) (l : List Int) (mk : Bool) (at' : Int) : Prop where
  n : cellAt H b o = some (gsl i l.length)
  s : cellAt H b (o + 1) = some (.slice none 0 0)
  m : cellAt H b (o + 2) = some (.bool mk)
  a : cellAt H b (o + 3) = some (.int .i64 at')
  row : l ≠ [] → aget H i = some (.cells (ints l) t (some 1))
  out : l = [] → lim ≤ i
  ne : i ≠ b
def EyeCell (b o i q j : Nat) : Prop := (q = b ∧ o ≤ j ∧ j < o + 4) ∨ q = i
inductive Item where
  | len (k : Nat)
  | int (q j : Nat)
  | bool (q j : Nat)
def Item.place : Item → Option (Nat × Nat)
  | .len _ => none
  | .int q j => some (q, j)
  | .bool q j => some (q, j)
def Item.tell (H : Heap) : Item → Option Int
  | .len k => some k
  | .int q j => match rdAt H q j with
    | some (.int .i64 x) => some x
    | _ => none
  | .bool q j => match rdAt H q j with
    | some (.bool b) => some (if b then 1 else 0)
    | _ => none
def Tells (H : Heap) : List Item → List Int → Prop
  | [], [] => True
  | it :: its, x :: l => it.tell H = some x ∧ Tells H its l
  | _, _ => False
theorem Tells.length {H : Heap} : ∀ {its : List Item} {l : List Int}, Tells H its l → l.length = its.length
  | [], [], _ => rfl
  | _ :: _, _ :: _, h => by simp [Tells.length h.2]
  | [], _ :: _, h => h.elim
  | _ :: _, [], h => h.elim
theorem Tells.append {H : Heap} : ∀ {a b : List Item} {l : List Int}, Tells H (a ++ b) l → ∃ l1 l2, l = l1 ++ l2 ∧ Tells H a l1 ∧ Tells H b l2
  | [], b, l, h => ⟨[], l, rfl, trivial, h⟩
  | it :: a, b, x :: l, h => by
    obtain ⟨l1, l2, rfl, h1, h2⟩ := Tells.append (a := a) h.2
    exact ⟨x :: l1, l2, rfl, ⟨h.1, h1⟩, h2⟩
  | _ :: _, _, [], h => h.elim
theorem Tells.join {H : Heap} : ∀ {a b : List Item} {l1 l2 : List Int}, Tells H a l1 → Tells H b l2 → Tells H (a ++ b) (l1 ++ l2)
  | [], b, [], l2, _, h => h
  | it :: a, b, x :: l, l2, h1, h2 => ⟨h1.1, Tells.join h1.2 h2⟩
  | [], _, _ :: _, _, h, _ => h.elim
  | _ :: _, _, [], _, h, _ => h.elim
def SameK (a b : Option Value) : Prop := a = b ∨ (∃ x y, a = some (.int .i64 x) ∧ b = some (.int .i64 y)) ∨ ∃ x y, a = some (.bool x) ∧ b = some (.bool y)
theorem SameK.refl (a : Option Value) : SameK a a := .inl rfl
theorem SameK.trans {a b c : Option Value} (h : SameK a b) (k : SameK b c) : SameK a c := by
  rcases h with rfl | ⟨x, y, rfl, rfl⟩ | ⟨x, y, rfl, rfl⟩
  · exact k
  · rcases k with rfl | ⟨x', y', h1, rfl⟩ | ⟨x', y', h1, _⟩
    · exact .inr (.inl ⟨_, _, rfl, rfl⟩)
    · exact .inr (.inl ⟨_, _, rfl, rfl⟩)
    · cases h1
  · rcases k with rfl | ⟨x', y', h1, _⟩ | ⟨x', y', h1, rfl⟩
    · exact .inr (.inr ⟨_, _, rfl, rfl⟩)
    · cases h1
    · exact .inr (.inr ⟨_, _, rfl, rfl⟩)
theorem SameK.tell {H H' : Heap} {it : Item} {x : Int} (h : it.tell H = some x) (hk : ∀ q j, it.place = some (q, j) → SameK (rdAt H q j) (rdAt H' q j)) : ∃ y, it.tell H' = some y := by
  cases it with
  | len k => exact ⟨_, rfl⟩
  | int q j =>
    simp only [Item.tell] at h ⊢
    rcases hk q j rfl with e | ⟨a, b, e1, e2⟩ | ⟨a, b, e1, e2⟩
    · rw [← e]; exact ⟨x, h⟩
    · rw [e2]; exact ⟨b, rfl⟩
    · rw [e1] at h; cases h
  | bool q j =>
    simp only [Item.tell] at h ⊢
    rcases hk q j rfl with e | ⟨a, b, e1, e2⟩ | ⟨a, b, e1, e2⟩
    · rw [← e]; exact ⟨x, h⟩
    · rw [e1] at h; cases h
    · rw [e2]; exact ⟨_, rfl⟩
theorem Tells.kind {H H' : Heap} : ∀ {its : List Item} {l : List Int}, Tells H its l → (∀ it ∈ its, ∀ q j, it.place = some (q, j) → SameK (rdAt H q j) (rdAt H' q j)) → ∃ l', Tells H' its l'
  | [], [], _, _ => ⟨[], trivial⟩
  | it :: its, x :: l, h, hk => by
    obtain ⟨y, hy⟩ := SameK.tell h.1 (hk it List.mem_cons_self)
    obtain ⟨l', hl⟩ := Tells.kind h.2 fun it h => hk it (List.mem_cons_of_mem _ h)
    exact ⟨y :: l', hy, hl⟩
  | [], _ :: _, h, _ => h.elim
  | _ :: _, [], h, _ => h.elim
theorem Tells.same {H H' : Heap} : ∀ {its : List Item} {l : List Int}, Tells H its l → (∀ it ∈ its, ∀ q j, it.place = some (q, j) → rdAt H' q j = rdAt H q j) → Tells H' its l
  | [], [], _, _ => trivial
  | it :: its, x :: l, h, hk => by
    refine ⟨?_, Tells.same h.2 fun it h => hk it (List.mem_cons_of_mem _ h)⟩
    have h1 := h.1
    cases it with
    | len k => exact h1
    | int q j => simp only [Item.tell, hk _ List.mem_cons_self q j rfl] at h1 ⊢; exact h1
    | bool q j => simp only [Item.tell, hk _ List.mem_cons_self q j rfl] at h1 ⊢; exact h1
  | [], _ :: _, h, _ => h.elim
  | _ :: _, [], h, _ => h.elim
structure SeeFr (mk : Bool) (its : List Item) (b o i n : Nat) (H H' : Heap) : Prop where
  same : ∀ q j, q < n → ¬ EyeCell b o i q j → (mk = true → ∀ it ∈ its, it.place ≠ some (q, j)) → rdAt H' q j = rdAt H q j ∧ cellAt H' q j = cellAt H q j
  cells : ∀ q j, q < n → ¬ EyeCell b o i q j → (∃ v, cellAt H q j = some v) → ∃ v, cellAt H' q j = some v
  kind : ∀ q j, q < n → ¬ EyeCell b o i q j → SameK (rdAt H q j) (rdAt H' q j)
  obj : ∀ q, q < n → q ≠ b → q ≠ i → (mk = true → ∀ it ∈ its, ∀ j, it.place ≠ some (q, j)) → aget H' q = aget H q
theorem SeeFr.trans {mk : Bool} {a c : List Item} {b o i i1 n n1 : Nat} {H H1 H2 : Heap} (h : SeeFr mk a b o i n H H1) (k : SeeFr mk c b o i1 n1 H1 H2) (hn : n ≤ n1) (hi : i1 = i ∨ n ≤ i1) : SeeFr mk (a ++ c) b o i n H H2 where
  same := by
    intro q j hq hne hm
    have : ¬ EyeCell b o i1 q j := by
      rintro (h2 | h2)
      · exact hne (.inl h2)
      · rcases hi with rfl | hi
        · exact hne (.inr h2)
        · omega
    have h1 := k.same q j (by omega) this fun h it hit => hm h it (List.mem_append_right _ hit)
    have h2 := h.same q j hq hne fun h it hit => hm h it (List.mem_append_left _ hit)
    exact ⟨h1.1.trans h2.1, h1.2.trans h2.2⟩
  cells := by
    intro q j hq hne hv
    have : ¬ EyeCell b o i1 q j := by
      rintro (h2 | h2)
      · exact hne (.inl h2)
      · rcases hi with rfl | hi
        · exact hne (.inr h2)
        · omega
    exact k.cells q j (by omega) this (h.cells q j hq hne hv)
  kind := by
    intro q j hq hne
    have : ¬ EyeCell b o i1 q j := by
      rintro (h2 | h2)
      · exact hne (.inl h2)
      · rcases hi with rfl | hi
        · exact hne (.inr h2)
        · omega
    exact (h.kind q j hq hne).trans (k.kind q j (by omega) this)
  obj := by
    intro q hq h1 h2 hm
    rw [k.obj q (by omega) h1 (by rcases hi with rfl | hi <;> omega) fun h it hit => hm h it (List.mem_append_right _ hit), h.obj q hq h1 h2 fun h it hit => hm h it (List.mem_append_left _ hit)]
structure SeePre (t : TypeId) (H : Heap) (n b o i : Nat) (l : List Int) (mk : Bool) (at' : Int) (its : List Item) (hdr : List (Nat × Nat × Value)) (w : List Int) : Prop where
  eye : EyeAt t H b o i l mk at'
  hb : b < n
  hi : l ≠ [] → i < n
  tells : Tells H its w
  out : ∀ it ∈ its, ∀ q j, it.place = some (q, j) → q < n ∧ ¬ EyeCell b o i q j
  hdr : ∀ x ∈ hdr, rdAt H x.1 x.2.1 = some x.2.2 ∧ x.1 < n ∧ ¬ EyeCell b o i x.1 x.2.1
  wr : mk = true → ∀ it ∈ its, ∀ q j, it.place = some (q, j) → ∃ v, cellAt H q j = some v
  fresh : Fresh H n
  room : n + 8 * its.length + 8 < lim
  size : l.length + its.length < 8589934592
def SeePost (t : TypeId) (H : Heap) (n b o i : Nat) (l : List Int) (mk : Bool) (at' : Int) (its : List Item) (w : List Int) (v : Value) (H' : Heap) (n' : Nat) : Prop :=
  v = .tuple #[] ∧ ∃ i' w' at2, EyeAt t H' b o i' (l ++ w') mk at2 ∧ w'.length = its.length ∧ (mk = false → w' = w ∧ at2 = at') ∧ (i' = i ∨ n ≤ i') ∧ (l ++ w' ≠ [] → i' < n') ∧ n ≤ n' ∧ n' ≤ n + 8 * its.length ∧ Fresh H' n' ∧ SeeFr mk its b o i n H H'
def Sees (P : Program) (G : List Nat) (t : TypeId) (f : FuncId) (as bs : List Value) (its : List Item) (hdr : List (Nat × Nat × Value)) : Prop :=
  ∀ H n b o i l mk at' w, SeePre t H n b o i l mk at' its hdr w → F P G f (as ++ ptrAt b o :: bs) H n (SeePost t H n b o i l mk at' its w)
def isHdr : Value → Bool
  | .int .. | .bool _ => false
  | _ => true
theorem hdr_out {H : Heap} {its : List Item} {w : List Int} (h : Tells H its w) {q j : Nat} {v : Value} (hv : rdAt H q j = some v) (hh : isHdr v = true) : ∀ it ∈ its, it.place ≠ some (q, j) := by
  induction its generalizing w with
  | nil => intro it hit; cases hit
  | cons a its ih =>
    cases w with
    | nil => exact h.elim
    | cons x w =>
      intro it hit
      rcases List.mem_cons.1 hit with rfl | hit
      · have h1 := h.1
        intro hp
        cases it with
        | len k => cases hp
        | int q' j' =>
          simp only [Item.place, Option.some.injEq, Prod.mk.injEq] at hp
          obtain ⟨rfl, rfl⟩ := hp
          simp only [Item.tell, hv] at h1
          cases v <;> first | (cases h1; done) | (cases hh; done) | skip
        | bool q' j' =>
          simp only [Item.place, Option.some.injEq, Prod.mk.injEq] at hp
          obtain ⟨rfl, rfl⟩ := hp
          simp only [Item.tell, hv] at h1
          cases v <;> first | (cases h1; done) | (cases hh; done) | skip
      · exact ih h.2 it hit
theorem SeePre.next {t : TypeId} {H H1 : Heap} {n n1 b o i i1 : Nat} {l w1' : List Int} {mk : Bool} {at' at1 : Int} {a c : List Item} {hdr : List (Nat × Nat × Value)} {w : List Int} (hp : SeePre t H n b o i l mk at' (a ++ c) hdr w) (hh : ∀ x ∈ hdr, isHdr x.2.2 = true)
    (he : EyeAt t H1 b o i1 (l ++ w1') mk at1) (hl : w1'.length = a.length) (hi : i1 = i ∨ n ≤ i1) (hi2 : l ++ w1' ≠ [] → i1 < n1) (hn : n ≤ n1) (hn2 : n1 ≤ n + 8 * a.length) (hfr : Fresh H1 n1) (hf : SeeFr mk a b o i n H H1) {w2 : List Int} (hw : Tells H c w2) :
    ∃ w2', (mk = false → w2' = w2) ∧ SeePre t H1 n1 b o i1 (l ++ w1') mk at1 c hdr w2' := by
  have noeye : ∀ q j, q < n → ¬ EyeCell b o i q j → ¬ EyeCell b o i1 q j := by
    intro q j hq hne
    rintro (h | h)
    · exact hne (.inl h)
    · rcases hi with rfl | hi
      · exact hne (.inr h)
      · omega
  obtain ⟨wa, wb, rfl, ha, hb⟩ := hp.tells.append
  obtain ⟨w2', h2⟩ : ∃ w2', Tells H1 c w2' ∧ (mk = false → w2' = w2) := by
    cases mk with
    | false => exact ⟨w2, hw.same fun it hit q j hq => (hf.same q j (hp.out it (List.mem_append_right _ hit) q j hq).1 (hp.out it (List.mem_append_right _ hit) q j hq).2 (fun h => by cases h)).1, fun _ => rfl⟩
    | true =>
      obtain ⟨l', hl'⟩ := hw.kind (H' := H1) fun it hit q j hq => hf.kind q j (hp.out it (List.mem_append_right _ hit) q j hq).1 (hp.out it (List.mem_append_right _ hit) q j hq).2
      exact ⟨l', hl', fun h => by cases h⟩
  have hr := hp.room
  have hs := hp.size
  simp only [List.length_append] at hr hs
  refine ⟨w2', h2.2, he, by have := hp.hb; omega, hi2, h2.1, ?_, ?_, ?_, hfr, by omega, by simp only [List.length_append]; omega⟩
  · intro it hit q j hq
    obtain ⟨h3, h4⟩ := hp.out it (List.mem_append_right _ hit) q j hq
    exact ⟨by omega, noeye q j h3 h4⟩
  · intro x hx
    obtain ⟨h3, h4, h5⟩ := hp.hdr x hx
    refine ⟨?_, by omega, noeye _ _ h4 h5⟩
    rw [(hf.same _ _ h4 h5 fun _ => hdr_out ha h3 (hh x hx)).1]
    exact h3
  · intro hm it hit q j hq
    obtain ⟨h3, h4⟩ := hp.out it (List.mem_append_right _ hit) q j hq
    exact hf.cells q j h3 h4 (hp.wr hm it (List.mem_append_right _ hit) q j hq)
theorem SeePre.first {t : TypeId} {H : Heap} {n b o i : Nat} {l : List Int} {mk : Bool} {at' : Int} {a c : List Item} {hdr : List (Nat × Nat × Value)} {w : List Int} (hp : SeePre t H n b o i l mk at' (a ++ c) hdr w) : ∃ w1 w2, w = w1 ++ w2 ∧ SeePre t H n b o i l mk at' a hdr w1 ∧ Tells H c w2 := by
  obtain ⟨wa, wb, rfl, ha, hb⟩ := hp.tells.append
  have hr := hp.room
  have hs := hp.size
  simp only [List.length_append] at hr hs
  exact ⟨wa, wb, rfl, ⟨hp.eye, hp.hb, hp.hi, ha, fun it hit => hp.out it (List.mem_append_left _ hit), hp.hdr, fun hm it hit => hp.wr hm it (List.mem_append_left _ hit), hp.fresh, by omega, by omega⟩, hb⟩
end Go.Cs
set_option maxRecDepth 1000000
set_option maxHeartbeats 1000000
namespace Go.Cs
def cNum (t : TypeId) : FC := FC.mk 33 (.seq (.seq (.steps [⟨.move, [.tmp 0], some 4, none⟩,⟨.nilCheck, [.tmp 4], some 5, none⟩,⟨.fieldAddr 2, [.tmp 5], some 6, none⟩,⟨.load1, [.tmp 6], some 7, none⟩]) (.cond (.tmp 7) (.seq (.steps [⟨.move, [.tmp 0], some 8, none⟩,⟨.nilCheck, [.tmp 8], some 9, none⟩,⟨.fieldAddr 3, [.tmp 9], some 10, none⟩,⟨.load1, [.tmp 10], some 11, none⟩,⟨.bin .add, [.tmp 11, .const (.int .i64 1)], some 12, none⟩,⟨.nilCheck, [.tmp 8], some 13, none⟩,⟨.fieldAddr 3, [.tmp 13], some 14, none⟩,⟨.store 1, [.tmp 14, .tmp 12], none, none⟩]) (.steps [⟨.move, [.tmp 1], some 15, none⟩,⟨.move, [.tmp 0], some 16, none⟩,⟨.nilCheck, [.tmp 16], some 17, none⟩,⟨.fieldAddr 3, [.tmp 17], some 18, none⟩,⟨.load1, [.tmp 18], some 19, none⟩,⟨.nilCheck, [.tmp 15], some 20, none⟩,⟨.store 1, [.tmp 20, .tmp 19], none, none⟩])) (.skip))) (.steps [⟨.move, [.tmp 0], some 21, none⟩,⟨.move, [.tmp 0], some 22, none⟩,⟨.nilCheck, [.tmp 22], some 23, none⟩,⟨.fieldAddr 0, [.tmp 23], some 24, none⟩,⟨.load1, [.tmp 24], some 25, none⟩,⟨.move, [.tmp 1], some 26, none⟩,⟨.nilCheck, [.tmp 26], some 27, none⟩,⟨.load1, [.tmp 27], some 28, none⟩,⟨.buildSlice t 1 [.int .i64 0] [(0, 1)], [.tmp 28], some 29, none⟩,⟨.append t 1 8 [.int .i64 0], [.tmp 25, .tmp 29], some 30, none⟩,⟨.nilCheck, [.tmp 21], some 31, none⟩,⟨.fieldAddr 0, [.tmp 31], some 32, none⟩,⟨.store 1, [.tmp 32, .tmp 30], none, none⟩])) []
section
variable {P : Program} {G : List Nat} {E : Env} {N n0 : Nat} {r : List Step} {Q : St → Prop} {as : List Operand} {d d2 : Option Tmp} {g : Option (Tmp × Bool)} {L : List (Nat × Value)} {D : List Value} {H : Heap} {n : Nat}
theorem gsl_cells (i k : Nat) : (gsl i k).cells.toList = [gsl i k] := by cases k <;> rfl
theorem gsl_cell1 (i k : Nat) : cell1 (gsl i k) = true := by cases k <;> rfl
theorem eye_app {t : TypeId} {i : Nat} {l : List Int} {x : Int} {a b : Operand} {k : Nat} (hk : some k = d) (hfr : Fresh H n) (hn : n + 2 < lim) (hrow : l ≠ [] → aget H i = some (.cells (ints l) t (some 1)) ∧ i < n) (hout : l = [] → lim ≤ i) (hl : l.length < 8589934592)
    (ha : evs G (.lst L) [a] = some [.int .i64 x]) (hb : ∀ v, evs G (.lst ((k, v) :: L)) [b] = some [gsl i l.length])
    (h : ∀ H1 : Heap, aget H1 (n + 1) = some (.cells (ints (l ++ [x])) t (some 1)) → (∀ q, q < n → q ≠ i → aget H1 q = aget H q) → Fresh H1 (n + 2) → RX P G E r Q { T := .lst (putL d2 (gsl (n + 1) (l.length + 1)) ((k, .slice (some ⟨n, 0, none⟩) 1 1) :: L)), D := D, H := H1, n := n + 2 }) :
    RX P G E (⟨.buildSlice t 1 [.int .i64 0] [(0, 1)], [a], d, none⟩ :: ⟨.append t 1 8 [.int .i64 0], [b, .tmp k], d2, none⟩ :: r) Q { T := .lst L, D := D, H := H, n := n } := by
  subst hk
  refine xNew (ob := .cells [.int .i64 x] t none) (mk := .slice 1 1) hfr (by omega) rfl rfl ha rfl ?_
  intro H1 h1 h2 h3
  have hb' := hb (.slice (some ⟨n, 0, none⟩) 1 1)
  have hev : evs G (.lst ((k, Value.slice (some ⟨n, 0, none⟩) 1 1) :: L)) [b, .tmp k] = some [gsl i l.length, .slice (some ⟨n, 0, none⟩) 1 1] := by
    simp only [evs] at hb' ⊢
    split at hb' <;> simp_all [ev, aget, lk]
  refine xAppend1 (i := i) (k := l.length) (j := n) (cs := ints l) (new := [.int .i64 x]) rfl hev (by decide) (fun hk => ?_) (fun hk => by rw [List.length_eq_zero_iff.1 hk]; rfl) (by rw [ints_length, Nat.mul_one]) h1 rfl rfl (by omega) (blt_lim (by omega)) ?_
  · obtain ⟨q1, q2⟩ := hrow (by rintro rfl; exact hk rfl)
    rw [h2 i (by omega)]; exact q1
  · intro H2 e1 e2
    refine h H2 (by rw [e1, ints_append]; rfl) (fun q hq hqi => ?_) (fun q hq1 hq2 => ?_)
    · rw [e2 q (by omega) hqi, h2 q (by omega)]
    · by_cases hli : l = []
      · by_cases hqi : q = i
        · have := hout hli
          omega
        · rw [e2 q (by omega) hqi]; exact h3 q (by omega) hq2
      · have := (hrow hli).2
        rw [e2 q (by omega) (by omega)]; exact h3 q (by omega) hq2
theorem EyeAt.grown {t : TypeId} {H H' : Heap} {b o i n : Nat} {l : List Int} {mk : Bool} {at0 at1 x : Int} (he : EyeAt t H b o i l mk at0) (hb : b < n) (h0 : cellAt H' b o = some (gsl (n + 1) (l.length + 1))) (h1 : cellAt H' b (o + 1) = cellAt H b (o + 1)) (h2 : cellAt H' b (o + 2) = cellAt H b (o + 2))
    (h3 : cellAt H' b (o + 3) = some (.int .i64 at1)) (hr : aget H' (n + 1) = some (.cells (ints (l ++ [x])) t (some 1))) : EyeAt t H' b o (n + 1) (l ++ [x]) mk at1 :=
  ⟨by rw [h0]; simp, by rw [h1]; exact he.s, by rw [h2]; exact he.m, h3, fun _ => hr, fun h => by simp at h, by omega⟩
theorem rd_cells {H H' : Heap} {q j k k' : Nat} {v : Value} (h : cellAt H q k = some v) (h' : ∃ v', cellAt H' q k' = some v') (hc : cellAt H' q j = cellAt H q j) : rdAt H' q j = rdAt H q j := by
  obtain ⟨cs, t, g, h1, _⟩ := cellAt_some h
  obtain ⟨v', h'⟩ := h'
  obtain ⟨cs', t', g', h1', _⟩ := cellAt_some h'
  unfold cellAt at hc
  unfold rdAt
  rw [h1, h1'] at hc ⊢
  exact hc
theorem rd_of_stored {H1 H3 : Heap} {b o i n : Nat} {v : Value} (hb : cellAt H1 b o = some v) (ho : ∀ p, p ≠ b → (p < n ∧ p ≠ i) → aget H3 p = aget H1 p) (hc : ∀ q j, q < n → q ≠ i → ¬ (q = b ∧ j = o) → cellAt H3 q j = cellAt H1 q j) {q j : Nat} (h1 : q < n) (h2 : q ≠ i) (h3 : ¬ (q = b ∧ j = o)) (hs : ∃ v, cellAt H3 b o = some v) : rdAt H3 q j = rdAt H1 q j := by
  by_cases hq : q = b
  · subst hq; exact rd_cells hb hs (hc _ _ h1 h2 h3)
  · exact rdAt_congr (ho q hq ⟨h1, h2⟩) j
theorem num_ok (hE : EnvOk P E) (hm : P.follows .mixedOrders = true) {t : TypeId} {f : FuncId} (hc : compF P f = some (cNum t)) (q j : Nat) : Sees P G t f [] [ptrAt q j] [.int q j] [] := by
  intro H n b o i l mk at0 w hp
  obtain ⟨he, hb, hi, htell, hout, hdr, hwr, hfr, hroom, hsize⟩ := hp
  obtain ⟨hqn, hqe⟩ := hout _ List.mem_cons_self q j rfl
  obtain ⟨x, hw, hx⟩ : ∃ x, w = [x] ∧ rdAt H q j = some (.int .i64 x) := by
    match w, htell with
    | [x], h =>
      refine ⟨x, rfl, ?_⟩
      have h1 := h.1
      simp only [Item.tell] at h1
      split at h1
      · rename_i y hy; cases h1; exact hy
      · cases h1
    | [], h => exact h.elim
    | _ :: _ :: _, h => exact h.2.elim
  subst hw
  simp only [List.length_cons, List.length_nil] at hroom hsize
  have hq0 : q ≠ b ∨ j < o ∨ o + 4 ≤ j := by
    by_cases h1 : q = b
    · by_cases h2 : o ≤ j
      · by_cases h3 : j < o + 4
        · exact absurd (.inl ⟨h1, h2, h3⟩) hqe
        · omega
      · omega
    · exact .inl h1
  have hqi : q ≠ i := fun h => hqe (.inr h)
  refine F_of_comp hc rfl ?_
  refine WC_seq ?_
  refine WC_go hE hm ?_
  refine xP rfl rfl rfl rfl ?_
  refine xP rfl rfl rfl rfl ?_
  refine xP rfl rfl rfl rfl ?_
  refine xLdC he.m rfl rfl ?_
  refine RXn ?_
  refine WLv (lv1 0 rfl (lv1 1 rfl (lv1 7 rfl lv0))) ?_
  have rest : ∀ (H1 : Heap) (at1 x1 : Int) (T : AL Value), EyeAt t H1 b o i l mk at1 → rdAt H1 q j = some (.int .i64 x1) → Fresh H1 n → (mk = false → x1 = x ∧ at1 = at0) → SeeFr mk [.int q j] b o i n H H1 → aget T 0 = some (ptrAt b o) → aget T 1 = some (ptrAt q j) →
      WC P G 33 n (.steps [⟨.move, [.tmp 0], some 21, none⟩, ⟨.move, [.tmp 0], some 22, none⟩, ⟨.nilCheck, [.tmp 22], some 23, none⟩, ⟨.fieldAddr 0, [.tmp 23], some 24, none⟩, ⟨.load1, [.tmp 24], some 25, none⟩, ⟨.move, [.tmp 1], some 26, none⟩, ⟨.nilCheck, [.tmp 26], some 27, none⟩,
        ⟨.load1, [.tmp 27], some 28, none⟩, ⟨.buildSlice t 1 [.int .i64 0] [(0, 1)], [.tmp 28], some 29, none⟩, ⟨.append t 1 8 [.int .i64 0], [.tmp 25, .tmp 29], some 30, none⟩, ⟨.nilCheck, [.tmp 21], some 31, none⟩, ⟨.fieldAddr 0, [.tmp 31], some 32, none⟩, ⟨.store 1, [.tmp 32, .tmp 30], none, none⟩])
        (EndsD P G [] (SeePost t H n b o i l mk at0 [.int q j] [x])) { T := T, D := [], H := H1, n := n } := by
    intro H1 at1 x1 T he1 hx1 hf1 hxx hsf h0 h1
    refine WLv (lv1 0 h0 (lv1 1 h1 lv0)) ?_
    refine WC_steps hE hm ?_
    refine xP rfl rfl rfl rfl ?_
    refine xP rfl rfl rfl rfl ?_
    refine xP rfl rfl rfl rfl ?_
    refine xP rfl rfl rfl rfl ?_
    refine xLdC he1.n rfl rfl ?_
    refine xP rfl rfl rfl rfl ?_
    refine xP rfl rfl rfl rfl ?_
    refine xLdR hx1 rfl rfl ?_
    refine eye_app (i := i) (l := l) (x := x1) rfl hf1 (by omega) (fun h => ⟨he1.row h, hi h⟩) he1.out (by omega) rfl (fun v => rfl) ?_
    intro H2 e1 e2 e3
    refine xP rfl rfl rfl rfl ?_
    refine xP rfl rfl rfl rfl ?_
    have hbi := he.ne
    refine xStC (b := b) (o := o) (v0 := gsl i l.length) (u := gsl (n + 1) (l.length + 1)) ((cellAt_congr (e2 b hb (Ne.symm hbi)) o).trans he1.n) rfl rfl rfl rfl (by omega) ?_
    intro H3 s1 s2
    refine RXn ?_
    refine endN rfl ?_
    have c2 : ∀ q' j', q' < n → q' ≠ i → ¬ (q' = b ∧ j' = o) → cellAt H3 q' j' = cellAt H1 q' j' := by
      intro q' j' h1 h2 h3
      rw [s1, if_neg h3]
      exact cellAt_congr (e2 q' h1 h2) j'
    have r2 : ∀ q' j', q' < n → q' ≠ i → ¬ (q' = b ∧ j' = o) → rdAt H3 q' j' = rdAt H1 q' j' := fun q' j' h1 h2 h3 => rd_of_stored (b := b) (o := o) he1.n (fun p hp1 hp2 => (s2 p hp1).trans (e2 p hp2.1 hp2.2)) c2 h1 h2 h3 (by rw [s1]; simp)
    refine ⟨rfl, n + 1, [x1], at1, he1.grown (x := x1) hb ?_ ?_ ?_ ?_ ?_, rfl, fun h => ⟨by rw [(hxx h).1], (hxx h).2⟩, .inr (by omega), fun _ => by omega, by omega, by simp only [List.length_cons, List.length_nil]; omega, ?_, ?_⟩
    · rw [s1]; simp
    · exact c2 b _ hb (Ne.symm hbi) (by omega)
    · exact c2 b _ hb (Ne.symm hbi) (by omega)
    · rw [c2 b _ hb (Ne.symm hbi) (by omega)]; exact he1.a
    · rw [s2 _ (by omega)]; exact e1
    · intro q' h1 h2
      rw [s2 q' (by omega)]; exact e3 q' h1 h2
    · refine ⟨fun q' j' h1 h2 h3 => ?_, fun q' j' h1 h2 hv => ?_, fun q' j' h1 h2 => ?_, fun q' h1 h2 h3 h4 => ?_⟩
      · rw [c2 q' j' h1 (fun h => h2 (.inr h)) (fun h => h2 (.inl ⟨h.1, by omega, by omega⟩)), r2 q' j' h1 (fun h => h2 (.inr h)) (fun h => h2 (.inl ⟨h.1, by omega, by omega⟩))]
        exact hsf.same q' j' h1 h2 h3
      · rw [c2 q' j' h1 (fun h => h2 (.inr h)) (fun h => h2 (.inl ⟨h.1, by omega, by omega⟩))]
        exact hsf.cells q' j' h1 h2 hv
      · rw [r2 q' j' h1 (fun h => h2 (.inr h)) (fun h => h2 (.inl ⟨h.1, by omega, by omega⟩))]
        exact hsf.kind q' j' h1 h2
      · rw [s2 q' h2, e2 q' h1 h3]
        exact hsf.obj q' h1 h2 h3 h4
  cases mk with
  | false =>
    refine WC_condF rfl ?_
    refine WC_skip ?_
    refine thenN ?_
    exact rest H at0 x _ he hx hfr (fun _ => ⟨rfl, rfl⟩) ⟨fun _ _ _ _ _ => ⟨rfl, rfl⟩, fun _ _ _ _ h => h, fun _ _ _ _ => .refl _, fun _ _ _ _ _ => rfl⟩ rfl rfl
  | true =>
    refine WC_condT rfl ?_
    refine WC_go hE hm ?_
    refine xP rfl rfl rfl rfl ?_
    refine xP rfl rfl rfl rfl ?_
    refine xP rfl rfl rfl rfl ?_
    refine xLdC he.a rfl rfl ?_
    refine xP (v := .int .i64 (IntKind.i64.wrap (at0 + 1))) rfl rfl rfl rfl ?_
    refine xP rfl rfl rfl rfl ?_
    refine xP rfl rfl rfl rfl ?_
    refine xStC he.a rfl rfl rfl rfl (by omega) ?_
    intro H1 s1 s2
    refine RXn ?_
    refine WLv (lv1 0 rfl (lv1 1 rfl lv0)) ?_
    refine WC_steps hE hm ?_
    refine xP rfl rfl rfl rfl ?_
    refine xP rfl rfl rfl rfl ?_
    refine xP rfl rfl rfl rfl ?_
    refine xP rfl rfl rfl rfl ?_
    refine xLdC (b := b) (o := o + 3) (v := .int .i64 (IntKind.i64.wrap (at0 + 1))) (by rw [s1]; simp) rfl rfl ?_
    refine xP rfl rfl rfl rfl ?_
    obtain ⟨v0, hv0⟩ := hwr rfl _ List.mem_cons_self q j rfl
    have hxc : cellAt H q j = some (.int .i64 x) := cell_of_rd hv0 hx
    refine xStC (b := q) (o := j) (v0 := .int .i64 x) (by rw [s1, if_neg (by omega)]; exact hxc) rfl rfl rfl rfl (by omega) ?_
    intro H2 r1 r2
    refine RXn ?_
    refine thenN ?_
    have hbi := he.ne
    have cb : ∀ k, k < 3 → cellAt H2 b (o + k) = cellAt H b (o + k) := by
      intro k hk
      rw [r1, if_neg (by omega), s1, if_neg (by omega)]
    have oth : ∀ q', q' ≠ b → q' ≠ q → aget H2 q' = aget H q' := fun q' h1 h2 => (r2 q' h2).trans (s2 q' h1)
    refine rest H2 (IntKind.i64.wrap (at0 + 1)) (IntKind.i64.wrap (at0 + 1)) _ ⟨?_, ?_, ?_, ?_, fun h => ?_, he.out, he.ne⟩ ?_ ?_ (fun h => by cases h) ?_ rfl rfl
    · exact (cb 0 (by omega)).trans he.n
    · exact (cb 1 (by omega)).trans he.s
    · exact (cb 2 (by omega)).trans he.m
    · rw [r1, if_neg (by omega), s1]; simp
    · rw [oth i hbi (Ne.symm hqi)]; exact he.row h
    · exact rd_of_cell (by rw [r1]; simp)
    · intro q' h1 h2
      rw [oth q' (by omega) (by omega)]; exact hfr q' h1 h2
    · have cc : ∀ q' j', q' < n → ¬ EyeCell b o i q' j' → ¬ (q' = q ∧ j' = j) → cellAt H2 q' j' = cellAt H q' j' := by
        intro q' j' h1 h2 h3
        rw [r1, if_neg h3, s1, if_neg (fun h => h2 (.inl ⟨h.1, by omega, by omega⟩))]
      have rr : ∀ q' j', q' < n → ¬ EyeCell b o i q' j' → ¬ (q' = q ∧ j' = j) → rdAt H2 q' j' = rdAt H q' j' := by
        intro q' j' h1 h2 h3
        by_cases hq1 : q' = b
        · subst hq1
          exact rd_cells (k' := o + 3) he.n ⟨.int .i64 (IntKind.i64.wrap (at0 + 1)), by rw [r1, if_neg (by omega), s1]; simp⟩ (cc _ _ h1 h2 h3)
        · by_cases hq2 : q' = q
          · subst hq2
            exact rd_cells (k' := j) hxc ⟨.int .i64 (IntKind.i64.wrap (at0 + 1)), by rw [r1]; simp⟩ (cc _ _ h1 h2 h3)
          · exact rdAt_congr (oth q' hq1 hq2) j'
      refine ⟨fun q' j' h1 h2 h3 => ?_, fun q' j' h1 h2 hv => ?_, fun q' j' h1 h2 => ?_, fun q' h1 h2 h3 h4 => ?_⟩
      · have : ¬ (q' = q ∧ j' = j) := fun h => h3 rfl _ List.mem_cons_self (by simp [Item.place, h.1, h.2])
        exact ⟨rr q' j' h1 h2 this, cc q' j' h1 h2 this⟩
      · by_cases hqq : q' = q ∧ j' = j
        · rw [r1, if_pos hqq]; exact ⟨_, rfl⟩
        · rw [cc q' j' h1 h2 hqq]; exact hv
      · by_cases hqq : q' = q ∧ j' = j
        · rw [hqq.1, hqq.2, hx, rd_of_cell (show cellAt H2 q j = some (.int .i64 (IntKind.i64.wrap (at0 + 1))) by rw [r1]; simp)]
          exact .inr (.inl ⟨_, _, rfl, rfl⟩)
        · rw [rr q' j' h1 h2 hqq]; exact .refl _
      · refine oth q' h2 fun h => ?_
        exact h4 rfl _ List.mem_cons_self j (by simp [Item.place, h])
end
end Go.Cs
set_option maxRecDepth 1000000
set_option maxHeartbeats 1000000
namespace Go.Cs
def cEvery (es : Nat) (t : TypeId) : FC := FC.mk 30 (.seq (.steps [⟨.move, [.tmp 0], some 7, none⟩,⟨.move, [.tmp 0], some 8, none⟩,⟨.nilCheck, [.tmp 8], some 9, none⟩,⟨.fieldAddr 0, [.tmp 9], some 10, none⟩,⟨.load1, [.tmp 10], some 11, none⟩,⟨.move, [.tmp 1], some 12, none⟩,⟨.lenS, [.tmp 12], some 13, none⟩,⟨.buildSlice t 1 [.int .i64 0] [(0, 1)], [.tmp 13], some 14, none⟩,⟨.append t 1 8 [.int .i64 0], [.tmp 11, .tmp 14], some 15, none⟩,⟨.nilCheck, [.tmp 7], some 16, none⟩,⟨.fieldAddr 0, [.tmp 16], some 17, none⟩,⟨.store 1, [.tmp 17, .tmp 15], none, none⟩]) (.seq (.steps [⟨.move, [.const (.int .i64 0)], some 6, none⟩]) (.block 0 (.loop (.seq (.seq (.steps [⟨.move, [.tmp 6], some 18, none⟩,⟨.move, [.tmp 1], some 19, none⟩,⟨.lenS, [.tmp 19], some 20, none⟩,⟨.bin .lss, [.tmp 18, .tmp 20], some 21, none⟩]) (.cond (.tmp 21) (.skip) (.exit 0))) (.seq (.block 1 (.steps [⟨.move, [.tmp 2], some 24, none⟩,⟨.move, [.tmp 0], some 25, none⟩,⟨.move, [.tmp 1], some 26, none⟩,⟨.move, [.tmp 6], some 27, none⟩,⟨.indexAddrS es, [.tmp 26, .tmp 27], some 28, none⟩,⟨.callV, [.tmp 24, .tmp 25, .tmp 28], some 29, none⟩])) (.steps [⟨.move, [.tmp 6], some 22, none⟩,⟨.bin .add, [.tmp 22, .const (.int .i64 1)], some 23, none⟩,⟨.move, [.tmp 23], some 6, none⟩]))))))) []
section
variable {P : Program} {G : List Nat} {E : Env} {N n0 : Nat} {r : List Step} {Q : St → Prop} {as : List Operand} {d d2 : Option Tmp} {g : Option (Tmp × Bool)} {L : List (Nat × Value)} {D : List Value} {H : Heap} {n : Nat}
inductive SliceAt : Value → Nat → Nat → Nat → Prop
  | nil (q j : Nat) : SliceAt (.slice none 0 0) q j 0
  | zero (q j : Nat) : SliceAt (.slice none 0 1) q j 0
  | mk (q j l c : Nat) : SliceAt (.slice (some ⟨q, j, none⟩) l c) q j l
theorem SliceAt.lenS {E : Env} {s : Value} {q j l : Nat} (h : SliceAt s q j l) : semP E .lenS [s] = some (.int .i64 (l : Int)) := by cases h <;> rfl
theorem SliceAt.idx {E : Env} {s : Value} {q j l es : Nat} (h : SliceAt s q j l) {k : Nat} (hk : k < l) : semP E (.indexAddrS es) [s, .int .i64 (k : Int)] = some (ptrAt q (j + k * es)) := by
  cases h with
  | nil => omega
  | zero => omega
  | mk c =>
    simp only [semP, sIndexAddrS]
    rw [if_pos ⟨by omega, by omega⟩, Int.toNat_natCast]; rfl
theorem SliceAt.gsl (i k : Nat) : SliceAt (gsl i k) i 0 k := by cases k <;> constructor
def itemsN (its : Nat → List Item) : Nat → List Item
  | 0 => []
  | k + 1 => itemsN its k ++ its k
theorem itemsN_split (its : Nat → List Item) {k m : Nat} (h : k < m) : ∃ r, itemsN its m = itemsN its k ++ (its k ++ r) := by
  induction m with
  | zero => omega
  | succ m ih =>
    rcases Nat.lt_succ_iff_lt_or_eq.1 h with h1 | h1
    · obtain ⟨r, hr⟩ := ih h1
      exact ⟨r ++ its m, by simp [itemsN, hr]⟩
    · subst h1; exact ⟨[], by simp [itemsN]⟩
theorem Sees.call {t : TypeId} {f : FuncId} {as bs : List Value} {its : List Item} {hdr : List (Nat × Nat × Value)} (h : Sees P G t f as bs its hdr) {H : Heap} {n b o i : Nat} {l : List Int} {mk : Bool} {at' : Int} {w : List Int} (hp : SeePre t H n b o i l mk at' its hdr w) :
    F P G f (as ++ ptrAt b o :: bs) H n (SeePost t H n b o i l mk at' its w) := h H n b o i l mk at' w hp
structure SeeMid (t : TypeId) (H0 H : Heap) (n0 n b o i0 i : Nat) (l : List Int) (mk : Bool) (at0 at' : Int) (done todo : List Item) (hdr : List (Nat × Nat × Value)) (w0 w wt : List Int) : Prop where
  pre : SeePre t H n b o i (l ++ w) mk at' todo hdr wt
  len : w.length = done.length
  val : mk = false → w0 = w ++ wt ∧ at' = at0
  row : i = i0 ∨ n0 ≤ i
  le : n0 ≤ n
  room : n ≤ n0 + 8 * done.length
  fr : SeeFr mk done b o i0 n0 H0 H
theorem SeeMid.start {t : TypeId} {H : Heap} {n b o i : Nat} {l : List Int} {mk : Bool} {at' : Int} {its : List Item} {hdr : List (Nat × Nat × Value)} {w : List Int} (h : SeePre t H n b o i l mk at' its hdr w) : SeeMid t H H n n b o i i l mk at' at' [] its hdr w [] w where
  pre := by simpa using h
  len := rfl
  val := fun _ => ⟨rfl, rfl⟩
  row := .inl rfl
  le := Nat.le_refl _
  room := Nat.le_refl _
  fr := ⟨fun _ _ _ _ _ => ⟨rfl, rfl⟩, fun _ _ _ _ h => h, fun _ _ _ _ => .refl _, fun _ _ _ _ _ => rfl⟩
theorem SeeMid.first {t : TypeId} {H0 H : Heap} {n0 n b o i0 i : Nat} {l : List Int} {mk : Bool} {at0 at' : Int} {done a c : List Item} {hdr : List (Nat × Nat × Value)} {w0 w wt : List Int} (h : SeeMid t H0 H n0 n b o i0 i l mk at0 at' done (a ++ c) hdr w0 w wt) :
    ∃ w1, SeePre t H n b o i (l ++ w) mk at' a hdr w1 ∧ ∀ w2, wt = w1 ++ w2 → True := by
  obtain ⟨w1, w2, hw, h1, h2⟩ := h.pre.first
  exact ⟨w1, h1, fun _ _ => trivial⟩
theorem SeeMid.next {t : TypeId} {H0 H H1 : Heap} {n0 n n1 b o i0 i : Nat} {l : List Int} {mk : Bool} {at0 at' : Int} {done a c : List Item} {hdr : List (Nat × Nat × Value)} {w0 w wt w1 : List Int} {v : Value} (h : SeeMid t H0 H n0 n b o i0 i l mk at0 at' done (a ++ c) hdr w0 w wt) (hh : ∀ x ∈ hdr, isHdr x.2.2 = true)
    (hw : SeePre t H n b o i (l ++ w) mk at' a hdr w1) (hp : SeePost t H n b o i (l ++ w) mk at' a w1 v H1 n1) : ∃ i1 at1 w' wt', SeeMid t H0 H1 n0 n1 b o i0 i1 l mk at0 at1 (done ++ a) c hdr w0 w' wt' := by
  obtain ⟨w1', w2, rfl, h1, h2⟩ := h.pre.first
  obtain ⟨rfl, i1, wx, at1, e1, e2, e3, e4, e5, e6, e7, e8, e9⟩ := hp
  have hwu : w1 = w1' := by
    have key : ∀ {its : List Item} {x y : List Int}, Tells H its x → Tells H its y → x = y := by
      intro its
      induction its with
      | nil => intro x y hx hy; cases x <;> cases y <;> first | rfl | exact hx.elim | exact hy.elim
      | cons it its ih =>
        intro x y hx hy
        cases x with
        | nil => exact hx.elim
        | cons a x => cases y with
          | nil => exact hy.elim
          | cons b y =>
            have := hx.1.symm.trans hy.1
            cases this
            rw [ih hx.2 hy.2]
    exact key hw.tells h1.tells
  subst hwu
  obtain ⟨w2', hv, hpre⟩ := h.pre.next hh e1 e2 e4 e5 e6 e7 e8 e9 h2
  refine ⟨i1, at1, w ++ wx, w2', ⟨by rw [← List.append_assoc]; exact hpre, by simp [h.len, e2], fun hm => ?_, ?_, by have := h.le; omega, ?_, h.fr.trans e9 h.le h.row⟩⟩
  · obtain ⟨q1, q2⟩ := h.val hm
    obtain ⟨q3, q4⟩ := e3 hm
    rw [q1, q3, hv hm]
    exact ⟨by simp, q4.trans q2⟩
  · rcases e4 with rfl | e4
    · exact h.row
    · have := h.le; right; omega
  · have := h.room
    simp only [List.length_append]; omega
theorem SeeMid.done {t : TypeId} {H0 H : Heap} {n0 n b o i0 i : Nat} {l : List Int} {mk : Bool} {at0 at' : Int} {its : List Item} {hdr : List (Nat × Nat × Value)} {w0 w wt : List Int} (h : SeeMid t H0 H n0 n b o i0 i l mk at0 at' its [] hdr w0 w wt) : SeePost t H0 n0 b o i0 l mk at0 its w0 (.tuple #[]) H n := by
  have hwt : wt = [] := by
    have := h.pre.tells
    cases wt with
    | nil => rfl
    | cons _ _ => exact this.elim
  subst hwt
  refine ⟨rfl, i, w, at', h.pre.eye, h.len, fun hm => ?_, h.row, h.pre.hi, h.le, h.room, h.pre.fresh, h.fr⟩
  obtain ⟨q1, q2⟩ := h.val hm
  exact ⟨by rw [q1]; simp, q2⟩
theorem SeePre.len {t : TypeId} {H H1 : Heap} {n b o i : Nat} {l : List Int} {mk : Bool} {at' : Int} {m : Nat} {its : List Item} {hdr : List (Nat × Nat × Value)} {w : List Int} (hp : SeePre t H n b o i l mk at' (.len m :: its) hdr w) (hh : ∀ x ∈ hdr, isHdr x.2.2 = true)
    (h0 : cellAt H1 b o = some (gsl (n + 1) (l.length + 1))) (hc : ∀ q j, q < n → q ≠ i → ¬ (q = b ∧ j = o) → cellAt H1 q j = cellAt H q j ∧ rdAt H1 q j = rdAt H q j) (hob : ∀ q, q < n → q ≠ i → q ≠ b → aget H1 q = aget H q) (hr : aget H1 (n + 1) = some (.cells (ints (l ++ [(m : Int)])) t (some 1))) (hf : Fresh H1 (n + 2)) :
    ∃ wt, SeeMid t H H1 n (n + 2) b o i (n + 1) l mk at' at' [.len m] its hdr w [(m : Int)] wt := by
  have he := hp.eye
  have hbi := he.ne
  have hb := hp.hb
  obtain ⟨w2, hw, hw2⟩ : ∃ w2, w = (m : Int) :: w2 ∧ Tells H its w2 := by
    have := hp.tells
    cases w with
    | nil => exact this.elim
    | cons x w2 =>
      have h1 := this.1
      simp only [Item.tell, Option.some.injEq] at h1
      exact ⟨w2, by rw [h1], this.2⟩
  subst hw
  have hsf : SeeFr mk [.len m] b o i n H H1 := by
    refine ⟨fun q' j' h1 h2 h3 => ?_, fun q' j' h1 h2 hv => ?_, fun q' j' h1 h2 => ?_, fun q' h1 h2 h3 h4 => hob q' h1 h3 h2⟩
    · exact (hc q' j' h1 (fun h => h2 (.inr h)) (fun h => h2 (.inl ⟨h.1, by omega, by omega⟩))).symm
    · rw [(hc q' j' h1 (fun h => h2 (.inr h)) (fun h => h2 (.inl ⟨h.1, by omega, by omega⟩))).1]; exact hv
    · rw [(hc q' j' h1 (fun h => h2 (.inr h)) (fun h => h2 (.inl ⟨h.1, by omega, by omega⟩))).2]; exact .refl _
  have he1 : EyeAt t H1 b o (n + 1) (l ++ [(m : Int)]) mk at' := he.grown (x := (m : Int)) hb h0 (hc b _ hb (Ne.symm hbi) (by omega)).1 (hc b _ hb (Ne.symm hbi) (by omega)).1 (by rw [(hc b _ hb (Ne.symm hbi) (by omega)).1]; exact he.a) hr
  have hp' : SeePre t H n b o i l mk at' ([.len m] ++ its) hdr ((m : Int) :: w2) := hp
  obtain ⟨w2', hv, hpre⟩ := hp'.next (w1' := [(m : Int)]) hh he1 rfl (.inr (by omega)) (fun _ => by omega) (by omega) (by simp only [List.length_cons, List.length_nil]; omega) hf hsf hw2
  exact ⟨w2', ⟨hpre, rfl, fun hm => ⟨by rw [hv hm]; rfl, rfl⟩, .inr (by omega), by omega, by simp only [List.length_cons, List.length_nil]; omega, hsf⟩⟩
theorem every_ok (hE : EnvOk P E) (hm : P.follows .mixedOrders = true) {t : TypeId} {es : Nat} {f g : FuncId} (hc : compF P f = some (cEvery es t)) {s : Value} {q j m : Nat} {its : Nat → List Item} {hdr : List (Nat × Nat × Value)} (hs : SliceAt s q j m) (hh : ∀ x ∈ hdr, isHdr x.2.2 = true) (hmB : m < 8589934592)
    (hel : ∀ k, k < m → Sees P G t g [] [ptrAt q (j + k * es)] (its k) hdr) : Sees P G t f [] [s, .func (.func g) #[] #[]] (.len m :: itemsN its m) hdr := by
  intro H n b o i l mk at0 w hp
  have hroom := hp.room
  have hsize := hp.size
  have he := hp.eye
  have hb := hp.hb
  have hbi := he.ne
  simp only [List.length_cons] at hroom hsize
  refine F_of_comp hc rfl ?_
  refine WC_go hE hm ?_
  refine xP rfl rfl rfl rfl ?_
  refine xP rfl rfl rfl rfl ?_
  refine xP rfl rfl rfl rfl ?_
  refine xP rfl rfl rfl rfl ?_
  refine xLdC he.n rfl rfl ?_
  refine xP rfl rfl rfl rfl ?_
  refine xP (v := .int .i64 (m : Int)) rfl rfl rfl hs.lenS ?_
  refine eye_app (i := i) (l := l) (x := (m : Int)) rfl hp.fresh (by omega) (fun h => ⟨he.row h, hp.hi h⟩) he.out (by omega) rfl (fun v => rfl) ?_
  intro H2 e1 e2 e3
  refine xP rfl rfl rfl rfl ?_
  refine xP rfl rfl rfl rfl ?_
  refine xStC (b := b) (o := o) (v0 := gsl i l.length) (u := gsl (n + 1) (l.length + 1)) ((cellAt_congr (e2 b hb (Ne.symm hbi)) o).trans he.n) rfl rfl rfl rfl (by omega) ?_
  intro H3 r1 r2
  refine RXn ?_
  have c3 : ∀ q' j', q' < n → q' ≠ i → ¬ (q' = b ∧ j' = o) → cellAt H3 q' j' = cellAt H q' j' := fun q' j' h1 h2 h3 => by rw [r1, if_neg h3]; exact cellAt_congr (e2 q' h1 h2) j'
  obtain ⟨wt, hmid⟩ := hp.len (H1 := H3) hh (by rw [r1]; simp) (fun q' j' h1 h2 h3 => ⟨c3 q' j' h1 h2 h3, rd_of_stored (b := b) (o := o) he.n (fun p hp1 hp2 => (r2 p hp1).trans (e2 p hp2.1 hp2.2)) c3 h1 h2 h3 (by rw [r1]; simp)⟩) (fun q' h1 h2 h3 => by rw [r2 q' h3, e2 q' h1 h2]) (by rw [r2 _ (by omega)]; exact e1) (fun q' h1 h2 => by rw [r2 q' (by omega)]; exact e3 q' h1 h2)
  refine WLv (lv1 0 rfl (lv1 1 rfl (lv1 2 rfl lv0))) ?_
  refine WC_go hE hm ?_
  refine xP rfl rfl rfl rfl ?_
  refine RXn ?_
  refine WLv (lv1 0 rfl (lv1 1 rfl (lv1 2 rfl (lv1 6 rfl lv0)))) ?_
  refine WC_block ?_
  refine WC_loopX (X := Nat × Heap × Nat) (fun y => { T := ofL [(0, ptrAt b o), (1, s), (2, .func (.func g) #[] #[]), (6, .int .i64 (y.1 : Int))], D := [], H := y.2.1, n := y.2.2 })
    (fun y => y.1 ≤ m ∧ ∃ i' at' w' wt' todo, itemsN its m = itemsN its y.1 ++ todo ∧ SeeMid t H y.2.1 n y.2.2 b o i i' l mk at0 at' (.len m :: itemsN its y.1) todo hdr w w' wt') (fun y => m - y.1) (0, H3, n + 2) ⟨Nat.zero_le _, n + 1, at0, _, wt, itemsN its m, rfl, hmid⟩ ?_
  rintro ⟨k, Hk, nk⟩ ⟨hk, i', at', w', wt', todo, htodo, hmid⟩
  dsimp only at *
  refine WC_seq ?_
  refine WC_go hE hm ?_
  refine xP rfl rfl rfl rfl ?_
  refine xP rfl rfl rfl rfl ?_
  refine xP (v := .int .i64 (m : Int)) rfl rfl rfl hs.lenS ?_
  refine xCmp (p := (k : Int) < (m : Int)) rfl rfl rfl rfl ?_ ?_ <;> intro h
  · refine RXn ?_
    refine WC_condT rfl ?_
    refine WC_skip ?_
    refine thenN ?_
    refine WLv (lv1 0 rfl (lv1 1 rfl (lv1 2 rfl (lv1 6 rfl lv0)))) ?_
    refine WC_seq ?_
    refine WC_block ?_
    refine WC_steps hE hm ?_
    have hkm : k < m := by omega
    refine xP rfl rfl rfl rfl ?_
    refine xP rfl rfl rfl rfl ?_
    refine xP rfl rfl rfl rfl ?_
    refine xP rfl rfl rfl rfl ?_
    refine xP (v := ptrAt q (j + k * es)) rfl rfl rfl (hs.idx hkm) ?_
    obtain ⟨r, hr⟩ := itemsN_split its hkm
    have htd : todo = its k ++ r := List.append_cancel_left (htodo.symm.trans hr)
    subst htd
    obtain ⟨w1, hpre, _⟩ := hmid.first
    refine xC rfl rfl rfl rfl ((hel k hkm).call hpre) ?_
    intro v H4 n4 hpost
    obtain ⟨i5, at5, w5, wt5, hmid5⟩ := hmid.next hh hpre hpost
    refine RXn ?_
    refine blockN ?_
    refine thenN ?_
    refine WLv (lv1 0 rfl (lv1 1 rfl (lv1 2 rfl (lv1 6 rfl lv0)))) ?_
    refine WC_steps hE hm ?_
    refine xP rfl rfl rfl rfl ?_
    refine xAdd rfl rfl (by omega) ?_
    refine xP rfl rfl rfl rfl ?_
    refine RXn ?_
    refine thenN ⟨(k + 1, H4, n4), ⟨by omega, i5, at5, w5, wt5, r, by rw [htodo, itemsN, List.append_assoc], by simpa [itemsN] using hmid5⟩, by dsimp only; omega, Le.live (lv1 0 rfl (lv1 1 rfl (lv1 2 rfl (lv1 6 rfl lv0))))⟩
  · refine RXn ?_
    refine WC_condF rfl ?_
    refine WC_exit ?_
    refine thenE ?_
    refine thenE ?_
    refine blockE ?_
    refine endN rfl ?_
    have hkm : k = m := by omega
    subst hkm
    have htd : todo = [] := by
      have := List.append_cancel_left (htodo.symm.trans (List.append_nil _).symm)
      exact this
    subst htd
    exact hmid.done
theorem Sees.more {t : TypeId} {f : FuncId} {as bs : List Value} {its : List Item} {hdr hdr' : List (Nat × Nat × Value)} (h : Sees P G t f as bs its hdr) (hs : ∀ x ∈ hdr, x ∈ hdr') : Sees P G t f as bs its hdr' := by
  intro H n b o i l mk at0 w hp
  exact h H n b o i l mk at0 w ⟨hp.eye, hp.hb, hp.hi, hp.tells, hp.out, fun x hx => hp.hdr x (hs x hx), hp.wr, hp.fresh, hp.room, hp.size⟩
end
end Go.Cs
set_option maxRecDepth 1000000
set_option maxHeartbeats 1000000
namespace Go.Cs
def fieldS (base o : Nat) (f : FuncId) : SC := .steps [⟨.move, [.tmp 0], some base, none⟩,
    ⟨.move, [.tmp 1], some (base + 1), none⟩,
    ⟨.nilCheck, [.tmp (base + 1)], some (base + 2), none⟩,
    ⟨.fieldAddr o, [.tmp (base + 2)], some (base + 3), none⟩,
    ⟨.callF f, [.tmp base, .tmp (base + 3)], some (base + 4), none⟩]
def goS (base : Nat) : List (Nat × FuncId) → SC
  | [] => .skip
  | (o, f) :: r => match r with
    | [] => fieldS base o f
    | _ :: _ => .seq (fieldS base o f) (goS (base + 5) r)
def cStruct (l : List (Nat × FuncId)) : FC := FC.mk (4 + 5 * l.length) (goS 4 l) []
def cRow (ev g : FuncId) : FC := FC.mk 9 (.steps [⟨.move, [.tmp 0], some 4, none⟩,⟨.move, [.tmp 1], some 5, none⟩,⟨.nilCheck, [.tmp 5], some 6, none⟩,⟨.load1, [.tmp 6], some 7, none⟩,⟨.callF ev, [.tmp 4, .tmp 7, .func g], some 8, none⟩]) []
def cClo (f : FuncId) : FC := FC.mk 5 (.steps [⟨.move, [.tmp 0], some 3, none⟩,⟨.callF f, [.tmp 3, .tmp 1], some 4, none⟩]) []
def cLook (te : TypeId) : FC := FC.mk 23 (.seq (.steps [⟨.move, [.const (.slice none 0 0)], some 2, none⟩]) (.seq (.steps [⟨.move, [.tmp 0], some 5, none⟩,⟨.lenS, [.tmp 5], some 6, none⟩,⟨.mkSlice te 64 [.slice none 0 0, .slice none 0 0, .bool false, .int .i64 0], [.tmp 6, .tmp 6], some 7, none⟩,⟨.move, [.tmp 7], some 3, none⟩]) (.seq (.seq (.steps [⟨.move, [.const (.int .i64 0)], some 4, none⟩]) (.block 0 (.loop (.seq (.seq (.steps [⟨.move, [.tmp 4], some 8, none⟩,⟨.move, [.tmp 0], some 9, none⟩,⟨.lenS, [.tmp 9], some 10, none⟩,⟨.bin .lss, [.tmp 8, .tmp 10], some 11, none⟩]) (.cond (.tmp 11) (.skip) (.exit 0))) (.seq (.block 1 (.steps [⟨.move, [.tmp 0], some 14, none⟩,⟨.move, [.tmp 4], some 15, none⟩,⟨.indexAddrS 1, [.tmp 14, .tmp 15], some 16, none⟩,⟨.load1, [.tmp 16], some 17, none⟩,⟨.move, [.tmp 3], some 18, none⟩,⟨.move, [.tmp 4], some 19, none⟩,⟨.indexAddrS 4, [.tmp 18, .tmp 19], some 20, none⟩,⟨.callV, [.tmp 17, .tmp 20], some 21, none⟩])) (.steps [⟨.move, [.tmp 4], some 12, none⟩,⟨.bin .add, [.tmp 12, .const (.int .i64 1)], some 13, none⟩,⟨.move, [.tmp 13], some 4, none⟩])))))) (.seq (.steps [⟨.move, [.tmp 3], some 22, none⟩,⟨.move, [.tmp 22], some 2, none⟩]) (.ret))))) [.tmp 2]
section
variable {P : Program} {G : List Nat} {E : Env}
theorem lk0 (k : Nat) (v : Value) (L : List (Nat × Value)) : lk ((k, v) :: L) k = some v := by
  show (bif Nat.beq k k then some v else lk L k) = _
  rw [Nat.beq_refl]; rfl
theorem lkn {k k' : Nat} (v : Value) (L : List (Nat × Value)) (h : k ≠ k') : lk ((k, v) :: L) k' = lk L k' := by
  show (bif Nat.beq k k' then some v else lk L k') = _
  cases hb : Nat.beq k k' with
  | true => exact absurd (Nat.eq_of_beq_eq_true hb) h
  | false => rfl
theorem evs_tmp {L : List (Nat × Value)} {k : Nat} {v : Value} (h : lk L k = some v) : evs G (.lst L) [.tmp k] = some [v] := by simp [evs, ev, aget, h]
theorem evs_tmp2 {L : List (Nat × Value)} {k k' : Nat} {v v' : Value} (h : lk L k = some v) (h' : lk L k' = some v') : evs G (.lst L) [.tmp k, .tmp k'] = some [v, v'] := by simp [evs, ev, aget, h, h']
theorem goS_ok (hE : EnvOk P E) (hm : P.follows .mixedOrders = true) {t : TypeId} {N q j : Nat} {hdr : List (Nat × Nat × Value)} (hh : ∀ x ∈ hdr, isHdr x.2.2 = true) {H0 : Heap} {n0 b o i0 : Nat} {l : List Int} {mk : Bool} {at0 : Int} {w0 : List Int} :
    ∀ (fs : List (Nat × FuncId × List Item)) (base : Nat) (H : Heap) (n i : Nat) (at' : Int) (done : List Item) (w wt : List Int) (T : AL Value), 2 ≤ base → (∀ x ∈ fs, Sees P G t x.2.1 [] [ptrAt q (j + x.1)] x.2.2 hdr) →
      SeeMid t H0 H n0 n b o i0 i l mk at0 at' done (fs.flatMap fun x => x.2.2) hdr w0 w wt → aget T 0 = some (ptrAt b o) → aget T 1 = some (ptrAt q j) →
      WC P G N n0 (goS base (fs.map fun x => (x.1, x.2.1))) (EndsD P G [] (SeePost t H0 n0 b o i0 l mk at0 (done ++ fs.flatMap fun x => x.2.2) w0)) { T := T, D := [], H := H, n := n }
  | [], base, H, n, i, at', done, w, wt, T, hb, hf, hmid, h0, h1 => by
    refine WC_skip ?_
    refine endN rfl ?_
    simp only [List.flatMap_nil, List.append_nil] at hmid ⊢
    exact hmid.done
  | (off, f, its) :: fs, base, H, n, i, at', done, w, wt, T, hb, hf, hmid, h0, h1 => by
    simp only [List.flatMap_cons] at hmid ⊢
    obtain ⟨w1, hpre, _⟩ := hmid.first
    have hcall := (hf _ List.mem_cons_self).call hpre
    have one : ∀ (Q : EX → St → Prop), (∀ H1 n1 T1, (∃ i1 at1 w' wt', SeeMid t H0 H1 n0 n1 b o i0 i1 l mk at0 at1 (done ++ its) (fs.flatMap fun x => x.2.2) hdr w0 w' wt') → aget T1 0 = some (ptrAt b o) → aget T1 1 = some (ptrAt q j) → Q .normal { T := T1, D := [], H := H1, n := n1 }) →
        WC P G N n0 (fieldS base off f) Q { T := T, D := [], H := H, n := n } := by
      intro Q hQ
      refine WLv (lv1 0 h0 (lv1 1 h1 lv0)) ?_
      refine WC_steps hE hm ?_
      refine xP (vs := [ptrAt b o]) (v := ptrAt b o) rfl rfl (evs_tmp rfl) rfl ?_
      refine xP (vs := [ptrAt q j]) (v := ptrAt q j) rfl rfl (evs_tmp ((lkn _ _ (by omega)).trans rfl)) rfl ?_
      refine xP (vs := [ptrAt q j]) (v := ptrAt q j) rfl rfl (evs_tmp (lk0 _ _ _)) rfl ?_
      refine xP (vs := [ptrAt q j]) (v := ptrAt q (j + off)) rfl rfl (evs_tmp (lk0 _ _ _)) rfl ?_
      refine xC (vs := [ptrAt b o, ptrAt q (j + off)]) (f := f) (args := [ptrAt b o, ptrAt q (j + off)]) rfl rfl (evs_tmp2 ((lkn _ _ (by omega)).trans ((lkn _ _ (by omega)).trans ((lkn _ _ (by omega)).trans (lk0 _ _ _)))) (lk0 _ _ _)) rfl hcall ?_
      intro v H1 n1 hpost
      obtain ⟨i1, at1, w', wt', hmid1⟩ := hmid.next hh hpre hpost
      refine RXn (hQ _ _ _ ⟨i1, at1, w', wt', hmid1⟩ ?_ ?_)
      · exact (lkn _ _ (by omega)).trans ((lkn _ _ (by omega)).trans ((lkn _ _ (by omega)).trans ((lkn _ _ (by omega)).trans ((lkn _ _ (by omega)).trans rfl))))
      · exact (lkn _ _ (by omega)).trans ((lkn _ _ (by omega)).trans ((lkn _ _ (by omega)).trans ((lkn _ _ (by omega)).trans ((lkn _ _ (by omega)).trans rfl))))
    cases fs with
    | nil =>
      refine one _ fun H1 n1 T1 ⟨i1, at1, w', wt', h⟩ q0 q1 => ?_
      refine endN rfl ?_
      simp only [List.flatMap_nil, List.append_nil] at h ⊢
      exact h.done
    | cons y fs =>
      refine WC_seq (one _ fun H1 n1 T1 ⟨i1, at1, w', wt', h⟩ q0 q1 => ?_)
      refine thenN ?_
      have := goS_ok (N := N) hE hm hh (y :: fs) (base + 5) H1 n1 i1 at1 (done ++ its) w' wt' T1 (by omega) (fun x hx => hf x (List.mem_cons_of_mem _ hx)) h q0 q1
      rw [List.append_assoc] at this
      exact this
theorem struct_ok (hE : EnvOk P E) (hm : P.follows .mixedOrders = true) {t : TypeId} {f : FuncId} (fs : List (Nat × FuncId × List Item)) (hc : compF P f = some (cStruct (fs.map fun x => (x.1, x.2.1)))) {q j : Nat} {hdr : List (Nat × Nat × Value)} (hh : ∀ x ∈ hdr, isHdr x.2.2 = true)
    (hf : ∀ x ∈ fs, Sees P G t x.2.1 [] [ptrAt q (j + x.1)] x.2.2 hdr) : Sees P G t f [] [ptrAt q j] (fs.flatMap fun x => x.2.2) hdr := by
  intro H n b o i l mk at0 w hp
  refine F_of_comp hc (by rw [Nat.ble_eq]; show 2 ≤ 4 + 5 * _; omega) ?_
  exact goS_ok hE hm hh fs 4 H n i at0 [] [] w _ (by omega) hf (.start hp) rfl rfl
theorem row_ok (hE : EnvOk P E) (hm : P.follows .mixedOrders = true) {t : TypeId} {f ev g : FuncId} (hc : compF P f = some (cRow ev g)) {q j : Nat} {s : Value} {its : List Item} {hdr : List (Nat × Nat × Value)} (hs : (q, j, s) ∈ hdr)
    (h : Sees P G t ev [] [s, .func (.func g) #[] #[]] its hdr) : Sees P G t f [] [ptrAt q j] its hdr := by
  intro H n b o i l mk at0 w hp
  refine F_of_comp hc rfl ?_
  refine WC_steps hE hm ?_
  refine xP rfl rfl rfl rfl ?_
  refine xP rfl rfl rfl rfl ?_
  refine xP rfl rfl rfl rfl ?_
  refine xLdR (hp.hdr _ hs).1 rfl rfl ?_
  refine xC rfl rfl rfl rfl (h.call hp) ?_
  intro v H1 n1 hpost
  refine RXn ?_
  exact endN rfl (by obtain ⟨rfl, h⟩ := hpost; exact ⟨rfl, h⟩)
theorem clo_ok (hE : EnvOk P E) (hm : P.follows .mixedOrders = true) {t : TypeId} {f f' : FuncId} (hc : compF P f = some (cClo f')) {v : Value} {its : List Item} {hdr : List (Nat × Nat × Value)}
    (h : Sees P G t f' [] [v] its hdr) : Sees P G t f [] [v] its hdr := by
  intro H n b o i l mk at0 w hp
  refine F_of_comp hc rfl ?_
  refine WC_steps hE hm ?_
  refine xP rfl rfl rfl rfl ?_
  refine xC rfl rfl rfl rfl (h.call hp) ?_
  intro v H1 n1 hpost
  refine RXn ?_
  exact endN rfl (by obtain ⟨rfl, h⟩ := hpost; exact ⟨rfl, h⟩)
structure Res where
  f : FuncId
  as : List Value
  bs : List Value
  its : List Item
  hdr : List (Nat × Nat × Value)
def Res.clo (r : Res) : Value := .func (.func r.f) r.as.toArray r.bs.toArray
structure LookPre (P : Program) (G : List Nat) (t : TypeId) (H : Heap) (n : Nat) (s : Value) (q j : Nat) (rs : List Res) (ws : List (List Int)) (B : Nat) : Prop where
  slice : SliceAt s q j rs.length
  clo : ∀ (k : Nat) (r : Res), rs[k]? = some r → cellAt H q (j + k) = some r.clo
  qn : rs ≠ [] → q < n
  sees : ∀ r : Res, r ∈ rs → Sees P G t r.f r.as r.bs r.its r.hdr
  len : ws.length = rs.length
  tells : ∀ (k : Nat) (r : Res) (w : List Int), rs[k]? = some r → ws[k]? = some w → Tells H r.its w
  out : ∀ r : Res, r ∈ rs → (∀ it ∈ r.its, ∀ q j, it.place = some (q, j) → q < n) ∧ ∀ x ∈ r.hdr, rdAt H x.1 x.2.1 = some x.2.2 ∧ x.1 < n
  fresh : Fresh H n
  small : ∀ r : Res, r ∈ rs → r.its.length ≤ B
  bound : B < 8589934592
  room : n + 16 + rs.length * (8 * B) < lim
  few : rs.length ≤ 1048576
def Told (t : TypeId) (H : Heap) (b : Nat) (ws : List (List Int)) (lo hi : Nat) : Prop := ∀ k w, ws[k]? = some w → ∃ i, EyeAt t H b (k * 4) i w false 0 ∧ (w ≠ [] → lo ≤ i ∧ i < hi)
def LookPost (t : TypeId) (H : Heap) (n m B : Nat) (ws : List (List Int)) (v : Value) (H' : Heap) (n' : Nat) : Prop :=
  v = .slice (some ⟨n, 0, none⟩) m m ∧ Told t H' n ws (n + 1) n' ∧ (∀ q, q < n → aget H' q = aget H q) ∧ Fresh H' n' ∧ n < n' ∧ n' ≤ n + 1 + m * (8 * B)
theorem zeros_get (z : List Value) : ∀ (m k j : Nat), k < m → j < z.length → ((List.replicate m z).flatten)[k * z.length + j]? = z[j]?
  | 0, k, j, h, _ => by omega
  | m + 1, k, j, h, hj => by
    simp only [List.replicate_succ, List.flatten_cons]
    cases k with
    | zero => rw [List.getElem?_append_left (by omega)]; simp
    | succ k =>
      rw [List.getElem?_append_right (by rw [Nat.succ_mul]; omega), show (k + 1) * z.length + j - z.length = k * z.length + j by rw [Nat.succ_mul]; omega]
      exact zeros_get z m k j (by omega) hj
theorem look_ok (hE : EnvOk P E) (hm : P.follows .mixedOrders = true) {t te : TypeId} {f : FuncId} (hc : compF P f = some (cLook te)) {H : Heap} {n : Nat} {s : Value} {q j : Nat} {rs : List Res} {ws : List (List Int)} {B : Nat} (hp : LookPre P G t H n s q j rs ws B) :
    F P G f [s] H n (LookPost t H n rs.length B ws) := by
  have hroom := hp.room
  have hfew := hp.few
  generalize hmm : rs.length = m at *
  have hsl : SliceAt s q j m := by rw [← hmm]; exact hp.slice
  refine F_of_comp hc rfl ?_
  refine WC_go hE hm ?_
  refine xP rfl rfl rfl rfl ?_
  refine RXn ?_
  refine WLv (lv1 0 rfl lv0) ?_
  refine WC_go hE hm ?_
  refine xP rfl rfl rfl rfl ?_
  refine xP (v := .int .i64 (m : Int)) rfl rfl rfl hsl.lenS ?_
  refine xNew (ob := .cells (List.replicate m [.slice none 0 0, .slice none 0 0, .bool false, .int .i64 0]).flatten te none) (mk := .slice m m) hp.fresh (by omega) rfl rfl rfl ?_ ?_
  · simp only [semA, aMkSlice]
    rw [if_pos ⟨by omega, by omega, by omega, by omega⟩, Int.toNat_natCast]
  intro H1 h1 h2 h3
  refine xP rfl rfl rfl rfl ?_
  refine RXn ?_
  refine WLv (lv1 0 rfl (lv1 3 rfl lv0)) ?_
  refine WC_seq ?_
  refine WC_go hE hm ?_
  refine xP rfl rfl rfl rfl ?_
  refine RXn ?_
  refine WLv (lv1 0 rfl (lv1 3 rfl (lv1 4 rfl lv0))) ?_
  refine WC_block ?_
  have hz : ∀ k r, k < m → r < 4 → cellAt H1 n (k * 4 + r) = ([.slice none 0 0, .slice none 0 0, .bool false, .int .i64 0] : List Value)[r]? := by
    intro k r hk hr
    unfold cellAt
    rw [h1]
    exact zeros_get [.slice none 0 0, .slice none 0 0, .bool false, .int .i64 0] m k r hk hr
  refine WC_loopX (X := Nat × Heap × Nat) (fun y => { T := ofL [(0, s), (3, .slice (some ⟨n, 0, none⟩) m m), (4, .int .i64 (y.1 : Int))], D := [], H := y.2.1, n := y.2.2 })
    (fun y => y.1 ≤ m ∧ (∀ q, q < n → aget y.2.1 q = aget H q) ∧ Fresh y.2.1 y.2.2 ∧ n < y.2.2 ∧ y.2.2 ≤ n + 1 + y.1 * (8 * B) ∧ (∀ k w, k < y.1 → ws[k]? = some w → ∃ i, EyeAt t y.2.1 n (k * 4) i w false 0 ∧ (w ≠ [] → n + 1 ≤ i ∧ i < y.2.2)) ∧ ∀ k, y.1 ≤ k → k < m → EyeAt t y.2.1 n (k * 4) lim [] false 0)
    (fun y => m - y.1) (0, H1, n + 1) ⟨Nat.zero_le _, fun q hq => h2 q (by omega), h3, by dsimp only; omega, by dsimp only; omega, fun k w hk => by omega, fun k _ hk => ?_⟩ ?_
  · exact ⟨hz k 0 hk (by omega), hz k 1 hk (by omega), hz k 2 hk (by omega), hz k 3 hk (by omega), fun h => absurd rfl h, fun _ => Nat.le_refl _, by omega⟩
  rintro ⟨k, Hk, nk⟩ ⟨hk, i1, i2, i3, i4, i5, i6⟩
  dsimp only at *
  refine WC_seq ?_
  refine WC_go hE hm ?_
  refine xP rfl rfl rfl rfl ?_
  refine xP rfl rfl rfl rfl ?_
  refine xP (v := .int .i64 (m : Int)) rfl rfl rfl hsl.lenS ?_
  refine xCmp (p := (k : Int) < (m : Int)) rfl rfl rfl rfl ?_ ?_ <;> intro h
  · refine RXn ?_
    refine WC_condT rfl ?_
    refine WC_skip ?_
    refine thenN ?_
    refine WLv (lv1 0 rfl (lv1 3 rfl (lv1 4 rfl lv0))) ?_
    refine WC_seq ?_
    refine WC_block ?_
    refine WC_steps hE hm ?_
    have hkm : k < m := by omega
    obtain ⟨r, hr⟩ : ∃ r, rs[k]? = some r := ⟨_, List.getElem?_eq_getElem (by omega)⟩
    obtain ⟨w, hw⟩ : ∃ w, ws[k]? = some w := ⟨_, List.getElem?_eq_getElem (by rw [hp.len]; omega)⟩
    have hrm := List.mem_of_getElem? hr
    have hqn : q < n := hp.qn (by rintro rfl; simp at hr)
    have hmB : (k + 1) * (8 * B) ≤ m * (8 * B) := Nat.mul_le_mul_right _ hkm
    have hkB : (k + 1) * (8 * B) = k * (8 * B) + 8 * B := Nat.succ_mul _ _
    have hsm := hp.small r hrm
    have hbd := hp.bound
    have hit := hp.tells k r w hr hw
    have hpre : SeePre t Hk nk n (k * 4) lim [] false 0 r.its r.hdr w := by
      refine ⟨i6 k (Nat.le_refl _) hkm, i3, fun h => absurd rfl h, hit.same fun it hit' q j hq => rdAt_congr (i1 q ((hp.out r hrm).1 it hit' q j hq)) j, fun it hit' q' j' hq => ?_, fun x hx => ?_, fun h => (by cases h), i2, by omega, by simp only [List.length_nil]; omega⟩
      · have := (hp.out r hrm).1 it hit' q' j' hq
        refine ⟨by omega, ?_⟩
        rintro (⟨h1, _⟩ | h1) <;> omega
      · obtain ⟨g1, g2⟩ := (hp.out r hrm).2 x hx
        refine ⟨by rw [rdAt_congr (i1 _ g2)]; exact g1, by omega, ?_⟩
        rintro (⟨h1, _⟩ | h1) <;> omega
    refine xP rfl rfl rfl rfl ?_
    refine xP rfl rfl rfl rfl ?_
    refine xP (v := ptrAt q (j + k * 1)) rfl rfl rfl (hsl.idx hkm) ?_
    refine xLdC (v := r.clo) (by rw [Nat.mul_one, cellAt_congr (i1 q hqn)]; exact hp.clo k r hr) rfl rfl ?_
    refine xP rfl rfl rfl rfl ?_
    refine xP rfl rfl rfl rfl ?_
    refine xP (v := ptrAt n (0 + k * 4)) rfl rfl rfl ((SliceAt.mk n 0 m m).idx hkm) ?_
    rw [Nat.zero_add]
    refine xC (f := r.f) (args := r.as ++ [ptrAt n (k * 4)] ++ r.bs) rfl rfl rfl rfl (by rw [List.append_assoc]; exact (hp.sees r hrm).call hpre) ?_
    rintro v H4 n4 ⟨rfl, i', w', at2, e1, e2, e3, e4, e5, e6, e7, e8, e9⟩
    obtain ⟨rfl, rfl⟩ := e3 rfl
    refine RXn ?_
    refine blockN ?_
    refine thenN ?_
    refine WLv (lv1 0 rfl (lv1 3 rfl (lv1 4 rfl lv0))) ?_
    refine WC_steps hE hm ?_
    refine xP rfl rfl rfl rfl ?_
    refine xAdd rfl rfl (by omega) ?_
    refine xP rfl rfl rfl rfl ?_
    refine RXn ?_
    have keep : ∀ q, q < nk → q ≠ n → aget H4 q = aget Hk q := fun q' g1 g2 => e9.obj q' g1 g2 (by omega) (fun h => by cases h)
    have keepC : ∀ k' r', k' ≠ k → r' < 4 → cellAt H4 n (k' * 4 + r') = cellAt Hk n (k' * 4 + r') := by
      intro k' r' g1 g2
      refine (e9.same n _ i3 ?_ (fun h => by cases h)).2
      rintro (⟨_, g3, g4⟩ | g3)
      · omega
      · omega
    refine thenN ⟨(k + 1, H4, n4), ⟨by dsimp only; omega, fun q' g => (keep q' (by omega) (by omega)).trans (i1 q' g), e8, (by show n < n4; omega), by dsimp only; omega, fun k' w0 g1 g2 => ?_, fun k' g1 g2 => ?_⟩, by dsimp only; omega, Le.live (lv1 0 rfl (lv1 3 rfl (lv1 4 rfl lv0)))⟩
    · by_cases hk' : k' = k
      · subst hk'
        rw [hw] at g2; cases g2
        exact ⟨i', e1, fun hne => by
          have g : i' < n4 := e5 hne
          refine ⟨?_, g⟩
          rcases e4 with g' | g' <;> omega⟩
      · obtain ⟨i0, q1, q2⟩ := i5 k' w0 (by omega) g2
        refine ⟨i0, ⟨(keepC k' 0 hk' (by omega)).trans q1.n, (keepC k' 1 hk' (by omega)).trans q1.s, (keepC k' 2 hk' (by omega)).trans q1.m, (keepC k' 3 hk' (by omega)).trans q1.a, fun hne => (keep i0 (q2 hne).2 (by have := (q2 hne).1; omega)).trans (q1.row hne), q1.out, q1.ne⟩, fun hne => ⟨(q2 hne).1, by have := (q2 hne).2; show i0 < n4; omega⟩⟩
    · have q1 := i6 k' (by omega) g2
      exact ⟨(keepC k' 0 (by omega) (by omega)).trans q1.n, (keepC k' 1 (by omega) (by omega)).trans q1.s, (keepC k' 2 (by omega) (by omega)).trans q1.m, (keepC k' 3 (by omega) (by omega)).trans q1.a, fun h => absurd rfl h, q1.out, q1.ne⟩
  · refine RXn ?_
    refine WC_condF rfl ?_
    refine WC_exit ?_
    refine thenE ?_
    refine thenE ?_
    refine blockE ?_
    refine thenN ?_
    refine WLv (lv1 3 rfl lv0) ?_
    refine WC_go hE hm ?_
    refine xP rfl rfl rfl rfl ?_
    refine xP rfl rfl rfl rfl ?_
    refine RXn ?_
    refine WC_ret ?_
    refine endR rfl ?_
    have hkm : k = m := by omega
    subst hkm
    refine ⟨rfl, fun k' w g => ?_, i1, i2, i3, i4⟩
    have : k' < ws.length := (List.getElem?_eq_some_iff.1 g).1
    exact i5 k' w (by rw [hp.len] at this; omega) g
end
end Go.Cs
