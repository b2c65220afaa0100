/- A part of the proof that the law spadilletop.TopSharedRing answers true and leaves its argument as it was (CsA) -/
import Derived.Calls
import Derived.Orders
import Derived.Laws.Tables
import Derived.Laws.Cells
import Derived.Laws.Slices
import Derived.Laws.StructEq
import Derived.Laws.Concat
set_option linter.all false
namespace Go.Cs
inductive AL (α : Type) where
  | nil
  | node (v : Option α) (l r : AL α)
  | fam (l : AL α) (f : Nat → Option α)
  | lst (l : List (Nat × α))
def lk {α : Type} : List (Nat × α) → Nat → Option α
  | [], _ => none
  | (j, v) :: r, k => bif Nat.beq j k then some v else lk r k
def big : Nat := 1000000000000000000
def aget {α : Type} : AL α → Nat → Option α
  | .nil, _ => none
  | .fam l f, k => bif Nat.blt k big then aget l k else f k
  | .lst l, k => lk l k
  | .node v l r, k => bif Nat.beq k 0 then v else bif Nat.beq (k % 2) 1 then aget l (k / 2) else aget r ((k - 1) / 2)
def aone {α : Type} (v : α) : Nat → Nat → AL α
  | 0, _ => .node (some v) .nil .nil
  | f + 1, k => bif Nat.beq k 0 then .node (some v) .nil .nil else bif Nat.beq (k % 2) 1 then .node none (aone v f (k / 2)) .nil else .node none .nil (aone v f ((k - 1) / 2))
def aput {α : Type} : AL α → Nat → α → AL α
  | .nil, k, v => aone v k k
  | .fam l f, k, v => bif Nat.blt k big then .fam (aput l k v) f else .fam l fun j => bif Nat.beq j k then some v else f j
  | .lst l, k, v => .lst ((k, v) :: l)
  | .node u l r, k, v => bif Nat.beq k 0 then .node (some v) l r else bif Nat.beq (k % 2) 1 then .node u (aput l (k / 2) v) r else .node u l (aput r ((k - 1) / 2) v)
theorem aget_aone {α : Type} (v : α) : ∀ (f k j : Nat), k ≤ f → aget (aone v f k) j = if k = j then some v else none
  | 0, k, j, h => by
    obtain rfl : k = 0 := by omega
    by_cases hj : j = 0
    · subst hj; rfl
    · simp only [aone, aget, Bool.cond_eq_ite, Nat.beq_eq, hj, if_false, if_neg (Ne.symm hj)]
      split <;> rfl
  | f + 1, k, j, h => by
    by_cases hk : k = 0
    · subst hk
      by_cases hj : j = 0
      · subst hj; rfl
      · simp only [aone, aget, Bool.cond_eq_ite, Nat.beq_eq, hj, if_false, if_neg (Ne.symm hj), if_true]
        split <;> rfl
    · by_cases hk2 : k % 2 = 1
      · simp only [aone, Bool.cond_eq_ite, Nat.beq_eq, hk, if_false, hk2, if_true, aget]
        by_cases hj : j = 0
        · subst hj; simp [hk]
        · simp only [hj, if_false]
          by_cases hj2 : j % 2 = 1
          · simp only [hj2, if_true]
            rw [aget_aone v f (k / 2) (j / 2) (by omega)]
            by_cases e : k = j
            · subst e; simp
            · rw [if_neg e, if_neg (by omega)]
          · simp only [hj2, if_false]
            rw [if_neg (by rintro rfl; exact hj2 hk2)]
      · simp only [aone, Bool.cond_eq_ite, Nat.beq_eq, hk, if_false, hk2, aget]
        by_cases hj : j = 0
        · subst hj; simp [hk]
        · simp only [hj, if_false]
          by_cases hj2 : j % 2 = 1
          · simp only [hj2, if_true]
            rw [if_neg (by rintro rfl; exact hk2 hj2)]
          · simp only [hj2, if_false]
            rw [aget_aone v f ((k - 1) / 2) ((j - 1) / 2) (by omega)]
            by_cases e : k = j
            · subst e; simp
            · rw [if_neg e, if_neg (by omega)]
theorem aget_aput {α : Type} (l : AL α) (k j : Nat) (v : α) : aget (aput l k v) j = if k = j then some v else aget l j := by
  induction l generalizing k j with
  | nil => simp [aput, aget_aone v k k j (Nat.le_refl _), aget]
  | lst l =>
    simp only [aput, aget, lk, Bool.cond_eq_ite, Nat.beq_eq]
  | fam l f ih =>
    unfold aput
    cases hk : Nat.blt k big with
    | true =>
      simp only [cond_true, aget]
      cases hj : Nat.blt j big with
      | true => simp only [cond_true, ih]
      | false =>
        simp only [cond_false]
        rw [if_neg (by rintro rfl; rw [hk] at hj; cases hj)]
    | false =>
      simp only [cond_false, aget]
      cases hj : Nat.blt j big with
      | true =>
        simp only [cond_true]
        rw [if_neg (by rintro rfl; rw [hk] at hj; cases hj)]
      | false =>
        simp only [cond_false, Bool.cond_eq_ite, Nat.beq_eq]
        by_cases h : k = j
        · subst h; simp
        · rw [if_neg h, if_neg (Ne.symm h)]
  | node u l r ihl ihr =>
    by_cases hk : k = 0
    · subst hk
      by_cases hj : j = 0
      · subst hj; rfl
      · simp only [aput, aget, Bool.cond_eq_ite, Nat.beq_eq, hj, if_false, if_neg (Ne.symm hj), if_true]
    · by_cases hk2 : k % 2 = 1
      · simp only [aput, Bool.cond_eq_ite, Nat.beq_eq, hk, if_false, hk2, if_true, aget]
        by_cases hj : j = 0
        · subst hj; simp [hk]
        · simp only [hj, if_false]
          by_cases hj2 : j % 2 = 1
          · simp only [hj2, if_true]
            rw [ihl]
            by_cases e : k = j
            · subst e; simp
            · rw [if_neg e, if_neg (by omega)]
          · simp only [hj2, if_false]
            rw [if_neg (by rintro rfl; exact hj2 hk2)]
      · simp only [aput, Bool.cond_eq_ite, Nat.beq_eq, hk, if_false, hk2, aget]
        by_cases hj : j = 0
        · subst hj; simp [hk]
        · simp only [hj, if_false]
          by_cases hj2 : j % 2 = 1
          · simp only [hj2, if_true]
            rw [if_neg (by rintro rfl; exact hk2 hj2)]
          · simp only [hj2, if_false]
            rw [ihr]
            by_cases e : k = j
            · subst e; simp
            · rw [if_neg e, if_neg (by omega)]
def flat : Value → Bool
  | .bool _ | .int .. | .float .. | .complex .. | .string _ | .pointer none | .slice none 0 0 | .map none | .chan none | .nilFunc | .nilIface => true
  | _ => false
structure Bl where
  blk : Nat
  sh : Nat
  room : Option (Nat × Nat)
abbrev Ren := Nat → Option Bl
def Ren.add (β : Ren) (i : Nat) (e : Bl) : Ren := fun j => if j = i then some e else β j
mutual
inductive VR (β : Ren) : Value → Value → Prop
  | same {v : Value} : flat v = true → VR β v v
  | ptr {b o : Nat} {e : Bl} : β b = some e → VR β (.pointer (some ⟨b, o, none⟩)) (.pointer (some ⟨e.blk, o + e.sh, none⟩))
  | slice {b o l c : Nat} {e : Bl} : β b = some e → e.room = none → VR β (.slice (some ⟨b, o, none⟩) l c) (.slice (some ⟨e.blk, o + e.sh, none⟩) l c)
  | sliceR {b o l c o' c' sz es : Nat} {e : Bl} : β b = some e → e.room = some (sz, es) → l ≤ c → c ≤ c' → (c' ≠ 0 → o' = o + e.sh) → o + e.sh + c' * es ≤ sz →
      VR β (.slice (some ⟨b, o, none⟩) l c) (.slice (some ⟨e.blk, o', none⟩) l c')
  | slice0 {a : Addr} : VR β (.slice none 0 1) (.slice (some a) 0 0)
  | map {b : Nat} {e : Bl} : β b = some e → VR β (.map (some b)) (.map (some e.blk))
  | func {fn : Fn} {xs ys us vs : Array Value} : VRs β xs.toList ys.toList → VRs β us.toList vs.toList → VR β (.func fn xs us) (.func fn ys vs)
  | iface {t : TypeId} {v v' : Value} : VR β v v' → VR β (.iface t v) (.iface t v')
  | agg {xs ys : Array Value} : VRs β xs.toList ys.toList → VR β (.agg xs) (.agg ys)
  | tuple {xs ys : Array Value} : VRs β xs.toList ys.toList → VR β (.tuple xs) (.tuple ys)
inductive VRs (β : Ren) : List Value → List Value → Prop
  | nil : VRs β [] []
  | cons {x y : Value} {xs ys : List Value} : VR β x y → VRs β xs ys → VRs β (x :: xs) (y :: ys)
end
def Ren.le (β β' : Ren) : Prop := ∀ i e, β i = some e → β' i = some e
theorem Ren.le_refl (β : Ren) : Ren.le β β := fun _ _ h => h
theorem Ren.le_trans {a b c : Ren} (h : Ren.le a b) (k : Ren.le b c) : Ren.le a c := fun i e he => k i e (h i e he)
mutual
theorem VR.mono {β β' : Ren} (h : Ren.le β β') : ∀ {v v' : Value}, VR β v v' → VR β' v v'
  | _, _, .same f => .same f
  | _, _, .ptr e => .ptr (h _ _ e)
  | _, _, .slice e r => .slice (h _ _ e) r
  | _, _, .sliceR e r a b c d => .sliceR (h _ _ e) r a b c d
  | _, _, .slice0 => .slice0
  | _, _, .map e => .map (h _ _ e)
  | _, _, .func a b => .func (VRs.mono h a) (VRs.mono h b)
  | _, _, .iface a => .iface (VR.mono h a)
  | _, _, .agg a => .agg (VRs.mono h a)
  | _, _, .tuple a => .tuple (VRs.mono h a)
theorem VRs.mono {β β' : Ren} (h : Ren.le β β') : ∀ {v v' : List Value}, VRs β v v' → VRs β' v v'
  | _, _, .nil => .nil
  | _, _, .cons a b => .cons (VR.mono h a) (VRs.mono h b)
end
theorem VRs.length {β : Ren} : ∀ {xs ys : List Value}, VRs β xs ys → xs.length = ys.length
  | _, _, .nil => rfl
  | _, _, .cons _ b => by simp [VRs.length b]
theorem VRs.get {β : Ren} : ∀ {xs ys : List Value}, VRs β xs ys → ∀ {k : Nat} {v : Value}, xs[k]? = some v → ∃ v', ys[k]? = some v' ∧ VR β v v'
  | _, _, .nil, k, v, h => by simp at h
  | _, _, .cons a b, 0, v, h => by simp at h; subst h; exact ⟨_, rfl, a⟩
  | _, _, .cons a b, k + 1, v, h => by simp at h; simpa using VRs.get b h
theorem VRs.append {β : Ren} : ∀ {xs ys us vs : List Value}, VRs β xs ys → VRs β us vs → VRs β (xs ++ us) (ys ++ vs)
  | _, _, _, _, .nil, h => h
  | _, _, _, _, .cons a b, h => .cons a (VRs.append b h)
theorem VRs.take {β : Ren} : ∀ {xs ys : List Value}, VRs β xs ys → ∀ n, VRs β (xs.take n) (ys.take n)
  | _, _, .nil, n => by simp; exact .nil
  | _, _, .cons a b, 0 => .nil
  | _, _, .cons a b, n + 1 => .cons a (VRs.take b n)
theorem VRs.drop {β : Ren} : ∀ {xs ys : List Value}, VRs β xs ys → ∀ n, VRs β (xs.drop n) (ys.drop n)
  | _, _, .nil, n => by simp; exact .nil
  | _, _, .cons a b, 0 => .cons a b
  | _, _, .cons a b, n + 1 => VRs.drop b n
inductive AObj where
  | cells (cs : List Value) (elem : TypeId) (gr : Option Nat)
  | map (es : List MapEntry) (clock : Nat)
  | ro (cs : List Value) (elem : TypeId)
  | iter (s : ByteArray) (pos : Nat)
  | miter (m : Option Nat) (since : Nat) (seen : List Nat) (last : Nat)
  | pin (cs : List (Option Value)) (o : Obj)
  | dead
def AObj.live : AObj → Bool
  | .dead => false
  | _ => true
abbrev Heap := AL AObj
def unfrozen (fr : Nat × Nat) (sh size : Nat) : Prop := ∀ k, sh ≤ k → k < size → ¬ (fr.1 ≤ k ∧ k < fr.2)
inductive ERs (β : Ren) : List MapEntry → List MapEntry → Prop
  | nil : ERs β [] []
  | cons {x y : MapEntry} {xs ys : List MapEntry} : VR β x.key y.key → VR β x.val y.val → x.born = y.born → ERs β xs ys → ERs β (x :: xs) (y :: ys)
theorem ERs.mono {β β' : Ren} (h : Ren.le β β') : ∀ {v v' : List MapEntry}, ERs β v v' → ERs β' v v'
  | _, _, .nil => .nil
  | _, _, .cons a b c d => .cons (a.mono h) (b.mono h) c (ERs.mono h d)
inductive OR (β : Ren) (e : Bl) : AObj → Obj → Prop
  | exact {cs : List Value} {c : Array Value} {t : TypeId} {fr : Nat × Nat} : e.room = none → e.sh = 0 → VRs β cs c.toList → fr = (0, 0) → OR β e (.cells cs t none) (.cells c t fr)
  | grown {cs : List Value} {c : Array Value} {t : TypeId} {fr : Nat × Nat} {es : Nat} : e.room = some (c.size, es) → e.sh + cs.length ≤ c.size → VRs β cs ((c.toList.drop e.sh).take cs.length) → unfrozen fr e.sh c.size →
      OR β e (.cells cs t (some es)) (.cells c t fr)
  | ro {cs : List Value} {c : Array Value} {t : TypeId} {fr : Nat × Nat} : e.sh + cs.length ≤ c.size → VRs β cs ((c.toList.drop e.sh).take cs.length) → OR β e (.ro cs t) (.cells c t fr)
  | map {es : List MapEntry} {c : Array MapEntry} {k : Nat} : ERs β es c.toList → OR β e (.map es k) (.map c k)
  | iter {s : ByteArray} {p : Nat} : e.sh = 0 → OR β e (.iter s p) (.stringIter s p)
  | miter {m : Nat} {f : Bl} {since last : Nat} {seen : Array Nat} : e.sh = 0 → β m = some f → OR β e (.miter (some m) since seen.toList last) (.mapIter (some f.blk) since seen last)
  | miter0 {since last : Nat} {seen : Array Nat} : e.sh = 0 → OR β e (.miter none since seen.toList last) (.mapIter none since seen last)
  | pin {cs : List (Option Value)} {c : Array Value} {t : TypeId} {fr : Nat × Nat} : e.room = none → e.sh = 0 → (∀ (j : Nat) (v : Value), cs[j]? = some (some v) → ∃ v', c[j]? = some v' ∧ VR β v v' ∧ ¬ (fr.1 ≤ j ∧ j < fr.2)) → OR β e (.pin cs (.cells c t fr)) (.cells c t fr)
  | dead {o : Obj} : OR β e .dead o
theorem OR.mono {β β' : Ren} (h : Ren.le β β') {e : Bl} {x : AObj} {o : Obj} : OR β e x o → OR β' e x o
  | .exact a b c d => .exact a b (c.mono h) d
  | .grown a l b c => .grown a l (b.mono h) c
  | .ro l a => .ro l (a.mono h)
  | .map a => .map (a.mono h)
  | .iter h => .iter h
  | .miter a b => .miter a (h _ _ b)
  | .miter0 a => .miter0 a
  | .pin a b d => .pin a b fun j v hj => let ⟨v', h1, h2, h3⟩ := d j v hj; ⟨v', h1, h2.mono h, h3⟩
  | .dead => .dead
def isLive (H : Heap) (i : Nat) : Prop := ∃ o, aget H i = some o ∧ o.live = true
structure HR (G : List Nat) (β : Ren) (H : Heap) (n : Nat) (w : World) : Prop where
  glob : ∀ g ∈ G, β g = some ⟨g, 0, none⟩
  dom : ∀ {i e}, β i = some e → (i < n ∨ big ≤ i) ∧ e.blk < w.heap.size
  fin : ∃ M, ∀ i e, β i = some e → i < M
  inj : ∀ {i j e f}, β i = some e → β j = some f → isLive H i → isLive H j → e.blk = f.blk → i = j
  obj : ∀ {i e o}, β i = some e → aget H i = some o → ∃ b, w.heap[e.blk]? = some b ∧ OR β e o b
structure Fr (β : Ren) (n : Nat) (w : World) (β' : Ren) (n' : Nat) (w' : World) : Prop where
  ext : Ren.le β β'
  new : ∀ {i e}, β' i = some e → β i = some e ∨ (n ≤ i ∧ (w.heap.size ≤ e.blk ∨ ∃ j f, β j = some f ∧ f.blk = e.blk))
  le : n ≤ n'
  size : w.heap.size ≤ w'.heap.size
  keep : ∀ b, b < w.heap.size → (∀ i e, β i = some e → e.blk ≠ b) → w'.heap[b]? = w.heap[b]?
  os : w'.os = w.os
  tape : w'.tape = w.tape
  output : w'.output = w.output
theorem Fr.refl (β : Ren) (n : Nat) (w : World) : Fr β n w β n w :=
  ⟨Ren.le_refl _, fun h => .inl h, Nat.le_refl _, Nat.le_refl _, fun _ _ _ => rfl, rfl, rfl, rfl⟩
theorem Fr.trans {β β1 β2 : Ren} {n n1 n2 : Nat} {w w1 w2 : World} (h : Fr β n w β1 n1 w1) (k : Fr β1 n1 w1 β2 n2 w2) : Fr β n w β2 n2 w2 where
  ext := Ren.le_trans h.ext k.ext
  new := by
    intro i e hi
    rcases k.new hi with h1 | ⟨h1, h2⟩
    · exact h.new h1
    · right
      refine ⟨Nat.le_trans h.le h1, ?_⟩
      rcases h2 with h2 | ⟨j, f, hj, hf⟩
      · exact .inl (Nat.le_trans h.size h2)
      · rcases h.new hj with h3 | ⟨_, h4⟩
        · exact .inr ⟨j, f, h3, hf⟩
        · rcases h4 with h4 | ⟨j', f', h5, h6⟩
          · exact .inl (hf ▸ h4)
          · exact .inr ⟨j', f', h5, h6.trans hf⟩
  le := Nat.le_trans h.le k.le
  size := Nat.le_trans h.size k.size
  keep := by
    intro b hb hno
    rw [k.keep b (Nat.lt_of_lt_of_le hb h.size), h.keep b hb hno]
    intro i e hi heq
    rcases h.new hi with h1 | ⟨_, h2⟩
    · exact hno i e h1 heq
    · rcases h2 with h2 | ⟨j, f, hj, hf⟩
      · omega
      · exact hno j f hj (hf.trans heq)
  os := k.os.trans h.os
  tape := k.tape.trans h.tape
  output := k.output.trans h.output
def TR (β : Ren) (N : Nat) (T : AL Value) (tmps : Array Value) : Prop :=
  tmps.size = N ∧ ∀ k v, aget T k = some v → ∃ v', tmps[k]? = some v' ∧ VR β v v'
theorem TR.mono {β β' : Ren} (h : Ren.le β β') {N : Nat} {T : AL Value} {tmps : Array Value} (k : TR β N T tmps) : TR β' N T tmps :=
  ⟨k.1, fun i v hv => let ⟨v', a, b⟩ := k.2 i v hv; ⟨v', a, b.mono h⟩⟩
theorem TR.put {β : Ren} {N : Nat} {T : AL Value} {tmps : Array Value} (h : TR β N T tmps) {d : Nat} (hd : d < N) {v v' : Value} (hv : VR β v v') :
    TR β N (aput T d v) (tmps.setIfInBounds d v') := by
  refine ⟨by simp [h.1], fun k u hu => ?_⟩
  rw [aget_aput] at hu
  by_cases hk : d = k
  · subst hk
    simp only [if_true, Option.some.injEq] at hu
    subst hu
    exact ⟨v', by simp [h.1, hd], hv⟩
  · simp only [hk, if_false] at hu
    obtain ⟨u', h1, h2⟩ := h.2 k u hu
    exact ⟨u', by rw [Array.getElem?_setIfInBounds_ne hk]; exact h1, h2⟩
def ev (G : List Nat) (T : AL Value) : Operand → Option Value
  | .tmp t => aget T t
  | .const v => if flat v then some v else none
  | .global g => if g ∈ G then some (.pointer (some ⟨g, 0, none⟩)) else none
  | .func f => some (.func (.func f) #[] #[])
theorem ev_sound {G : List Nat} {β : Ren} {N : Nat} {T : AL Value} {a : Act} (hG : ∀ g ∈ G, β g = some ⟨g, 0, none⟩) (h : TR β N T a.tmps) {x : Operand} {v : Value} (hx : ev G T x = some v) : VR β v (a.eval x) := by
  cases x with
  | tmp t =>
    obtain ⟨v', h1, h2⟩ := h.2 t v hx
    simp only [Act.eval, Array.getD_eq_getD_getElem?, h1, Option.getD_some]
    exact h2
  | const c =>
    simp only [ev] at hx
    split at hx
    · rename_i hf; injection hx with hx; subst hx; exact .same hf
    · exact absurd hx (by simp)
  | global g =>
    simp only [ev] at hx
    split at hx
    · rename_i hg; injection hx with hx; subst hx; exact .ptr (hG g hg)
    · exact absurd hx (by simp)
  | func f => simp only [ev, Option.some.injEq] at hx; subst hx; exact .func .nil .nil
def evs (G : List Nat) (T : AL Value) : List Operand → Option (List Value)
  | [] => some []
  | x :: xs => match ev G T x, evs G T xs with
    | some v, some vs => some (v :: vs)
    | _, _ => none
theorem evs_sound {G : List Nat} {β : Ren} {N : Nat} {T : AL Value} {a : Act} (hG : ∀ g ∈ G, β g = some ⟨g, 0, none⟩) (h : TR β N T a.tmps) :
    ∀ {xs : List Operand} {vs : List Value}, evs G T xs = some vs → VRs β vs (xs.map a.eval)
  | [], vs, e => by simp only [evs, Option.some.injEq] at e; subst e; exact .nil
  | x :: xs, vs, e => by
    simp only [evs] at e
    split at e
    · rename_i v us h1 h2
      injection e with e; subst e
      exact .cons (ev_sound hG h h1) (evs_sound hG h h2)
    · exact absurd e (by simp)
end Go.Cs
namespace Go.Cs
inductive Kind where
  | move | pick | bin (op : BinOp) | un (op : UnOp) | conv (k : IntKind) | convStr
  | eqBool (neg : Bool) | eqPtr (neg : Bool) | eqSlice (neg : Bool) | eqMap (neg : Bool) | eqFunc (neg : Bool) | eqIface (neg : Bool) | eqInts (n : Nat) (neg : Bool)
  | mkIface (t : TypeId) | mkFunc (fn : Fn) (nf : Nat) | extract (i : Nat) | field (off : Nat) (sz : Option Nat) | build (zero : List Value) (places : List (Nat × Nat))
  | fieldAddr (off : Nat) | indexAddrS (es : Nat) | indexAddrA (n es : Nat) | indexA (n es : Nat) (agg : Bool) | indexStr
  | sliceS (es : Nat) (lo hi : Bool) | sliceStr (lo hi : Bool) | sliceA (n es : Nat) (lo hi : Bool) | nilCheck | lenS | lenStr | lenC (n : Nat) | bmin | bmax
  | toUnsafe | ofUnsafe (u : TypeId) (size : Nat) | sliceData | unsafeStr (t : TypeId) | appendStr (t : TypeId) | strToBytes (t : TypeId) | bytesToStr | eqAddr (neg : Bool)
  | asConc (t : TypeId) (zero : Value) (ok : Bool)
  | load1 | loadN (n : Nat) | lookup (str : Nat) (zero : Value) (ok : Bool) | lenMap
  | alloc (t : TypeId) (zero : List Value) | box (t : TypeId) | buildSlice (t : TypeId) (len : Nat) (zero : List Value) (places : List (Nat × Nat)) | mkMap
  | mkSlice (t : TypeId) (bytes : Nat) (zero : List Value)
  | rangeStr
  | store (n : Nat) | mapUpdate (str : Nat) | append (t : TypeId) (es bytes : Nat) (zero : List Value) | copyB (es : Nat) | nextStr | mapDelete (str : Nat)
  | callF (f : FuncId) | callV | invoke (name : String)
  | deferV
  | rangeMap | nextMap | entry
  deriving Inhabited
def flats (vs : List Value) : Bool := vs.all flat
def zeroOf (P : Program) (t : TypeId) : Option (List Value) :=
  match (P.info? t).bind (·.zero) with
  | some v => if flats v.cells.toList then some v.cells.toList else none
  | none => none
def sizeOfT (P : Program) (t : TypeId) : Option Nat := (P.info? t).map (·.size)
def isAggT (P : Program) (t : TypeId) : Option Bool :=
  match P.underlying t with
  | some (.struct _) | some (.array _ _) => some true
  | some _ => some false
  | none => none
def optArg : Option Operand → List Operand
  | some x => [x]
  | none => []
def intsRun (P : Program) (N : TypeId → Option Nat) : Nat → List Field → Option Nat
  | acc, [] => some acc
  | acc, f :: fs =>
    match N f.type with
    | some n => if sizeOfT P f.type = some n ∧ f.name ≠ "_" ∧ f.offset = acc then intsRun P N (acc + n) fs else none
    | none => none
def intsN (P : Program) : Nat → TypeId → Option Nat
  | 0, _ => none
  | d + 1, t =>
    match P.underlying t with
    | some (.int _) => if sizeOfT P t = some 1 then some 1 else none
    | some (.struct fs) => if P.stoodInHeld t then none else intsRun P (intsN P d) 0 fs.toList
    | some (.array len e) => match intsN P d e with
      | some n => if sizeOfT P e = some n then some (len * n) else none
      | none => none
    | _ => none
def keyKind (P : Program) (t : TypeId) : Option (Nat × TypeId) :=
  match P.underlying t with
  | some (.map k e) =>
    match P.underlying k with
    | some (.int _) => some (0, e)
    | some .string => some (1, e)
    | some (.struct _) | some (.array ..) => match intsN P 8 k with | some m => some (2 + m, e) | none => none
    | _ => none
  | _ => none
def isC : Operand → Bool
  | .const _ => true
  | _ => false
def eqKind (P : Program) (neg : Bool) (t : TypeId) (x y : Operand) : Option Kind :=
  match P.underlying t with
  | some (.int _) | some .string => some (.bin (if neg then .neq else .eql))
  | some .bool => some (.eqBool neg)
  | some (.pointer e) => if (sizeOfT P e).isSome then some (.eqPtr neg) else none
  | some (.slice _) => some (.eqSlice neg)
  | some (.map _ _) => some (.eqMap neg)
  | some (.func _ _ _) => some (.eqFunc neg)
  | some (.interface _) => if isC x || isC y then some (.eqIface neg) else none
  | some (.array _ _) | some (.struct _) => match intsN P 8 t with
    | some n => if P.eqGuardType P.depth t then none else some (.eqInts n neg)
    | none => none
  | _ => none
def kindOf (P : Program) (o : Oper) : Option (Kind × List Operand) :=
  match o.op with
  | .move x | .assign x => some (.move, [x])
  | .pick c a b => some (.pick, [c, a, b])
  | .binOp op t x y _ =>
    match op with
    | .eql => (eqKind P false t x y).map (·, [x, y])
    | .neq => (eqKind P true t x y).map (·, [x, y])
    | op => some (.bin op, [x, y])
  | .unOp op _ x => some (.un op, [x])
  | .convert src dst x =>
    match P.underlying src, P.underlying dst with
    | some (.int _), some (.int k) => some (.conv k, [x])
    | some .string, some .string => some (.convStr, [x])
    | some (.pointer t), some .unsafePointer => match sizeOfT P t with
      | some (_ + 1) => some (.toUnsafe, [x])
      | _ => none
    | some .unsafePointer, some (.pointer u) => match sizeOfT P u with
      | some (n + 1) => some (.ofUnsafe u (n + 1), [x])
      | _ => none
    | some (.slice e), some .string => match P.underlying e with
      | some (.int .u8) => some (.bytesToStr, [x])
      | _ => none
    | some .string, some (.slice e) => match P.underlying e, sizeOfT P e with
      | some (.int .u8), some 1 => some (.strToBytes e, [x])
      | _, _ => none
    | _, _ => none
  | .makeInterface t x =>
    match P.underlying t with
    | some (.interface _) | none => none
    | some _ => some (.mkIface t, [x])
  | .makeFunc fn first captured => some (.mkFunc fn first.size, first.toList ++ captured.toList)
  | .extract x i => some (.extract i, [x])
  | .field t x i =>
    match P.underlying t with
    | some (.struct fs) =>
      match fs[i]? with
      | some f =>
        match isAggT P f.type, sizeOfT P f.type with
        | some true, some n => some (.field f.offset (some n), [x])
        | some false, some _ => some (.field f.offset none, [x])
        | _, _ => none
      | none => none
    | _ => none
  | .build t parts =>
    match zeroOf P t, P.underlying t with
    | some z, some (.struct fs) =>
      match parts.toList.mapM (fun (i, _) => do let f ← fs[i]?; let n ← sizeOfT P f.type; pure (f.offset, n)), fs.toList.mapM (fun f => sizeOfT P f.type) with
      | some ps, some _ => some (.build z ps, parts.toList.map (·.2))
      | _, _ => none
    | some z, some (.array _ e) =>
      match sizeOfT P e with
      | some n => some (.build z (parts.toList.map fun (i, _) => (i * n, n)), parts.toList.map (·.2))
      | none => none
    | _, _ => none
  | .fieldAddr t x i =>
    match P.underlying t with
    | some (.struct fs) =>
      match fs[i]? with
      | some f => match sizeOfT P f.type with
        | some (_ + 1) => some (.fieldAddr f.offset, [x])
        | _ => none
      | none => none
    | _ => none
  | .indexAddr t x i =>
    match P.underlying t with
    | some (.slice e) => (sizeOfT P e).map fun n => (.indexAddrS n, [x, i])
    | some (.array len e) => (sizeOfT P e).map fun n => (.indexAddrA len n, [x, i])
    | _ => none
  | .index t x i =>
    match P.underlying t with
    | some .string => some (.indexStr, [x, i])
    | some (.array len e) =>
      match isAggT P e, sizeOfT P e with
      | some b, some n => some (.indexA len n b, [x, i])
      | _, _ => none
    | _ => none
  | .slice t x lo hi mx =>
    match mx with
    | some _ => none
    | none =>
      match P.underlying t with
      | some (.slice e) => (sizeOfT P e).map fun n => (.sliceS n lo.isSome hi.isSome, x :: (optArg lo ++ optArg hi))
      | some .string => some (.sliceStr lo.isSome hi.isSome, x :: (optArg lo ++ optArg hi))
      | some (.array len e) => (sizeOfT P e).map fun n => (.sliceA len n lo.isSome hi.isSome, x :: (optArg lo ++ optArg hi))
      | _ => none
  | .nilCheck x => some (.nilCheck, [x])
  | .typeAssert x _ t ok =>
    match P.underlying t with
    | some (.interface _) | none => none
    | some _ => match (P.info? t).bind (·.zero) with
      | some z => if flats z.cells.toList then some (.asConc t z ok, [x]) else none
      | none => none
  | .load t a =>
    match isAggT P t, sizeOfT P t with
    | some true, some n => some (.loadN n, [a])
    | some false, some _ => some (.load1, [a])
    | _, _ => none
  | .lookup t m k ok =>
    match keyKind P t with
    | some (str, e) => match (P.info? e).bind (·.zero) with
      | some z => if flats z.cells.toList then some (.lookup str z ok, [m, k]) else none
      | none => none
    | none => none
  | .alloc t => (zeroOf P t).map fun z => (.alloc t z, [])
  | .box t x => some (.box t, [x])
  | .buildSlice t len parts =>
    match P.underlying t with
    | some (.slice e) =>
      match sizeOfT P e, zeroOf P e with
      | some n, some z => if len * n ≤ 2 ^ 24 ∧ z.length = n ∧ 0 < n then
          some (.buildSlice e len ((List.replicate len z).flatten) (parts.toList.map fun (i, _) => (i * n, n)), parts.toList.map (·.2)) else none
      | _, _ => none
    | _ => none
  | .makeMap t r =>
    match P.underlying t, r with
    | some (.map _ _), none => some (.mkMap, [])
    | _, _ => none
  | .makeSlice t l c =>
    match P.underlying t with
    | some (.slice e) =>
      match P.info? e, zeroOf P e with
      | some i, some z => if z.length = i.size ∧ 0 < i.size then some (.mkSlice e i.bytes z, [l, c]) else none
      | _, _ => none
    | _ => none
  | .range t x =>
    match P.underlying t with
    | some .string => some (.rangeStr, [x])
    | some (.map _ _) => some (.rangeMap, [x])
    | _ => none
  | .next x true => some (.nextStr, [x])
  | .next x false => some (.nextMap, [x])
  | .entry x => some (.entry, [x])
  | .store t a x => (sizeOfT P t).map fun n => (.store n, [a, x])
  | .mapUpdate t m k x | .insert t m k x => (keyKind P t).map fun (str, _) => (.mapUpdate str, [m, k, x])
  | .call c =>
    match c.callee with
    | .value (.func f) => some (.callF f, c.args.toList)
    | .value f => some (.callV, f :: c.args.toList)
    | .invoke r name => some (.invoke name, r :: c.args.toList)
    | .builtin .len =>
      match c.argTypes[0]?, c.args.toList with
      | some t, [x] =>
        match P.underlying t with
        | some .string => some (.lenStr, [x])
        | some (.slice _) => some (.lenS, [x])
        | some (.array n _) => some (.lenC n, [x])
        | some (.pointer t') => match P.underlying t' with
          | some (.array n _) => some (.lenC n, [x])
          | _ => none
        | some (.map _ _) => some (.lenMap, [x])
        | _ => none
      | _, _ => none
    | .builtin .min => some (.bmin, c.args.toList)
    | .builtin .max => some (.bmax, c.args.toList)
    | .builtin .append =>
      match c.argTypes[0]?, c.argTypes[1]?, c.args.toList with
      | some t, some u, [x, y] =>
        match P.underlying t, P.underlying u with
        | some (.slice e), some .string =>
          match P.info? e, zeroOf P e with
          | some i, some z => if (i.size = 1 ∧ i.bytes = 1) ∧ z.length = 1 then some (.appendStr e, [x, y]) else none
          | _, _ => none
        | some (.slice e), some (.slice _) =>
          match P.info? e, zeroOf P e with
          | some i, some z => if z.length = i.size ∧ 0 < i.size ∧ 0 < i.bytes then some (.append e i.size i.bytes z, [x, y]) else none
          | _, _ => none
        | _, _ => none
      | _, _, _ => none
    | .builtin .unsafeSliceData => match c.args.toList with
      | [x] => some (.sliceData, [x])
      | _ => none
    | .builtin .unsafeString =>
      match c.argTypes[0]?, c.args.toList with
      | some t, [x, y] => match P.underlying t with
        | some (.pointer e) => match P.underlying e, sizeOfT P e with
          | some (.int .u8), some 1 => some (.unsafeStr e, [x, y])
          | _, _ => none
        | _ => none
      | _, _ => none
    | .builtin .copy =>
      match c.argTypes[0]?, c.args.toList with
      | some t, [x, y] =>
        match P.underlying t with
        | some (.slice e) => (sizeOfT P e).map fun n => (.copyB n, [x, y])
        | _ => none
      | _, _ => none
    | .builtin .delete =>
      match c.argTypes[0]?, c.args.toList with
      | some t, [x, y] => (keyKind P t).map fun (str, _) => (.mapDelete str, [x, y])
      | _, _ => none
    | _ => none
  | .defer c =>
    match c.callee, c.args.toList with
    | .value f, [] => some (.deferV, [f])
    | _, _ => none
  | _ => none
def bin (op : BinOp) (x y : Value) : Option Value :=
  match x, y with
  | .int k a, .int k' b =>
    match op with
    | .shl => if b < 0 then none else some (.int k (k.wrap (a * 2 ^ (min b.toNat k.bits))))
    | .shr => if b < 0 then none else some (.int k (a.fdiv (2 ^ (min b.toNat k.bits))))
    | _ =>
      if k ≠ k' then none else
      match op with
      | .add => some (.int k (k.wrap (a + b)))
      | .sub => some (.int k (k.wrap (a - b)))
      | .mul => some (.int k (k.wrap (a * b)))
      | .quo => if b = 0 then none else some (.int k (k.wrap (a.tdiv b)))
      | .rem => if b = 0 then none else some (.int k (a.tmod b))
      | .and => some (.int k (bits .and k a b))
      | .or => some (.int k (bits .or k a b))
      | .xor => some (.int k (bits .xor k a b))
      | .andNot => some (.int k (bits .andNot k a b))
      | .eql => some (.bool (a == b))
      | .neq => some (.bool (a != b))
      | .lss => some (.bool (a < b))
      | .leq => some (.bool (a ≤ b))
      | .gtr => some (.bool (b < a))
      | .geq => some (.bool (b ≤ a))
      | _ => none
  | .string s, .string t =>
    match op with
    | .add => if s.data.toList.length + t.data.toList.length < 2 ^ 40 then some (.string ⟨(s.data.toList ++ t.data.toList).toArray⟩) else none
    | .eql => some (.bool (s.data.toList == t.data.toList))
    | .neq => some (.bool (s.data.toList != t.data.toList))
    | .lss => some (.bool (Op.bytesLess s.data.toList t.data.toList))
    | _ => none
  | _, _ => none
def partV (cs : List Value) (off : Nat) : Option Nat → Option Value
  | some n => if off + n ≤ cs.length then some (.agg ((cs.drop off).take n).toArray) else none
  | none => cs[off]?
def fillL (cells : List Value) : List (Nat × Nat) → List Value → Option (List Value)
  | [], [] => some cells
  | (off, n) :: ps, v :: vs =>
    let c := v.cells.toList
    if c.length = n ∧ off + n ≤ cells.length then fillL (cells.take off ++ c ++ cells.drop (off + n)) ps vs else none
  | _, _ => none
def bound1 (top : Nat) (dflt : Nat) : Option Value → Option Nat
  | none => some dflt
  | some (.int _ i) => if 0 ≤ i ∧ i ≤ (top : Int) then some i.toNat else none
  | _ => none
def splitArgs (lo hi : Bool) (vs : List Value) : Option (Option Value × Option Value) :=
  match vs with
  | [] => if lo = false ∧ hi = false then some (none, none) else none
  | [a] => if lo = true ∧ hi = false then some (some a, none) else if lo = false ∧ hi = true then some (none, some a) else none
  | [a, b] => if lo = true ∧ hi = true then some (some a, some b) else none
  | _ => none
def bounds (len cap : Nat) (lo hi : Bool) (vs : List Value) : Option (Nat × Nat) :=
  match splitArgs lo hi vs with
  | some (a, b) =>
    match bound1 cap len b with
    | some h => match bound1 h 0 a with
      | some l => if l ≤ h then some (l, h) else none
      | none => none
    | none => none
  | none => none
def eqIntsL : List Value → List Value → Option Bool
  | [], [] => some true
  | .int k a :: xs, .int k' b :: ys => if k = k' then (eqIntsL xs ys).map fun r => (a == b) && r else none
  | _, _ => none
def foldV (f : Int → Int → Int) : Value → List Value → Option Value
  | v, [] => some v
  | .int k a, .int _ b :: vs => foldV f (.int k (f a b)) vs
  | _, _ => none
structure Env where
  meth : TypeId → String → Option FuncId
def sMove : List Value → Option Value
  | [v] => some v
  | _ => none
def sPick : List Value → Option Value
  | [.bool c, a, b] => some (if c then a else b)
  | _ => none
def sBin (op : BinOp) : List Value → Option Value
  | [x, y] => bin op x y
  | _ => none
def sUn (op : UnOp) : List Value → Option Value
  | [x] => match op, x with
    | .not, .bool b => some (.bool (!b))
    | .neg, .int k n => some (.int k (k.wrap (0 - n)))
    | _, _ => none
  | _ => none
def sConv (k : IntKind) : List Value → Option Value
  | [.int _ n] => some (.int k (k.wrap n))
  | _ => none
def sConvStr : List Value → Option Value
  | [.string s] => some (.string s)
  | _ => none
def sEqBool (neg : Bool) : List Value → Option Value
  | [.bool a, .bool b] => some (.bool ((a == b) != neg))
  | _ => none
def sEqPtr (neg : Bool) : List Value → Option Value
  | [.pointer none, .pointer b] => some (.bool (b.isNone != neg))
  | [.pointer _, .pointer none] => some (.bool (false != neg))
  | [.pointer (some ⟨b, o, none⟩), .pointer (some ⟨b', o', none⟩)] => if b = b' ∧ o = o' then some (.bool (true != neg)) else none
  | _ => none
def sEqSlice (neg : Bool) : List Value → Option Value
  | [.slice none 0 0, .slice none 0 0] => some (.bool (true != neg))
  | [.slice none 0 0, .slice (some _) _ _] => some (.bool (false != neg))
  | [.slice (some _) _ _, .slice none 0 0] => some (.bool (false != neg))
  | _ => none
def sEqMap (neg : Bool) : List Value → Option Value
  | [.map none, .map b] => some (.bool (b.isNone != neg))
  | [.map _, .map none] => some (.bool (false != neg))
  | _ => none
def sEqFunc (neg : Bool) : List Value → Option Value
  | [.nilFunc, .nilFunc] => some (.bool (true != neg))
  | [.nilFunc, .func ..] => some (.bool (false != neg))
  | [.func .., .nilFunc] => some (.bool (false != neg))
  | _ => none
def sEqIface (neg : Bool) : List Value → Option Value
  | [.nilIface, .nilIface] => some (.bool (true != neg))
  | [.nilIface, .iface ..] => some (.bool (false != neg))
  | [.iface .., .nilIface] => some (.bool (false != neg))
  | _ => none
def sEqInts (n : Nat) (neg : Bool) : List Value → Option Value
  | [.agg xs, .agg ys] => if xs.toList.length = n ∧ ys.toList.length = n then (eqIntsL xs.toList ys.toList).map fun r => .bool (r != neg) else none
  | _ => none
def sMkIface (t : TypeId) : List Value → Option Value
  | [v] => some (.iface t v)
  | _ => none
def sExtract (i : Nat) : List Value → Option Value
  | [.tuple vs] => vs.toList[i]?
  | _ => none
def sField (off : Nat) (sz : Option Nat) : List Value → Option Value
  | [.agg cs] => partV cs.toList off sz
  | _ => none
def sFieldAddr (off : Nat) : List Value → Option Value
  | [.pointer (some ⟨b, o, none⟩)] => some (.pointer (some ⟨b, o + off, none⟩))
  | _ => none
def sIndexAddrS (es : Nat) : List Value → Option Value
  | [.slice (some ⟨b, o, none⟩) len _, .int _ i] => if 0 ≤ i ∧ i < (len : Int) then some (.pointer (some ⟨b, o + i.toNat * es, none⟩)) else none
  | _ => none
def sIndexAddrA (n es : Nat) : List Value → Option Value
  | [.pointer (some ⟨b, o, none⟩), .int _ i] => if 0 ≤ i ∧ i < (n : Int) then some (.pointer (some ⟨b, o + i.toNat * es, none⟩)) else none
  | _ => none
def sIndexA (n es : Nat) (agg : Bool) : List Value → Option Value
  | [.agg cs, .int _ i] => if 0 ≤ i ∧ i < (n : Int) then partV cs.toList (i.toNat * es) (if agg then some es else none) else none
  | _ => none
def sIndexStr : List Value → Option Value
  | [.string s, .int _ i] => if 0 ≤ i then (s.data.toList[i.toNat]?).map fun c => .int .u8 c.toNat else none
  | _ => none
def sSliceStr (lo hi : Bool) : List Value → Option Value
  | .string s :: vs => (bounds s.data.toList.length s.data.toList.length lo hi vs).map fun (l, h) => .string ⟨((s.data.toList.drop l).take (h - l)).toArray⟩
  | _ => none
def sNilCheck (E : Env) : List Value → Option Value
  | [.pointer (some ⟨b, o, none⟩)] => some (.pointer (some ⟨b, o, none⟩))
  | [.iface t v] => some (.iface t v)
  | [.func (.func f) a b] => some (.func (.func f) a b)
  | [.func (.method nm) a b] => match a.toList with
    | [.iface t _] => if (E.meth t nm).isSome then some (.func (.method nm) a b) else none
    | _ => none
  | _ => none
def sLenS : List Value → Option Value
  | [.slice _ n _] => some (.int .i64 n)
  | _ => none
def sLenStr : List Value → Option Value
  | [.string s] => some (.int .i64 s.data.toList.length)
  | _ => none
def sLenC (n : Nat) : List Value → Option Value
  | [_] => some (.int .i64 n)
  | _ => none
def sFold (f : Int → Int → Int) : List Value → Option Value
  | v :: vs => foldV f v vs
  | _ => none
def sAs (t : TypeId) (zero : Value) (ok : Bool) : List Value → Option Value
  | [.iface t' v] => if t' = t then some (if ok then .tuple #[v, .bool true] else v) else if ok then some (.tuple #[zero, .bool false]) else none
  | [.nilIface] => if ok then some (.tuple #[zero, .bool false]) else none
  | _ => none
def sSliceData : List Value → Option Value
  | [.slice (some ⟨b, o, none⟩) _ (_ + 1)] => some (.pointer (some ⟨b, o, none⟩))
  | _ => none
def semP (E : Env) (k : Kind) (vs : List Value) : Option Value :=
  match k with
  | .move => sMove vs
  | .pick => sPick vs
  | .bin op => sBin op vs
  | .un op => sUn op vs
  | .conv k => sConv k vs
  | .convStr => sConvStr vs
  | .eqBool neg => sEqBool neg vs
  | .eqPtr neg => sEqPtr neg vs
  | .eqSlice neg => sEqSlice neg vs
  | .eqMap neg => sEqMap neg vs
  | .eqFunc neg => sEqFunc neg vs
  | .eqIface neg => sEqIface neg vs
  | .eqInts n neg => sEqInts n neg vs
  | .mkIface t => sMkIface t vs
  | .mkFunc fn nf => some (.func fn (vs.take nf).toArray (vs.drop nf).toArray)
  | .extract i => sExtract i vs
  | .field off sz => sField off sz vs
  | .build zero places => (fillL zero places vs).map fun cs => .agg cs.toArray
  | .fieldAddr off => sFieldAddr off vs
  | .indexAddrS es => sIndexAddrS es vs
  | .indexAddrA n es => sIndexAddrA n es vs
  | .indexA n es agg => sIndexA n es agg vs
  | .indexStr => sIndexStr vs
  | .sliceStr lo hi => sSliceStr lo hi vs
  | .nilCheck => sNilCheck E vs
  | .lenS => sLenS vs
  | .lenStr => sLenStr vs
  | .lenC n => sLenC n vs
  | .bmin => sFold (fun a b => if b < a then b else a) vs
  | .bmax => sFold (fun a b => if a < b then b else a) vs
  | .asConc t zero ok => sAs t zero ok vs
  | .sliceData => sSliceData vs
  | _ => none
def rSlice (es : Nat) (lo hi : Bool) (H : Heap) : List Value → Option Value
  | .slice none 0 0 :: vs => (bounds 0 0 lo hi vs).map fun (l, h) => .slice none 0 0
  | .slice (some ⟨b, o, none⟩) len cap :: vs =>
    match aget H b with
    | some (.cells _ _ none) => (bounds len cap lo hi vs).map fun (l, h) => .slice (some ⟨b, if cap = l then o else o + l * es, none⟩) (h - l) (cap - l)
    | some (.cells _ _ (some es')) => if es = es' then (bounds len cap lo hi vs).map fun (l, h) => .slice (some ⟨b, o + l * es, none⟩) (h - l) (cap - l) else none
    | _ => none
  | _ => none
def rSliceA (n es : Nat) (lo hi : Bool) (H : Heap) : List Value → Option Value
  | .pointer (some ⟨b, o, none⟩) :: vs =>
    match aget H b with
    | some (.cells _ _ none) => (bounds n n lo hi vs).map fun (l, h) => .slice (some ⟨b, if n = l then o else o + l * es, none⟩) (h - l) (n - l)
    | _ => none
  | _ => none
def rToUnsafe (H : Heap) : List Value → Option Value
  | [.pointer (some ⟨b, o, none⟩)] =>
    match aget H b with
    | some (.cells cs _ _) => if o < cs.length then some (.pointer (some ⟨b, o, none⟩)) else none
    | _ => none
  | _ => none
def rOfUnsafe (u : TypeId) (size : Nat) (H : Heap) : List Value → Option Value
  | [.pointer (some ⟨b, 0, none⟩)] =>
    match aget H b with
    | some (.cells cs t none) => if t = u ∧ cs.length = size then some (.pointer (some ⟨b, 0, none⟩)) else none
    | _ => none
  | _ => none
def pinGet (cs : List (Option Value)) (o : Nat) : Nat → Option (List Value)
  | 0 => some []
  | n + 1 => match cs[o]? with
    | some (some v) => (pinGet cs (o + 1) n).map (v :: ·)
    | _ => none
def rLoad1 (H : Heap) : List Value → Option Value
  | [.pointer (some ⟨b, o, none⟩)] =>
    match aget H b with
    | some (.cells cs _ _) => cs[o]?
    | some (.pin cs _) => match cs[o]? with
      | some (some v) => some v
      | _ => none
    | _ => none
  | _ => none
def rLoadN (n : Nat) (H : Heap) : List Value → Option Value
  | [.pointer (some ⟨b, o, none⟩)] =>
    match aget H b with
    | some (.cells cs _ _) => if o + n ≤ cs.length then some (.agg ((cs.drop o).take n).toArray) else none
    | some (.pin cs _) => if 0 < n then (pinGet cs o n).map fun vs => .agg vs.toArray else none
    | _ => none
  | _ => none
def cellsOfSlice (H : Heap) (es : Nat) : Value → Option (List Value)
  | .slice none 0 _ => some []
  | .slice (some _) 0 _ => some []
  | .slice (some ⟨b, o, none⟩) n _ =>
    match aget H b with
    | some (.cells cs _ _) => if o + n * es ≤ cs.length then some ((cs.drop o).take (n * es)) else none
    | some (.pin cs _) => pinGet cs o (n * es)
    | _ => none
  | _ => none
def keyEq (k k' : Value) : Option Bool :=
  match k, k' with
  | .int j a, .int j' b => if j = j' then some (a == b) else none
  | .string a, .string b => some (a.data.toList == b.data.toList)
  | .agg a, .agg b => eqIntsL a.toList b.toList
  | _, _ => none
def findE (k : Value) : List MapEntry → Nat → Option (Option (Nat × Value))
  | [], _ => some none
  | e :: es, i => match keyEq k e.key with
    | some true => some (some (i, e.val))
    | some false => findE k es (i + 1)
    | none => none
def isInt : Value → Bool
  | .int .. => true
  | _ => false
def keyFits (str : Nat) : Value → Bool
  | .int .. => str == 0
  | .string _ => str == 1
  | .agg cs => str == 2 + cs.toList.length && cs.toList.all isInt
  | _ => false
def rLookup (str : Nat) (zero : Value) (ok : Bool) (H : Heap) : List Value → Option Value
  | [.map none, key] => if keyFits str key then some (if ok then .tuple #[zero, .bool false] else zero) else none
  | [.map (some b), key] =>
    match aget H b with
    | some (.map es _) =>
      if keyFits str key then
        match findE key es 0 with
        | some (some (_, v)) => some (if ok then .tuple #[v, .bool true] else v)
        | some none => some (if ok then .tuple #[zero, .bool false] else zero)
        | none => none
      else none
    | _ => none
  | _ => none
def rLenMap (H : Heap) : List Value → Option Value
  | [.map none] => some (.int .i64 0)
  | [.map (some b)] => match aget H b with
    | some (.map es _) => some (.int .i64 es.length)
    | _ => none
  | _ => none
def byteOfV : Value → Option UInt8
  | .int .u8 c => if 0 ≤ c ∧ c < 256 then some (UInt8.ofNat c.toNat) else none
  | _ => none
def bytesOfV : List Value → Option (List UInt8)
  | [] => some []
  | v :: vs => match byteOfV v, bytesOfV vs with
    | some b, some bs => some (b :: bs)
    | _, _ => none
def rBytesToStr (H : Heap) : List Value → Option Value
  | [v] => match cellsOfSlice H 1 v with
    | some cs => (bytesOfV cs).map fun bs => .string ⟨bs.toArray⟩
    | none => none
  | _ => none
def semR (k : Kind) (vs : List Value) (H : Heap) : Option Value :=
  match k with
  | .sliceS es lo hi => rSlice es lo hi H vs
  | .sliceA n es lo hi => rSliceA n es lo hi H vs
  | .toUnsafe => rToUnsafe H vs
  | .ofUnsafe u n => rOfUnsafe u n H vs
  | .load1 => rLoad1 H vs
  | .loadN n => rLoadN n H vs
  | .lookup str zero ok => rLookup str zero ok H vs
  | .lenMap => rLenMap H vs
  | .bytesToStr => rBytesToStr H vs
  | _ => none
end Go.Cs
namespace Go.Cs
def methP (P : Program) (t : TypeId) (name : String) : Option FuncId :=
  match P.info? t with
  | some i => match i.methods.find? (·.name == name) with
    | some m => if m.path.isEmpty then match m.func, P.underlying t with
      | some (f, true), some (.pointer _) => some f
      | some (_, false), some (.pointer _) => none
      | some (f, false), some _ => some f
      | _, _ => none else none
    | none => none
  | none => none
structure EnvOk (P : Program) (E : Env) : Prop where
  meth : ∀ {t name f}, E.meth t name = some f → methP P t name = some f
section inv
variable {β : Ren}
theorem VRs.one {x : Value} {ys : List Value} (h : VRs β [x] ys) : ∃ y, ys = [y] ∧ VR β x y := by
  cases h with | cons a b => cases b; exact ⟨_, rfl, a⟩
theorem VRs.two {x y : Value} {ys : List Value} (h : VRs β [x, y] ys) : ∃ x' y', ys = [x', y'] ∧ VR β x x' ∧ VR β y y' := by
  cases h with | cons a b => obtain ⟨y', rfl, hy⟩ := VRs.one b; exact ⟨_, _, rfl, a, hy⟩
theorem VRs.three {x y z : Value} {ys : List Value} (h : VRs β [x, y, z] ys) : ∃ x' y' z', ys = [x', y', z'] ∧ VR β x x' ∧ VR β y y' ∧ VR β z z' := by
  cases h with | cons a b => obtain ⟨y', z', rfl, hy⟩ := VRs.two b; exact ⟨_, _, _, rfl, a, hy⟩
theorem VR.int {k : IntKind} {n : Int} {y : Value} (h : VR β (.int k n) y) : y = .int k n := by cases h; rfl
theorem VR.bool {b : Bool} {y : Value} (h : VR β (.bool b) y) : y = .bool b := by cases h; rfl
theorem VR.string {b : ByteArray} {y : Value} (h : VR β (.string b) y) : y = .string b := by cases h; rfl
theorem VR.nilptr {y : Value} (h : VR β (.pointer none) y) : y = .pointer none := by cases h; rfl
theorem VR.nilmap {y : Value} (h : VR β (.map none) y) : y = .map none := by cases h; rfl
theorem VR.nilslice {y : Value} (h : VR β (.slice none 0 0) y) : y = .slice none 0 0 := by cases h; rfl
theorem VR.nilsliceA {l c : Nat} {y : Value} (h : VR β (.slice none l c) y) : l = 0 ∧ (c = 0 ∧ y = .slice none 0 0 ∨ c = 1 ∧ ∃ a, y = .slice (some a) 0 0) := by
  cases h with
  | same h =>
    unfold flat at h
    split at h <;> simp_all
  | slice0 => exact ⟨rfl, .inr ⟨rfl, _, rfl⟩⟩
theorem VR.nilfunc {y : Value} (h : VR β .nilFunc y) : y = .nilFunc := by cases h; rfl
theorem VR.niliface {y : Value} (h : VR β .nilIface y) : y = .nilIface := by cases h; rfl
theorem VR.ptr' {b o : Nat} {y : Value} (h : VR β (.pointer (some ⟨b, o, none⟩)) y) : ∃ e, β b = some e ∧ y = .pointer (some ⟨e.blk, o + e.sh, none⟩) := by
  cases h with
  | same h => simp [flat] at h
  | ptr h => exact ⟨_, h, rfl⟩
theorem VR.map' {b : Nat} {y : Value} (h : VR β (.map (some b)) y) : ∃ e, β b = some e ∧ y = .map (some e.blk) := by
  cases h with
  | same h => simp [flat] at h
  | map h => exact ⟨_, h, rfl⟩
theorem VR.slice' {b o l c : Nat} {y : Value} (h : VR β (.slice (some ⟨b, o, none⟩) l c) y) : ∃ e o' c', β b = some e ∧ y = .slice (some ⟨e.blk, o', none⟩) l c' ∧
    ((e.room = none ∧ o' = o + e.sh ∧ c' = c) ∨ (∃ sz es, e.room = some (sz, es) ∧ l ≤ c ∧ c ≤ c' ∧ (c' ≠ 0 → o' = o + e.sh) ∧ o + e.sh + c' * es ≤ sz)) := by
  cases h with
  | same h => simp [flat] at h
  | slice h r => exact ⟨_, _, _, h, rfl, .inl ⟨r, rfl, rfl⟩⟩
  | sliceR h r a b c d => exact ⟨_, _, _, h, rfl, .inr ⟨_, _, r, a, b, c, d⟩⟩
theorem VR.sliceAny {a : Option Addr} {l c : Nat} {y : Value} (h : VR β (.slice a l c) y) : ∃ a' c', y = .slice a' l c' ∧ (a ≠ none → a'.isNone = a.isNone) := by
  cases h with
  | same h => exact ⟨_, _, rfl, fun _ => rfl⟩
  | slice h r => exact ⟨_, _, rfl, fun _ => rfl⟩
  | sliceR h r a b c d => exact ⟨_, _, rfl, fun _ => rfl⟩
  | slice0 => exact ⟨_, _, rfl, fun h => absurd rfl h⟩
theorem VR.mapAny {a : Option Nat} {y : Value} (h : VR β (.map a) y) : ∃ a', y = .map a' ∧ a'.isNone = a.isNone := by
  cases h with
  | same h => exact ⟨_, rfl, rfl⟩
  | map h => exact ⟨_, rfl, rfl⟩
theorem VR.ptrAny {a : Option Addr} {y : Value} (h : VR β (.pointer a) y) : ∃ a', y = .pointer a' ∧ a'.isNone = a.isNone := by
  cases h with
  | same h => exact ⟨_, rfl, rfl⟩
  | ptr h => exact ⟨_, rfl, rfl⟩
theorem VR.func' {fn : Fn} {xs us : Array Value} {y : Value} (h : VR β (.func fn xs us) y) : ∃ ys vs, y = .func fn ys vs ∧ VRs β xs.toList ys.toList ∧ VRs β us.toList vs.toList := by
  cases h with
  | same h => simp [flat] at h
  | func a b => exact ⟨_, _, rfl, a, b⟩
theorem VR.iface' {t : TypeId} {v y : Value} (h : VR β (.iface t v) y) : ∃ v', y = .iface t v' ∧ VR β v v' := by
  cases h with
  | same h => simp [flat] at h
  | iface a => exact ⟨_, rfl, a⟩
theorem VR.agg' {xs : Array Value} {y : Value} (h : VR β (.agg xs) y) : ∃ ys, y = .agg ys ∧ VRs β xs.toList ys.toList := by
  cases h with
  | same h => simp [flat] at h
  | agg a => exact ⟨_, rfl, a⟩
theorem VR.tuple' {xs : Array Value} {y : Value} (h : VR β (.tuple xs) y) : ∃ ys, y = .tuple ys ∧ VRs β xs.toList ys.toList := by
  cases h with
  | same h => simp [flat] at h
  | tuple a => exact ⟨_, rfl, a⟩
theorem VR.b (b : Bool) : VR β (.bool b) (.bool b) := .same rfl
theorem VR.i (k : IntKind) (n : Int) : VR β (.int k n) (.int k n) := .same rfl
theorem VR.s (s : ByteArray) : VR β (.string s) (.string s) := .same rfl
theorem VRs.flat {xs : List Value} (h : flats xs = true) : VRs β xs xs := by
  induction xs with
  | nil => exact .nil
  | cons x xs ih =>
    simp only [flats, List.all_cons, Bool.and_eq_true] at h
    exact .cons (.same h.1) (ih h.2)
theorem VR.flatCells {z : Value} (h : flats z.cells.toList = true) : VR β z z := by
  cases z with
  | agg xs => exact .agg (VRs.flat (by simpa [Value.cells] using h))
  | bool b => exact .same rfl
  | int k n => exact .same rfl
  | float k n => exact .same rfl
  | complex k a b => exact .same rfl
  | string s => exact .same rfl
  | nilFunc => exact .same rfl
  | nilIface => exact .same rfl
  | pointer a => exact .same (by simpa [Value.cells, flats] using h)
  | slice a l c => exact .same (by simpa [Value.cells, flats] using h)
  | map a => exact .same (by simpa [Value.cells, flats] using h)
  | chan a => exact .same (by simpa [Value.cells, flats] using h)
  | func f a b => exact .same (by simpa [Value.cells, flats] using h)
  | iface t v => exact .same (by simpa [Value.cells, flats] using h)
  | tuple xs => exact .same (by simpa [Value.cells, flats] using h)
end inv
theorem bin_flat {op : BinOp} {x y v : Value} (h : bin op x y = some v) : flat x = true ∧ flat y = true ∧ flat v = true := by
  unfold bin at h
  repeat' split at h
  all_goals (cases h <;> exact ⟨rfl, rfl, rfl⟩)
theorem VR.flatEq {β : Ren} {x y : Value} (h : VR β x y) (hf : flat x = true) : y = x := by
  cases h <;> first
    | rfl
    | (simp [flat] at hf)
theorem bin_sound {P : Program} {op : BinOp} {x y v : Value} (h : bin op x y = some v) (t : TypeId) (w : World) : (binOp op t x y).run P w = .ok v w := by
  unfold bin at h
  split at h
  · rename_i k a k' b
    split at h
    · -- shl
      split at h
      · cases h
      · rename_i hb
        cases h
        simp [binOp, Op.shift, hb]
    · split at h
      · cases h
      · rename_i hb
        cases h
        simp [binOp, Op.shift, hb]
    · split at h
      · cases h
      · rename_i hk
        have hk : k = k' := by simpa using hk
        subst hk
        cases op <;> simp only at h <;> first
          | (cases h; done)
          | contradiction
          | (cases h; simp [binOp, Op.intArith, Op.intCmp, intBits_and, intBits_or, intBits_xor, intBits_andNot]; done)
          | (split at h
             · cases h
             · rename_i hb; cases h; simp [binOp, Op.intDiv, hb])
  · rename_i s t'
    split at h
    · split at h
      · rename_i hl
        cases h
        simp only [Array.length_toList, ByteArray.size_data] at hl
        simp only [binOp]
        rw [run_string_add_sum w s t' (by omega)]
        congr 2
      · cases h
    all_goals first
      | (cases h; done)
      | (cases h; simp [binOp, Op.stringOp, ByteArray.toList_eq]; done)
      | (cases h; simp [binOp, Op.stringOp, ByteArray.toList_eq, bne]; done)
      | (cases h; simp [binOp, Op.stringOp, ByteArray.toList_eq]; rfl)
  · cases h
theorem run_sliceBound {P : Program} (w : World) (k : IntKind) (i : Int) (y : Nat) (c : BoundsCode) (h : 0 ≤ i ∧ i ≤ (y : Int)) : (Instr.sliceBound (.int k i) y c).run P w = .ok i.toNat w := by
  simp [Instr.sliceBound, asIntOf, h]
theorem splitArgs_sound {β : Ren} {ρ : Operand → Value} {lo hi : Option Operand} {vs : List Value} {a b : Option Value} (h : splitArgs lo.isSome hi.isSome vs = some (a, b))
    (hr : VRs β vs ((optArg lo ++ optArg hi).map ρ)) :
    (a = none ∧ lo = none ∨ ∃ x v, lo = some x ∧ a = some v ∧ VR β v (ρ x)) ∧ (b = none ∧ hi = none ∨ ∃ x v, hi = some x ∧ b = some v ∧ VR β v (ρ x)) := by
  cases lo with
  | none =>
    cases hi with
    | none =>
      cases hr
      simp [splitArgs] at h
      obtain ⟨rfl, rfl⟩ := h
      exact ⟨.inl ⟨rfl, rfl⟩, .inl ⟨rfl, rfl⟩⟩
    | some y =>
      obtain ⟨v', hv, hy⟩ : ∃ v, vs = [v] ∧ VR β v (ρ y) := by
        simp only [optArg, List.nil_append, List.map_cons, List.map_nil] at hr
        cases hr with | cons a b => cases b; exact ⟨_, rfl, a⟩
      subst hv
      simp [splitArgs] at h
      obtain ⟨rfl, rfl⟩ := h
      exact ⟨.inl ⟨rfl, rfl⟩, .inr ⟨_, _, rfl, rfl, hy⟩⟩
  | some x =>
    cases hi with
    | none =>
      obtain ⟨v', hv, hy⟩ : ∃ v, vs = [v] ∧ VR β v (ρ x) := by
        simp only [optArg, List.append_nil, List.map_cons, List.map_nil] at hr
        cases hr with | cons a b => cases b; exact ⟨_, rfl, a⟩
      subst hv
      simp [splitArgs] at h
      obtain ⟨rfl, rfl⟩ := h
      exact ⟨.inr ⟨_, _, rfl, rfl, hy⟩, .inl ⟨rfl, rfl⟩⟩
    | some y =>
      obtain ⟨v1, v2, hv, hx, hy⟩ : ∃ v1 v2, vs = [v1, v2] ∧ VR β v1 (ρ x) ∧ VR β v2 (ρ y) := by
        simp only [optArg, List.cons_append, List.nil_append, List.map_cons, List.map_nil] at hr
        cases hr with | cons a b => cases b with | cons c d => cases d; exact ⟨_, _, rfl, a, c⟩
      subst hv
      simp [splitArgs] at h
      obtain ⟨rfl, rfl⟩ := h
      exact ⟨.inr ⟨_, _, rfl, rfl, hx⟩, .inr ⟨_, _, rfl, rfl, hy⟩⟩
theorem bound1_int {top d : Nat} {v : Value} {n : Nat} (h : bound1 top d (some v) = some n) : ∃ k i, v = .int k i ∧ 0 ≤ i ∧ i ≤ (top : Int) ∧ n = i.toNat := by
  unfold bound1 at h
  split at h
  · contradiction
  · rename_i heq; cases heq; split at h
    · rename_i hh; cases h; exact ⟨_, _, rfl, hh.1, hh.2, rfl⟩
    · cases h
  · cases h
theorem bounds_sound {P : Program} {β : Ren} {ρ : Operand → Value} {isSlice : Bool} {len cap : Nat} {lo hi : Option Operand} {l h : Nat} {vs : List Value}
    (hb : bounds len cap lo.isSome hi.isSome vs = some (l, h)) (hr : VRs β vs ((optArg lo ++ optArg hi).map ρ)) (cap' : Nat) (hc : cap ≤ cap') (w : World) :
    (Instr.sliceBounds isSlice len cap' (lo.map ρ) (hi.map ρ) none).run P w = .ok (l, h, cap') w ∧ l ≤ h ∧ (h ≤ cap ∨ h = len) := by
  unfold bounds at hb
  cases hsp : splitArgs lo.isSome hi.isSome vs with
  | none => simp [hsp] at hb
  | some ab =>
    obtain ⟨a, b⟩ := ab
    obtain ⟨ha, hbb⟩ := splitArgs_sound hsp hr
    simp only [hsp] at hb
    cases hh : bound1 cap len b with
    | none => simp [hh] at hb
    | some h' =>
      simp only [hh] at hb
      cases hl : bound1 h' 0 a with
      | none => simp [hl] at hb
      | some l' =>
        simp only [hl] at hb
        split at hb
        · rename_i hle
          cases hb
          rcases hbb with ⟨rfl, rfl⟩ | ⟨x, v, rfl, rfl, hv⟩
          · simp only [bound1, Option.some.injEq] at hh
            subst hh
            rcases ha with ⟨rfl, rfl⟩ | ⟨x, v, rfl, rfl, hv⟩
            · simp only [bound1, Option.some.injEq] at hl
              subst hl
              exact ⟨by simp [Instr.sliceBounds], hle, .inr rfl⟩
            · obtain ⟨k, i, rfl, h0, h1, rfl⟩ := bound1_int hl
              have := hv.int
              exact ⟨by simp [Instr.sliceBounds, this, run_sliceBound w k i _ _ ⟨h0, h1⟩], hle, .inr rfl⟩
          · obtain ⟨k, i, rfl, h0, h1, rfl⟩ := bound1_int hh
            have e1 := hv.int
            have r1 := fun c => run_sliceBound (P := P) w k i cap' c ⟨h0, by omega⟩
            rcases ha with ⟨rfl, rfl⟩ | ⟨x, v, rfl, rfl, hv⟩
            · simp only [bound1, Option.some.injEq] at hl
              subst hl
              exact ⟨by simp [Instr.sliceBounds, e1, r1], hle, .inl (by omega)⟩
            · obtain ⟨k2, i2, rfl, h2, h3, rfl⟩ := bound1_int hl
              have e2 := hv.int
              exact ⟨by simp [Instr.sliceBounds, e1, r1, e2, run_sliceBound w k2 i2 _ _ ⟨h2, h3⟩], hle, .inl (by omega)⟩
        · cases hb
end Go.Cs
namespace Go.Cs
section
variable {P : Program} (w : World)
theorem run_size {t : TypeId} {n : Nat} (h : sizeOfT P t = some n) : (sizeOf t).run P w = .ok n w := by
  unfold sizeOfT at h
  cases hi : P.info? t with
  | none => simp [hi] at h
  | some i => simp [hi] at h; subst h; simp [sizeOf, typeInfo, hi]
theorem run_info {t : TypeId} {i : TypeInfo} (h : P.info? t = some i) : (typeInfo t).run P w = .ok i w := by simp [typeInfo, h]
theorem run_isAggT {t : TypeId} {b : Bool} (h : isAggT P t = some b) : (isAgg t).run P w = .ok b w := by
  unfold isAggT at h
  cases hu : P.underlying t with
  | none => simp [hu] at h
  | some d =>
    rw [hu] at h
    unfold isAgg
    simp only [Sem.run_bind, run_underlying hu, Result.andThen_ok]
    cases d <;> simp at h <;> subst h <;> rfl
theorem run_zeroOf {t : TypeId} {z : List Value} (h : zeroOf P t = some z) : ∃ v, (zeroValue t).run P w = .ok v w ∧ v.cells.toList = z ∧ flats z = true ∧ (P.info? t).bind (·.zero) = some v := by
  unfold zeroOf at h
  cases hi : P.info? t with
  | none => simp [hi] at h
  | some i =>
    cases hz : i.zero with
    | none => simp [hi, hz] at h
    | some v =>
      simp [hi, hz] at h
      obtain ⟨h1, rfl⟩ := h
      exact ⟨v, by simp [zeroValue, typeInfo, hi, hz], rfl, h1, by simp [hz]⟩
theorem run_part {β : Ren} {t : TypeId} {cs : List Value} {cs' : Array Value} {off n : Nat} {b : Bool} {v : Value} (ha : isAggT P t = some b) (hn : sizeOfT P t = some n)
    (hr : VRs β cs cs'.toList) (hv : partV cs off (if b then some n else none) = some v) : ∃ v', (part t cs' off).run P w = .ok v' w ∧ VR β v v' := by
  unfold part
  simp only [Sem.run_bind, run_isAggT w ha, Result.andThen_ok]
  cases b with
  | true =>
    simp only [if_true, partV] at hv
    split at hv
    · cases hv
      simp only [if_true, Sem.run_bind, run_size w hn, Result.andThen_ok, Sem.run_pure]
      refine ⟨_, rfl, .agg ?_⟩
      simp only [Array.toList_extract, List.extract_eq_take_drop, Nat.add_sub_cancel_left]
      exact (hr.drop off).take n
    · cases hv
  | false =>
    simp only [partV, Bool.false_eq_true, if_false] at hv
    obtain ⟨v', h1, h2⟩ := hr.get hv
    refine ⟨v', ?_, h2⟩
    simp only [Bool.false_eq_true, if_false]
    have : cs'[off]? = some v' := by simpa using h1
    simp [this]
end
theorem foldl_splice (off : Nat) : ∀ (c : List Value) (cells : Array Value) (k : Nat), off + k + c.length ≤ cells.size →
    ((c.zipIdx k).foldl (fun cs x => cs.setIfInBounds (off + x.2) x.1) cells).toList = cells.toList.take (off + k) ++ c ++ cells.toList.drop (off + k + c.length)
  | [], cells, k, _ => by simp
  | x :: c, cells, k, h => by
    simp only [List.zipIdx_cons, List.foldl_cons, List.length_cons] at h ⊢
    rw [foldl_splice off c _ (k + 1) (by simp; omega)]
    simp only [Array.toList_setIfInBounds]
    have hk : off + k < cells.toList.length := by simp; omega
    rw [show off + (k + 1) = off + k + 1 by omega, show off + k + 1 + c.length = off + k + (c.length + 1) by omega]
    rw [List.take_succ_eq_append_getElem (by simpa using hk)]
    simp only [List.getElem_set_self, List.append_assoc, List.cons_append, List.nil_append]
    congr 1
    · rw [List.take_set_of_le (by omega)]
    · rw [List.drop_set_of_lt (by omega)]
theorem VR.cells {β : Ren} {v y : Value} (a : VR β v y) : VRs β v.cells.toList y.cells.toList := by
  cases a with
  | agg a => exact a
  | same h => cases v <;> first | exact .cons (.same h) .nil | (simp [flat] at h)
  | ptr h => exact .cons (.ptr h) .nil
  | slice h r => exact .cons (.slice h r) .nil
  | sliceR h r a b c d => exact .cons (.sliceR h r a b c d) .nil
  | slice0 => exact .cons .slice0 .nil
  | map h => exact .cons (.map h) .nil
  | func h k => exact .cons (.func h k) .nil
  | iface h => exact .cons (.iface h) .nil
  | tuple h => exact .cons (.tuple h) .nil
theorem fill_sound {β : Ren} {ρ : Operand → Value} (place : Nat → Option (Nat × Nat)) : ∀ (L : List (Nat × Operand)) (places : List (Nat × Nat)) (vs : List Value) (cs : List Value) (cs' : Array Value) (r : List Value),
    L.mapM (fun x => place x.1) = some places → VRs β vs (L.map fun x => ρ x.2) → VRs β cs cs'.toList → fillL cs places vs = some r →
    ∃ r', Instr.fill place cs' (L.map fun x => (x.1, ρ x.2)) = some r' ∧ VRs β r r'.toList
  | [], places, vs, cs, cs', r, hp, hv, hc, hf => by
    simp at hp; subst hp
    cases hv
    simp [fillL] at hf; subst hf
    exact ⟨cs', by simp [Instr.fill], hc⟩
  | (i, x) :: L, places, vs, cs, cs', r, hp, hv, hc, hf => by
    simp only [List.mapM_cons, Option.pure_def, Option.bind_eq_bind] at hp
    cases h1 : place i with
    | none => simp [h1] at hp
    | some on =>
      obtain ⟨off, n⟩ := on
      cases h2 : L.mapM (fun x => place x.1) with
      | none => simp [h1, h2] at hp
      | some ps =>
        simp [h1, h2] at hp
        subst hp
        simp only [List.map_cons] at hv
        cases hv with | cons a b =>
        simp only [fillL] at hf
        split at hf
        · rename_i hh
          obtain ⟨hl, hle⟩ := hh
          rename_i v vs
          have hcv : VRs β v.cells.toList (ρ x).cells.toList := a.cells
          have hlen := hcv.length
          have hcl := hc.length
          have hs : (ρ x).cells.size = n := by rw [← Array.length_toList, ← hlen]; exact hl
          have hsz : off + n ≤ cs'.size := by rw [← Array.length_toList, ← hcl]; exact hle
          simp only [List.map_cons, Instr.fill, h1]
          rw [if_neg (by simp [hs]; omega)]
          refine fill_sound place L ps vs _ _ r h2 b ?_ hf
          have := foldl_splice off (ρ x).cells.toList cs' 0 (by simp [hs]; omega)
          have e : (Array.foldl (fun cs x => cs.setIfInBounds (off + x.2) x.1) cs' (ρ x).cells.zipIdx).toList = cs'.toList.take off ++ (ρ x).cells.toList ++ cs'.toList.drop (off + n) := by
            rw [← Array.foldl_toList, Array.toList_zipIdx]
            simp only [Nat.add_zero] at this
            rw [this]
            simp [hs]
          rw [e]
          exact ((hc.take off).append hcv).append (hc.drop (off + n))
        · cases hf
theorem run_foldV {P : Program} {β : Ren} {f : Int → Int → Int} {g : Value → Value → Sem Value} (hg : ∀ k k' a b w, (g (.int k a) (.int k' b)).run P w = .ok (.int k (f a b)) w) (w : World) :
    ∀ (vs vs' : List Value) (v v' r : Value), VR β v v' → VRs β vs vs' → foldV f v vs = some r → ∃ r', (vs'.foldlM g v').run P w = .ok r' w ∧ VR β r r'
  | [], vs', v, v', r, hv, hvs, h => by
    cases hvs
    simp [foldV] at h; subst h
    exact ⟨v', by simp, hv⟩
  | u :: vs, vs', v, v', r, hv, hvs, h => by
    cases hvs with | cons a b =>
    unfold foldV at h
    split at h
    · rename_i heq; cases heq
    · rename_i heq
      cases heq
      have e1 := hv.int
      have e2 := a.int
      subst e1; subst e2
      obtain ⟨r', h1, h2⟩ := run_foldV hg w vs _ _ _ r (VR.i _ _) b h
      exact ⟨r', by simp only [List.foldlM_cons, Sem.run_bind, hg, Result.andThen_ok]; exact h1, h2⟩
    · cases h
theorem run_max2 {P : Program} (k k' : IntKind) (a b : Int) (w : World) : (Builtin.max2 (.int k a) (.int k' b)).run P w = .ok (.int k (if a < b then b else a)) w := by
  simp [Builtin.max2]
theorem run_min2 {P : Program} (k k' : IntKind) (a b : Int) (w : World) : (Builtin.min2 (.int k a) (.int k' b)).run P w = .ok (.int k (if b < a then b else a)) w := by
  simp [Builtin.min2]
theorem run_okv {P : Program} {w : World} {s : Sem Value} {v : Value} (h : s.run P w = .ok v w) : (do pure (Next.value (← s)) : Sem Next).run P w = .ok (.value v) w := by
  simp [h]
def Says (P : Program) (β : Ren) (ρ : Operand → Value) (o : Oper) (w : World) (v : Value) : Prop := ∃ v', (execOp ρ o).run P w = .ok (.value v') w ∧ VR β v v'
theorem says_of {P : Program} {β : Ren} {ρ : Operand → Value} {o : Oper} {w : World} {v : Value} {s : Sem Value} (he : execOp ρ o = (do pure (Next.value (← s)))) (h : ∃ v', s.run P w = .ok v' w ∧ VR β v v') :
    Says P β ρ o w v := by
  obtain ⟨v', h1, h2⟩ := h
  exact ⟨v', by rw [he]; exact run_okv h1, h2⟩
end Go.Cs
namespace Go.Cs
theorem eqIntsL_append : ∀ (a a' b b' : List Value) (r : Bool), a.length = a'.length → eqIntsL (a ++ b) (a' ++ b') = some r →
    ∃ r1 r2, eqIntsL a a' = some r1 ∧ eqIntsL b b' = some r2 ∧ r = (r1 && r2)
  | [], [], b, b', r, _, h => ⟨true, r, rfl, h, by simp⟩
  | [], _ :: _, _, _, _, h, _ => by simp at h
  | _ :: _, [], _, _, _, h, _ => by simp at h
  | x :: a, y :: a', b, b', r, hl, h => by
    simp only [List.cons_append] at h
    unfold eqIntsL at h
    split at h
    · rename_i heq _; cases heq
    · rename_i k p xs k' q ys h1 h2
      cases h1; cases h2
      split at h
      · rename_i hk
        cases hr : eqIntsL (a ++ b) (a' ++ b') with
        | none => simp [hr] at h
        | some s =>
          simp [hr] at h
          obtain ⟨r1, r2, e1, e2, rfl⟩ := eqIntsL_append a a' b b' s (by simpa using hl) hr
          refine ⟨(p == q) && r1, r2, ?_, e2, ?_⟩
          · simp [eqIntsL, hk, e1]
          · rw [← h]; simp [Bool.and_assoc]
      · cases h
    · cases h
theorem eqIntsL_flat : ∀ (a b : List Value) (r : Bool), eqIntsL a b = some r → flats a = true ∧ flats b = true
  | [], [], _, _ => ⟨rfl, rfl⟩
  | [], _ :: _, r, h => by simp [eqIntsL] at h
  | x :: a, [], r, h => by cases x <;> simp [eqIntsL] at h
  | x :: a, y :: b, r, h => by
    cases x <;> cases y <;> simp only [eqIntsL] at h <;> first
      | (cases h; done)
      | (split at h
         · rename_i hk
           cases hq : eqIntsL a b with
           | none => simp [hq] at h
           | some s =>
             obtain ⟨i1, i2⟩ := eqIntsL_flat a b s hq
             exact ⟨by simp only [flats, List.all_cons, Bool.and_eq_true]; exact ⟨rfl, i1⟩, by simp only [flats, List.all_cons, Bool.and_eq_true]; exact ⟨rfl, i2⟩⟩
         · cases h)
theorem VRs.flatEq {β : Ren} : ∀ {a b : List Value}, flats a = true → VRs β a b → b = a
  | [], _, _, .nil => rfl
  | p :: a, _, hf, .cons q1 q2 => by
    simp only [flats, List.all_cons, Bool.and_eq_true] at hf
    rw [q1.flatEq hf.1, VRs.flatEq hf.2 q2]
def mkV (b : Bool) (cs : List Value) : Value := if b then .agg cs.toArray else cs.headD undef
theorem run_partL {P : Program} (w : World) {t : TypeId} {cs : List Value} {off n : Nat} {b : Bool} (ha : isAggT P t = some b) (hn : sizeOfT P t = some n) (hle : off + n ≤ cs.length) (h1 : b = false → n = 1) :
    (part t cs.toArray off).run P w = .ok (mkV b ((cs.drop off).take n)) w := by
  unfold part
  simp only [Sem.run_bind, run_isAggT w ha, Result.andThen_ok]
  cases b with
  | true => simp [run_size w hn, mkV, List.extract_eq_take_drop]
  | false =>
    have := h1 rfl; subst this
    have hlt : off < cs.length := by omega
    simp [hlt, mkV]
    rw [List.drop_eq_getElem_cons hlt]
    rfl
theorem intsN_agg {P : Program} {d : Nat} {t : TypeId} {n : Nat} (h : intsN P d t = some n) : ∃ b, isAggT P t = some b ∧ (b = false → n = 1 ∧ ∃ k, P.underlying t = some (.int k)) := by
  cases d with
  | zero => simp [intsN] at h
  | succ d =>
    unfold intsN at h
    unfold isAggT
    split at h
    · rename_i hu; split at h
      · cases h; exact ⟨false, by rw [hu], fun _ => ⟨rfl, _, hu⟩⟩
      · cases h
    · rename_i hu; exact ⟨true, by rw [hu], by simp⟩
    · rename_i hu; exact ⟨true, by rw [hu], by simp⟩
    · cases h
theorem run_equalInts {P : Program} : ∀ (d : Nat) (t : TypeId) (n : Nat), intsN P d t = some n → ∀ (w : World) (D : Nat) (b : Bool) (cs cs' : List Value) (r : Bool), isAggT P t = some b → cs.length = n → cs'.length = n →
    eqIntsL cs cs' = some r → (Op.equalIn (D + d) t (mkV b cs) (mkV b cs')).run P w = .ok r w
  | 0, t, n, h, _, _, _, _, _, _, _, _, _, _ => by simp [intsN] at h
  | d + 1, t, n, h, w, D, b, cs, cs', r, hb, hl, hl', he => by
    have h0 := h
    unfold intsN at h
    split at h
    · rename_i k hu
      split at h
      · cases h
        have : b = false := by unfold isAggT at hb; rw [hu] at hb; simpa using hb.symm
        subst this
        match cs, cs', hl, hl' with
        | [x], [y], _, _ =>
          unfold eqIntsL at he
          split at he
          · rename_i h1 _; cases h1
          · rename_i h1 h2; cases h1; cases h2
            split at he
            · rename_i hk; subst hk
              simp [eqIntsL] at he
              subst he
              show (Op.equalIn (D + d + 1) t (.int _ _) (.int _ _)).run P w = _
              rw [run_equalIn_int w (D + d) t _ _ _ _ hu]
            · cases he
          · cases he
      · cases h
    · rename_i fs hu
      split at h
      · cases h
      · rename_i hs
        have : b = true := by unfold isAggT at hb; rw [hu] at hb; simpa using hb.symm
        subst this
        have hf : P.fieldsOf t = fs := by simp [Program.fieldsOf, hu]
        have hgen : ∀ (L : List Field) (acc : Nat) (r : Bool), intsRun P (intsN P d) acc L = some n → eqIntsL (cs.drop acc) (cs'.drop acc) = some r →
            (Op.eqFields (D + d) cs.toArray cs'.toArray L).run P w = .ok r w := by
          intro L
          induction L with
          | nil =>
            intro acc r hrun hq
            simp [intsRun] at hrun
            subst hrun
            rw [List.drop_eq_nil_of_le (by omega), List.drop_eq_nil_of_le (by omega)] at hq
            simp [eqIntsL] at hq
            subst hq
            simp [Op.eqFields]
          | cons f L ih =>
            intro acc r hrun hq
            unfold intsRun at hrun
            split at hrun
            · rename_i m hm
              split at hrun
              · rename_i hc
                obtain ⟨c1, c2, c3⟩ := hc
                have hmle : acc + m ≤ n := by
                  have : ∀ (L : List Field) (a : Nat), intsRun P (intsN P d) a L = some n → a ≤ n := by
                    intro L
                    induction L with
                    | nil => intro a h; simp [intsRun] at h; omega
                    | cons g L ih2 =>
                      intro a h
                      unfold intsRun at h
                      split at h
                      · split at h
                        · have := ih2 _ h; omega
                        · cases h
                      · cases h
                  exact this L _ hrun
                obtain ⟨bf, hbf, hbf1⟩ := intsN_agg hm
                have hx := run_partL w (cs := cs) (off := acc) hbf c1 (by omega) (fun e => (hbf1 e).1)
                have hy := run_partL w (cs := cs') (off := acc) hbf c1 (by omega) (fun e => (hbf1 e).1)
                have e1 : cs.drop acc = (cs.drop acc).take m ++ cs.drop (acc + m) := by have := (List.take_append_drop m (cs.drop acc)).symm; rwa [List.drop_drop] at this
                have e2 : cs'.drop acc = (cs'.drop acc).take m ++ cs'.drop (acc + m) := by have := (List.take_append_drop m (cs'.drop acc)).symm; rwa [List.drop_drop] at this
                rw [e1, e2] at hq
                obtain ⟨r1, r2, q1, q2, rfl⟩ := eqIntsL_append _ _ _ _ _ (by simp; omega) hq
                have hrec := run_equalInts d f.type m hm w D bf _ _ r1 hbf (by simp; omega) (by simp; omega) q1
                simp only [Op.eqFields, c2, ne_eq, not_false_eq_true, if_true, c3, Sem.run_bind, hx, hy, Result.andThen_ok, hrec, Sem.run_ite]
                cases r1
                · simp
                · simp [ih _ _ hrun q2]
              · cases hrun
            · cases hrun
        have := run_equalIn_struct w (D + d) t cs.toArray cs'.toArray (by rw [hf]; exact hu) (by simpa using hs)
        rw [hf] at this
        simp only [mkV, if_true]
        rw [show D + (d + 1) = D + d + 1 from rfl, this]
        exact hgen fs.toList 0 r h (by simpa using he)
    · rename_i len e hu
      split at h
      · rename_i m hm
        split at h
        · rename_i hsz
          cases h
          have : b = true := by unfold isAggT at hb; rw [hu] at hb; simpa using hb.symm
          subst this
          obtain ⟨bf, hbf, hbf1⟩ := intsN_agg hm
          simp only [mkV, if_true]
          rw [show D + (d + 1) = D + d + 1 from rfl]
          simp only [Op.equalIn, Sem.run_bind, run_underlying hu, Result.andThen_ok, run_size w hsz]
          simp only [Std.Legacy.Range.forIn_eq_forIn_range', Std.Legacy.Range.size, Nat.sub_zero, Nat.add_one_sub_one, Nat.div_one]
          have hgen : ∀ (k i : Nat) (r : Bool), i + k = len → eqIntsL (cs.drop (i * m)) (cs'.drop (i * m)) = some r →
              ∃ x : Option Bool × Unit, (forIn (List.range' i k) ((none, ()) : Option Bool × Unit) fun i _ => do
                if !(← Op.equalIn (D + d) e (← part e cs.toArray (i * m)) (← part e cs'.toArray (i * m))) then pure (ForInStep.done (some false, ())) else pure (ForInStep.yield (none, ())) : Sem (Option Bool × Unit)).run P w = .ok x w ∧ x.1.getD true = r := by
            intro k
            induction k with
            | zero =>
              intro i r hi hq
              have : i = len := by omega
              subst this
              rw [List.drop_eq_nil_of_le (by omega), List.drop_eq_nil_of_le (by omega)] at hq
              simp [eqIntsL] at hq
              subst hq
              exact ⟨(none, ()), by simp, rfl⟩
            | succ k ih =>
              intro i r hi hq
              have hle : i * m + m ≤ len * m := by rw [← Nat.succ_mul]; exact Nat.mul_le_mul_right m (by omega)
              have hx := run_partL w (cs := cs) (off := i * m) hbf hsz (by omega) (fun e => (hbf1 e).1)
              have hy := run_partL w (cs := cs') (off := i * m) hbf hsz (by omega) (fun e => (hbf1 e).1)
              have e1 : cs.drop (i * m) = (cs.drop (i * m)).take m ++ cs.drop ((i + 1) * m) := by have := (List.take_append_drop m (cs.drop (i * m))).symm; rwa [List.drop_drop, ← Nat.succ_mul] at this
              have e2 : cs'.drop (i * m) = (cs'.drop (i * m)).take m ++ cs'.drop ((i + 1) * m) := by have := (List.take_append_drop m (cs'.drop (i * m))).symm; rwa [List.drop_drop, ← Nat.succ_mul] at this
              rw [e1, e2] at hq
              obtain ⟨r1, r2, q1, q2, rfl⟩ := eqIntsL_append _ _ _ _ _ (by simp; omega) hq
              have hrec := run_equalInts d e m hm w D bf _ _ r1 hbf (by simp; omega) (by simp; omega) q1
              simp only [List.range'_succ, List.forIn_cons, Sem.run_bind, hx, hy, Result.andThen_ok, hrec, Sem.run_ite]
              cases r1
              · exact ⟨(some false, ()), by simp, by simp⟩
              · obtain ⟨x, hx, hx2⟩ := ih (i + 1) r2 (by omega) q2
                exact ⟨x, by simpa using hx, by simpa using hx2⟩
          obtain ⟨x, hx, hx2⟩ := hgen len 0 r (by omega) (by simpa using he)
          refine (congrArg (fun z => Result.andThen z _) hx).trans ?_
          obtain ⟨x1, x2⟩ := x
          cases x1 with
          | none => simp at hx2; subst hx2; rfl
          | some v => simp at hx2; subst hx2; rfl
        · cases h
      · cases h
    · cases h
end Go.Cs
namespace Go.Cs
variable {P : Program} {E : Env} {β : Ren} {ρ : Operand → Value} {o : Oper} {w : World}
theorem run_eqNilP' (d : Nat) {t e : TypeId} {a b : Option Addr} (h : P.underlying t = some (.pointer e)) (hab : a = none ∨ b = none) : (Op.equalIn (d + 1) t (.pointer a) (.pointer b)).run P w = .ok (a.isNone && b.isNone) w := by
  cases a <;> cases b <;> simp_all [Op.equalIn, run_underlying h]
theorem run_eqNilP {t e : TypeId} {a b : Option Addr} (h : P.underlying t = some (.pointer e)) (hab : a = none ∨ b = none) : (Op.equal t (.pointer a) (.pointer b)).run P w = .ok (a.isNone && b.isNone) w := run_eqNilP' 9999 h hab
theorem run_eqSelfP' (d : Nat) {t e : TypeId} {a : Addr} (h : P.underlying t = some (.pointer e)) (hs : (sizeOfT P e).isSome = true) : (Op.equalIn (d + 1) t (.pointer (some a)) (.pointer (some a))).run P w = .ok true w := by
  obtain ⟨n, hn⟩ := Option.isSome_iff_exists.1 hs
  by_cases hz : n = 0
  · subst hz; simp [Op.equalIn, run_underlying h, run_size w hn]
  · simp [Op.equalIn, run_underlying h, run_size w hn, hz, sameAddr]
theorem run_eqSelfP {t e : TypeId} {a : Addr} (h : P.underlying t = some (.pointer e)) (hs : (sizeOfT P e).isSome = true) : (Op.equal t (.pointer (some a)) (.pointer (some a))).run P w = .ok true w := run_eqSelfP' 9999 h hs
theorem run_eqNilS' (d : Nat) {t e : TypeId} {a b : Option Addr} {l c l' c' : Nat} (h : P.underlying t = some (.slice e)) (hab : a = none ∨ b = none) : (Op.equalIn (d + 1) t (.slice a l c) (.slice b l' c')).run P w = .ok (a.isNone && b.isNone) w := by
  cases a <;> cases b <;> simp_all [Op.equalIn, run_underlying h]
theorem run_eqNilS {t e : TypeId} {a b : Option Addr} {l c l' c' : Nat} (h : P.underlying t = some (.slice e)) (hab : a = none ∨ b = none) : (Op.equal t (.slice a l c) (.slice b l' c')).run P w = .ok (a.isNone && b.isNone) w := run_eqNilS' 9999 h hab
theorem run_eqNilM' (d : Nat) {t k e : TypeId} {a b : Option Nat} (h : P.underlying t = some (.map k e)) (hab : a = none ∨ b = none) : (Op.equalIn (d + 1) t (.map a) (.map b)).run P w = .ok (a.isNone && b.isNone) w := by
  cases a <;> cases b <;> simp_all [Op.equalIn, run_underlying h]
theorem run_eqNilM {t k e : TypeId} {a b : Option Nat} (h : P.underlying t = some (.map k e)) (hab : a = none ∨ b = none) : (Op.equal t (.map a) (.map b)).run P w = .ok (a.isNone && b.isNone) w := run_eqNilM' 9999 h hab
section
variable (d : Nat) {t : TypeId}
theorem run_eqF1 {a b c} (h : P.underlying t = some (.func a b c)) : (Op.equalIn (d + 1) t .nilFunc .nilFunc).run P w = .ok true w := by simp [Op.equalIn, run_underlying h]
theorem run_eqF2 {a b c f x y} (h : P.underlying t = some (.func a b c)) : (Op.equalIn (d + 1) t .nilFunc (.func f x y)).run P w = .ok false w := by simp [Op.equalIn, run_underlying h]
theorem run_eqF3 {a b c f x y} (h : P.underlying t = some (.func a b c)) : (Op.equalIn (d + 1) t (.func f x y) .nilFunc).run P w = .ok false w := by simp [Op.equalIn, run_underlying h]
theorem run_eqI1 {a} (h : P.underlying t = some (.interface a)) : (Op.equalIn (d + 1) t .nilIface .nilIface).run P w = .ok true w := by simp [Op.equalIn, run_underlying h]
theorem run_eqI2 {a f x} (h : P.underlying t = some (.interface a)) : (Op.equalIn (d + 1) t .nilIface (.iface f x)).run P w = .ok false w := by simp [Op.equalIn, run_underlying h]
theorem run_eqI3 {a f x} (h : P.underlying t = some (.interface a)) : (Op.equalIn (d + 1) t (.iface f x) .nilIface).run P w = .ok false w := by simp [Op.equalIn, run_underlying h]
end
theorem run_eqOp {neg : Bool} {t : TypeId} {x y : Value} {r : Bool} (hx : ∀ k n, x ≠ .int k n) (hy : ∀ s, x ≠ .string s) (hf : ∀ k n, x ≠ .float k n) (hc : ∀ k n m, x ≠ .complex k n m) (h : (Op.equal t x y).run P w = .ok r w) :
    (binOp (if neg then .neq else .eql) t x y).run P w = .ok (.bool (r != neg)) w := by
  cases neg
  · cases x <;> simp_all [binOp]
  · cases x <;> simp_all [binOp]
theorem eqKind_shape {neg : Bool} {t : TypeId} {x y : Operand} {k : Kind} (h : eqKind P neg t x y = some k) :
    (k = .bin (if neg then .neq else .eql)) ∨ (k = .eqBool neg ∧ P.underlying t = some .bool) ∨ (∃ e, k = .eqPtr neg ∧ P.underlying t = some (.pointer e) ∧ (sizeOfT P e).isSome = true) ∨ (∃ e, k = .eqSlice neg ∧ P.underlying t = some (.slice e)) ∨
    (∃ a b, k = .eqMap neg ∧ P.underlying t = some (.map a b)) ∨ (∃ a b c, k = .eqFunc neg ∧ P.underlying t = some (.func a b c)) ∨
    (∃ ms, k = .eqIface neg ∧ P.underlying t = some (.interface ms) ∧ (isC x || isC y) = true) ∨
    (∃ n, k = .eqInts n neg ∧ intsN P 8 t = some n ∧ P.eqGuardType P.depth t = false ∧ isAggT P t = some true) := by
  unfold eqKind at h
  split at h <;> rename_i hu
  · cases h; exact .inl rfl
  · cases h; exact .inl rfl
  · cases h; exact .inr (.inl ⟨rfl, hu⟩)
  · split at h
    · rename_i hs; cases h; exact .inr (.inr (.inl ⟨_, rfl, hu, hs⟩))
    · cases h
  · cases h; exact .inr (.inr (.inr (.inl ⟨_, rfl, hu⟩)))
  · cases h; exact .inr (.inr (.inr (.inr (.inl ⟨_, _, rfl, hu⟩))))
  · cases h; exact .inr (.inr (.inr (.inr (.inr (.inl ⟨_, _, _, rfl, hu⟩)))))
  · split at h
    · rename_i hc; cases h; exact .inr (.inr (.inr (.inr (.inr (.inr (.inl ⟨_, rfl, hu, hc⟩))))))
    · cases h
  · split at h
    · rename_i n hn
      split at h
      · cases h
      · rename_i hg; cases h
        exact .inr (.inr (.inr (.inr (.inr (.inr (.inr ⟨_, rfl, hn, by simpa using hg, by unfold isAggT; rw [hu]⟩))))))
    · cases h
  · split at h
    · rename_i n hn
      split at h
      · cases h
      · rename_i hg; cases h
        exact .inr (.inr (.inr (.inr (.inr (.inr (.inr ⟨_, rfl, hn, by simpa using hg, by unfold isAggT; rw [hu]⟩))))))
    · cases h
  · cases h
theorem eq_sound {neg : Bool} {t : TypeId} {x y : Operand} {k : Kind} {vs : List Value} {v : Value} (hk : eqKind P neg t x y = some k) (hvs : VRs β vs [ρ x, ρ y]) (hs : semP E k vs = some v) :
    ∃ v', (do eqGuard (if neg then .neq else .eql) t x y (ρ x) (ρ y); binOp (if neg then .neq else .eql) t (ρ x) (ρ y) : Sem Value).run P w = .ok v' w ∧ VR β v v' := by
  match vs, hvs with
  | [a, b], hvs =>
  obtain ⟨h1, h2⟩ : VR β a (ρ x) ∧ VR β b (ρ y) := by
    cases hvs with | cons p q => cases q with | cons r s => exact ⟨p, r⟩
  rcases eqKind_shape hk with rfl | ⟨rfl, hu⟩ | ⟨e, rfl, hu, hsz⟩ | ⟨e, rfl, hu⟩ | ⟨_, _, rfl, hu⟩ | ⟨_, _, _, rfl, hu⟩ | ⟨ms, rfl, hu, hc⟩ | ⟨n, rfl, hn, hg, hagg⟩
  · simp only [semP, sBin] at hs
    obtain ⟨f1, f2, f3⟩ := bin_flat hs
    have e1 := h1.flatEq f1
    have e2 := h2.flatEq f2
    rw [e1, e2]
    refine ⟨v, ?_, .same f3⟩
    have hgd : eqGuard (if neg then .neq else .eql) t x y a b = pure () := by
      unfold bin at hs
      split at hs
      · exact eqGuard_at_int ..
      · exact eqGuard_at_string ..
      · cases hs
    rw [hgd]
    simp [bin_sound hs t w]
  · simp only [semP] at hs
    unfold sEqBool at hs
    split at hs
    · rename_i p q heq
      cases heq; cases hs
      rw [h1.bool, h2.bool, eqGuard_at_bool]
      refine ⟨_, ?_, VR.b _⟩
      have := run_eqOp (P := P) (w := w) (neg := neg) (t := t) (x := .bool p) (y := .bool q) (by simp) (by simp) (by simp) (by simp) (run_equal_bool w t p q hu)
      simpa using this
    · cases hs
  · simp only [semP] at hs
    unfold sEqPtr at hs
    split at hs
    · rename_i q heq
      cases heq; cases hs
      obtain ⟨q', hq, hqn⟩ := h2.ptrAny
      rw [h1.nilptr, hq, eqGuard_at_pointer]
      refine ⟨_, ?_, VR.b _⟩
      have := run_eqOp (P := P) (w := w) (neg := neg) (by simp) (by simp) (by simp) (by simp) (run_eqNilP (a := none) (b := q') hu (.inl rfl))
      simpa [hqn] using this
    · rename_i p hne heq
      cases heq; cases hs
      obtain ⟨p', hp, hpn⟩ := h1.ptrAny
      rw [hp, h2.nilptr, eqGuard_at_pointer]
      refine ⟨_, ?_, VR.b _⟩
      have hp' : p' ≠ none := by
        intro e; subst e
        cases p with
        | none => exact hne rfl
        | some _ => simp at hpn
      have := run_eqOp (P := P) (w := w) (neg := neg) (by simp) (by simp) (by simp) (by simp) (run_eqNilP (a := p') (b := none) hu (.inr rfl))
      cases p' with
      | none => exact absurd rfl hp'
      | some _ => simpa using this
    · rename_i b1 o1 b2 o2 heq
      cases heq
      split at hs
      · rename_i hh
        obtain ⟨rfl, rfl⟩ := hh
        cases hs
        obtain ⟨e1, q1, r1⟩ := h1.ptr'
        obtain ⟨e2, q2, r2⟩ := h2.ptr'
        rw [q1] at q2; cases q2
        rw [r1, r2, eqGuard_at_pointer]
        refine ⟨_, ?_, VR.b _⟩
        have := run_eqOp (P := P) (w := w) (neg := neg) (by simp) (by simp) (by simp) (by simp) (run_eqSelfP (w := w) (a := ⟨e1.blk, o1 + e1.sh, none⟩) hu hsz)
        simpa using this
      · cases hs
    · cases hs
  · simp only [semP] at hs
    unfold sEqSlice at hs
    split at hs
    · rename_i heq
      cases heq; cases hs
      rw [h1.nilslice, h2.nilslice, eqGuard_at_slice]
      refine ⟨_, ?_, VR.b _⟩
      have := run_eqOp (P := P) (w := w) (neg := neg) (by simp) (by simp) (by simp) (by simp) (run_eqNilS (P := P) (w := w) (a := none) (b := none) (l := 0) (c := 0) (l' := 0) (c' := 0) hu (.inl rfl))
      simpa using this
    · rename_i q l c heq
      cases heq; cases hs
      obtain ⟨q', c', hq, hqn⟩ := h2.sliceAny
      have hqn := hqn (by simp)
      rw [h1.nilslice, hq, eqGuard_at_slice]
      refine ⟨_, ?_, VR.b _⟩
      have := run_eqOp (P := P) (w := w) (neg := neg) (by simp) (by simp) (by simp) (by simp) (run_eqNilS (P := P) (w := w) (a := none) (b := q') (l := 0) (c := 0) (l' := l) (c' := c') hu (.inl rfl))
      simpa [hqn] using this
    · rename_i p l c heq
      cases heq; cases hs
      obtain ⟨p', cc, hp, hpn⟩ := h1.sliceAny
      have hpn := hpn (by simp)
      rw [hp, h2.nilslice, eqGuard_at_slice]
      refine ⟨_, ?_, VR.b _⟩
      have := run_eqOp (P := P) (w := w) (neg := neg) (by simp) (by simp) (by simp) (by simp) (run_eqNilS (P := P) (w := w) (a := p') (b := none) (l := l) (c := cc) (l' := 0) (c' := 0) hu (.inr rfl))
      simpa [hpn] using this
    · cases hs
  · simp only [semP] at hs
    unfold sEqMap at hs
    split at hs
    · rename_i q heq
      cases heq; cases hs
      obtain ⟨q', hq, hqn⟩ := h2.mapAny
      rw [h1.nilmap, hq, eqGuard_at_map]
      refine ⟨_, ?_, VR.b _⟩
      have := run_eqOp (P := P) (w := w) (neg := neg) (by simp) (by simp) (by simp) (by simp) (run_eqNilM (P := P) (w := w) (a := none) (b := q') hu (.inl rfl))
      simpa [hqn] using this
    · rename_i p hne heq
      cases heq; cases hs
      obtain ⟨p', hp, hpn⟩ := h1.mapAny
      rw [hp, h2.nilmap, eqGuard_at_map]
      refine ⟨_, ?_, VR.b _⟩
      have := run_eqOp (P := P) (w := w) (neg := neg) (by simp) (by simp) (by simp) (by simp) (run_eqNilM (P := P) (w := w) (a := p') (b := none) hu (.inr rfl))
      cases p' with
      | none =>
        cases p with
        | none => exact (hne rfl).elim
        | some _ => simp at hpn
      | some _ => simpa using this
    · cases hs
  · simp only [semP] at hs
    have key : ∀ {x' y' : Value} {r : Bool}, ρ x = x' → ρ y = y' → (x' = .nilFunc ∨ ∃ f a b, x' = .func f a b) → (Op.equal t x' y').run P w = .ok r w →
        ∃ v', (do eqGuard (if neg then .neq else .eql) t x y (ρ x) (ρ y); binOp (if neg then .neq else .eql) t (ρ x) (ρ y) : Sem Value).run P w = .ok v' w ∧ VR β (.bool (r != neg)) v' := by
      intro x' y' r e1 e2 hx he
      rw [e1, e2]
      refine ⟨_, ?_, VR.b _⟩
      have hg : eqGuard (if neg then .neq else .eql) t x y x' y' = pure () := by
        rcases hx with rfl | ⟨_, _, _, rfl⟩
        · exact eqGuard_at_nilFunc ..
        · exact eqGuard_at_func ..
      rw [hg]
      have := run_eqOp (P := P) (w := w) (neg := neg) (x := x') (y := y') (t := t) (by rcases hx with rfl | ⟨_, _, _, rfl⟩ <;> simp) (by rcases hx with rfl | ⟨_, _, _, rfl⟩ <;> simp) (by rcases hx with rfl | ⟨_, _, _, rfl⟩ <;> simp) (by rcases hx with rfl | ⟨_, _, _, rfl⟩ <;> simp) he
      simpa using this
    unfold sEqFunc at hs
    split at hs
    · rename_i h; cases h; cases hs
      exact key h1.nilfunc h2.nilfunc (.inl rfl) (run_eqF1 9999 hu)
    · rename_i h; cases h; cases hs
      obtain ⟨_, _, e, _, _⟩ := h2.func'
      exact key h1.nilfunc e (.inl rfl) (run_eqF2 9999 hu)
    · rename_i h; cases h; cases hs
      obtain ⟨_, _, e, _, _⟩ := h1.func'
      exact key e h2.nilfunc (.inr ⟨_, _, _, rfl⟩) (run_eqF3 9999 hu)
    · cases hs
  · simp only [semP] at hs
    have key : ∀ {x' y' : Value} {r : Bool}, ρ x = x' → ρ y = y' → (x' = .nilIface ∨ ∃ f a, x' = .iface f a) → eqGuard (if neg then .neq else .eql) t x y x' y' = pure () → (Op.equal t x' y').run P w = .ok r w →
        ∃ v', (do eqGuard (if neg then .neq else .eql) t x y (ρ x) (ρ y); binOp (if neg then .neq else .eql) t (ρ x) (ρ y) : Sem Value).run P w = .ok v' w ∧ VR β (.bool (r != neg)) v' := by
      intro x' y' r e1 e2 hx hg he
      rw [e1, e2]
      refine ⟨_, ?_, VR.b _⟩
      rw [hg]
      have := run_eqOp (P := P) (w := w) (neg := neg) (x := x') (y := y') (t := t) (by rcases hx with rfl | ⟨_, _, rfl⟩ <;> simp) (by rcases hx with rfl | ⟨_, _, rfl⟩ <;> simp) (by rcases hx with rfl | ⟨_, _, rfl⟩ <;> simp) (by rcases hx with rfl | ⟨_, _, rfl⟩ <;> simp) he
      simpa using this
    unfold sEqIface at hs
    split at hs
    · rename_i h; cases h; cases hs
      refine key h1.niliface h2.niliface (.inl rfl) ?_ (run_eqI1 9999 hu)
      cases x <;> cases y <;> first | exact eqGuard_nil_constL .. | exact eqGuard_nil_constR .. | (simp [isC] at hc)
    · rename_i h; cases h; cases hs
      obtain ⟨_, e, _⟩ := h2.iface'
      exact key h1.niliface e (.inl rfl) (eqGuard_nil_iface ..) (run_eqI2 9999 hu)
    · rename_i h; cases h; cases hs
      obtain ⟨_, e, _⟩ := h1.iface'
      exact key e h2.niliface (.inr ⟨_, _, rfl⟩) (eqGuard_at_iface ..) (run_eqI3 9999 hu)
    · cases hs
  · simp only [semP] at hs
    unfold sEqInts at hs
    split at hs
    · rename_i xs ys h
      cases h
      split at hs
      · rename_i hl
        cases hr : eqIntsL xs.toList ys.toList with
        | none => simp [hr] at hs
        | some r =>
          simp [hr] at hs
          subst hs
          obtain ⟨f1, f2⟩ := eqIntsL_flat _ _ _ hr
          obtain ⟨xs', ex, rx⟩ := h1.agg'
          obtain ⟨ys', ey, ry⟩ := h2.agg'
          have hx : xs' = xs := Array.ext' (VRs.flatEq f1 rx)
          have hy : ys' = ys := Array.ext' (VRs.flatEq f2 ry)
          subst hx; subst hy
          rw [ex, ey]
          refine ⟨_, ?_, VR.b _⟩
          have := run_equalInts 8 t n hn w (10000 - 8) true xs'.toList ys'.toList r hagg (by simpa using hl.1) (by simpa using hl.2) hr
          simp only [mkV, if_true, Array.toArray_toList] at this
          have h2 := run_eqOp (P := P) (w := w) (neg := neg) (x := .agg xs') (y := .agg ys') (t := t) (r := r) (by simp) (by simp) (by simp) (by simp) this
          simp only [Sem.run_bind, run_eqGuard_agg w _ t x y xs' ys' hg, Result.andThen_ok]
          exact h2
      · cases hs
    · cases hs
end Go.Cs
