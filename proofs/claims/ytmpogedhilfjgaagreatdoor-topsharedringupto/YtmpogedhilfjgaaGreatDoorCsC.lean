/- A part of the proof that the law spadilletop.TopSharedRing answers true and leaves its argument as it was (CsC) -/
import Derived.Test.YtmpogedhilfjgaaGreatDoorCsB
set_option linter.all false
namespace Go.Cs
variable {P : Program} {E : Env} {G : List Nat} {β : Ren} {H : Heap} {n : Nat} {ρ : Operand → Value} {o : Oper} {w : World}
def ptrTo (i : Nat) : Value := .pointer (some ⟨i, 0, none⟩)
def sliceTo (len cap i : Nat) : Value := .slice (some ⟨i, 0, none⟩) len cap
def mapTo (i : Nat) : Value := .map (some i)
inductive Mk where
  | ptr | slice (len cap : Nat) | map
  deriving Inhabited
def Mk.val : Mk → Nat → Value
  | .ptr, i => ptrTo i
  | .slice l c, i => sliceTo l c i
  | .map, i => mapTo i
def aBuildSlice (t : TypeId) (len : Nat) (zero : List Value) (places : List (Nat × Nat)) (vs : List Value) : Option (AObj × Mk) :=
  (fillL zero places vs).map fun cs => (.cells cs t none, .slice len len)
def aMkSlice (t : TypeId) (bytes : Nat) (zero : List Value) : List Value → Option (AObj × Mk)
  | [.int _ l, .int _ c] => if 0 ≤ l ∧ l ≤ c ∧ bytes * c ≤ 2 ^ 40 ∧ c ≤ 2 ^ 40 then some (.cells (List.replicate c.toNat zero).flatten t none, .slice l.toNat c.toNat) else none
  | _ => none
def aRangeStr : List Value → Option (AObj × Mk)
  | [.string s] => some (.iter s 0, .ptr)
  | _ => none
def aBox (t : TypeId) : List Value → Option (AObj × Mk)
  | [v] => some (.cells v.cells.toList t none, .ptr)
  | _ => none
def aAlloc (t : TypeId) (zero : List Value) : List Value → Option (AObj × Mk)
  | [] => some (.cells zero t none, .ptr)
  | _ => none
def aMkMap : List Value → Option (AObj × Mk)
  | [] => some (.map [] 0, .map)
  | _ => none
def aStrToBytes (t : TypeId) : List Value → Option (AObj × Mk)
  | [.string s] => some (.cells (s.data.toList.map fun c => .int .u8 c.toNat) t (some 1), .slice s.data.toList.length s.data.toList.length)
  | _ => none
def semA (k : Kind) (vs : List Value) : Option (AObj × Mk) :=
  match k with
  | .alloc t zero => aAlloc t zero vs
  | .box t => aBox t vs
  | .buildSlice t len zero places => aBuildSlice t len zero places vs
  | .mkMap => aMkMap vs
  | .mkSlice t bytes zero => aMkSlice t bytes zero vs
  | .rangeStr => aRangeStr vs
  | .strToBytes t => aStrToBytes t vs
  | _ => none
theorem isLive_cons {i j : Nat} {ob : AObj} (h : j ≠ i) : isLive (aput H i ob) j ↔ isLive H j := by
  unfold isLive; simp [aget_aput, Ne.symm h]
theorem HR.alloc (hr : HR G β H n w) (hn : n < big) {w' : World} {o' : Obj} {e : Bl} {ob : AObj} (hheap : w'.heap = w.heap.push o') (he : e.blk = w.heap.size) (ho : OR (β.add n e) e ob o') :
    HR G (β.add n e) (aput H n ob) (n + 1) w' := by
  have hfresh : β n = none := by
    cases h : β n with
    | none => rfl
    | some f => have := (hr.dom h).1; omega
  obtain ⟨M, hM⟩ := hr.fin
  have hle : Ren.le β (β.add n e) := by
    intro i f hi
    unfold Ren.add
    by_cases h : i = n
    · subst h; rw [hfresh] at hi; cases hi
    · simp [h, hi]
  constructor
  · intro g hg
    exact hle _ _ (hr.glob g hg)
  · intro i f hi
    unfold Ren.add at hi
    split at hi
    · cases hi; rename_i h; subst h; exact ⟨by omega, by rw [hheap]; simp [he]⟩
    · have := hr.dom hi; exact ⟨by omega, by rw [hheap]; simp; omega⟩
  · refine ⟨max M (n + 1), fun i f hi => ?_⟩
    unfold Ren.add at hi
    split at hi
    · omega
    · have := hM i f hi; omega
  · intro i j f g hi hj hli hlj hfg
    unfold Ren.add at hi hj
    split at hi <;> split at hj
    · omega
    · cases hi; have := (hr.dom hj).2; omega
    · cases hj; have := (hr.dom hi).2; omega
    · rename_i h1 h2
      exact hr.inj hi hj ((isLive_cons h1).1 hli) ((isLive_cons h2).1 hlj) hfg
  · intro i f q hi hq
    unfold Ren.add at hi
    split at hi
    · rename_i h; cases hi; subst h
      simp [aget_aput] at hq; subst hq
      exact ⟨o', by rw [hheap, he]; simp, ho⟩
    · rename_i h
      simp [aget_aput, Ne.symm h] at hq
      obtain ⟨b, h1, h2⟩ := hr.obj hi hq
      refine ⟨b, ?_, h2.mono hle⟩
      rw [hheap, Array.getElem?_push, if_neg (by have := (hr.dom hi).2; omega)]
      exact h1
theorem Ren.le_add {i : Nat} {e : Bl} (h : β i = none) : Ren.le β (β.add i e) := by
  intro j f hj
  unfold Ren.add
  by_cases hh : j = i
  · subst hh; rw [h] at hj; cases hj
  · simp [hh, hj]
theorem HR.fresh (hr : HR G β H n w) (hn : n < big) : β n = none := by
  cases h : β n with
  | none => rfl
  | some f => have := (hr.dom h).1; omega
theorem Fr.alloc (hr : HR G β H n w) (hn : n < big) {w' : World} {o' : Obj} {e : Bl} (hheap : w'.heap = w.heap.push o') (he : e.blk = w.heap.size) (h1 : w'.os = w.os) (h2 : w'.tape = w.tape) (h3 : w'.output = w.output) :
    Fr β n w (β.add n e) (n + 1) w' where
  ext := Ren.le_add (hr.fresh hn)
  new := by
    intro i f hi
    unfold Ren.add at hi
    split at hi
    · cases hi; rename_i h; subst h; exact .inr ⟨Nat.le_refl _, .inl (by omega)⟩
    · exact .inl hi
  le := by omega
  size := by rw [hheap]; simp
  keep := by
    intro b hb _
    rw [hheap, Array.getElem?_push, if_neg (by omega)]
  os := h1
  tape := h2
  output := h3
def Makes (P : Program) (β : Ren) (ρ : Operand → Value) (o : Oper) (w : World) (ob : AObj) (mk : Mk) : Prop :=
  ∃ v' w' o' room, (execOp ρ o).run P w = .ok (.value v') w' ∧ w'.heap = w.heap.push o' ∧ w'.os = w.os ∧ w'.tape = w.tape ∧ w'.output = w.output ∧
    (∀ β' i, Ren.le β β' → β' i = some ⟨w.heap.size, 0, room⟩ → VR β' (mk.val i) v' ∧ OR β' ⟨w.heap.size, 0, room⟩ ob o')
theorem run_okv2 {w w' : World} {s : Sem Value} {v : Value} (h : s.run P w = .ok v w') : (do pure (Next.value (← s)) : Sem Next).run P w = .ok (.value v) w' := by
  simp [h]
theorem modify_push {α : Type} (a : Array α) (x : α) (f : α → α) : (a.push x).modify a.size f = a.push (f x) := by
  apply Array.ext_getElem?
  intro k
  rw [Array.getElem?_modify, Array.getElem?_push, Array.getElem?_push]
  by_cases h : k = a.size
  · subst h; simp
  · simp [h, Ne.symm h]
theorem makes_of {ob : AObj} {mk : Mk} {s : Sem Value} (he : execOp ρ o = (do pure (Next.value (← s)))) {v' : Value} {o' : Obj} (h : s.run P w = .ok v' { w with heap := w.heap.push o' })
    (hv : ∀ β' i, Ren.le β β' → β' i = some ⟨w.heap.size, 0, none⟩ → VR β' (mk.val i) v' ∧ OR β' ⟨w.heap.size, 0, none⟩ ob o') : Makes P β ρ o w ob mk :=
  ⟨v', { w with heap := w.heap.push o' }, o', none, by rw [he]; exact run_okv2 h, rfl, rfl, rfl, rfl, hv⟩
theorem unfrozen_zero (sh sz : Nat) : unfrozen (0, 0) sh sz := by
  intro k _ _ h; simp at h
theorem exact_new {cs : List Value} {c : Array Value} {t : TypeId} {β' : Ren} {b : Nat} (h : VRs β' cs c.toList) : OR β' ⟨b, 0, none⟩ (.cells cs t none) (.cells c t) :=
  .exact rfl rfl h rfl
theorem ptr_new {β' : Ren} {i : Nat} (h : β' i = some ⟨w.heap.size, 0, none⟩) : VR β' (ptrTo i) (.pointer (some ⟨w.heap.size, 0, none⟩)) := by
  have := VR.ptr (o := 0) h
  simpa [ptrTo] using this
theorem slice_new {β' : Ren} {i l c : Nat} (h : β' i = some ⟨w.heap.size, 0, none⟩) : VR β' (sliceTo l c i) (.slice (some ⟨w.heap.size, 0, none⟩) l c) := by
  have := VR.slice (o := 0) (l := l) (c := c) h rfl
  simpa [sliceTo] using this
theorem replicate_cells {zero : Array Value} {m c : Nat} (hz : zero.size = m) (hm : 0 < m) : ((Array.range (c * m)).map (zero[· % zero.size]!)).toList = (List.replicate c zero.toList).flatten := by
  simp only [Array.toList_map, Array.toList_range, hz]
  induction c with
  | zero => simp
  | succ c ih =>
    rw [List.replicate_succ', List.flatten_append, ← ih, Nat.succ_mul, List.range_add]
    simp only [List.map_append, List.map_map, List.flatten_cons, List.flatten_nil, List.append_nil]
    congr 1
    apply List.ext_getElem?
    intro j
    simp only [List.getElem?_map, List.getElem?_range, Function.comp_def]
    by_cases hj : j < m
    · simp [List.getElem?_range hj, hj, hz, Nat.mod_eq_of_lt hj]
    · rw [List.getElem?_eq_none (by simp; omega), List.getElem?_eq_none (by simp; omega)]; rfl
theorem semA_sound {k : Kind} {args : List Operand} {vs : List Value} {ob : AObj} {mk : Mk} (hk : kindOf P o = some (k, args)) (hvs : VRs β vs (args.map ρ)) (hs : semA k vs = some (ob, mk)) : Makes P β ρ o w ob mk := by
  cases hop : o.op with
  | alloc t =>
    simp only [kindOf, hop, Option.map_eq_some_iff, Prod.mk.injEq] at hk
    obtain ⟨z, hz, rfl, rfl⟩ := hk
    cases hvs
    simp only [semA, aAlloc, Option.some.injEq, Prod.mk.injEq] at hs
    obtain ⟨rfl, rfl⟩ := hs
    obtain ⟨zv, h1, h2, h3, h4⟩ := run_zeroOf w hz
    refine makes_of (s := Instr.alloc t true (.tuple #[])) (by simp only [execOp, hop]) (v' := .pointer (some ⟨w.heap.size, 0, none⟩)) (o' := .cells zv.cells t) ?_ (fun β' i _ hi => ⟨ptr_new hi, exact_new (by rw [h2]; exact VRs.flat h3)⟩)
    simp only [Instr.alloc, Sem.run_bind, h1, Result.andThen_ok, newVar, newRow, run_newObj, Sem.run_pure]
  | box t x =>
    simp only [kindOf, hop, Option.some.injEq, Prod.mk.injEq] at hk
    obtain ⟨rfl, rfl⟩ := hk
    match vs, hvs with
    | [a], hvs =>
      simp only [semA, aBox, Option.some.injEq, Prod.mk.injEq] at hs
      obtain ⟨rfl, rfl⟩ := hs
      refine makes_of (s := Instr.box t (ρ x)) (by simp only [execOp, hop]) (v' := .pointer (some ⟨w.heap.size, 0, none⟩)) (o' := .cells (ρ x).cells t) ?_ (fun β' i hle hi => ⟨ptr_new hi, exact_new (hvs.hd.1.cells.mono hle)⟩)
      simp only [Instr.box, Sem.run_bind, newVar, newRow, run_newObj, Sem.run_pure, Result.andThen_ok]
  | buildSlice t len parts =>
    simp only [kindOf, hop] at hk
    split at hk
    · rename_i el hu
      split at hk
      · rename_i m z hm hz
        split at hk
        · rename_i hh
          cases hk
          simp only [semA, aBuildSlice, Option.map_eq_some_iff, Prod.mk.injEq] at hs
          obtain ⟨cs, hf, rfl, rfl⟩ := hs
          obtain ⟨zv, h1, h2, h3, h4⟩ := run_zeroOf w hz
          have hzs : zv.cells.size = m := by rw [← Array.length_toList, h2]; exact hh.2.1
          have hv' : VRs β vs (parts.toList.map fun x => ρ x.2) := by simpa [List.map_map, Function.comp_def] using hvs
          have hps : parts.toList.mapM (fun x => (fun i => some (i * m, m) : Nat → Option (Nat × Nat)) x.1) = some (parts.toList.map fun x => (x.1 * m, m)) := by
            generalize parts.toList = L
            induction L with
            | nil => rfl
            | cons x L ih => simp at ih; simp [ih]
          have hzero : ∃ za : Array Value, ((len * m = 0 → za = #[]) ∧ (len * m ≠ 0 → za = zv.cells)) ∧ ((Array.range (len * m)).map (za[· % za.size]!)).toList = (List.replicate len z).flatten := by
            by_cases h0 : len * m = 0
            · have : len = 0 := by
                rcases Nat.mul_eq_zero.1 h0 with h | h
                · exact h
                · omega
              subst this
              exact ⟨#[], ⟨fun _ => rfl, fun h => absurd h0 h⟩, by simp⟩
            · exact ⟨zv.cells, ⟨fun h => absurd h h0, fun _ => rfl⟩, by rw [replicate_cells hzs hh.2.2, h2]⟩
          obtain ⟨za, q1, q2⟩ := hzero
          have hfl : ∀ c, flats (List.replicate c z).flatten = true := by
            intro c
            induction c with
            | zero => rfl
            | succ c ih =>
              simp only [List.replicate_succ, List.flatten_cons, flats, List.all_append, Bool.and_eq_true]
              exact ⟨h3, ih⟩
          obtain ⟨r', hr1, hr2⟩ := fill_sound (ρ := ρ) (fun i => some (i * m, m)) parts.toList _ vs _ ((Array.range (len * m)).map (za[· % za.size]!)) cs hps hv' (by rw [q2]; exact VRs.flat (hfl len)) hf
          refine makes_of (s := Instr.buildSlice t len (parts.map fun (i, x) => (i, ρ x))) (by simp only [execOp, hop]) (v' := .slice (some ⟨w.heap.size, 0, none⟩) len len) (o' := .cells r' el) ?_ (fun β' i hle hi => ⟨slice_new hi, exact_new (hr2.mono hle)⟩)
          have : (parts.map fun x => (x.1, ρ x.2)).toList = parts.toList.map fun x => (x.1, ρ x.2) := by simp
          simp only [Instr.buildSlice, Sem.run_bind, run_underlying hu, Result.andThen_ok, run_size w hm]
          rw [if_neg (by omega)]
          by_cases h0 : len * m = 0
          · rw [if_pos h0]
            have := q1.1 h0; subst this
            simp only [Sem.run_bind, Sem.run_pure, Result.andThen_ok, this, hr1, newRow, run_newObj]
          · rw [if_neg h0]
            have := q1.2 h0; subst this
            simp only [Sem.run_bind, Sem.run_pure, Result.andThen_ok, h1, this, hr1, newRow, run_newObj]
        · cases hk
      · cases hk
    · cases hk
  | makeMap t r =>
    simp only [kindOf, hop] at hk
    split at hk
    · rename_i hu
      cases hk
      cases hvs
      simp only [semA, aMkMap, Option.some.injEq, Prod.mk.injEq] at hs
      obtain ⟨rfl, rfl⟩ := hs
      refine makes_of (s := Instr.makeMap t none) (by simp [execOp, hop]) (v' := .map (some w.heap.size)) (o' := .map #[] 0) (by simp [Instr.makeMap]) (fun β' i hle hi => ⟨?_, .map .nil⟩)
      exact VR.map hi
    · cases hk
  | makeSlice t l c =>
    simp only [kindOf, hop] at hk
    split at hk
    · rename_i el hu
      split at hk
      · rename_i i z hi hz
        split at hk
        · rename_i hh
          cases hk
          match vs, hvs with
          | [a, b], hvs =>
            simp only [semA] at hs
            unfold aMkSlice at hs
            split at hs
            · rename_i k1 l0 k2 c0 heq; cases heq
              split at hs
              · rename_i hb
                cases hs
                obtain ⟨b1, b2, b3, b4⟩ := hb
                have e1 := hvs.hd.1.int
                have e2 := hvs.hd.2.hd.1.int
                obtain ⟨zv, h1, h2, h3, h4⟩ := run_zeroOf w hz
                have hzs : zv.cells.size = i.size := by rw [← Array.length_toList, h2]; exact hh.1
                have hsz : sizeOfT P el = some i.size := by simp [sizeOfT, hi]
                have hwl : IntKind.i64.wrap l0 = l0 := by simp [IntKind.wrap, IntKind.bits, IntKind.signed]; omega
                have hwc : IntKind.i64.wrap c0 = c0 := by simp [IntKind.wrap, IntKind.bits, IntKind.signed]; omega
                have hzero : ∃ za : Array Value, ((c0.toNat * i.size = 0 → za = #[]) ∧ (c0.toNat * i.size ≠ 0 → za = zv.cells)) ∧ ((Array.range (c0.toNat * i.size)).map (za[· % za.size]!)).toList = (List.replicate c0.toNat z).flatten := by
                  by_cases h0 : c0.toNat * i.size = 0
                  · have : c0.toNat = 0 := by
                      rcases Nat.mul_eq_zero.1 h0 with h | h
                      · exact h
                      · omega
                    rw [this]
                    exact ⟨#[], ⟨fun _ => rfl, fun h => by simp at h⟩, by simp⟩
                  · exact ⟨zv.cells, ⟨fun h => absurd h h0, fun _ => rfl⟩, by rw [replicate_cells hzs hh.2, h2]⟩
                obtain ⟨za, q1, q2⟩ := hzero
                have hfl : ∀ c, flats (List.replicate c z).flatten = true := by
                  intro c
                  induction c with
                  | zero => rfl
                  | succ c ih =>
                    simp only [List.replicate_succ, List.flatten_cons, flats, List.all_append, Bool.and_eq_true]
                    exact ⟨h3, ih⟩
                refine makes_of (s := Instr.makeSlice t (ρ l) (ρ c)) (by simp only [execOp, hop]) (v' := .slice (some ⟨w.heap.size, 0, none⟩) l0.toNat c0.toNat) (o' := .cells ((Array.range (c0.toNat * i.size)).map (za[· % za.size]!)) el) ?_ (fun β' i hle hi => ⟨slice_new hi, exact_new (by rw [q2]; exact VRs.flat (hfl _))⟩)
                simp only [Instr.makeSlice, e1, e2, Sem.run_bind, run_underlying hu, Result.andThen_ok, asInt, asIntOf, Sem.run_pure, run_info w hi, hwl, hwc]
                have hc1 : ¬ (c0 < 0) := by omega
                have hc2 : ¬ ((i.bytes : Int) * c0 > 2 ^ 48) := by omega
                have hc3 : ¬ (l0 < 0) := by omega
                have hc4 : ¬ (l0 > c0) := by omega
                simp only [hc1, hc2, hc3, hc4, decide_false, Bool.or_self, Bool.false_eq_true, if_false, Sem.run_bind, run_askRoom, Result.andThen_ok, run_size w hsz]
                by_cases h0 : c0.toNat * i.size = 0
                · rw [if_pos h0]
                  have := q1.1 h0; subst this
                  simp only [Sem.run_bind, Sem.run_pure, Result.andThen_ok, newRow, run_newObj]
                · rw [if_neg h0]
                  have := q1.2 h0; subst this
                  simp only [Sem.run_bind, Sem.run_pure, Result.andThen_ok, h1, newRow, run_newObj]
              · cases hs
            · cases hs
        · cases hk
      · cases hk
    · cases hk
  | range t x =>
    simp only [kindOf, hop] at hk
    split at hk
    · rename_i hu
      cases hk
      match vs, hvs with
      | [a], hvs =>
        simp only [semA] at hs
        unfold aRangeStr at hs
        split at hs
        · rename_i heq; cases heq; cases hs
          have e := hvs.hd.1.string
          exact makes_of (s := Instr.range t (ρ x)) (by simp only [execOp, hop]) (v' := .pointer (some ⟨w.heap.size, 0, none⟩)) (o' := .stringIter _ 0) (by simp [Instr.range, run_underlying hu, e]) (fun β' i hle hi => ⟨ptr_new hi, .iter rfl⟩)
        · cases hs
    · cases hk; simp [semA] at hs
    · cases hk
  | convert src dst x =>
    simp only [kindOf, hop] at hk
    split at hk
    · cases hk; simp [semA] at hs
    · cases hk; simp [semA] at hs
    · split at hk
      · cases hk; simp [semA] at hs
      · cases hk
    · split at hk
      · cases hk; simp [semA] at hs
      · cases hk
    · split at hk
      · cases hk; simp [semA] at hs
      · cases hk
    · rename_i el h1 h2
      split at hk
      · rename_i h3 h4
        cases hk
        match vs, hvs with
        | [a], hvs =>
          simp only [semA] at hs
          unfold aStrToBytes at hs
          split at hs
          · rename_i s heq; cases heq; cases hs
            have e := hvs.hd.1.string
            obtain ⟨cap, hcap, hrun⟩ : ∃ cap, s.size ≤ cap ∧ (choose (.appendCap s.size 0 el)).run P w = .ok cap { w with drawn := w.drawn + 1 } := by
              refine ⟨(Question.appendCap s.size 0 el).cut (w.tape w.drawn (.appendCap s.size 0 el)), ?_, by rw [run_choose]; simp [Question.forced]⟩
              simp [Question.cut]
            let row : Array Value := (s.data.map fun b => .int .u8 b.toNat) ++ Array.replicate (cap - s.size) (.int .u8 0)
            have hrow : row.size = cap := by simp [row]; omega
            have hconv : (convert src dst (ρ x)).run P w = .ok (.slice (some ⟨w.heap.size, 0, none⟩) s.size cap) { w with heap := w.heap.push (.cells row el (cap, cap + 1)), drawn := w.drawn + 1 } := by
              have hu2 : ∀ w', (underlying el).run P w' = .ok (.int .u8) w' := fun w' => run_underlying h3 w'
              simp only [convert, e, Sem.run_bind, run_underlying h1, run_underlying h2, Result.andThen_ok, run_underlying h3, Conv.stringToBytes, hrun, newRow, run_newObj, Sem.run_pure, markStringish, run_shape]
              have hs : ({ heap := w.heap.push (.cells row el), tape := w.tape, drawn := w.drawn + 1, os := w.os, output := w.output } : World).shape? w.heap.size = some (el, cap) := by
                simp [World.shape?, hrow]
              simp only [row] at hs
              simp only [hs, run_freeze, Result.andThen_ok, World.freeze]
              simp [row]
              rw [modify_push]
              simp
            refine ⟨.slice (some ⟨w.heap.size, 0, none⟩) s.size cap, { w with heap := w.heap.push (.cells row el (cap, cap + 1)), drawn := w.drawn + 1 }, .cells row el (cap, cap + 1), some (cap, 1), ?_, rfl, rfl, rfl, rfl, ?_⟩
            · simp only [execOp, hop]; exact run_okv2 hconv
            · intro β' i hle hi
              refine ⟨?_, .grown (by simp [hrow]) ?_ ?_ ?_⟩
              · have := VR.sliceR (o := 0) (o' := 0) (l := s.data.toList.length) (c := s.data.toList.length) (c' := cap) (es := 1) hi rfl (Nat.le_refl _) (by simpa using hcap) (fun _ => by simp) (by simp)
                simpa [Mk.val, sliceTo] using this
              · simp [hrow]; exact hcap
              · have : ((row.toList.drop 0).take (s.data.toList.map fun c => Value.int .u8 c.toNat).length) = s.data.toList.map fun c => Value.int .u8 c.toNat := by
                  simp [row]
                rw [this]
                exact VRs.flat (by simp only [flats, List.all_map, List.all_eq_true]; intro x _; rfl)
              · intro k _ hk h
                simp only [hrow] at hk
                simp at h
                omega
          · cases hs
      · cases hk
    · cases hk
  | move _ =>
    simp only [kindOf, hop] at hk
    repeat' split at hk
    all_goals first
      | (cases hk; done)
      | (cases hk; simp [semA] at hs; done)
      | (simp only [Option.map_eq_some_iff, Prod.mk.injEq] at hk
         obtain ⟨_, _, rfl, rfl⟩ := hk
         simp [semA] at hs)
  | assign _ =>
    simp only [kindOf, hop] at hk
    repeat' split at hk
    all_goals first
      | (cases hk; done)
      | (cases hk; simp [semA] at hs; done)
      | (simp only [Option.map_eq_some_iff, Prod.mk.injEq] at hk
         obtain ⟨_, _, rfl, rfl⟩ := hk
         simp [semA] at hs)
  | pick _ _ _ =>
    simp only [kindOf, hop] at hk
    repeat' split at hk
    all_goals first
      | (cases hk; done)
      | (cases hk; simp [semA] at hs; done)
      | (simp only [Option.map_eq_some_iff, Prod.mk.injEq] at hk
         obtain ⟨_, _, rfl, rfl⟩ := hk
         simp [semA] at hs)
  | build _ _ =>
    simp only [kindOf, hop] at hk
    repeat' split at hk
    all_goals first
      | (cases hk; done)
      | (cases hk; simp [semA] at hs; done)
      | (simp only [Option.map_eq_some_iff, Prod.mk.injEq] at hk
         obtain ⟨_, _, rfl, rfl⟩ := hk
         simp [semA] at hs)
  | insert _ _ _ _ =>
    simp only [kindOf, hop] at hk
    repeat' split at hk
    all_goals first
      | (cases hk; done)
      | (cases hk; simp [semA] at hs; done)
      | (simp only [Option.map_eq_some_iff, Prod.mk.injEq] at hk
         obtain ⟨_, _, rfl, rfl⟩ := hk
         simp [semA] at hs)
  | load _ _ =>
    simp only [kindOf, hop] at hk
    repeat' split at hk
    all_goals first
      | (cases hk; done)
      | (cases hk; simp [semA] at hs; done)
      | (simp only [Option.map_eq_some_iff, Prod.mk.injEq] at hk
         obtain ⟨_, _, rfl, rfl⟩ := hk
         simp [semA] at hs)
  | store _ _ _ =>
    simp only [kindOf, hop] at hk
    repeat' split at hk
    all_goals first
      | (cases hk; done)
      | (cases hk; simp [semA] at hs; done)
      | (simp only [Option.map_eq_some_iff, Prod.mk.injEq] at hk
         obtain ⟨_, _, rfl, rfl⟩ := hk
         simp [semA] at hs)
  | ready _ =>
    simp only [kindOf, hop] at hk
    repeat' split at hk
    all_goals first
      | (cases hk; done)
      | (cases hk; simp [semA] at hs; done)
      | (simp only [Option.map_eq_some_iff, Prod.mk.injEq] at hk
         obtain ⟨_, _, rfl, rfl⟩ := hk
         simp [semA] at hs)
  | waits _ =>
    simp only [kindOf, hop] at hk
    repeat' split at hk
    all_goals first
      | (cases hk; done)
      | (cases hk; simp [semA] at hs; done)
      | (simp only [Option.map_eq_some_iff, Prod.mk.injEq] at hk
         obtain ⟨_, _, rfl, rfl⟩ := hk
         simp [semA] at hs)
  | nilCheck _ =>
    simp only [kindOf, hop] at hk
    repeat' split at hk
    all_goals first
      | (cases hk; done)
      | (cases hk; simp [semA] at hs; done)
      | (simp only [Option.map_eq_some_iff, Prod.mk.injEq] at hk
         obtain ⟨_, _, rfl, rfl⟩ := hk
         simp [semA] at hs)
  | unOp _ _ _ =>
    simp only [kindOf, hop] at hk
    repeat' split at hk
    all_goals first
      | (cases hk; done)
      | (cases hk; simp [semA] at hs; done)
      | (simp only [Option.map_eq_some_iff, Prod.mk.injEq] at hk
         obtain ⟨_, _, rfl, rfl⟩ := hk
         simp [semA] at hs)
  | sliceToArrayPointer _ _ =>
    simp only [kindOf, hop] at hk
    repeat' split at hk
    all_goals first
      | (cases hk; done)
      | (cases hk; simp [semA] at hs; done)
      | (simp only [Option.map_eq_some_iff, Prod.mk.injEq] at hk
         obtain ⟨_, _, rfl, rfl⟩ := hk
         simp [semA] at hs)
  | makeInterface _ _ =>
    simp only [kindOf, hop] at hk
    repeat' split at hk
    all_goals first
      | (cases hk; done)
      | (cases hk; simp [semA] at hs; done)
      | (simp only [Option.map_eq_some_iff, Prod.mk.injEq] at hk
         obtain ⟨_, _, rfl, rfl⟩ := hk
         simp [semA] at hs)
  | makeFunc _ _ _ =>
    simp only [kindOf, hop] at hk
    repeat' split at hk
    all_goals first
      | (cases hk; done)
      | (cases hk; simp [semA] at hs; done)
      | (simp only [Option.map_eq_some_iff, Prod.mk.injEq] at hk
         obtain ⟨_, _, rfl, rfl⟩ := hk
         simp [semA] at hs)
  | makeChan _ _ =>
    simp only [kindOf, hop] at hk
    repeat' split at hk
    all_goals first
      | (cases hk; done)
      | (cases hk; simp [semA] at hs; done)
      | (simp only [Option.map_eq_some_iff, Prod.mk.injEq] at hk
         obtain ⟨_, _, rfl, rfl⟩ := hk
         simp [semA] at hs)
  | slice _ _ _ _ _ =>
    simp only [kindOf, hop] at hk
    repeat' split at hk
    all_goals first
      | (cases hk; done)
      | (cases hk; simp [semA] at hs; done)
      | (simp only [Option.map_eq_some_iff, Prod.mk.injEq] at hk
         obtain ⟨_, _, rfl, rfl⟩ := hk
         simp [semA] at hs)
  | fieldAddr _ _ _ =>
    simp only [kindOf, hop] at hk
    repeat' split at hk
    all_goals first
      | (cases hk; done)
      | (cases hk; simp [semA] at hs; done)
      | (simp only [Option.map_eq_some_iff, Prod.mk.injEq] at hk
         obtain ⟨_, _, rfl, rfl⟩ := hk
         simp [semA] at hs)
  | field _ _ _ =>
    simp only [kindOf, hop] at hk
    repeat' split at hk
    all_goals first
      | (cases hk; done)
      | (cases hk; simp [semA] at hs; done)
      | (simp only [Option.map_eq_some_iff, Prod.mk.injEq] at hk
         obtain ⟨_, _, rfl, rfl⟩ := hk
         simp [semA] at hs)
  | indexAddr _ _ _ =>
    simp only [kindOf, hop] at hk
    repeat' split at hk
    all_goals first
      | (cases hk; done)
      | (cases hk; simp [semA] at hs; done)
      | (simp only [Option.map_eq_some_iff, Prod.mk.injEq] at hk
         obtain ⟨_, _, rfl, rfl⟩ := hk
         simp [semA] at hs)
  | index _ _ _ =>
    simp only [kindOf, hop] at hk
    repeat' split at hk
    all_goals first
      | (cases hk; done)
      | (cases hk; simp [semA] at hs; done)
      | (simp only [Option.map_eq_some_iff, Prod.mk.injEq] at hk
         obtain ⟨_, _, rfl, rfl⟩ := hk
         simp [semA] at hs)
  | lookup _ _ _ _ =>
    simp only [kindOf, hop] at hk
    repeat' split at hk
    all_goals first
      | (cases hk; done)
      | (cases hk; simp [semA] at hs; done)
      | (simp only [Option.map_eq_some_iff, Prod.mk.injEq] at hk
         obtain ⟨_, _, rfl, rfl⟩ := hk
         simp [semA] at hs)
  | mapUpdate _ _ _ _ =>
    simp only [kindOf, hop] at hk
    repeat' split at hk
    all_goals first
      | (cases hk; done)
      | (cases hk; simp [semA] at hs; done)
      | (simp only [Option.map_eq_some_iff, Prod.mk.injEq] at hk
         obtain ⟨_, _, rfl, rfl⟩ := hk
         simp [semA] at hs)
  | mapEntry _ _ _ =>
    simp only [kindOf, hop] at hk
    repeat' split at hk
    all_goals first
      | (cases hk; done)
      | (cases hk; simp [semA] at hs; done)
      | (simp only [Option.map_eq_some_iff, Prod.mk.injEq] at hk
         obtain ⟨_, _, rfl, rfl⟩ := hk
         simp [semA] at hs)
  | entryStore _ _ _ _ =>
    simp only [kindOf, hop] at hk
    repeat' split at hk
    all_goals first
      | (cases hk; done)
      | (cases hk; simp [semA] at hs; done)
      | (simp only [Option.map_eq_some_iff, Prod.mk.injEq] at hk
         obtain ⟨_, _, rfl, rfl⟩ := hk
         simp [semA] at hs)
  | entry _ =>
    simp only [kindOf, hop] at hk
    repeat' split at hk
    all_goals first
      | (cases hk; done)
      | (cases hk; simp [semA] at hs; done)
      | (simp only [Option.map_eq_some_iff, Prod.mk.injEq] at hk
         obtain ⟨_, _, rfl, rfl⟩ := hk
         simp [semA] at hs)
  | typeAssert _ _ _ _ =>
    simp only [kindOf, hop] at hk
    repeat' split at hk
    all_goals first
      | (cases hk; done)
      | (cases hk; simp [semA] at hs; done)
      | (simp only [Option.map_eq_some_iff, Prod.mk.injEq] at hk
         obtain ⟨_, _, rfl, rfl⟩ := hk
         simp [semA] at hs)
  | extract _ _ =>
    simp only [kindOf, hop] at hk
    repeat' split at hk
    all_goals first
      | (cases hk; done)
      | (cases hk; simp [semA] at hs; done)
      | (simp only [Option.map_eq_some_iff, Prod.mk.injEq] at hk
         obtain ⟨_, _, rfl, rfl⟩ := hk
         simp [semA] at hs)
  | go _ =>
    simp only [kindOf, hop] at hk
    repeat' split at hk
    all_goals first
      | (cases hk; done)
      | (cases hk; simp [semA] at hs; done)
      | (simp only [Option.map_eq_some_iff, Prod.mk.injEq] at hk
         obtain ⟨_, _, rfl, rfl⟩ := hk
         simp [semA] at hs)
  | defer _ =>
    simp only [kindOf, hop] at hk
    repeat' split at hk
    all_goals first
      | (cases hk; done)
      | (cases hk; simp [semA] at hs; done)
      | (simp only [Option.map_eq_some_iff, Prod.mk.injEq] at hk
         obtain ⟨_, _, rfl, rfl⟩ := hk
         simp [semA] at hs)
  | panic _ =>
    simp only [kindOf, hop] at hk
    repeat' split at hk
    all_goals first
      | (cases hk; done)
      | (cases hk; simp [semA] at hs; done)
      | (simp only [Option.map_eq_some_iff, Prod.mk.injEq] at hk
         obtain ⟨_, _, rfl, rfl⟩ := hk
         simp [semA] at hs)
  | send _ _ =>
    simp only [kindOf, hop] at hk
    repeat' split at hk
    all_goals first
      | (cases hk; done)
      | (cases hk; simp [semA] at hs; done)
      | (simp only [Option.map_eq_some_iff, Prod.mk.injEq] at hk
         obtain ⟨_, _, rfl, rfl⟩ := hk
         simp [semA] at hs)
  | recv _ _ _ =>
    simp only [kindOf, hop] at hk
    repeat' split at hk
    all_goals first
      | (cases hk; done)
      | (cases hk; simp [semA] at hs; done)
      | (simp only [Option.map_eq_some_iff, Prod.mk.injEq] at hk
         obtain ⟨_, _, rfl, rfl⟩ := hk
         simp [semA] at hs)
  | select _ _ =>
    simp only [kindOf, hop] at hk
    repeat' split at hk
    all_goals first
      | (cases hk; done)
      | (cases hk; simp [semA] at hs; done)
      | (simp only [Option.map_eq_some_iff, Prod.mk.injEq] at hk
         obtain ⟨_, _, rfl, rfl⟩ := hk
         simp [semA] at hs)
  | next x b =>
    cases b
    · simp only [kindOf, hop, Option.some.injEq, Prod.mk.injEq] at hk
      obtain ⟨rfl, rfl⟩ := hk
      simp [semA] at hs
    · simp only [kindOf, hop, Option.some.injEq, Prod.mk.injEq] at hk
      obtain ⟨rfl, rfl⟩ := hk
      simp [semA] at hs
  | binOp op t x y yt =>
    cases op <;> simp only [kindOf, hop, Option.map_eq_some_iff, Option.some.injEq, Prod.mk.injEq] at hk
    case eql =>
      obtain ⟨k', hk', rfl, rfl⟩ := hk
      rcases eqKind_shape hk' with rfl | ⟨rfl, _⟩ | ⟨_, rfl, _⟩ | ⟨_, rfl, _⟩ | ⟨_, _, rfl, _⟩ | ⟨_, _, _, rfl, _⟩ | ⟨_, rfl, _⟩ | ⟨_, rfl, _⟩ <;> simp [semA] at hs
    case neq =>
      obtain ⟨k', hk', rfl, rfl⟩ := hk
      rcases eqKind_shape hk' with rfl | ⟨rfl, _⟩ | ⟨_, rfl, _⟩ | ⟨_, rfl, _⟩ | ⟨_, _, rfl, _⟩ | ⟨_, _, _, rfl, _⟩ | ⟨_, rfl, _⟩ | ⟨_, rfl, _⟩ <;> simp [semA] at hs
    all_goals
      obtain ⟨rfl, rfl⟩ := hk
      simp [semA] at hs
  | call c =>
    cases hc : c.callee with
    | value f =>
      cases f <;> simp only [kindOf, hop, hc] at hk <;> cases hk <;> simp [semA] at hs
    | invoke r name =>
      simp only [kindOf, hop, hc] at hk; cases hk; simp [semA] at hs
    | builtin b =>
      cases b <;> simp only [kindOf, hop, hc] at hk
      all_goals
        repeat' split at hk
        all_goals first
          | (cases hk; done)
          | (cases hk; simp [semA] at hs; done)
          | (simp only [Option.map_eq_some_iff, Prod.mk.injEq] at hk
             obtain ⟨_, _, rfl, rfl⟩ := hk
             simp [semA] at hs)
end Go.Cs
namespace Go.Cs
variable {P : Program} {E : Env} {G : List Nat} {β : Ren} {H : Heap} {n : Nat} {ρ : Operand → Value} {o : Oper} {w : World}
def cell1 : Value → Bool
  | .agg _ | .tuple _ => false
  | _ => true
def splice (cs : List Value) (o : Nat) (new : List Value) : List Value := cs.take o ++ new ++ cs.drop (o + new.length)
def sameBool : Value → Value → Bool
  | .bool x, .bool y => x == y
  | _, _ => false
def pinSame (cs : List (Option Value)) (o : Nat) (v : Value) : Bool := match cs[o]? with
  | some (some u) => sameBool u v
  | _ => false
theorem pinSame_spec {cs : List (Option Value)} {o : Nat} {v : Value} (h : pinSame cs o v = true) : ∃ x, cs[o]? = some (some (.bool x)) ∧ v = .bool x := by
  unfold pinSame at h
  split at h
  · rename_i u hu
    unfold sameBool at h
    split at h
    · rename_i x y
      have : x = y := by simpa using h
      subst this
      exact ⟨x, hu, rfl⟩
    · cases h
  · cases h
def wStore (sz : Nat) (H : Heap) (n : Nat) : List Value → Option (Value × Heap × Nat)
  | [.pointer (some ⟨b, o, none⟩), v] =>
    match aget H b with
    | some (.cells cs t gr) =>
      if v.cells.toList.length = sz ∧ o + sz ≤ cs.length ∧ v.cells.toList.all cell1 = true then some (undef, aput H b (.cells (splice cs o v.cells.toList) t gr), n) else none
    | some (.pin cs ob) => if sz = 1 ∧ pinSame cs o v = true then some (undef, aput H b (.pin cs ob), n) else none
    | _ => none
  | _ => none
def wMapUpdate (str : Nat) (H : Heap) (n : Nat) : List Value → Option (Value × Heap × Nat)
  | [.map (some b), key, v] =>
    match aget H b with
    | some (.map es clock) =>
      if keyFits str key then
        match findE key es 0 with
        | some (some (i, _)) => some (undef, aput H b (.map (es.modify i fun e => { e with key, val := v }) clock), n)
        | some none => some (undef, aput H b (.map (es ++ [{ key, val := v, born := clock }]) (clock + 1)), n)
        | none => none
      else none
    | _ => none
  | _ => none
def wMapDelete (str : Nat) (H : Heap) (n : Nat) : List Value → Option (Value × Heap × Nat)
  | [.map (some b), key] =>
    match aget H b with
    | some (.map es clock) =>
      if keyFits str key then
        match findE key es 0 with
        | some (some (i, _)) => some (.tuple #[], aput H b (.map (es.eraseIdx i) clock), n)
        | some none => some (.tuple #[], aput H b (.map es clock), n)
        | none => none
      else none
    | _ => none
  | _ => none
def appended (t : TypeId) (es : Nat) (H : Heap) (n : Nat) (base : Option Addr) (len cap m : Nat) (old new : List Value) : Option (Value × Heap × Nat) :=
  if new.all cell1 = true then
    match base with
    | none => if len = 0 ∧ cap = 0 then (if m = 0 then some (.slice none 0 0, H, n) else some (sliceTo m m n, aput H n (.cells new t (some es)), n + 1)) else none
    | some ⟨b, o, none⟩ =>
      match aget H b with
      | some (.cells cs t' gr) =>
        if len + m ≤ cap then
          if o + (len + m) * es ≤ cs.length then some (.slice (some ⟨b, o, none⟩) (len + m) cap, aput H b (.cells (splice cs (o + len * es) new) t' gr), n) else none
        else match gr with
          | none => if len ≤ cap then some (sliceTo (len + m) (len + m) n, aput H n (.cells (old ++ new) t (some es)), n + 1) else none
          | some es' => if es' = es ∧ t' = t then some (sliceTo (len + m) (len + m) n, aput (aput H b .dead) n (.cells (old ++ new) t (some es)), n + 1) else none
      | _ => none
    | _ => none
  else none
def wAppend (t : TypeId) (es bytes : Nat) (H : Heap) (n : Nat) : List Value → Option (Value × Heap × Nat)
  | [.slice base len cap, .slice base2 m cap2] =>
    match cellsOfSlice H es (.slice base2 m cap2), cellsOfSlice H es (.slice base len cap) with
    | some new, some old => if (2 * (len + m) + 1000) * bytes ≤ 2 ^ 40 then appended t es H n base len cap m old new else none
    | _, _ => none
  | _ => none
def byteVals (s : ByteArray) : List Value := s.data.toList.map fun c => .int .u8 c.toNat
def wAppendStr (t : TypeId) (H : Heap) (n : Nat) : List Value → Option (Value × Heap × Nat)
  | [.slice base len cap, .string s] =>
    match cellsOfSlice H 1 (.slice base len cap) with
    | some old => if 2 * (len + s.data.toList.length) + 1000 ≤ 2 ^ 40 then appended t 1 H n base len cap s.data.toList.length old (byteVals s) else none
    | none => none
  | _ => none
def wUnsafeStr (t : TypeId) (H : Heap) (n : Nat) : List Value → Option (Value × Heap × Nat)
  | [.pointer (some ⟨b, o, none⟩), .int _ k] =>
    if 0 < k ∧ k ≤ 2 ^ 40 then
      match aget H b with
      | some (.cells cs t' (some 1)) => if t = t' ∧ o + k.toNat ≤ cs.length then
          match bytesOfV ((cs.drop o).take k.toNat) with
          | some bs => some (.string ⟨bs.toArray⟩, aput H b (.ro cs t), n)
          | none => none else none
      | some (.ro cs t') => if t = t' ∧ o + k.toNat ≤ cs.length then
          match bytesOfV ((cs.drop o).take k.toNat) with
          | some bs => some (.string ⟨bs.toArray⟩, aput H b (.ro cs t), n)
          | none => none else none
      | _ => none
    else none
  | _ => none
def wCopy (es : Nat) (H : Heap) (n : Nat) : List Value → Option (Value × Heap × Nat)
  | [.slice base len cap, .slice base2 len2 cap2] =>
    match base with
    | some ⟨b, o, none⟩ =>
      match aget H b, cellsOfSlice H es (.slice base2 (min len2 len) cap2) with
      | some (.cells cs t gr), some new => if o + (min len2 len) * es ≤ cs.length ∧ new.all cell1 = true ∧ 0 < min len2 len then some (.int .i64 (min len2 len : Nat), aput H b (.cells (splice cs o new) t gr), n) else none
      | _, _ => none
    | _ => none
  | _ => none
def wNextStr (H : Heap) (n : Nat) : List Value → Option (Value × Heap × Nat)
  | [.pointer (some ⟨b, 0, none⟩)] =>
    match aget H b with
    | some (.iter s pos) =>
      if pos < s.size then
        some (.tuple #[.bool true, .int .i64 pos, .int .i32 (Utf8.decode s pos).1], aput H b (.iter s (pos + (Utf8.decode s pos).2)), n)
      else some (.tuple #[.bool false], aput H b (.iter s pos), n)
    | _ => none
  | _ => none
def semW (k : Kind) (vs : List Value) (H : Heap) (n : Nat) : Option (Value × Heap × Nat) :=
  match k with
  | .store sz => wStore sz H n vs
  | .mapUpdate str => wMapUpdate str H n vs
  | .mapDelete str => wMapDelete str H n vs
  | .append t es bytes _ => wAppend t es bytes H n vs
  | .appendStr t => wAppendStr t H n vs
  | .unsafeStr t => wUnsafeStr t H n vs
  | .copyB es => wCopy es H n vs
  | .nextStr => wNextStr H n vs
  | _ => none
def Acts (P : Program) (G : List Nat) (β : Ren) (n : Nat) (ρ : Operand → Value) (o : Oper) (w : World) (v : Value) (H' : Heap) (n' : Nat) : Prop :=
  ∃ v' w' β', ((execOp ρ o).run P w = .ok (.value v') w' ∨ ((execOp ρ o).run P w = .ok .skip w' ∧ v' = undef)) ∧ VR β' v v' ∧ HR G β' H' n' w' ∧ Fr β n w β' n' w'
theorem isLive_aput {b i : Nat} {ob : AObj} : isLive (aput H b ob) i ↔ if b = i then ob.live = true else isLive H i := by
  unfold isLive
  simp only [aget_aput]
  by_cases h : b = i <;> simp [h]
theorem HR.update (hr : HR G β H n w) {b : Nat} {e : Bl} {ob ob' : AObj} {w' : World} {o' : Obj} (hb : β b = some e) (hg : aget H b = some ob) (hl : ob.live = true)
    (hsz : w'.heap.size = w.heap.size) (hat : w'.heap[e.blk]? = some o') (hother : ∀ k, k ≠ e.blk → w'.heap[k]? = w.heap[k]?) (ho : OR β e ob' o') : HR G β (aput H b ob') n w' := by
  have hbl : isLive H b := ⟨ob, hg, hl⟩
  constructor
  · exact hr.glob
  · intro i f hi; have := hr.dom hi; exact ⟨this.1, by omega⟩
  · exact hr.fin
  · intro i j f g hi hj hli hlj hfg
    refine hr.inj hi hj ?_ ?_ hfg
    · rw [isLive_aput] at hli; split at hli
      · rename_i h; exact h ▸ hbl
      · exact hli
    · rw [isLive_aput] at hlj; split at hlj
      · rename_i h; exact h ▸ hbl
      · exact hlj
  · intro i f q hi hq
    rw [aget_aput] at hq
    split at hq
    · rename_i h; subst h; cases hq; rw [hb] at hi; cases hi; exact ⟨o', hat, ho⟩
    · rename_i h
      by_cases hf : f.blk = e.blk
      · have hnl : ¬ isLive H i := fun hli => h (hr.inj hi hb hli hbl hf).symm
        have : q = .dead := by
          cases q <;> first | rfl | exact absurd ⟨_, hq, rfl⟩ hnl
        subst this
        exact ⟨o', by rw [hf]; exact hat, .dead⟩
      · obtain ⟨bb, h1, h2⟩ := hr.obj hi hq
        exact ⟨bb, by rw [hother _ hf]; exact h1, h2⟩
theorem Fr.update {b : Nat} {e : Bl} {w' : World} (hb : β b = some e) (hsz : w'.heap.size = w.heap.size) (hother : ∀ k, k ≠ e.blk → w'.heap[k]? = w.heap[k]?) (h1 : w'.os = w.os) (h2 : w'.tape = w.tape) (h3 : w'.output = w.output) :
    Fr β n w β n w' where
  ext := Ren.le_refl _
  new := fun h => .inl h
  le := Nat.le_refl _
  size := by omega
  keep := fun k _ hno => hother k (fun he => hno b e hb he.symm)
  os := h1
  tape := h2
  output := h3
theorem VR.cellOne {v v' : Value} (h : VR β v v') (ho : cell1 v = true) : v'.oneCell' = true := by
  cases h with
  | same f => cases v <;> first | rfl | (simp [cell1] at ho)
  | agg => simp [cell1] at ho
  | tuple => simp [cell1] at ho
  | _ => rfl
theorem VRs.ones : ∀ {vs vs' : List Value}, VRs β vs vs' → vs.all cell1 = true → ∀ v ∈ vs', v.oneCell' = true
  | _, _, .nil, _, v, h => by simp at h
  | _, _, .cons a b, h, v, hv => by
    simp only [List.all_cons, Bool.and_eq_true] at h
    rcases List.mem_cons.1 hv with rfl | hv
    · exact a.cellOne h.1
    · exact VRs.ones b h.2 v hv
theorem run_storeL {b : Nat} {t : TypeId} {fr : Nat × Nat} {off : Nat} : ∀ (vs : List Value) (i : Nat) (c : Array Value) (w : World), w.heap[b]? = some (.cells c t fr) → off + i + vs.length ≤ c.size → (∀ v ∈ vs, v.oneCell' = true) →
    unfrozen fr off c.size → ∃ w' c', (storeCells ⟨b, off, none⟩ vs i).run P w = .ok () w' ∧ w'.heap[b]? = some (.cells c' t fr) ∧ c'.toList = splice c.toList (off + i) vs ∧ w'.heap.size = w.heap.size ∧
      (∀ k, k ≠ b → w'.heap[k]? = w.heap[k]?) ∧ w'.os = w.os ∧ w'.tape = w.tape ∧ w'.output = w.output
  | [], i, c, w, h, _, _, _ => ⟨w, c, by simp [storeCells], h, by simp [splice], rfl, fun _ _ => rfl, rfl, rfl, rfl⟩
  | v :: vs, i, c, w, h, hle, hone, hfr => by
    simp only [List.length_cons] at hle
    have hcell : w.cell? ⟨b, off + i, none⟩ = some c[off + i] := by
      rw [cell_of h]; exact Array.getElem?_eq_getElem (by omega)
    have hnf : w.frozen? ⟨b, off + i, none⟩ = false := by
      have := hfr (off + i) (by omega) (by omega)
      simp only [World.frozen?, h]
      simpa using this
    have hset : (w.setCell ⟨b, off + i, none⟩ v).heap[b]? = some (.cells (c.setIfInBounds (off + i) v) t fr) := by
      simp [World.setCell, Array.getElem?_modify, h]
    obtain ⟨w', c', h1, h2, h3, h4, h5, h6, h7, h8⟩ := run_storeL (off := off) vs (i + 1) (c.setIfInBounds (off + i) v) (w.setCell ⟨b, off + i, none⟩ v) hset (by simp; omega) (fun u hu => hone u (List.mem_cons_of_mem _ hu)) (by simpa using hfr)
    refine ⟨w', c', ?_, h2, ?_, ?_, ?_, ?_, ?_, ?_⟩
    · simp only [storeCells, Sem.run_bind, Addr.add_lit]
      rw [run_store _ _ _ _ _ (hone v (by simp)), hcell]
      simp only [hnf, Bool.false_eq_true, if_false, Result.andThen_ok]
      exact h1
    · rw [h3]
      simp only [splice, Array.toList_setIfInBounds, List.length_cons]
      rw [show off + (i + 1) = off + i + 1 by omega]
      have hk : off + i < (c.toList.set (off + i) v).length := by simp; omega
      rw [List.take_succ_eq_append_getElem hk]
      simp only [List.getElem_set_self, List.append_assoc, List.cons_append, List.nil_append]
      rw [List.take_set_of_le (by omega), List.drop_set_of_lt (by omega)]
      congr 3
      congr 1
      omega
    · rw [h4]; simp [World.setCell]
    · intro k hk
      rw [h5 k hk]
      simp only [World.setCell, Array.getElem?_modify]
      rw [if_neg (by omega)]
    · rw [h6]; rfl
    · rw [h7]; rfl
    · rw [h8]; rfl
theorem VRs.splice {cs cs' new new' : List Value} (h : VRs β cs cs') (k : VRs β new new') (o : Nat) : VRs β (Cs.splice cs o new) (Cs.splice cs' o new') := by
  unfold Cs.splice
  rw [← k.length]
  exact ((h.take o).append k).append (h.drop _)
theorem splice_append {X Y new : List Value} {off : Nat} (h : off + new.length ≤ X.length) : splice (X ++ Y) off new = splice X off new ++ Y := by
  unfold splice
  rw [List.take_append_of_le_length (by omega), List.drop_append_of_le_length (by omega)]
  simp
theorem splice_length {X new : List Value} {off : Nat} (h : off + new.length ≤ X.length) : (splice X off new).length = X.length := by
  simp [splice]; omega
theorem splice_take {L new : List Value} {off m : Nat} (h : off + new.length ≤ m) (hm : m ≤ L.length) : (splice L off new).take m = splice (L.take m) off new := by
  have hl : (L.take m).length = m := by simp; omega
  have := splice_append (X := L.take m) (Y := L.drop m) (new := new) (off := off) (by omega)
  rw [List.take_append_drop] at this
  rw [this, List.take_append_of_le_length (by rw [splice_length (by omega)]; omega), List.take_of_length_le (by rw [splice_length (by omega)]; omega)]
theorem write_known (hr : HR G β H n w) {b : Nat} {e : Bl} {cs : List Value} {t : TypeId} {gr : Option Nat} (hb : β b = some e) (hg : aget H b = some (.cells cs t gr)) {off : Nat} {new new' : List Value} (hle : off + new.length ≤ cs.length)
    (hv : VRs β new new') (ho : new.all cell1 = true) :
    ∃ w', (storeCells ⟨e.blk, off + e.sh, none⟩ new').run P w = .ok () w' ∧ HR G β (aput H b (.cells (splice cs off new) t gr)) n w' ∧ Fr β n w β n w' := by
  obtain ⟨c, fr, h1, h2, h3, h4, h5⟩ := hr.cells hb hg
  have hl := hv.length
  obtain ⟨w', c', g1, g2, g3, g4, g5, g6, g7, g8⟩ := run_storeL (P := P) (off := off + e.sh) new' 0 c w h1 (by omega) (hv.ones ho) (fun k hk => h4 k (by omega))
  refine ⟨w', g1, hr.update hb hg rfl g4 g2 g5 ?_, Fr.update hb g4 g5 g6 g7 g8⟩
  have hlen : (splice cs off new).length = cs.length := by simp [splice]; omega
  have hc' : c'.size = c.size := by
    rw [← Array.length_toList, g3]; simp [splice]; omega
  have hfr0 : gr = none → fr = (0, 0) := by
    intro hgr
    obtain ⟨o, z1, z2⟩ := hr.obj hb hg
    cases z2 with
    | exact a b c d => rw [h1] at z1; cases z1; exact d
    | grown => cases hgr
  have hrel : VRs β (splice cs off new) ((c'.toList.drop e.sh).take (splice cs off new).length) := by
    rw [hlen, g3]
    have : (splice c.toList (off + e.sh + 0) new').drop e.sh = splice (c.toList.drop e.sh) off new' := by
      simp only [splice, Nat.add_zero]
      rw [List.append_assoc, List.drop_append]
      simp only [List.length_take, Array.length_toList]
      rw [show min (off + e.sh) c.size = off + e.sh by omega, show e.sh - (off + e.sh) = 0 by omega]
      simp only [List.drop_zero, List.append_assoc, List.drop_drop]
      congr 1
      · rw [List.drop_take]; congr 1; omega
      · congr 2; omega
    rw [this]
    have h2' := h2.splice hv off
    rwa [splice_take (by omega) (by simp; omega)]
  rcases h5 with ⟨rfl, q1, q2, q3⟩ | ⟨es, rfl, q1⟩
  · refine .exact q1 q2 ?_ (hfr0 rfl)
    rw [q2, List.drop_zero, List.take_of_length_le (by simp; omega)] at hrel
    exact hrel
  · exact .grown (by rw [hc']; exact q1) (by rw [hlen, hc']; exact h3) hrel (by rw [hc']; exact h4)
theorem acts_value {v v' : Value} {H' : Heap} {n' : Nat} {w' : World} {β' : Ren} {s : Sem Value} (he : execOp ρ o = (do pure (Next.value (← s)))) (h : s.run P w = .ok v' w') (hv : VR β' v v') (hr : HR G β' H' n' w') (hf : Fr β n w β' n' w') : Acts P G β n ρ o w v H' n' :=
  ⟨v', w', β', .inl (by rw [he]; exact run_okv2 h), hv, hr, hf⟩
theorem undef_rel : VR β undef undef := .tuple .nil
theorem acts_skip {H' : Heap} {n' : Nat} {w' : World} {β' : Ren} {s : Sem Unit} (he : execOp ρ o = (do s; pure .skip)) (h : s.run P w = .ok () w') (hr : HR G β' H' n' w') (hf : Fr β n w β' n' w') : Acts P G β n ρ o w undef H' n' :=
  ⟨undef, w', β', .inr ⟨by rw [he]; simp [h], rfl⟩, undef_rel, hr, hf⟩
theorem store_sound {vs : List Value} {v : Value} {H' : Heap} {n' : Nat} (hr : HR G β H n w) {t : TypeId} {x y : Operand} {m : Nat} (hop : o.op = .store t x y) (hm : sizeOfT P t = some m) (hvs : VRs β vs [ρ x, ρ y]) (hs : wStore m H n vs = some (v, H', n')) : Acts P G β n ρ o w v H' n' := by
  match vs, hvs with
  | [a, b], hvs =>
    unfold wStore at hs
    split at hs
    · rename_i b0 o0 v0 heq; cases heq
      split at hs
      · rename_i cs t' gr hg
        split at hs
        · rename_i hh
          obtain ⟨q1, q2, q3⟩ := hh
          cases hs
          obtain ⟨e, he, hx⟩ := hvs.hd.1.ptr'
          have hc := hvs.hd.2.hd.1.cells
          obtain ⟨w', h1, h2, h3⟩ := write_known (P := P) (new := b.cells.toList) (off := o0) hr he hg (by omega) hc q3
          refine acts_skip (s := Instr.storeAt t (ρ x) (ρ y)) (by simp only [execOp, hop]) ?_ h2 h3
          have hsz : (ρ y).cells.size = m := by rw [← Array.length_toList, ← hc.length]; exact q1
          simp only [Instr.storeAt, hx, Instr.sureAddr, Sem.run_bind, Sem.run_pure, Result.andThen_ok, storeVar, run_size w hm]
          rw [if_neg (by simpa using hsz)]
          exact h1
        · cases hs
      · rename_i cs ob hg
        split at hs
        · rename_i hh
          obtain ⟨rfl, hh2⟩ := hh
          obtain ⟨bx, hx0, hbx⟩ := pinSame_spec hh2
          subst hbx
          · cases hs
            obtain ⟨e, he, hx⟩ := hvs.hd.1.ptr'
            obtain ⟨c, t', fr, rfl, h1, h2, h3, h4⟩ := hr.pin he hg
            obtain ⟨v', h5, h6, h7⟩ := h4 _ _ hx0
            have ev' : v' = .bool bx := h6.flatEq rfl
            have ey : ρ y = .bool bx := (hvs.hd.2.hd.1).flatEq rfl
            subst ev'
            have hlt : o0 < c.size := (Array.getElem?_eq_some_iff.1 h5).1
            have hset : c.setIfInBounds o0 (.bool bx) = c := by
              apply Array.ext'
              rw [Array.toList_setIfInBounds]
              apply List.ext_getElem?
              intro i
              rw [List.getElem?_set]
              split
              · rename_i hi; subst hi
                rw [if_pos (by simpa using hlt)]
                simpa using h5.symm
              · rfl
            have hcell : w.cell? ⟨e.blk, o0, none⟩ = some (.bool bx) := by rw [cell_of h1]; exact h5
            have hnf : w.frozen? ⟨e.blk, o0, none⟩ = false := by
              simp only [World.frozen?, h1]
              simpa using h7
            have hw : w.setCell ⟨e.blk, o0, none⟩ (.bool bx) = w := by
              have hm : (w.setCell ⟨e.blk, o0, none⟩ (.bool bx)).heap = w.heap := by
                apply Array.ext_getElem?
                intro i
                simp only [World.setCell, Array.getElem?_modify]
                split
                · rename_i hi; subst hi
                  rw [h1]
                  simp [hset]
                · rfl
              have e0 : w.setCell ⟨e.blk, o0, none⟩ (.bool bx) = { w with heap := (w.setCell ⟨e.blk, o0, none⟩ (.bool bx)).heap } := rfl
              rw [e0, hm]
            have hrun : (storeCells ⟨e.blk, o0, none⟩ [.bool bx] 0).run P w = .ok () w := by
              simp only [storeCells, Sem.run_bind, Addr.add_lit, Nat.add_zero]
              rw [run_store _ _ _ _ _ (by rfl), hcell]
              simp only [hnf, Bool.false_eq_true, if_false, Result.andThen_ok, hw]
              rfl
            refine acts_skip (w' := w) (s := Instr.storeAt t (ρ x) (ρ y)) (by simp only [execOp, hop]) ?_ (hr.update he hg rfl rfl h1 (fun _ _ => rfl) (.pin h2 h3 h4)) (Fr.refl _ _ _)
            simp only [Instr.storeAt, hx, ey, Instr.sureAddr, Sem.run_bind, Sem.run_pure, Result.andThen_ok, storeVar, run_size w hm]
            rw [h3, Nat.add_zero]
            rw [if_neg (by simp [Value.cells])]
            exact hrun
        · cases hs
      · cases hs
    · cases hs
theorem map_known (hr : HR G β H n w) {b : Nat} {e : Bl} {es es2 : List MapEntry} {k k2 : Nat} {c c2 : Array MapEntry} (hb : β b = some e) (hg : aget H b = some (.map es k)) (hc : w.heap[e.blk]? = some (.map c k)) (h2 : ERs β es2 c2.toList) :
    (setObj e.blk (.map c2 k2)).run P w = .ok () { w with heap := w.heap.setIfInBounds e.blk (.map c2 k2) } ∧ HR G β (aput H b (.map es2 k2)) n { w with heap := w.heap.setIfInBounds e.blk (.map c2 k2) } ∧ Fr β n w β n { w with heap := w.heap.setIfInBounds e.blk (.map c2 k2) } := by
  have hlt : e.blk < w.heap.size := (hr.dom hb).2
  have h4 : ∀ k, k ≠ e.blk → (w.heap.setIfInBounds e.blk (.map c2 k2))[k]? = w.heap[k]? := fun k hk => Array.getElem?_setIfInBounds_ne (Ne.symm hk)
  refine ⟨by simp [setObj, Sem.run, hc], hr.update hb hg rfl (by simp) (o' := .map c2 k2) (by simp [hlt]) h4 (.map h2), Fr.update hb (by simp) h4 rfl rfl rfl⟩
theorem ERs.append : ∀ {a b c d : List MapEntry}, ERs β a b → ERs β c d → ERs β (a ++ c) (b ++ d)
  | _, _, _, _, .nil, h => h
  | _, _, _, _, .cons a b c d, h => .cons a b c (ERs.append d h)
theorem ERs.modify {f f' : MapEntry → MapEntry} (hf : ∀ x y : MapEntry, VR β x.key y.key → VR β x.val y.val → x.born = y.born → VR β (f x).key (f' y).key ∧ VR β (f x).val (f' y).val ∧ (f x).born = (f' y).born) :
    ∀ {a b : List MapEntry} (i : Nat), ERs β a b → ERs β (a.modify i f) (b.modify i f')
  | _, _, i, .nil => by simp; exact .nil
  | _, _, 0, .cons a b c d => by
    obtain ⟨h1, h2, h3⟩ := hf _ _ a b c
    exact .cons h1 h2 h3 d
  | _, _, i + 1, .cons a b c d => .cons a b c (ERs.modify hf i d)
theorem ERs.eraseIdx : ∀ {a b : List MapEntry} (i : Nat), ERs β a b → ERs β (a.eraseIdx i) (b.eraseIdx i)
  | _, _, i, .nil => by simp; exact .nil
  | _, _, 0, .cons a b c d => d
  | _, _, i + 1, .cons a b c d => .cons a b c (ERs.eraseIdx i d)
theorem ERs.get : ∀ {a b : List MapEntry}, ERs β a b → ∀ {i : Nat} {x : MapEntry}, a[i]? = some x → ∃ y, b[i]? = some y ∧ VR β x.key y.key
  | _, _, .nil, i, x, h => by simp at h
  | _, _, .cons a b c d, 0, x, h => by simp at h; subst h; exact ⟨_, rfl, a⟩
  | _, _, .cons a b c d, i + 1, x, h => by simp at h; simpa using ERs.get d h
theorem sameBits_ints : ∀ (a b : List Value), eqIntsL a b = some true → (a.zip b).all (fun (x, y) => Instr.sameBits 9999 x y) = true
  | [], [], _ => rfl
  | [], _ :: _, h => by simp [eqIntsL] at h
  | x :: a, [], h => by cases x <;> simp [eqIntsL] at h
  | x :: a, y :: b, h => by
    cases x <;> cases y <;> simp only [eqIntsL] at h <;> first
      | (cases h; done)
      | (split at h
         · rename_i hk
           cases hq : eqIntsL a b with
           | none => simp [hq] at h
           | some s =>
             simp [hq] at h
             obtain ⟨h1, rfl⟩ := h
             simp [sameBits_ints a b hq, Instr.sameBits, hk, h1]
         · cases h)
theorem keyStays {k k' : Value} (h : keyEq k k' = some true) : (Instr.keyThatStays k' k).run P w = .ok k w := by
  have : Instr.sameBits 10000 k' k = true := by
    unfold keyEq at h
    split at h
    · split at h
      · rename_i hk; simp at h; simp [Instr.sameBits, hk, h]
      · cases h
    · simp at h
      rename_i a b
      have : a = b := ByteArray.ext (by simpa using h)
      subst this
      simp only [Instr.sameBits]
      rw [beq_toListBytes]; simp
    · rename_i a b
      have hl := eqIntsL_length h
      have h2 : eqIntsL b.toList a.toList = some true := by
        have : ∀ (a b : List Value), eqIntsL a b = some true → eqIntsL b a = some true := by
          intro a
          induction a with
          | nil => intro b h; cases b <;> simp_all [eqIntsL]
          | cons x a ih =>
            intro b h
            cases b with
            | nil => cases x <;> simp [eqIntsL] at h
            | cons y b =>
              cases x <;> cases y <;> simp only [eqIntsL] at h ⊢ <;> first
                | (cases h; done)
                | (split at h
                   · rename_i hk
                     cases hq : eqIntsL a b with
                     | none => simp [hq] at h
                     | some s =>
                       simp [hq] at h
                       obtain ⟨h1, rfl⟩ := h
                       simp [hk, h1, ih b hq]
                   · cases h)
        exact this _ _ h
      have := sameBits_ints _ _ h2
      show (b.size == a.size && (b.toList.zip a.toList).all fun (x, y) => Instr.sameBits 9999 x y) = true
      rw [this]
      simp only [Array.length_toList] at hl
      simp [hl]
    · cases h
  simp [Instr.keyThatStays, this]
theorem findE_at {k : Value} : ∀ {es : List MapEntry} {j i : Nat} {v : Value}, findE k es j = some (some (i, v)) → ∃ e, j ≤ i ∧ es[i - j]? = some e ∧ keyEq k e.key = some true
  | [], j, i, v, h => by simp [findE] at h
  | e :: es, j, i, v, h => by
    unfold findE at h
    split at h
    · rename_i heq; cases h; exact ⟨e, Nat.le_refl _, by simp, heq⟩
    · obtain ⟨e', h1, h2, h3⟩ := findE_at h
      refine ⟨e', by omega, ?_, h3⟩
      rw [show i - j = (i - (j + 1)) + 1 by omega]
      simpa using h2
    · cases h
theorem mapUpdate_sound {vs : List Value} {v : Value} {H' : Heap} {n' : Nat} (hr : HR G β H n w) {t el : TypeId} {x y z : Operand} {str : Nat} (hop : execOp ρ o = (do Instr.mapUpdate t (ρ x) (ρ y) (ρ z); pure .skip)) (hk : keyKind P t = some (str, el))
    (hvs : VRs β vs [ρ x, ρ y, ρ z]) (hs : wMapUpdate str H n vs = some (v, H', n')) : Acts P G β n ρ o w v H' n' := by
  obtain ⟨kt, hu, hkt⟩ := keyKind_shape hk
  match vs, hvs with
  | [a, b, c], hvs =>
    unfold wMapUpdate at hs
    split at hs
    · rename_i b0 key v0 heq; cases heq
      split at hs
      · rename_i es clk hg
        split at hs
        · rename_i hf
          obtain ⟨e, he, hx⟩ := hvs.hd.1.map'
          have e2 := keyFits_self hf hvs.hd.2.hd.1
          have hz := hvs.hd.2.hd.2.hd.1
          have hbb : VR β b b := by have := hvs.hd.2.hd.1; rwa [e2] at this
          obtain ⟨cc, g1, g2⟩ := hr.mapObj he hg
          cases hfe : findE b es 0 with
          | none => simp [hfe] at hs
          | some r =>
            obtain ⟨r', h1, h2⟩ := find_sound (P := P) (w := w) hkt hf g2 hfe
            rcases h2 with ⟨rfl, rfl⟩ | ⟨i, v0, v', rfl, rfl, hv, hi⟩
            · simp only [hfe, Option.some.injEq, Prod.mk.injEq] at hs
              obtain ⟨rfl, rfl, rfl⟩ := hs
              obtain ⟨q1, q2, q3⟩ := map_known (P := P) (es2 := es ++ [{ key := b, val := c, born := clk }]) (c2 := cc.push { key := b, val := ρ z, born := clk }) (k2 := clk + 1) hr he hg g1 (by
                rw [Array.toList_push]
                exact g2.append (.cons hbb hz rfl .nil))
              refine acts_skip hop ?_ q2 q3
              simp only [Instr.mapUpdate, Sem.run_bind, run_underlying hu, Result.andThen_ok, hx, e2, run_getMap g1, check_sound hkt hf, h1]
              exact q1
            · simp only [hfe, Option.some.injEq, Prod.mk.injEq] at hs
              obtain ⟨rfl, rfl, rfl⟩ := hs
              obtain ⟨ent, _, hget, hkeq⟩ := findE_at hfe
              simp only [Nat.sub_zero] at hget
              obtain ⟨ent', hget', hkv⟩ := g2.get hget
              have hk' := keyEq_self hkeq hkv
              obtain ⟨q1, q2, q3⟩ := map_known (P := P) (es2 := es.modify i fun e => { e with key := b, val := c }) (c2 := cc.modify i fun e => { e with key := b, val := ρ z }) (k2 := clk) hr he hg g1 (by
                rw [Array.toList_modify]
                exact g2.modify (f := fun e => { e with key := b, val := c }) (f' := fun e => { e with key := b, val := ρ z }) (fun x y _ _ hb => ⟨hbb, hz, hb⟩) i)
              refine acts_skip hop ?_ q2 q3
              have hce : cc[i]? = some ent' := by simpa using hget'
              simp only [Instr.mapUpdate, Sem.run_bind, run_underlying hu, Result.andThen_ok, hx, e2, run_getMap g1, check_sound hkt hf, h1, hce, Option.map_some, Option.getD_some, hk', keyStays hkeq]
              exact q1
        · cases hs
      · cases hs
    · cases hs
theorem nextStr_sound {vs : List Value} {v : Value} {H' : Heap} {n' : Nat} (hr : HR G β H n w) {x : Operand} (hop : o.op = .next x true) (hvs : VRs β vs [ρ x]) (hs : wNextStr H n vs = some (v, H', n')) : Acts P G β n ρ o w v H' n' := by
  match vs, hvs with
  | [a], hvs =>
    unfold wNextStr at hs
    split at hs
    · rename_i b0 heq; cases heq
      split at hs
      · rename_i s pos hg
        obtain ⟨e, he, hx⟩ := hvs.hd.1.ptr'
        obtain ⟨ob, h1, h2⟩ := hr.obj he hg
        obtain ⟨rfl, hsh⟩ : ob = .stringIter s pos ∧ e.sh = 0 := by cases h2 with | iter h => exact ⟨rfl, h⟩
        have hlt : e.blk < w.heap.size := (hr.dom he).2
        have hget : (getObj e.blk).run P w = .ok (.stringIter s pos) w := by simp [getObj, Sem.run, h1]
        have h4 : ∀ (q : Obj) (k : Nat), k ≠ e.blk → (w.heap.setIfInBounds e.blk q)[k]? = w.heap[k]? := fun q k hk => Array.getElem?_setIfInBounds_ne (Ne.symm hk)
        split at hs
        · rename_i hp
          cases hs
          refine acts_value (w' := { w with heap := w.heap.setIfInBounds e.blk (.stringIter s (pos + (Utf8.decode s pos).2)) }) (v' := .tuple #[.bool true, .int .i64 pos, .int .i32 (Utf8.decode s pos).1]) (s := Instr.next (ρ x) true o.type) (by simp only [execOp, hop]) ?_ (.tuple (.cons (VR.b _) (.cons (VR.i _ _) (.cons (VR.i _ _) .nil)))) (hr.update he hg rfl (by simp) (o' := .stringIter s (pos + (Utf8.decode s pos).2)) (by simp [hlt]) (h4 _) (.iter hsh)) (Fr.update he (by simp) (h4 _) rfl rfl rfl)
          simp only [Instr.next, hx, hsh, Nat.add_zero, Sem.run_bind, hget, Result.andThen_ok, if_pos hp]
          have : (setObj e.blk (.stringIter s (pos + (Utf8.decode s pos).2))).run P w = .ok () { w with heap := w.heap.setIfInBounds e.blk (.stringIter s (pos + (Utf8.decode s pos).2)) } := by simp [setObj, Sem.run, h1]
          simp only [this, Result.andThen_ok, Sem.run_bind, Sem.run_pure, goInt]
        · rename_i hp
          cases hs
          refine acts_value (w' := w) (v' := .tuple #[.bool false]) (s := Instr.next (ρ x) true o.type) (by simp only [execOp, hop]) ?_ (.tuple (.cons (VR.b _) .nil)) (hr.update he hg rfl rfl h1 (fun _ _ => rfl) (.iter hsh)) (Fr.refl _ _ _)
          simp only [Instr.next, hx, hsh, Nat.add_zero, Sem.run_bind, hget, Result.andThen_ok, if_neg hp, Sem.run_pure]
      · cases hs
    · cases hs
end Go.Cs
namespace Go.Cs
variable {P : Program} {E : Env} {G : List Nat} {β : Ren} {H : Heap} {n : Nat} {ρ : Operand → Value} {o : Oper} {w : World}
theorem growBy_le (N : Nat) : ∀ (r c : Nat), Builtin.growBy N r c ≤ max c (N + (N + 768) / 4)
  | 0, c => by simp [Builtin.growBy]; omega
  | r + 1, c => by
    unfold Builtin.growBy
    split
    · omega
    · have := growBy_le N r (c + (c + 768) / 4)
      omega
theorem nextcap_le {need cap : Nat} (h : cap < need) : Builtin.nextslicecap need cap ≤ 2 * need + 1000 := by
  unfold Builtin.nextslicecap
  split
  · omega
  · split
    · omega
    · have := growBy_le need 4 cap
      omega
theorem HR.kill (hr : HR G β H n w) {b : Nat} {e : Bl} {cs : List Value} {t : TypeId} {gr : Option Nat} (hb : β b = some e) (hg : aget H b = some (.cells cs t gr)) : HR G β (aput H b .dead) n w := by
  obtain ⟨c, fr, h1, _⟩ := hr.cells hb hg
  exact hr.update hb hg rfl rfl h1 (fun _ _ => rfl) .dead
theorem HR.drew (hr : HR G β H n w) : HR G β H n { w with drawn := w.drawn + 1 } := ⟨hr.glob, hr.dom, hr.fin, hr.inj, hr.obj⟩
theorem HR.rename (hr : HR G β H n w) (hnb : n < big) {b : Nat} {e e2 : Bl} {ob ob' : AObj} {w' : World} {o' : Obj} (hb : β b = some e) (hg : aget H b = some ob) (hl : ob.live = true) (he2 : e2.blk = e.blk)
    (hsz : w'.heap.size = w.heap.size) (hat : w'.heap[e.blk]? = some o') (hother : ∀ k, k ≠ e.blk → w'.heap[k]? = w.heap[k]?) (ho : ∀ β', Ren.le β β' → OR β' e2 ob' o') : HR G (β.add n e2) (aput (aput H b .dead) n ob') (n + 1) w' := by
  have hle : Ren.le β (β.add n e2) := Ren.le_add (hr.fresh hnb)
  have hbn : b ≠ n := by have := (hr.dom hb).1; omega
  have h1 := hr.update (ob' := .dead) hb hg hl hsz hat hother .dead
  constructor
  · intro g hg; exact hle _ _ (hr.glob g hg)
  · intro i f hi
    unfold Ren.add at hi
    split at hi
    · cases hi; rename_i h; subst h; have := (hr.dom hb).2; exact ⟨by omega, by omega⟩
    · have := hr.dom hi; exact ⟨by omega, by omega⟩
  · obtain ⟨M, hM⟩ := hr.fin
    refine ⟨max M (n + 1), fun i f hi => ?_⟩
    unfold Ren.add at hi
    split at hi
    · omega
    · have := hM i f hi; omega
  · intro i j f g hi hj hli hlj hfg
    have key : ∀ {j : Nat} {g : Bl}, β j = some g → j ≠ n → isLive (aput (aput H b .dead) n ob') j → g.blk ≠ e.blk := by
      intro j g hj hjn hlj hge
      rw [isLive_cons hjn, isLive_aput] at hlj
      split at hlj
      · simp [AObj.live] at hlj
      · rename_i hne
        exact hne (hr.inj hj hb hlj ⟨ob, hg, hl⟩ hge).symm
    unfold Ren.add at hi hj
    split at hi <;> split at hj
    · omega
    · rename_i q1 q2; cases hi
      exact absurd (hfg.symm.trans he2) (key hj q2 hlj)
    · rename_i q1 q2; cases hj
      exact absurd (hfg.trans he2) (key hi q1 hli)
    · rename_i q1 q2
      exact h1.inj hi hj ((isLive_cons q1).1 hli) ((isLive_cons q2).1 hlj) hfg
  · intro i f q hi hq
    unfold Ren.add at hi
    split at hi
    · rename_i h; cases hi; subst h
      simp [aget_aput] at hq; subst hq
      exact ⟨o', by rw [he2]; exact hat, ho _ hle⟩
    · rename_i h
      rw [aget_aput, if_neg (Ne.symm h)] at hq
      obtain ⟨bb, q1, q2⟩ := h1.obj hi hq
      exact ⟨bb, q1, q2.mono hle⟩
theorem Fr.rename (hr : HR G β H n w) (hnb : n < big) {b : Nat} {e e2 : Bl} {w' : World} (hb : β b = some e) (he2 : e2.blk = e.blk) (hsz : w'.heap.size = w.heap.size) (hother : ∀ k, k ≠ e.blk → w'.heap[k]? = w.heap[k]?) (h1 : w'.os = w.os) (h2 : w'.tape = w.tape) (h3 : w'.output = w.output) :
    Fr β n w (β.add n e2) (n + 1) w' where
  ext := Ren.le_add (hr.fresh hnb)
  new := by
    intro i f hi
    unfold Ren.add at hi
    split at hi
    · cases hi; rename_i h; subst h; exact .inr ⟨Nat.le_refl _, .inr ⟨b, e, hb, he2.symm⟩⟩
    · exact .inl hi
  le := by omega
  size := by omega
  keep := fun k _ hno => hother k (fun he => hno b e hb he.symm)
  os := h1
  tape := h2
  output := h3
theorem grow_new (hr : HR G β H n w) (hnb : n < big) {t : TypeId} {es : Nat} {cells : List Value} {row : Array Value} {w' : World} (hheap : w'.heap = w.heap.push (.cells row t)) (hc : VRs β cells (row.toList.take cells.length)) (hle : cells.length ≤ row.size)
    (h1 : w'.os = w.os) (h2 : w'.tape = w.tape) (h3 : w'.output = w.output) :
    HR G (β.add n ⟨w.heap.size, 0, some (row.size, es)⟩) (aput H n (.cells cells t (some es))) (n + 1) w' ∧ Fr β n w (β.add n ⟨w.heap.size, 0, some (row.size, es)⟩) (n + 1) w' :=
  ⟨hr.alloc hnb hheap rfl (.grown rfl (by simpa using hle) (by simpa using hc.mono (Ren.le_add (hr.fresh hnb))) (unfrozen_zero _ _)), Fr.alloc hr hnb hheap rfl h1 h2 h3⟩
theorem sliceTo_rel {i l c sz es b : Nat} (h : β i = some ⟨b, 0, some (sz, es)⟩) (hlc : l ≤ c) (hc : c * es ≤ sz) : VR β (sliceTo l l i) (.slice (some ⟨b, 0, none⟩) l c) := by
  have := VR.sliceR (o := 0) (o' := 0) (l := l) (c := l) (c' := c) (es := es) (sz := sz) h rfl (Nat.le_refl _) hlc (fun _ => by simp) (by simpa using hc)
  simpa [sliceTo] using this
theorem Ren.add_self {i : Nat} {e : Bl} : β.add i e i = some e := by simp [Ren.add]
structure Elem (P : Program) (t el : TypeId) (i : TypeInfo) (z : List Value) : Prop where
  hu : P.underlying t = some (.slice el)
  hi : P.info? el = some i
  hz : zeroOf P el = some z
  hsz : 0 < i.size
  hb : 0 < i.bytes
theorem run_append_fits {A : Array TypeId} {T t el u : TypeId} {i : TypeInfo} {z : List Value} (hE : Elem P t el i z) (h0 : A[0]? = some t) (h1 : A[1]? = some u) (h2 : ∃ d, P.underlying u = some d ∧ ∀ k, d ≠ .int k) {base : Option Addr} {len cap m : Nat} {y : Value} {new : List Value}
    (hlen : (Builtin.lenOf y).run P w = .ok m w) (hfirst : (Builtin.firstCells i.size m y).run P w = .ok new.toArray w) (hfit : len + m ≤ cap) {w' : World}
    (hst : ∀ a, base = some a → (storeCells (a.add (len * i.size)) new).run P w = .ok () w') (hno : base = none → w' = w) :
    (Builtin.append_ A T #[.slice base len cap, y]).run P w = .ok (.slice base (len + m) cap) w' := by
  have hs : sizeOfT P el = some i.size := by simp [sizeOfT, hE.hi]
  obtain ⟨d, hd, hdk⟩ := h2
  simp only [Builtin.append_, h0, h1]
  simp only [List.getElem?_toArray, List.getElem?_cons_zero, List.getElem?_cons_succ, Sem.run_bind, run_underlying hE.hu, Result.andThen_ok, run_size w hs, run_underlying hd, Sem.run_pure]
  cases d <;> first
    | (exact absurd rfl (hdk _))
    | (simp only [Bool.false_eq_true, if_false, hlen, Result.andThen_ok, hfit, if_true, Bool.not_false, Sem.run_bind, hfirst]
       cases base with
       | none => rw [hno rfl]; rfl
       | some a => simp only [Sem.run_bind, hst a rfl, Result.andThen_ok, Sem.run_pure])
theorem run_append_grows {A : Array TypeId} {T t el u : TypeId} {i : TypeInfo} {z : List Value} (hE : Elem P t el i z) (h0 : A[0]? = some t) (h1 : A[1]? = some u) (h2 : ∃ d, P.underlying u = some d ∧ ∀ k, d ≠ .int k) {base : Option Addr} {len cap m : Nat} {y : Value} {old new : List Value}
    (hlen : (Builtin.lenOf y).run P w = .ok m w) (hfirst : ∀ w', w'.heap = w.heap → (Builtin.firstCells i.size m y).run P w' = .ok new.toArray w') (hfit : ¬ len + m ≤ cap) (hlc : len ≤ cap) (hbound : (2 * (len + m) + 1000) * i.bytes ≤ 2 ^ 40)
    (hold : ∀ w', w'.heap = w.heap → (Builtin.firstCells i.size len (.slice base len cap)).run P w' = .ok old.toArray w') (hl1 : old.length = len * i.size) (hl2 : new.length = m * i.size) (hzl : z.length = i.size) :
    ∃ newCap row, len + m ≤ newCap ∧ row.size = newCap * i.size ∧ row.toList.take (old ++ new).length = old ++ new ∧
      (Builtin.append_ A T #[.slice base len cap, y]).run P w = .ok (.slice (some ⟨w.heap.size, 0, none⟩) (len + m) newCap) { w with heap := w.heap.push (.cells row el), drawn := w.drawn + 1 } := by
  have hs : sizeOfT P el = some i.size := by simp [sizeOfT, hE.hi]
  obtain ⟨d, hd, hdk⟩ := h2
  obtain ⟨zv, z1, z2, z3, z4⟩ := run_zeroOf { w with drawn := w.drawn + 1 } hE.hz
  have hzs : zv.cells.size = i.size := by rw [← Array.length_toList, z2]; exact hzl
  have hb2 : Builtin.nextslicecap (len + m) cap * i.bytes ≤ 2 ^ 48 := by
    have := nextcap_le (need := len + m) (cap := cap) (by omega)
    have := Nat.mul_le_mul_right i.bytes this
    omega
  have hbytes := hE.hb
  have hcut : len + m ≤ (Question.appendCap (len + m) cap el).cut (w.tape w.drawn (.appendCap (len + m) cap el)) := by simp [Question.cut]
  generalize hnc : (Question.appendCap (len + m) cap el).cut (w.tape w.drawn (.appendCap (len + m) cap el)) = newCap at hcut
  have hch : (choose (.appendCap (len + m) cap el)).run P w = .ok newCap { w with drawn := w.drawn + 1 } := by rw [run_choose]; simp [Question.forced, hnc]
  have e1 := hold { w with drawn := w.drawn + 1 } rfl
  have e2 := hfirst { w with drawn := w.drawn + 1 } rfl
  refine ⟨newCap, (old ++ new).toArray ++ Builtin.zeroCells zv.cells (newCap - (len + m)), hcut, ?_, by simp only [Array.toList_append]; rw [List.take_append_of_le_length (by simp), List.take_of_length_le (by simp)], ?_⟩
  · simp [Builtin.zeroCells, hzs, hl1, hl2]
    rw [← Nat.add_mul, ← Nat.add_mul]; congr 1; omega
  · simp only [Builtin.append_, h0, h1]
    simp only [List.getElem?_toArray, List.getElem?_cons_zero, List.getElem?_cons_succ, Sem.run_bind, run_underlying hE.hu, Result.andThen_ok, run_size w hs, run_underlying hd, Sem.run_pure]
    cases d <;> first
      | (exact absurd rfl (hdk _))
      | (simp only [Bool.false_eq_true, if_false, hlen, Result.andThen_ok, hfit, Bool.not_false, if_true, Sem.run_bind, run_info w hE.hi, false_or]
         rw [if_neg (by intro h; have := h.2; omega)]
         simp only [Sem.run_bind, run_info w hE.hi, Result.andThen_ok]
         rw [if_neg (by omega)]
         simp only [Sem.run_bind, hch, Result.andThen_ok, run_info _ hE.hi, run_askRoom, e1, e2, z1, newRow, run_newObj, Sem.run_pure, List.append_toArray])
theorem append_sound (hr : HR G β H n w) (hnb : n < big) {A : Array TypeId} {T t el u : TypeId} {i : TypeInfo} {z : List Value} (hE : Elem P t el i z) (hzl : z.length = i.size) (h0 : A[0]? = some t) (h1 : A[1]? = some u) (h2 : ∃ d, P.underlying u = some d ∧ ∀ k, d ≠ .int k)
    {base : Option Addr} {len cap m : Nat} {x y : Value} {old new new' : List Value} (hx : VR β (.slice base len cap) x) (hold : cellsOfSlice H i.size (.slice base len cap) = some old) (hnew : VRs β new new') (hl2 : new.length = m * i.size)
    (hlen : (Builtin.lenOf y).run P w = .ok m w) (hfirst : ∀ w', w'.heap = w.heap → (Builtin.firstCells i.size m y).run P w' = .ok new'.toArray w') (hbound : (2 * (len + m) + 1000) * i.bytes ≤ 2 ^ 40)
    {v : Value} {H' : Heap} {n' : Nat} (hs : appended el i.size H n base len cap m old new = some (v, H', n')) :
    ∃ v' w' β', (Builtin.append_ A T #[x, y]).run P w = .ok v' w' ∧ VR β' v v' ∧ HR G β' H' n' w' ∧ Fr β n w β' n' w' := by
  have hl2' : new'.length = m * i.size := by rw [← hnew.length]; exact hl2
  have hisz := hE.hsz
  unfold appended at hs
  split at hs
  · rename_i hones
    split at hs
    · split at hs
      · rename_i hz0
        obtain ⟨rfl, rfl⟩ := hz0
        have ex := hx.nilslice
        subst ex
        split at hs
        · rename_i hm; subst hm
          cases hs
          exact ⟨_, _, _, run_append_fits hE h0 h1 h2 hlen (hfirst w rfl) (Nat.le_refl _) (fun a h => by cases h) (fun _ => rfl), .same rfl, hr, Fr.refl _ _ _⟩
        · rename_i hm
          cases hs
          obtain ⟨nc, row, q1, q2, q3, q4⟩ := run_append_grows (base := none) (old := []) (new := new') hE h0 h1 h2 hlen hfirst (by omega) (Nat.le_refl _) hbound (fun w' _ => by simp [Builtin.firstCells]) (by simp) hl2' hzl
          simp only [List.nil_append] at q3
          obtain ⟨g1, g2⟩ := grow_new (β := β) (n := n) (es := i.size) (cells := new) (t := el) hr hnb (w' := { w with heap := w.heap.push (.cells row el), drawn := w.drawn + 1 }) rfl (by rw [hnew.length, q3]; exact hnew) (by rw [hl2, q2]; exact Nat.mul_le_mul_right _ (by omega)) rfl rfl rfl
          refine ⟨_, _, _, q4, ?_, g1, g2⟩
          simp only [Nat.zero_add] at q1 ⊢
          exact sliceTo_rel Ren.add_self q1 (by rw [q2]; exact Nat.le_refl _)
      · cases hs
    · rename_i b0 o0
      split at hs
      · rename_i cs t' gr hg
        obtain ⟨e, o', c', he, ex, hh⟩ := hx.slice'
        subst ex
        have hcap : cap ≤ c' := by rcases hh with ⟨_, _, h⟩ | ⟨_, _, _, _, h, _⟩ <;> omega
        have hoff : c' ≠ 0 → o' = o0 + e.sh := by
          rcases hh with ⟨_, h, _⟩ | ⟨_, _, _, _, _, h, _⟩
          · exact fun _ => h
          · exact h
        obtain ⟨c, fr, k1, k2, k3, k4, k5⟩ := hr.cells he hg
        have hso := cellsOfSlice_sound hr hx hold
        obtain ⟨a', l0, c0, ea, hh2, hlold⟩ := hso
        cases ea
        have holdrun : ∃ old', VRs β old old' ∧ ∀ w', w'.heap = w.heap → (Builtin.firstCells i.size len (.slice (some ⟨e.blk, o', none⟩) len c')).run P w' = .ok old'.toArray w' := by
          rcases hh2 with ⟨h0l, h0o⟩ | ⟨a, ha, hsp, cc, tt, ff, hcc⟩
          · subst h0o
            exact ⟨[], .nil, fun w' _ => by simp [Builtin.firstCells, h0l, loadCells, loadCellsFrom]⟩
          · cases ha
            by_cases hz0 : len * i.size = 0
            · have : old = [] := List.eq_nil_of_length_eq_zero (by omega)
              subst this
              exact ⟨[], .nil, fun w' _ => by simp [Builtin.firstCells, hz0, loadCells, loadCellsFrom]⟩
            · obtain ⟨r1, r2, r3⟩ := hcc hz0
              exact ⟨_, r3, fun w' hw' => by
                simp only [Builtin.firstCells]
                exact run_loadL (w := w') ⟨e.blk, o', none⟩ cc rfl (by rw [hw']; exact r1) (len * i.size) r2⟩
        obtain ⟨old', hold1, hold2⟩ := holdrun
        have hl1' : old'.length = len * i.size := by rw [← hold1.length]; exact hlold
        split at hs
        · rename_i hfit
          split at hs
          · rename_i hle
            cases hs
            by_cases hn0 : m * i.size = 0
            · have hm0 : m = 0 := by
                rcases Nat.mul_eq_zero.1 hn0 with h | h
                · exact h
                · omega
              subst hm0
              have hn1 : new = [] := List.eq_nil_of_length_eq_zero (by omega)
              have hn2 : new' = [] := List.eq_nil_of_length_eq_zero (by omega)
              subst hn1; subst hn2
              have hsp : splice cs (o0 + len * i.size) [] = cs := by simp [splice]
              rw [hsp]
              obtain ⟨ob, ho1, ho2⟩ := hr.obj he hg
              refine ⟨_, w, β, run_append_fits hE h0 h1 h2 hlen (hfirst w rfl) (by omega) (fun a _ => by simp [storeCells]) (fun h => by cases h), ?_, hr.update he hg rfl rfl ho1 (fun _ _ => rfl) ho2, Fr.refl _ _ _⟩
              rw [Nat.add_zero]
              exact hx
            · have hm0 : 0 < m := Nat.pos_of_ne_zero (fun h => hn0 (by simp [h]))
              have ho' := hoff (by omega)
              subst ho'
              obtain ⟨w', g1, g2, g3⟩ := write_known (P := P) (new := new) (off := o0 + len * i.size) hr he hg (by rw [hl2, Nat.add_assoc, ← Nat.add_mul]; exact hle) hnew hones
              refine ⟨_, w', β, run_append_fits hE h0 h1 h2 hlen (hfirst w rfl) (by omega) (fun a ha => ?_) (fun h => by cases h), ?_, g2, g3⟩
              · cases ha
                rw [Addr.add_lit, show o0 + e.sh + len * i.size = o0 + len * i.size + e.sh by omega]
                exact g1
              · rcases hh with ⟨r1, _, r3⟩ | ⟨sz, es, r1, r2, r3, r4, r5⟩
                · subst r3; exact .slice he r1
                · exact .sliceR he r1 hfit hcap (fun _ => rfl) r5
          · cases hs
        · rename_i hfit
          have hgrow : ∀ {Hk : Heap}, HR G β Hk n w → ¬ len + m ≤ c' → len ≤ c' → ∃ v' w' β', (Builtin.append_ A T #[.slice (some ⟨e.blk, o', none⟩) len c', y]).run P w = .ok v' w' ∧ VR β' (sliceTo (len + m) (len + m) n) v' ∧ HR G β' (aput Hk n (.cells (old ++ new) el (some i.size))) (n + 1) w' ∧ Fr β n w β' (n + 1) w' := by
            intro Hk hrk hnf hlc
            obtain ⟨nc, row, q1, q2, q3, q4⟩ := run_append_grows (old := old') (new := new') hE h0 h1 h2 hlen hfirst hnf hlc hbound hold2 hl1' hl2' hzl
            have hrel : VRs β (old ++ new) (old' ++ new') := hold1.append hnew
            obtain ⟨g1, g2⟩ := grow_new (β := β) (n := n) (es := i.size) (cells := old ++ new) (t := el) hrk hnb (w' := { w with heap := w.heap.push (.cells row el), drawn := w.drawn + 1 }) rfl (by rw [hrel.length, q3]; exact hrel)
              (by rw [hrel.length, List.length_append, hl1', hl2', q2, ← Nat.add_mul]; exact Nat.mul_le_mul_right _ q1) rfl rfl rfl
            exact ⟨_, _, _, q4, sliceTo_rel Ren.add_self q1 (by rw [q2]; exact Nat.le_refl _), g1, g2⟩
          have hlc : len ≤ cap ∨ e.room = none := by
            rcases hh with ⟨r1, _, _⟩ | ⟨_, _, _, h, _⟩
            · exact .inr r1
            · exact .inl h
          split at hs
          · -- known whole: a new block for certain
            split at hs
            case isFalse => cases hs
            rename_i hlcap
            cases hs
            have hroom : e.room = none := by
              rcases k5 with ⟨_, a, _⟩ | ⟨es, h, _⟩
              · exact a
              · cases h
            have hc' : c' = cap := by
              rcases hh with ⟨_, _, h⟩ | ⟨_, _, h, _⟩
              · exact h
              · rw [hroom] at h; cases h
            subst hc'
            exact hgrow hr hfit hlcap
          · rename_i es'
            split at hs
            · rename_i hes
              obtain ⟨rfl, rfl⟩ := hes
              cases hs
              have hroom : e.room = some (c.size, i.size) := by
                rcases k5 with ⟨h, _⟩ | ⟨es, h, h'⟩
                · cases h
                · cases h; exact h'
              obtain ⟨sz, es, r1, r2, r3, r4, r5⟩ : ∃ sz es, e.room = some (sz, es) ∧ len ≤ cap ∧ cap ≤ c' ∧ (c' ≠ 0 → o' = o0 + e.sh) ∧ o0 + e.sh + c' * es ≤ sz := by
                rcases hh with ⟨h, _⟩ | h
                · rw [hroom] at h; cases h
                · exact h
              rw [hroom] at r1; cases r1
              by_cases hnf : len + m ≤ c'
              · -- there was room: the block goes on
                have ho' := r4 (by omega)
                subst ho'
                have hmul : c' * i.size = (len + m) * i.size + (c' - (len + m)) * i.size := by rw [← Nat.add_mul]; congr 1; omega
                have hmul2 : (len + m) * i.size = len * i.size + m * i.size := Nat.add_mul _ _ _
                obtain ⟨w', cw, g1, g2, g3, g4, g5, g6, g7, g8⟩ := run_storeL (P := P) (off := o0 + e.sh + len * i.size) new' 0 c w k1 (by omega) (hnew.ones hones) (fun k hk => k4 k (by omega))
                have hcw : cw.size = c.size := by
                  rw [← Array.length_toList, g3]; simp [splice]; omega
                have hrow : ∀ β', Ren.le β β' → OR β' ⟨e.blk, o0 + e.sh, some (c.size, i.size)⟩ (.cells (old ++ new) t' (some i.size)) (.cells cw t' fr) := by
                  intro β' hle'
                  refine .grown (by rw [hcw]) (by simp only [List.length_append]; rw [hlold, hl2, hcw]; omega) ?_ (by intro k hk hk2; exact k4 k (by simp only at hk; omega) (by omega))
                  have hrel : VRs β (old ++ new) (old' ++ new') := hold1.append hnew
                  have : ((cw.toList.drop (o0 + e.sh)).take (old ++ new).length) = old' ++ new' := by
                    have hO : old' = (c.toList.drop (o0 + e.sh)).take (len * i.size) := by
                      have := hold2 w rfl
                      simp only [Builtin.firstCells] at this
                      rw [run_loadL ⟨e.blk, o0 + e.sh, none⟩ c rfl k1 (len * i.size) (by simp only; omega)] at this
                      injection this with this _
                      exact (congrArg Array.toList this).symm
                    have hlen3 : (old ++ new).length = old'.length + new'.length := by rw [hrel.length, List.length_append]
                    rw [hlen3, g3]
                    unfold splice
                    have hcl : c.toList.length = c.size := Array.length_toList
                    rw [List.append_assoc, List.drop_append, List.length_take, hcl]
                    rw [show min (o0 + e.sh + len * i.size + 0) c.size = o0 + e.sh + len * i.size by omega, show o0 + e.sh - (o0 + e.sh + len * i.size) = 0 by omega]
                    simp only [List.drop_zero, Nat.add_zero]
                    have e1 : (c.toList.take (o0 + e.sh + len * i.size)).drop (o0 + e.sh) = old' := by
                      rw [hO, List.drop_take]; congr 1; omega
                    rw [e1, ← List.append_assoc, List.take_append_of_le_length (by simp), List.take_of_length_le (by simp)]
                  rw [this]
                  exact hrel.mono hle'
                have hR := hr.rename hnb (e2 := ⟨e.blk, o0 + e.sh, some (c.size, i.size)⟩) he hg rfl rfl g4 g2 g5 hrow
                have hF := Fr.rename (e2 := ⟨e.blk, o0 + e.sh, some (c.size, i.size)⟩) hr hnb he rfl g4 g5 g6 g7 g8
                refine ⟨_, w', _, run_append_fits hE h0 h1 h2 hlen (hfirst w rfl) hnf (fun a ha => ?_) (fun h => by cases h), ?_, hR, hF⟩
                · cases ha
                  rw [Addr.add_lit]
                  exact g1
                · have := VR.sliceR (β := β.add n ⟨e.blk, o0 + e.sh, some (c.size, i.size)⟩) (b := n) (o := 0) (o' := o0 + e.sh) (l := len + m) (c := len + m) (c' := c') (es := i.size) (sz := c.size) Ren.add_self rfl (Nat.le_refl _) hnf (fun _ => by simp) (by simpa using r5)
                  simpa [sliceTo] using this
              · exact hgrow (hr.kill he hg) hnf (by omega)
            · cases hs
      · cases hs
    · cases hs
  · cases hs
theorem builtin_call {b : Builtin} {c : Call} (hop : o.op = .call c) (hc : c.callee = .builtin b) : ∃ cs, execOp ρ o = builtin b c.argTypes o.type cs (c.args.map ρ) :=
  ⟨_, by simp only [execOp, hop, resolve, hc, invoke, pure_bind]; rfl⟩
theorem wAppend_sound {vs : List Value} {v : Value} {H' : Heap} {n' : Nat} (hr : HR G β H n w) (hnb : n < big) {c : Call} {t u el e2 : TypeId} {i : TypeInfo} {z : List Value} {x y : Operand} (hop : o.op = .call c) (hc : c.callee = .builtin .append)
    (h0 : c.argTypes[0]? = some t) (h1 : c.argTypes[1]? = some u) (hargs : c.args.toList = [x, y]) (hu : P.underlying t = some (.slice el)) (hu2 : P.underlying u = some (.slice e2)) (hi : P.info? el = some i) (hz : zeroOf P el = some z) (hzl : z.length = i.size ∧ 0 < i.size ∧ 0 < i.bytes)
    (hvs : VRs β vs [ρ x, ρ y]) (hs : wAppend el i.size i.bytes H n vs = some (v, H', n')) : Acts P G β n ρ o w v H' n' := by
  obtain ⟨cs, hcall⟩ := builtin_call (ρ := ρ) hop hc
  have ha : c.args.map ρ = #[ρ x, ρ y] := by apply Array.ext'; simp [hargs]
  match vs, hvs with
  | [a, b], hvs =>
    unfold wAppend at hs
    split at hs
    · rename_i base len cap base2 m cap2 heq; cases heq
      split at hs
      · rename_i new old hn ho
        split at hs
        · rename_i hb
          obtain ⟨a', l, c', hy, hh, hlen⟩ := cellsOfSlice_sound hr hvs.hd.2.hd.1 hn
          have hm : l = m := by
            have := hvs.hd.2.hd.1.sliceAny
            obtain ⟨_, _, e, _⟩ := this
            rw [hy] at e; cases e; rfl
          subst hm
          obtain ⟨new', hnew, hfirst⟩ : ∃ new', VRs β new new' ∧ ∀ w', w'.heap = w.heap → (Builtin.firstCells i.size l (ρ y)).run P w' = .ok new'.toArray w' := by
            rw [hy]
            rcases hh with ⟨rfl, rfl⟩ | ⟨A, rfl, hsp, cc, tt, ff, hcc⟩
            · exact ⟨[], .nil, fun w' _ => by cases a' with
              | none => simp [Builtin.firstCells]
              | some A => simp [Builtin.firstCells, loadCells, loadCellsFrom]⟩
            · by_cases hz0 : l * i.size = 0
              · have : new = [] := List.eq_nil_of_length_eq_zero (by omega)
                subst this
                exact ⟨[], .nil, fun w' _ => by simp [Builtin.firstCells, hz0, loadCells, loadCellsFrom]⟩
              · obtain ⟨r1, r2, r3⟩ := hcc hz0
                exact ⟨_, r3, fun w' hw' => by
                  simp only [Builtin.firstCells]
                  exact run_loadL (w := w') A cc hsp (by rw [hw']; exact r1) (l * i.size) r2⟩
          obtain ⟨v', w', β', g1, g2, g3, g4⟩ := append_sound (A := c.argTypes) (T := o.type) hr hnb ⟨hu, hi, hz, hzl.2.1, hzl.2.2⟩ hzl.1 h0 h1 ⟨_, hu2, by simp⟩ hvs.hd.1 ho hnew hlen (y := ρ y) (by rw [hy]; rfl) hfirst hb hs
          exact acts_value (s := Builtin.append_ c.argTypes o.type (c.args.map ρ)) (by rw [hcall]; rfl) (by rw [ha]; exact g1) g2 g3 g4
        · cases hs
      · cases hs
    · cases hs
theorem byteVals_flat (s : ByteArray) : flats (byteVals s) = true := by
  simp only [flats, byteVals, List.all_map, List.all_eq_true]; intro x _; rfl
theorem wAppendStr_sound {vs : List Value} {v : Value} {H' : Heap} {n' : Nat} (hr : HR G β H n w) (hnb : n < big) {c : Call} {t u el : TypeId} {i : TypeInfo} {z : List Value} {x y : Operand} (hop : o.op = .call c) (hc : c.callee = .builtin .append)
    (h0 : c.argTypes[0]? = some t) (h1 : c.argTypes[1]? = some u) (hargs : c.args.toList = [x, y]) (hu : P.underlying t = some (.slice el)) (hu2 : P.underlying u = some .string) (hi : P.info? el = some i) (hz : zeroOf P el = some z) (hzl : z.length = 1) (hsz : i.size = 1 ∧ i.bytes = 1)
    (hvs : VRs β vs [ρ x, ρ y]) (hs : wAppendStr el H n vs = some (v, H', n')) : Acts P G β n ρ o w v H' n' := by
  obtain ⟨cs, hcall⟩ := builtin_call (ρ := ρ) hop hc
  have ha : c.args.map ρ = #[ρ x, ρ y] := by apply Array.ext'; simp [hargs]
  match vs, hvs with
  | [a, b], hvs =>
    unfold wAppendStr at hs
    split at hs
    · rename_i base len cap s heq; cases heq
      split at hs
      · rename_i old ho
        split at hs
        · rename_i hb
          have hy := hvs.hd.2.hd.1.string
          have hsl : s.size = s.data.toList.length := by simp
          obtain ⟨v', w', β', g1, g2, g3, g4⟩ := append_sound (A := c.argTypes) (T := o.type) (new := byteVals s) (new' := byteVals s) (m := s.data.toList.length) (i := i) (y := ρ y) hr hnb ⟨hu, hi, hz, by omega, by omega⟩ (by omega) h0 h1 ⟨_, hu2, by simp⟩ hvs.hd.1 (by rw [hsz.1]; exact ho) (VRs.flat (byteVals_flat s))
            (by rw [hsz.1]; simp [byteVals]) (by rw [hy, ← hsl]; simp [Builtin.lenOf]) (fun w' _ => by
              rw [hy]
              simp only [Builtin.firstCells, Sem.run_pure]
              congr 1
              apply Array.ext'
              have : s.extract 0 s.data.toList.length = s := by rw [← hsl]; exact ByteArray.extract_zero_size
              rw [this]
              simp [byteVals]) (by rw [hsz.2, Nat.mul_one]; exact hb) (by rw [hsz.1]; exact hs)
          exact acts_value (s := Builtin.append_ c.argTypes o.type (c.args.map ρ)) (by rw [hcall]; rfl) (by rw [ha]; exact g1) g2 g3 g4
        · cases hs
      · cases hs
    · cases hs
theorem wCopy_sound {vs : List Value} {v : Value} {H' : Heap} {n' : Nat} (hr : HR G β H n w) {c : Call} {t el : TypeId} {m : Nat} {x y : Operand} (hop : o.op = .call c) (hc : c.callee = .builtin .copy)
    (h0 : c.argTypes[0]? = some t) (hargs : c.args.toList = [x, y]) (hu : P.underlying t = some (.slice el)) (hm : sizeOfT P el = some m) (hvs : VRs β vs [ρ x, ρ y]) (hs : wCopy m H n vs = some (v, H', n')) : Acts P G β n ρ o w v H' n' := by
  obtain ⟨cs, hcall⟩ := builtin_call (ρ := ρ) hop hc
  have ha : c.args.map ρ = #[ρ x, ρ y] := by apply Array.ext'; simp [hargs]
  match vs, hvs with
  | [a, b], hvs =>
    unfold wCopy at hs
    split at hs
    · rename_i base len cap base2 len2 cap2 heq; cases heq
      split at hs
      · rename_i b0 o0
        split at hs
        · rename_i cs0 t0 gr new hg hn
          split at hs
          · rename_i hh
            obtain ⟨q1, q2, q3⟩ := hh
            cases hs
            obtain ⟨e, o', c', he, ex, hx⟩ := hvs.hd.1.slice'
            have ho' : o' = o0 + e.sh := by
              rcases hx with ⟨_, h, _⟩ | ⟨_, _, _, h1, h2, h, _⟩
              · exact h
              · exact h (by omega)
            subst ho'
            have hml : min len2 len ≤ len2 := Nat.min_le_left _ _
            obtain ⟨a2, cc2, ey, _⟩ := hvs.hd.2.hd.1.sliceAny
            have hsrc : ∀ q, q ≤ len2 → 0 < q → cellsOfSlice H m (.slice base2 q cap2) = some new → ∃ new', VRs β new new' ∧ (Builtin.firstCells m q (ρ y)).run P w = .ok new'.toArray w := by
              intro q hq1 hq2 hn
              unfold cellsOfSlice at hn
              split at hn
              · rename_i heq; simp only [Value.slice.injEq] at heq; omega
              · rename_i heq; simp only [Value.slice.injEq] at heq; omega
              · rename_i b2 o2 l2 cp2 _ heq
                simp only [Value.slice.injEq] at heq
                obtain ⟨hb2, hl2, hcp2⟩ := heq
                subst hb2; subst hl2; subst hcp2
                split at hn
                · rename_i cs2 t2 gr2 hg2
                  split at hn
                  · rename_i hle
                    cases hn
                    obtain ⟨f, o2', c2', hf, ef, hfx⟩ := hvs.hd.2.hd.1.slice'
                    have ho2 : o2' = o2 + f.sh := by
                      rcases hfx with ⟨_, h, _⟩ | ⟨_, _, _, h1, h2, h, _⟩
                      · exact h
                      · exact h (Nat.ne_of_gt (Nat.lt_of_lt_of_le hq2 (Nat.le_trans hq1 (Nat.le_trans h1 h2))))
                    subst ho2
                    obtain ⟨c3, fr3, p1, p2, p3, p4, p5⟩ := hr.cells hf hg2
                    have := (p2.drop o2).take (q * m)
                    simp only [List.drop_take, List.drop_drop, List.take_take] at this
                    rw [Nat.min_eq_left (by omega), Nat.add_comm] at this
                    refine ⟨_, this, ?_⟩
                    rw [ef]
                    simp only [Builtin.firstCells]
                    exact run_loadL ⟨f.blk, o2 + f.sh, none⟩ c3 rfl p1 _ (by simp only; omega)
                  · cases hn
                · rename_i cs2 ob2 hg2
                  obtain ⟨f, o2', c2', hf, ef, hfx⟩ := hvs.hd.2.hd.1.slice'
                  obtain ⟨c3, t3, fr3, rfl, p1, p2, p3, p4⟩ := hr.pin hf hg2
                  have ho2 : o2' = o2 := by
                    rcases hfx with ⟨_, h, _⟩ | ⟨_, _, q0, _⟩
                    · rw [h, p3, Nat.add_zero]
                    · rw [p2] at q0; cases q0
                  subst ho2
                  obtain ⟨h5, h6⟩ := pinGet_sound (fun j v hj => let ⟨v', a, b, _⟩ := p4 j v hj; ⟨v', a, b⟩) hn
                  refine ⟨_, h6, ?_⟩
                  rw [ef]
                  simp only [Builtin.firstCells]
                  by_cases hz0 : q * m = 0
                  · rw [hz0]; simp [loadCells, loadCellsFrom]
                  · exact run_loadL ⟨f.blk, o2', none⟩ c3 rfl p1 _ (h5 hz0)
                · cases hn
              · cases hn
            obtain ⟨new', hnew, hfirst⟩ := hsrc _ hml q3 hn
            have hnl : new.length = min len2 len * m := by
              unfold cellsOfSlice at hn
              split at hn
              · rename_i heq; simp only [Value.slice.injEq] at heq; omega
              · rename_i heq; simp only [Value.slice.injEq] at heq; omega
              · rename_i heq
                simp only [Value.slice.injEq] at heq
                obtain ⟨hb2, hl2, hcp2⟩ := heq
                subst hb2; subst hl2; subst hcp2
                split at hn
                · split at hn
                  · cases hn; simp; omega
                  · cases hn
                · exact pinGet_length hn
                · cases hn
              · cases hn
            obtain ⟨w', g1, g2, g3⟩ := write_known (P := P) (new := new) (off := o0) hr he hg (by omega) hnew q2
            refine acts_value (s := Builtin.copy_ c.argTypes o.type (c.args.map ρ)) (v' := .int .i64 (min len2 len : Nat)) (by rw [hcall]; rfl) ?_ (VR.i _ _) g2 g3
            rw [ha]
            have hlo : (Builtin.lenOf (ρ y)).run P w = .ok len2 w := by rw [ey]; rfl
            simp only [Builtin.copy_, h0]
            simp only [List.getElem?_toArray, List.getElem?_cons_zero, List.getElem?_cons_succ, Sem.run_bind, run_underlying hu, Result.andThen_ok, ex, hlo, run_size w hm, Sem.run_pure]
            have hmin : Nat.min len2 len = min len2 len := rfl
            rw [hmin, hfirst]
            simp only [Result.andThen_ok, Sem.run_bind]
            rw [g1]
            rfl
          · cases hs
        · cases hs
      · cases hs
    · cases hs
end Go.Cs
