/- A part of the proof that spadilletop.TopSharedCut answers true and leaves its argument as it was (bulk at most 1048576): CsM. -/
import Derived.Test.YtnagcnlldllagaaGreatDoorCsL
import Derived.ChangeSame
import Derived.ChangeReads
import Derived.ChangeOld
import Derived.OpenShut
import Derived.Lib.LaidTab
set_option linter.all false
/- From a contract over a small heap to a law's row: what was reached before the call stands as it stood. -/
namespace Go.Cs
open Go.ChangeShapes

section
variable {P : Program} {G : List Nat}
theorem enter_of_comp {f : FuncId} {fc : FC} (hf : compF P f = some fc) (args : Array Value) (w : World) : (callFunc f args).run P w = .ok (.enter f args) w := by
  unfold compF at hf
  split at hf
  case h_2 => cases hf
  rename_i fn h1
  split at hf
  case h_2 => cases hf
  rename_i c h2
  cases hn : fn.name == "runtime.NumGoroutine" with
  | true => rw [hn] at hf; cases hf
  | false => exact callFunc_body h1 (by rw [h2]; rfl) hn
/-- A contract, called from without. -/
theorem F.top {f : FuncId} {args : List Value} {H : Heap} {n : Nat} {post : Value → Heap → Nat → Prop} (h : F P G f args H n post) {fc : FC} (hc : compF P f = some fc) {β : Ren} {w : World} {args' : List Value} (hv : VRs β args args') (hr : HR G β H n w) :
    Calls P f args'.toArray w (RetE G β n w post) := by
  rcases h β w args' hv hr with ⟨_, h⟩ | ⟨v', w', h, _⟩
  · exact h
  · rw [enter_of_comp hc] at h; cases h
end

/-- Every block that stood before the call stands as it stood. -/
theorem kept_all {G : List Nat} {β β' : Ren} {H H' : Heap} {n n' : Nat} {w w' : World} (hr : HR G β H n w) (hr' : HR G β' H' n' w') (hf : Fr β n w β' n' w') (hk : ∀ q, q < n → aget H' q = aget H q)
    (hst : ∀ i e, β i = some e → i < n ∧ ((∃ cs ob, aget H i = some (.pin cs ob)) ∨ ∃ cs t, aget H i = some (.cells cs t none) ∧ flats cs = true)) : ∀ b, b < w.heap.size → w'.heap[b]? = w.heap[b]? := by
  intro b hb
  by_cases h : ∃ i e, β i = some e ∧ e.blk = b
  · obtain ⟨i, e, hi, rfl⟩ := h
    obtain ⟨hin, hst⟩ := hst i e hi
    have hi' := hf.ext i e hi
    rcases hst with ⟨cs, ob, hg⟩ | ⟨cs, t, hg, hfl⟩
    · obtain ⟨o1, h1, r1⟩ := hr.obj hi hg
      obtain ⟨o2, h2, r2⟩ := hr'.obj hi' ((hk i hin).trans hg)
      rw [h1, h2]
      cases r1
      cases r2
      rfl
    · obtain ⟨o1, h1, r1⟩ := hr.obj hi hg
      obtain ⟨o2, h2, r2⟩ := hr'.obj hi' ((hk i hin).trans hg)
      rw [h1, h2]
      cases r1 with
      | exact a1 a2 a3 a4 =>
        cases r2 with
        | exact b1 b2 b3 b4 =>
          rw [a4, b4]
          have e1 := VRs.flatEq hfl a3
          have e2 := VRs.flatEq hfl b3
          rw [Array.ext' (e2.trans e1.symm)]
  · exact hf.keep b hb fun i e hi he => h ⟨i, e, hi, he⟩

theorem keptBut_of {w w' : World} {may : MemPlace → Prop} (ho : w'.os = w.os) (hout : w'.output = w.output) (h : ∀ b, b < w.heap.size → w'.heap[b]? = w.heap[b]?) : w.keptBut w' may := by
  refine ⟨ho, hout, fun i hi => ?_⟩
  rw [h i hi]
  cases w.heap[i]? with
  | none => rfl
  | some ob => cases ob <;> first | exact ⟨rfl, rfl, rfl, fun _ _ => rfl⟩ | exact .inr ⟨rfl, rfl⟩ | rfl

/-! readings -/
section
variable {H : Type} {enc : TypeId × Value → H} {P : Program} {w w' : World} {base : Nat} {sp : Nat → Bool} {held : Bool}
/-- The types that a reading comes by; no element of a slice is of no cells. -/
def kidsOk (P : Program) (l : List TypeId) : Bool := l.all fun t => match P.underlying t with
  | some (.pointer e) => l.contains e
  | some (.slice e) => l.contains e && decide (0 < P.cellsOf e)
  | some (.struct fs) => fs.toList.all fun f => l.contains f.type
  | some (.array _ e) => l.contains e
  | some (.map _ e) => l.contains e
  | _ => true
theorem trodStep_spare {l : List TypeId} (hl : kidsOk P l = true) {r r' : TypeId → List Value → Option (DataW H × List MemPlace)} (hr : ∀ t cs x, t ∈ l → r t cs = some x → (∀ p ∈ x.2, sp p.block = true) → r' t cs = some x) {t : TypeId} (ht : t ∈ l) {cs : List Value} {x : DataW H × List MemPlace}
    (h : DataW.trodStep enc P w base (fun _ => true) true r t cs = some x) (hs : ∀ p ∈ x.2, sp p.block = true) : DataW.trodStep enc P w base sp true r' t cs = some x := by
  have hk := List.all_eq_true.1 hl t ht
  have rows : ∀ {xs : List (DataW H × List MemPlace)} {y : DataW H × List MemPlace}, y ∈ xs → (∀ p ∈ xs.flatMap (·.2), sp p.block = true) → ∀ p ∈ y.2, sp p.block = true := fun hy hh p hp => hh p (List.mem_flatMap.2 ⟨_, hy, hp⟩)
  unfold DataW.trodStep at h ⊢
  split at h
  case h_6 e a hu =>
    rw [hu] at hk
    simp only [Option.map_eq_some_iff, Option.bind_eq_some_iff] at h ⊢
    obtain ⟨y, ⟨c, hc, hy⟩, rfl⟩ := h
    exact ⟨y, ⟨c, hc, hr _ _ _ (by simpa using hk) hy fun p hp => hs p (List.mem_append_right _ hp)⟩, rfl⟩
  case h_8 e a len cap hu =>
    simp only at h ⊢
    split at h
    · rename_i hc
      rw [if_pos hc]
      simp only [Option.map_eq_some_iff, Option.bind_eq_some_iff, if_true] at h ⊢
      obtain ⟨elems, he, rest, hrest, rfl⟩ := h
      rw [hu] at hk
      obtain ⟨he', hpos⟩ : e ∈ l ∧ 0 < P.cellsOf e := by simpa using hk
      have hfl : ∀ p ∈ (elems ++ rest).flatMap (·.2), sp p.block = true := fun p hp => hs p (List.mem_append_right _ hp)
      have one : ∀ (i : Nat) (y : DataW H × List MemPlace), y ∈ elems ++ rest → (w.cells? base (a.add (i * P.cellsOf e)) (P.cellsOf e)).bind (r e) = some y → (w.cells? base (a.add (i * P.cellsOf e)) (P.cellsOf e)).bind (r' e) = some y := by
        intro i y hy hv
        obtain ⟨c, hc', hy'⟩ := Option.bind_eq_some_iff.1 hv
        exact Option.bind_eq_some_iff.2 ⟨c, hc', hr _ _ _ he' hy' (rows hy hfl)⟩
      refine ⟨elems, mapM_carry he fun i y _ hy => one i y (List.mem_append_left _ hy), rest, ?_, rfl⟩
      have hrl : rest.length = cap - len := by simpa using mapM_some_length hrest
      by_cases h0 : cap - len = 0
      · rw [h0] at hrest ⊢
        have hnil : rest = [] := List.eq_nil_of_length_eq_zero (by omega)
        subst hnil
        simp
      · have hsp : sp a.block = true := by
          refine hs (.cell a.block (a.off + 0)) (List.mem_append_left _ (MemPlace.mem_row.2 ⟨0, ?_, rfl⟩))
          exact Nat.mul_pos (by omega) hpos
        rw [if_pos hsp]
        exact mapM_carry hrest fun j y _ hy => one (len + j) y (List.mem_append_right _ hy)
    · cases h
  case h_9 fs hu =>
    rw [hu] at hk
    split at h
    · rename_i hc
      rw [if_pos hc]
      obtain ⟨xs, hx, rfl⟩ := Option.map_eq_some_iff.1 h
      exact Option.map_eq_some_iff.2 ⟨xs, mapM_carry hx fun f y hf hy hv => hr _ _ _ (by simpa using List.all_eq_true.1 hk f hf) hv (rows hy hs), rfl⟩
    · cases h
  case h_10 m e hu =>
    rw [hu] at hk
    split at h
    · rename_i hc
      rw [if_pos hc]
      obtain ⟨xs, hx, rfl⟩ := Option.map_eq_some_iff.1 h
      exact Option.map_eq_some_iff.2 ⟨xs, mapM_carry hx fun f y _ hy hv => hr _ _ _ (by simpa using hk) hv (rows hy hs), rfl⟩
    · cases h
  case h_12 =>
    split at h
    · exact h
    · rename_i hh _; cases hh
    · rename_i hh _; cases hh
  case h_14 k e b hu =>
    rw [hu] at hk
    split at h
    · rename_i es clock hb
      split at h
      · rename_i hc
        obtain ⟨entries, he, hd⟩ := Option.bind_eq_some_iff.1 h
        dsimp only at hd
        split at hd
        · rename_i hris
          cases hd
          simp only [if_pos hc]
          refine Option.bind_eq_some_iff.2 ⟨entries, mapM_carry he fun z y _ hy hv => ?_, by simp [hris]⟩
          obtain ⟨key, hke, hz'⟩ := Option.bind_eq_some_iff.1 hv
          refine Option.bind_eq_some_iff.2 ⟨key, hke, ?_⟩
          split at hz'
          · rename_i hf
            rw [if_pos hf]
            obtain ⟨q, hq, rfl⟩ := Option.map_eq_some_iff.1 hz'
            exact Option.map_eq_some_iff.2 ⟨q, hr _ _ _ (by simpa using hk) hq fun p hp => hs p (List.mem_cons_of_mem _ (List.mem_flatMap.2 ⟨_, hy, hp⟩)), rfl⟩
          · cases hz'
        · cases hd
      · cases h
    · cases h
  all_goals first | exact h | cases h

theorem trod_spare {l : List TypeId} (hl : kidsOk P l = true) : ∀ (n : Nat) (t : TypeId) (cs : List Value) (x : DataW H × List MemPlace), t ∈ l →
    DataW.trod enc P w base (fun _ => true) true n t cs = some x → (∀ p ∈ x.2, sp p.block = true) → DataW.trod enc P w base sp true n t cs = some x
  | 0, t, cs, x, _, h, _ => by simp [DataW.trod] at h
  | n + 1, t, cs, x, ht, h, hs => by
    rw [DataW.trod_step] at h ⊢
    exact trodStep_spare hl (trod_spare hl n) ht h hs
theorem sameAt_kept (hk : ∀ b, b < w.heap.size → w'.heap[b]? = w.heap[b]?) {p : MemPlace} (hp : p.block < w.heap.size) : w.sameAt w' p := by
  cases p with
  | cell b off =>
    show w'.cell? _ = w.cell? _
    unfold World.cell?
    rw [hk b hp]
  | map b => exact hk b hp
theorem trodAll_kept {l : List TypeId} (hl : kidsOk P l = true) (hk : ∀ b, b < w.heap.size → w'.heap[b]? = w.heap[b]?) : ∀ {ts : List TypeId} {vs : List Value} {ds : List (DataW H)} {ps : List MemPlace}, (∀ t ∈ ts, t ∈ l) →
    DataW.TrodAll enc P w base (fun _ => true) true ts vs ds ps → (∀ p ∈ ps, p.block < w.heap.size ∧ sp p.block = true) → DataW.TrodAll enc P w' base sp true ts vs ds ps
  | [], [], [], _, _, h, _ => h
  | _ :: _, _ :: _, _ :: _, _, ht, ⟨a, b, ⟨n, h1⟩, h2, e⟩, hs => by
    subst e
    exact ⟨a, b, ⟨n, trod_spare hl n _ _ _ (ht _ List.mem_cons_self) (DataW.trod_carry n _ _ _ h1 fun p hp => sameAt_kept hk (hs p (List.mem_append_left _ hp)).1) fun p hp => (hs p (List.mem_append_left _ hp)).2⟩, trodAll_kept hl hk (fun t h => ht t (List.mem_cons_of_mem _ h)) h2 fun p hp => hs p (List.mem_append_right _ hp), rfl⟩

/-- The row's second part, where the law answers true and nothing that stood is touched. -/
theorem post_kept {f : Func} {s : ChangeSpec} {apart fresh handsOn : Bool} {args : Array Value} {ds gs : List (DataW H)} {before : List MemPlace} {tb : TypeId} {l : List TypeId} (hl : kidsOk P l = true) (hin : ∀ t ∈ f.params.toList, t ∈ l)
    (hW : DataW.Whole enc P f.params.toList s.vars apart w args.toList ds gs before) (hv : s.vars = []) (hrt : f.resultTypes = #[tb]) (htb : P.underlying tb = some .bool) (hres : (s.fn H (ds ++ gs)).results = [.lit (.bool true)]) (harg : (s.fn H (ds ++ gs)).args = ds) (hvar : (s.fn H (ds ++ gs)).vars = [])
    (ho : w'.os = w.os) (hout : w'.output = w.output) (hk : ∀ b, b < w.heap.size → w'.heap[b]? = w.heap[b]?) : s.post enc P f apart fresh handsOn false w args (.bool true) w' := by
  have hlt := hW.lt
  have hW' := hW
  obtain ⟨p, q, hA, hV, rfl, hfz, hnd⟩ := hW
  rw [hv] at hV
  obtain ⟨rfl, rfl⟩ := trodVars_none hV
  refine ⟨ds, [], p ++ [], [], p, [], hW', ?_, ?_, ?_, keptBut_of ho hout hk, fun h => by cases h⟩
  · rw [hres, hrt]
    exact trodAll_cons_mk (p := []) (p' := []) ⟨1, by simp [DataW.trod, htb, Value.cells]⟩ trodAll_mk0
  · rw [harg]
    refine trodAll_kept hl hk hin hA fun x hx => ?_
    have := hlt x (List.mem_append_left _ hx)
    exact ⟨this, by simpa using this⟩
  · rw [hvar, hv]; rfl
end

/-! the tables -/
theorem laid_tail {P : Program} {W : World} {x : String × DataW Unit} {r : List (String × DataW Unit)} {ps : List MemPlace} (h : DataW.LaidVars P W (x :: r) ps) : ∃ q, DataW.LaidVars P W r q := by
  obtain ⟨n, d⟩ := x
  obtain ⟨_, _, _, _, _, q, _, _, _, _, h, _⟩ := h
  exact ⟨q, h⟩
/-- A table that is laid: its block. -/
theorem tab_block {P : Program} {W : World} {name : String} {k : IntKind} {zs : List Int} {rest : List (String × DataW Unit)} {g : Nat} {t e : TypeId} {n : Nat} {ps : List MemPlace}
    (hg : P.globalNamed name = some g) (hty : (P.globals[g]?).map (·.type) = some t) (ht : P.underlying t = some (.array n e)) (he : P.underlying e = some (.int k)) (hce : P.cellsOf e = 1) (hct : P.cellsOf t = n)
    (h : DataW.LaidVars P W ((name, Lib.tabData k zs) :: rest) ps) (hsh : W.ShapedOpen P) (hsz : g < P.globals.size) (hb : (((begin P (fun _ _ => 0) default).world.heap[g]?).bind Obj.row?).map (·.2) = some t) : W.heap[g]? = some (.cells (zs.map fun z => Value.int k z).toArray t (0, 0)) := by
  obtain ⟨⟨zero, t2⟩, hb2, ht2⟩ := Option.map_eq_some_iff.1 hb
  obtain rfl : t2 = t := ht2
  clear hb
  obtain ⟨g', t', cs, fuel, p, q, hg', ht', hvar, hd, _, _⟩ := h
  obtain rfl := Option.some.inj (hg.symm.trans hg')
  obtain rfl := Option.some.inj (hty.symm.trans ht')
  have e1 := Lib.cells_of_tab ht he hce hct hd
  obtain ⟨c2, h2, _⟩ := hsh.1 g zero _ hsz hb2
  unfold World.var? at hvar
  rw [hg] at hvar
  simp only [Option.bind_some, h2, Option.some.injEq] at hvar
  subst hvar
  rw [h2]
  have : c2 = (zs.map fun z => Value.int k z).toArray := Array.ext' (by rw [e1])
  rw [this]

/-! where a run begins -/
/-- Number 0 is the table, number i + 1 the i-th of the arguments' blocks. -/
def topB (bl : List Nat) : Ren
  | 0 => some ⟨0, 0, none⟩
  | i + 1 => (bl[i]?).map fun b => ⟨b, 0, none⟩
def topH (gl : AObj) (pins : List (Nat × List (Option Value) × Obj)) : Heap := ofL ((0, gl) :: (pins.zipIdx 1).map fun p => (p.2, .pin p.1.2.1 p.1.2.2))
theorem topH_pin {gl : AObj} : ∀ (pins : List (Nat × List (Option Value) × Obj)) (j i : Nat), ((pins.zipIdx j).map fun p => (p.2, AObj.pin p.1.2.1 p.1.2.2)).lookup (j + i) = (pins[i]?).map fun p => .pin p.2.1 p.2.2
  | [], j, i => by simp
  | p :: pins, j, 0 => by simp [List.zipIdx_cons]
  | p :: pins, j, i + 1 => by
    simp only [List.zipIdx_cons, List.map_cons, List.lookup_cons]
    have : (j + (i + 1) == j) = false := by simp
    rw [this, show j + (i + 1) = (j + 1) + i by omega, topH_pin (gl := gl) pins (j + 1) i]
    simp
theorem topH0 (gl : AObj) (pins : List (Nat × List (Option Value) × Obj)) : aget (topH gl pins) 0 = some gl := by
  unfold topH; rw [aget_ofL]; rfl
theorem topHi (gl : AObj) (pins : List (Nat × List (Option Value) × Obj)) (i : Nat) : aget (topH gl pins) (i + 1) = (pins[i]?).map fun p => .pin p.2.1 p.2.2 := by
  unfold topH
  rw [aget_ofL, List.lookup_cons]
  have : (i + 1 == 0) = false := by simp
  rw [this, Nat.add_comm, topH_pin (gl := gl)]
theorem HR.top {gl : AObj} {ob0 : Obj} {pins : List (Nat × List (Option Value) × Obj)} {W : World} (hgl : ∀ β e, e.room = none → e.sh = 0 → OR β e gl ob0) (h0 : W.heap[0]? = some ob0) (hnd : (pins.map (·.1)).Nodup)
    (hp : ∀ p ∈ pins, p.1 ≠ 0 ∧ W.heap[p.1]? = some p.2.2 ∧ ∀ β e, e.room = none → e.sh = 0 → OR β e (.pin p.2.1 p.2.2) p.2.2) : HR [0] (topB (pins.map (·.1))) (topH gl pins) (pins.length + 1) W := by
  have lt : ∀ {b : Nat} {o : Obj}, W.heap[b]? = some o → b < W.heap.size := by
    intro b o h
    rcases Nat.lt_or_ge b W.heap.size with h' | h'
    · exact h'
    · rw [Array.getElem?_eq_none h'] at h; cases h
  have at1 : ∀ {i : Nat} {e : Bl}, topB (pins.map (·.1)) (i + 1) = some e → ∃ p, pins[i]? = some p ∧ e = ⟨p.1, 0, none⟩ := by
    intro i e h
    simp only [topB, List.getElem?_map] at h
    cases hpi : pins[i]? with
    | none => rw [hpi] at h; cases h
    | some p => rw [hpi] at h; cases h; exact ⟨p, rfl, rfl⟩
  refine ⟨?_, ?_, ⟨pins.length + 1, ?_⟩, ?_, ?_⟩
  · intro g hg
    simp only [List.mem_cons, List.not_mem_nil, or_false] at hg
    subst hg; rfl
  · intro i e h
    cases i with
    | zero => cases h; exact ⟨.inl (by omega), lt h0⟩
    | succ i =>
      obtain ⟨p, h1, rfl⟩ := at1 h
      have hi := (List.getElem?_eq_some_iff.1 h1).1
      exact ⟨.inl (by omega), lt (hp p (List.mem_of_getElem? h1)).2.1⟩
  · intro i e h
    cases i with
    | zero => omega
    | succ i =>
      obtain ⟨p, h1, _⟩ := at1 h
      have hi := (List.getElem?_eq_some_iff.1 h1).1
      omega
  · intro i j e f hi hj _ _ hef
    cases i with
    | zero =>
      cases j with
      | zero => rfl
      | succ j =>
        obtain ⟨p, h1, rfl⟩ := at1 hj
        cases hi
        exact absurd hef.symm (hp p (List.mem_of_getElem? h1)).1
    | succ i =>
      obtain ⟨p, h1, rfl⟩ := at1 hi
      cases j with
      | zero => cases hj; exact absurd hef (hp p (List.mem_of_getElem? h1)).1
      | succ j =>
        obtain ⟨p', h2, rfl⟩ := at1 hj
        have e1 : (pins.map (·.1))[i]? = some p.1 := by rw [List.getElem?_map, h1]; rfl
        have e2 : (pins.map (·.1))[j]? = some p.1 := by rw [List.getElem?_map, h2]; exact congrArg some hef.symm
        obtain ⟨q1, r1⟩ := List.getElem?_eq_some_iff.1 e1
        obtain ⟨q2, r2⟩ := List.getElem?_eq_some_iff.1 e2
        have : i = j := (List.getElem_inj hnd).1 (r1.trans r2.symm)
        omega
  · intro i e o hi hg
    cases i with
    | zero =>
      rw [topH0] at hg
      cases hg
      cases hi
      exact ⟨ob0, h0, hgl _ _ rfl rfl⟩
    | succ i =>
      obtain ⟨p, h1, rfl⟩ := at1 hi
      rw [topHi, h1] at hg
      cases hg
      have := hp p (List.mem_of_getElem? h1)
      exact ⟨p.2.2, this.2.1, this.2.2 _ _ rfl rfl⟩
theorem topB_at {bl : List Nat} {i : Nat} {e : Bl} (h : topB bl i = some e) : i < bl.length + 1 := by
  cases i with
  | zero => omega
  | succ i =>
    simp only [topB] at h
    cases hb : bl[i]? with
    | none => rw [hb] at h; cases h
    | some b => have := (List.getElem?_eq_some_iff.1 hb).1; omega
/-- What the kept blocks are. -/
theorem top_stays {gl : AObj} {pins : List (Nat × List (Option Value) × Obj)} (hgl : ∃ cs t, gl = .cells cs t none ∧ flats cs = true) : ∀ i e, topB (pins.map (·.1)) i = some e → i < pins.length + 1 ∧ ((∃ cs ob, aget (topH gl pins) i = some (.pin cs ob)) ∨ ∃ cs t, aget (topH gl pins) i = some (.cells cs t none) ∧ flats cs = true) := by
  intro i e h
  have hlt := topB_at h
  rw [List.length_map] at hlt
  refine ⟨hlt, ?_⟩
  cases i with
  | zero =>
    obtain ⟨cs, t, rfl, hf⟩ := hgl
    exact .inr ⟨cs, t, topH0 _ _, hf⟩
  | succ i =>
    have : pins[i]? = some (pins[i]'(by omega)) := List.getElem?_eq_getElem (by omega)
    exact .inl ⟨_, _, by rw [topHi, this]; rfl⟩
end Go.Cs
