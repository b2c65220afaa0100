/- A part of the proof that the law spadilletop.TopSharedRing answers true and leaves its argument as it was (CsM) -/
import Derived.Test.YtmpogedhilfjgaaGreatDoorCsL
import Derived.ChangeSame
import Derived.ChangeReads
import Derived.ChangeOld
import Derived.OpenShut
import Derived.Lib.LaidTab
import Derived.Test.YtmpogedhilfjgaaGreatDoorCsJ
set_option linter.all false
namespace Go.Cs
open Go.ChangeShapes
section
variable {P : Program} {G : List Nat}
theorem enter_of_comp {f : FuncId} {fc : FC} (hf : compF P f = some fc) (args : Array Value) (w : World) : (callFunc f args).run P w = .ok (.enter f args) w := by
  unfold compF at hf
  split at hf
  case h_2 => cases hf
  rename_i fn h1
  split at hf
  case h_2 => cases hf
  rename_i c h2
  cases hn : fn.name == "runtime.NumGoroutine" with
  | true => rw [hn] at hf; cases hf
  | false => exact callFunc_body h1 (by rw [h2]; rfl) hn
theorem F.top {f : FuncId} {args : List Value} {H : Heap} {n : Nat} {post : Value → Heap → Nat → Prop} (h : F P G f args H n post) {fc : FC} (hc : compF P f = some fc) {β : Ren} {w : World} {args' : List Value} (hv : VRs β args args') (hr : HR G β H n w) :
    Calls P f args'.toArray w (RetE G β n w post) := by
  rcases h β w args' hv hr with ⟨_, h⟩ | ⟨v', w', h, _⟩
  · exact h
  · rw [enter_of_comp hc] at h; cases h
end
theorem kept_all {G : List Nat} {β β' : Ren} {H H' : Heap} {n n' : Nat} {w w' : World} (hr : HR G β H n w) (hr' : HR G β' H' n' w') (hf : Fr β n w β' n' w') (hk : ∀ q, q < n → aget H' q = aget H q)
    (hst : ∀ i e, β i = some e → i < n ∧ ((∃ cs ob, aget H i = some (.pin cs ob)) ∨ ∃ cs t, aget H i = some (.cells cs t none) ∧ flats cs = true)) : ∀ b, b < w.heap.size → w'.heap[b]? = w.heap[b]? := by
  intro b hb
  by_cases h : ∃ i e, β i = some e ∧ e.blk = b
  · obtain ⟨i, e, hi, rfl⟩ := h
    obtain ⟨hin, hst⟩ := hst i e hi
    have hi' := hf.ext i e hi
    rcases hst with ⟨cs, ob, hg⟩ | ⟨cs, t, hg, hfl⟩
    · obtain ⟨o1, h1, r1⟩ := hr.obj hi hg
      obtain ⟨o2, h2, r2⟩ := hr'.obj hi' ((hk i hin).trans hg)
      rw [h1, h2]
      cases r1
      cases r2
      rfl
    · obtain ⟨o1, h1, r1⟩ := hr.obj hi hg
      obtain ⟨o2, h2, r2⟩ := hr'.obj hi' ((hk i hin).trans hg)
      rw [h1, h2]
      cases r1 with
      | exact a1 a2 a3 a4 =>
        cases r2 with
        | exact b1 b2 b3 b4 =>
          rw [a4, b4]
          have e1 := VRs.flatEq hfl a3
          have e2 := VRs.flatEq hfl b3
          rw [Array.ext' (e2.trans e1.symm)]
  · exact hf.keep b hb fun i e hi he => h ⟨i, e, hi, he⟩
theorem keptBut_of {w w' : World} {may : MemPlace → Prop} (ho : w'.os = w.os) (hout : w'.output = w.output) (h : ∀ b, b < w.heap.size → w'.heap[b]? = w.heap[b]?) : w.keptBut w' may := by
  refine ⟨ho, hout, fun i hi => ?_⟩
  rw [h i hi]
  cases w.heap[i]? with
  | none => rfl
  | some ob => cases ob <;> first | exact ⟨rfl, rfl, rfl, fun _ _ => rfl⟩ | exact .inr ⟨rfl, rfl⟩ | rfl
section
variable {H : Type} {enc : TypeId × Value → H} {P : Program} {w w' : World} {base : Nat} {sp : Nat → Bool} {held : Bool}
def kidsOk (P : Program) (l : List TypeId) : Bool := l.all fun t => match P.underlying t with
  | some (.pointer e) => l.contains e
  | some (.slice e) => l.contains e && decide (0 < P.cellsOf e)
  | some (.struct fs) => fs.toList.all fun f => l.contains f.type
  | some (.array _ e) => l.contains e
  | some (.map _ e) => l.contains e
  | _ => true
theorem trodStep_spare {l : List TypeId} (hl : kidsOk P l = true) {r r' : TypeId → List Value → Option (DataW H × List MemPlace)} (hr : ∀ t cs x, t ∈ l → r t cs = some x → (∀ p ∈ x.2, sp p.block = true) → r' t cs = some x) {t : TypeId} (ht : t ∈ l) {cs : List Value} {x : DataW H × List MemPlace}
    (h : DataW.trodStep enc P w base (fun _ => true) true r t cs = some x) (hs : ∀ p ∈ x.2, sp p.block = true) : DataW.trodStep enc P w base sp true r' t cs = some x := by
  have hk := List.all_eq_true.1 hl t ht
  have rows : ∀ {xs : List (DataW H × List MemPlace)} {y : DataW H × List MemPlace}, y ∈ xs → (∀ p ∈ xs.flatMap (·.2), sp p.block = true) → ∀ p ∈ y.2, sp p.block = true := fun hy hh p hp => hh p (List.mem_flatMap.2 ⟨_, hy, hp⟩)
  unfold DataW.trodStep at h ⊢
  split at h
  case h_6 e a hu =>
    rw [hu] at hk
    simp only [Option.map_eq_some_iff, Option.bind_eq_some_iff] at h ⊢
    obtain ⟨y, ⟨c, hc, hy⟩, rfl⟩ := h
    exact ⟨y, ⟨c, hc, hr _ _ _ (by simpa using hk) hy fun p hp => hs p (List.mem_append_right _ hp)⟩, rfl⟩
  case h_8 e a len cap hu =>
    simp only at h ⊢
    split at h
    · rename_i hc
      rw [if_pos hc]
      simp only [Option.map_eq_some_iff, Option.bind_eq_some_iff, if_true] at h ⊢
      obtain ⟨elems, he, rest, hrest, rfl⟩ := h
      rw [hu] at hk
      obtain ⟨he', hpos⟩ : e ∈ l ∧ 0 < P.cellsOf e := by simpa using hk
      have hfl : ∀ p ∈ (elems ++ rest).flatMap (·.2), sp p.block = true := fun p hp => hs p (List.mem_append_right _ hp)
      have one : ∀ (i : Nat) (y : DataW H × List MemPlace), y ∈ elems ++ rest → (w.cells? base (a.add (i * P.cellsOf e)) (P.cellsOf e)).bind (r e) = some y → (w.cells? base (a.add (i * P.cellsOf e)) (P.cellsOf e)).bind (r' e) = some y := by
        intro i y hy hv
        obtain ⟨c, hc', hy'⟩ := Option.bind_eq_some_iff.1 hv
        exact Option.bind_eq_some_iff.2 ⟨c, hc', hr _ _ _ he' hy' (rows hy hfl)⟩
      refine ⟨elems, mapM_carry he fun i y _ hy => one i y (List.mem_append_left _ hy), rest, ?_, rfl⟩
      have hrl : rest.length = cap - len := by simpa using mapM_some_length hrest
      by_cases h0 : cap - len = 0
      · rw [h0] at hrest ⊢
        have hnil : rest = [] := List.eq_nil_of_length_eq_zero (by omega)
        subst hnil
        simp
      · have hsp : sp a.block = true := by
          refine hs (.cell a.block (a.off + 0)) (List.mem_append_left _ (MemPlace.mem_row.2 ⟨0, ?_, rfl⟩))
          exact Nat.mul_pos (by omega) hpos
        rw [if_pos hsp]
        exact mapM_carry hrest fun j y _ hy => one (len + j) y (List.mem_append_right _ hy)
    · cases h
  case h_9 fs hu =>
    rw [hu] at hk
    split at h
    · rename_i hc
      rw [if_pos hc]
      obtain ⟨xs, hx, rfl⟩ := Option.map_eq_some_iff.1 h
      exact Option.map_eq_some_iff.2 ⟨xs, mapM_carry hx fun f y hf hy hv => hr _ _ _ (by simpa using List.all_eq_true.1 hk f hf) hv (rows hy hs), rfl⟩
    · cases h
  case h_10 m e hu =>
    rw [hu] at hk
    split at h
    · rename_i hc
      rw [if_pos hc]
      obtain ⟨xs, hx, rfl⟩ := Option.map_eq_some_iff.1 h
      exact Option.map_eq_some_iff.2 ⟨xs, mapM_carry hx fun f y _ hy hv => hr _ _ _ (by simpa using hk) hv (rows hy hs), rfl⟩
    · cases h
  case h_12 =>
    split at h
    · exact h
    · rename_i hh _; cases hh
    · rename_i hh _; cases hh
  case h_14 k e b hu =>
    rw [hu] at hk
    split at h
    · rename_i es clock hb
      split at h
      · rename_i hc
        obtain ⟨entries, he, hd⟩ := Option.bind_eq_some_iff.1 h
        dsimp only at hd
        split at hd
        · rename_i hris
          cases hd
          simp only [if_pos hc]
          refine Option.bind_eq_some_iff.2 ⟨entries, mapM_carry he fun z y _ hy hv => ?_, by simp [hris]⟩
          obtain ⟨key, hke, hz'⟩ := Option.bind_eq_some_iff.1 hv
          refine Option.bind_eq_some_iff.2 ⟨key, hke, ?_⟩
          split at hz'
          · rename_i hf
            rw [if_pos hf]
            obtain ⟨q, hq, rfl⟩ := Option.map_eq_some_iff.1 hz'
            exact Option.map_eq_some_iff.2 ⟨q, hr _ _ _ (by simpa using hk) hq fun p hp => hs p (List.mem_cons_of_mem _ (List.mem_flatMap.2 ⟨_, hy, hp⟩)), rfl⟩
          · cases hz'
        · cases hd
      · cases h
    · cases h
  all_goals first | exact h | cases h
theorem trod_spare {l : List TypeId} (hl : kidsOk P l = true) : ∀ (n : Nat) (t : TypeId) (cs : List Value) (x : DataW H × List MemPlace), t ∈ l →
    DataW.trod enc P w base (fun _ => true) true n t cs = some x → (∀ p ∈ x.2, sp p.block = true) → DataW.trod enc P w base sp true n t cs = some x
  | 0, t, cs, x, _, h, _ => by simp [DataW.trod] at h
  | n + 1, t, cs, x, ht, h, hs => by
    rw [DataW.trod_step] at h ⊢
    exact trodStep_spare hl (trod_spare hl n) ht h hs
theorem sameAt_kept (hk : ∀ b, b < w.heap.size → w'.heap[b]? = w.heap[b]?) {p : MemPlace} (hp : p.block < w.heap.size) : w.sameAt w' p := by
  cases p with
  | cell b off =>
    show w'.cell? _ = w.cell? _
    unfold World.cell?
    rw [hk b hp]
  | map b => exact hk b hp
theorem trodAll_kept {l : List TypeId} (hl : kidsOk P l = true) (hk : ∀ b, b < w.heap.size → w'.heap[b]? = w.heap[b]?) : ∀ {ts : List TypeId} {vs : List Value} {ds : List (DataW H)} {ps : List MemPlace}, (∀ t ∈ ts, t ∈ l) →
    DataW.TrodAll enc P w base (fun _ => true) true ts vs ds ps → (∀ p ∈ ps, p.block < w.heap.size ∧ sp p.block = true) → DataW.TrodAll enc P w' base sp true ts vs ds ps
  | [], [], [], _, _, h, _ => h
  | _ :: _, _ :: _, _ :: _, _, ht, ⟨a, b, ⟨n, h1⟩, h2, e⟩, hs => by
    subst e
    exact ⟨a, b, ⟨n, trod_spare hl n _ _ _ (ht _ List.mem_cons_self) (DataW.trod_carry n _ _ _ h1 fun p hp => sameAt_kept hk (hs p (List.mem_append_left _ hp)).1) fun p hp => (hs p (List.mem_append_left _ hp)).2⟩, trodAll_kept hl hk (fun t h => ht t (List.mem_cons_of_mem _ h)) h2 fun p hp => hs p (List.mem_append_right _ hp), rfl⟩
theorem post_kept {f : Func} {s : ChangeSpec} {apart fresh handsOn : Bool} {args : Array Value} {ds gs : List (DataW H)} {before : List MemPlace} {tb : TypeId} {l : List TypeId} (hl : kidsOk P l = true) (hin : ∀ t ∈ f.params.toList, t ∈ l)
    (hW : DataW.Whole enc P f.params.toList s.vars apart w args.toList ds gs before) (hv : s.vars = []) (hrt : f.resultTypes = #[tb]) (htb : P.underlying tb = some .bool) (hres : (s.fn H (ds ++ gs)).results = [.lit (.bool true)]) (harg : (s.fn H (ds ++ gs)).args = ds) (hvar : (s.fn H (ds ++ gs)).vars = [])
    (ho : w'.os = w.os) (hout : w'.output = w.output) (hk : ∀ b, b < w.heap.size → w'.heap[b]? = w.heap[b]?) : s.post enc P f apart fresh handsOn false w args (.bool true) w' := by
  have hlt := hW.lt
  have hW' := hW
  obtain ⟨p, q, hA, hV, rfl, hfz, hnd⟩ := hW
  rw [hv] at hV
  obtain ⟨rfl, rfl⟩ := trodVars_none hV
  refine ⟨ds, [], p ++ [], [], p, [], hW', ?_, ?_, ?_, keptBut_of ho hout hk, fun h => by cases h⟩
  · rw [hres, hrt]
    exact trodAll_cons_mk (p := []) (p' := []) ⟨1, by simp [DataW.trod, htb, Value.cells]⟩ trodAll_mk0
  · rw [harg]
    refine trodAll_kept hl hk hin hA fun x hx => ?_
    have := hlt x (List.mem_append_left _ hx)
    exact ⟨this, by simpa using this⟩
  · rw [hvar, hv]; rfl
end
theorem laid_tail {P : Program} {W : World} {x : String × DataW Unit} {r : List (String × DataW Unit)} {ps : List MemPlace} (h : DataW.LaidVars P W (x :: r) ps) : ∃ q, DataW.LaidVars P W r q := by
  obtain ⟨n, d⟩ := x
  obtain ⟨_, _, _, _, _, q, _, _, _, _, h, _⟩ := h
  exact ⟨q, h⟩
theorem tab_block {P : Program} {W : World} {name : String} {k : IntKind} {zs : List Int} {rest : List (String × DataW Unit)} {g : Nat} {t e : TypeId} {n : Nat} {ps : List MemPlace}
    (hg : P.globalNamed name = some g) (hty : (P.globals[g]?).map (·.type) = some t) (ht : P.underlying t = some (.array n e)) (he : P.underlying e = some (.int k)) (hce : P.cellsOf e = 1) (hct : P.cellsOf t = n)
    (h : DataW.LaidVars P W ((name, Lib.tabData k zs) :: rest) ps) (hsh : W.ShapedOpen P) (hsz : g < P.globals.size) (hb : (((begin P (fun _ _ => 0) default).world.heap[g]?).bind Obj.row?).map (·.2) = some t) : W.heap[g]? = some (.cells (zs.map fun z => Value.int k z).toArray t (0, 0)) := by
  obtain ⟨⟨zero, t2⟩, hb2, ht2⟩ := Option.map_eq_some_iff.1 hb
  obtain rfl : t2 = t := ht2
  clear hb
  obtain ⟨g', t', cs, fuel, p, q, hg', ht', hvar, hd, _, _⟩ := h
  obtain rfl := Option.some.inj (hg.symm.trans hg')
  obtain rfl := Option.some.inj (hty.symm.trans ht')
  have e1 := Lib.cells_of_tab ht he hce hct hd
  obtain ⟨c2, h2, _⟩ := hsh.1 g zero _ hsz hb2
  unfold World.var? at hvar
  rw [hg] at hvar
  simp only [Option.bind_some, h2, Option.some.injEq] at hvar
  subst hvar
  rw [h2]
  have : c2 = (zs.map fun z => Value.int k z).toArray := Array.ext' (by rw [e1])
  rw [this]
def topB (bl : List Nat) : Ren
  | 0 => some ⟨0, 0, none⟩
  | i + 1 => (bl[i]?).map fun b => ⟨b, 0, none⟩
def topH (gl : AObj) (pins : List (Nat × List (Option Value) × Obj)) : Heap := ofL ((0, gl) :: (pins.zipIdx 1).map fun p => (p.2, .pin p.1.2.1 p.1.2.2))
theorem topH_pin {gl : AObj} : ∀ (pins : List (Nat × List (Option Value) × Obj)) (j i : Nat), ((pins.zipIdx j).map fun p => (p.2, AObj.pin p.1.2.1 p.1.2.2)).lookup (j + i) = (pins[i]?).map fun p => .pin p.2.1 p.2.2
  | [], j, i => by simp
  | p :: pins, j, 0 => by simp [List.zipIdx_cons]
  | p :: pins, j, i + 1 => by
    simp only [List.zipIdx_cons, List.map_cons, List.lookup_cons]
    have : (j + (i + 1) == j) = false := by simp
    rw [this, show j + (i + 1) = (j + 1) + i by omega, topH_pin (gl := gl) pins (j + 1) i]
    simp
theorem topH0 (gl : AObj) (pins : List (Nat × List (Option Value) × Obj)) : aget (topH gl pins) 0 = some gl := by
  unfold topH; rw [aget_ofL]; rfl
theorem topHi (gl : AObj) (pins : List (Nat × List (Option Value) × Obj)) (i : Nat) : aget (topH gl pins) (i + 1) = (pins[i]?).map fun p => .pin p.2.1 p.2.2 := by
  unfold topH
  rw [aget_ofL, List.lookup_cons]
  have : (i + 1 == 0) = false := by simp
  rw [this, Nat.add_comm, topH_pin (gl := gl)]
theorem HR.top {gl : AObj} {ob0 : Obj} {pins : List (Nat × List (Option Value) × Obj)} {W : World} (hgl : ∀ β e, e.room = none → e.sh = 0 → OR β e gl ob0) (h0 : W.heap[0]? = some ob0) (hnd : (pins.map (·.1)).Nodup)
    (hp : ∀ p ∈ pins, p.1 ≠ 0 ∧ W.heap[p.1]? = some p.2.2 ∧ ∀ β e, e.room = none → e.sh = 0 → OR β e (.pin p.2.1 p.2.2) p.2.2) : HR [0] (topB (pins.map (·.1))) (topH gl pins) (pins.length + 1) W := by
  have lt : ∀ {b : Nat} {o : Obj}, W.heap[b]? = some o → b < W.heap.size := by
    intro b o h
    rcases Nat.lt_or_ge b W.heap.size with h' | h'
    · exact h'
    · rw [Array.getElem?_eq_none h'] at h; cases h
  have at1 : ∀ {i : Nat} {e : Bl}, topB (pins.map (·.1)) (i + 1) = some e → ∃ p, pins[i]? = some p ∧ e = ⟨p.1, 0, none⟩ := by
    intro i e h
    simp only [topB, List.getElem?_map] at h
    cases hpi : pins[i]? with
    | none => rw [hpi] at h; cases h
    | some p => rw [hpi] at h; cases h; exact ⟨p, rfl, rfl⟩
  refine ⟨?_, ?_, ⟨pins.length + 1, ?_⟩, ?_, ?_⟩
  · intro g hg
    simp only [List.mem_cons, List.not_mem_nil, or_false] at hg
    subst hg; rfl
  · intro i e h
    cases i with
    | zero => cases h; exact ⟨.inl (by omega), lt h0⟩
    | succ i =>
      obtain ⟨p, h1, rfl⟩ := at1 h
      have hi := (List.getElem?_eq_some_iff.1 h1).1
      exact ⟨.inl (by omega), lt (hp p (List.mem_of_getElem? h1)).2.1⟩
  · intro i e h
    cases i with
    | zero => omega
    | succ i =>
      obtain ⟨p, h1, _⟩ := at1 h
      have hi := (List.getElem?_eq_some_iff.1 h1).1
      omega
  · intro i j e f hi hj _ _ hef
    cases i with
    | zero =>
      cases j with
      | zero => rfl
      | succ j =>
        obtain ⟨p, h1, rfl⟩ := at1 hj
        cases hi
        exact absurd hef.symm (hp p (List.mem_of_getElem? h1)).1
    | succ i =>
      obtain ⟨p, h1, rfl⟩ := at1 hi
      cases j with
      | zero => cases hj; exact absurd hef (hp p (List.mem_of_getElem? h1)).1
      | succ j =>
        obtain ⟨p', h2, rfl⟩ := at1 hj
        have e1 : (pins.map (·.1))[i]? = some p.1 := by rw [List.getElem?_map, h1]; rfl
        have e2 : (pins.map (·.1))[j]? = some p.1 := by rw [List.getElem?_map, h2]; exact congrArg some hef.symm
        obtain ⟨q1, r1⟩ := List.getElem?_eq_some_iff.1 e1
        obtain ⟨q2, r2⟩ := List.getElem?_eq_some_iff.1 e2
        have : i = j := (List.getElem_inj hnd).1 (r1.trans r2.symm)
        omega
  · intro i e o hi hg
    cases i with
    | zero =>
      rw [topH0] at hg
      cases hg
      cases hi
      exact ⟨ob0, h0, hgl _ _ rfl rfl⟩
    | succ i =>
      obtain ⟨p, h1, rfl⟩ := at1 hi
      rw [topHi, h1] at hg
      cases hg
      have := hp p (List.mem_of_getElem? h1)
      exact ⟨p.2.2, this.2.1, this.2.2 _ _ rfl rfl⟩
theorem topB_at {bl : List Nat} {i : Nat} {e : Bl} (h : topB bl i = some e) : i < bl.length + 1 := by
  cases i with
  | zero => omega
  | succ i =>
    simp only [topB] at h
    cases hb : bl[i]? with
    | none => rw [hb] at h; cases h
    | some b => have := (List.getElem?_eq_some_iff.1 hb).1; omega
theorem top_stays {gl : AObj} {pins : List (Nat × List (Option Value) × Obj)} (hgl : ∃ cs t, gl = .cells cs t none ∧ flats cs = true) : ∀ i e, topB (pins.map (·.1)) i = some e → i < pins.length + 1 ∧ ((∃ cs ob, aget (topH gl pins) i = some (.pin cs ob)) ∨ ∃ cs t, aget (topH gl pins) i = some (.cells cs t none) ∧ flats cs = true) := by
  intro i e h
  have hlt := topB_at h
  rw [List.length_map] at hlt
  refine ⟨hlt, ?_⟩
  cases i with
  | zero =>
    obtain ⟨cs, t, rfl, hf⟩ := hgl
    exact .inr ⟨cs, t, topH0 _ _, hf⟩
  | succ i =>
    have : pins[i]? = some (pins[i]'(by omega)) := List.getElem?_eq_getElem (by omega)
    exact .inl ⟨_, _, by rw [topHi, this]; rfl⟩
end Go.Cs
set_option maxRecDepth 1000000
set_option maxHeartbeats 1000000
namespace Go.Cs
def Row (H : Heap) (n0 : Nat) (s : Value) (es m : Nat) (vs : List Value) : Prop := vs.length = m * es ∧ ((s = .slice none 0 0 ∧ m = 0) ∨ ∃ q off cap cs ob, s = .slice (some ⟨q, off, none⟩) m cap ∧ q < n0 ∧ aget H q = some (.pin cs ob) ∧ ∀ (j : Nat) (x : Value), vs[j]? = some x → cs[off + j]? = some (some x))
section
variable {H H' : Heap} {n0 es m : Nat} {s : Value} {vs : List Value}
theorem Row.mono (h : Row H n0 s es m vs) (hk : ∀ q, q < n0 → aget H' q = aget H q) : Row H' n0 s es m vs := by
  obtain ⟨hl, h⟩ := h
  refine ⟨hl, ?_⟩
  rcases h with h | ⟨q, off, cap, cs, ob, h1, h2, h3, h4⟩
  · exact .inl h
  · exact .inr ⟨q, off, cap, cs, ob, h1, h2, (hk q h2).trans h3, h4⟩
theorem Row.hdr (h : Row H n0 s es m vs) : isHdr s = true ∧ s.cells.toList = [s] ∧ cell1 s = true := by
  rcases h.2 with ⟨rfl, _⟩ | ⟨q, off, cap, cs, ob, rfl, _⟩ <;> exact ⟨rfl, rfl, rfl⟩
theorem Row.at' (h : Row H n0 s es m vs) : ∃ q j, SliceAt s q j m ∧ (m ≠ 0 → q < n0) ∧ ∀ (d : Nat) (x : Value), vs[d]? = some x → rdAt H q (j + d) = some x := by
  obtain ⟨hl, h⟩ := h
  rcases h with ⟨rfl, rfl⟩ | ⟨q, off, cap, cs, ob, rfl, h2, h3, h4⟩
  · refine ⟨0, 0, .nil 0 0, fun h => absurd rfl h, fun d x hx => ?_⟩
    have := (List.getElem?_eq_some_iff.1 hx).1
    omega
  · refine ⟨q, off, .mk q off m cap, fun _ => h2, fun d x hx => ?_⟩
    unfold rdAt
    rw [h3]
    simp only [h4 d x hx]
theorem pinGet_all {cs : List (Option Value)} {off : Nat} : ∀ (k : Nat) (vs : List Value) (m : Nat), vs.length = m → (∀ (j : Nat) (x : Value), vs[j]? = some x → cs[off + k + j]? = some (some x)) → pinGet cs (off + k) m = some vs
  | k, [], 0, _, _ => rfl
  | k, v :: vs, m + 1, hl, h => by
    have h0 := h 0 v rfl
    rw [Nat.add_zero] at h0
    simp only [pinGet, h0]
    rw [Nat.add_assoc, pinGet_all (k + 1) vs m (by simpa using hl) fun j x hx => ?_]
    · rfl
    · have := h (j + 1) x (by simpa using hx)
      rwa [show off + k + (j + 1) = off + (k + 1) + j by omega] at this
  | k, [], m + 1, hl, _ => by simp at hl
  | k, _ :: _, 0, hl, _ => by simp at hl
theorem Row.cells (h : Row H n0 s es m vs) : cellsOfSlice H es s = some vs := by
  obtain ⟨hl, h⟩ := h
  rcases h with ⟨rfl, rfl⟩ | ⟨q, off, cap, cs, ob, rfl, h2, h3, h4⟩
  · have : vs = [] := List.length_eq_zero_iff.1 (by omega)
    subst this; rfl
  · cases m with
    | zero =>
      have : vs = [] := List.length_eq_zero_iff.1 (by omega)
      subst this; rfl
    | succ m =>
      simp only [cellsOfSlice, h3]
      have := pinGet_all (cs := cs) (off := off) 0 vs ((m + 1) * es) hl (by simpa using h4)
      simpa using this
end
def cCopy (t : TypeId) (es bytes : Nat) (z : List Value) : FC := FC.mk 5 (.seq (.steps [⟨.move, [.const (.slice none 0 0)], some 2, none⟩]) (.seq (.steps [⟨.move, [.tmp 0], some 3, none⟩,⟨.append t es bytes z, [.const (.slice none 0 0), .tmp 3], some 4, none⟩,⟨.move, [.tmp 4], some 2, none⟩]) (.ret))) [.tmp 2]
section
variable {P : Program} {G : List Nat} {E : Env}
theorem ld1 {H : Heap} {b o : Nat} {cs : List Value} {t : TypeId} {gr : Option Nat} {v : Value} (h : aget H b = some (.cells cs t gr)) (hv : cs[o]? = some v) : semR .load1 [ptrAt b o] H = some v := by
  simp only [ptrAt, semR, rLoad1, h]; exact hv
theorem rv_cellN {T : AL Value} {H : Heap} {t m b : Nat} {cs : List Value} {ty : TypeId} (ht : aget T t = some (ptrAt b 0)) (hb : aget H b = some (.cells cs ty none)) (hl : cs.length = m) : rvVal T H (.cellN t m) = some (.agg cs.toArray) := by
  have : rLoadN m H [ptrAt b 0] = some (.agg cs.toArray) := loadBox hb hl
  show (aget T t).bind (fun v => rLoadN m H [v]) = _
  rw [ht]; exact this
theorem rvs1 {T : AL Value} {H : Heap} {r : RV} {v : Value} (h : rvVal T H r = some v) : rvVals T H [r] = some [v] := by simp [rvVals, h]
theorem rvs2 {T : AL Value} {H : Heap} {r r' : RV} {v v' : Value} (h : rvVal T H r = some v) (h' : rvVal T H r' = some v') : rvVals T H [r, r'] = some [v, v'] := by simp [rvVals, h, h']
section
variable {P : Program} {G : List Nat} {E : Env} {ms : List Nat} {i : Nat} {r : List (Nat × Step)} {recs : List Rec} {Q : St → Prop} {args : List Operand} {d : Option Tmp} {g : Option (Tmp × Bool)} {L : List (Nat × Value)} {D : List Value} {H : Heap} {n : Nat}
theorem stabOne {H H' : Heap} {l : List Rec} (r : Rec) (h : l = [r]) (hr : r.stable H') : StabOk H H' l := .inr fun x hx => by
  rw [h] at hx
  rw [List.mem_singleton.1 hx]; exact hr
theorem dFill {m b : Nat} {cs ys : List Value} {t : TypeId} (hb : aget H b = some (.cells cs t none)) (hl : cs.length = m) (hl2 : ys.length = m) (hy : ys.all cell1 = true) (hw : wantT (.lst L) g = some true) (ha : evs G (.lst L) args = some [ptrAt b 0, .agg ys.toArray]) (hn : n < lim)
    (h : ∀ H1 : Heap, aget H1 b = some (.cells ys t none) → (∀ q, q ≠ b → aget H1 q = aget H q) → StabOk H H1 (keepE ms i recs) ∧ RD P G E ms r (keepE ms i recs) Q { T := .lst (putL d undef L), D := D, H := H1, n := n }) : RD P G E ms ((i, ⟨.store m, args, d, g⟩) :: r) recs Q { T := .lst L, D := D, H := H, n := n } := by
  obtain ⟨q1, q2⟩ := h (aput H b (.cells ys t none)) (by simp [aget_aput]) (fun q hq => by rw [aget_aput, if_neg (Ne.symm hq)])
  refine dW (v := undef) rfl hw ha ?_ (blt_lim hn) q1 q2
  have hs : splice cs 0 (Value.agg ys.toArray).cells.toList = ys := by simp [splice, Value.cells, hl, hl2]
  simp only [ptrAt, semW, wStore, hb, hs]
  rw [if_pos ⟨by simp [Value.cells, hl2], by simp [hl], by simpa [Value.cells] using hy⟩]
theorem dStO {u : Value} {b o : Nat} {cs : List Value} {t : TypeId} {gr : Option Nat} (cs' : List Value) (hb : aget H b = some (.cells cs t gr)) (ho : o + 1 ≤ cs.length) (hu : u.cells.toList = [u]) (hu1 : cell1 u = true) (hcs : splice cs o [u] = cs') (hw : wantT (.lst L) g = some true) (ha : evs G (.lst L) args = some [.pointer (some ⟨b, o, none⟩), u]) (hn : n < lim)
    (h : ∀ H1 : Heap, aget H1 b = some (.cells cs' t gr) → (∀ q, q ≠ b → aget H1 q = aget H q) → StabOk H H1 (keepE ms i recs) ∧ RD P G E ms r (keepE ms i recs) Q { T := .lst (putL d undef L), D := D, H := H1, n := n }) : RD P G E ms ((i, ⟨.store 1, args, d, g⟩) :: r) recs Q { T := .lst L, D := D, H := H, n := n } := by
  subst hcs
  obtain ⟨q1, q2⟩ := h (aput H b (.cells (splice cs o [u]) t gr)) (by simp [aget_aput]) (fun q hq => by rw [aget_aput, if_neg (Ne.symm hq)])
  refine dW (v := undef) rfl hw ha ?_ (blt_lim hn) q1 q2
  simp only [semW, wStore, hb, hu]
  rw [if_pos ⟨rfl, ho, by simp [hu1]⟩]
end
structure Fin (H : Heap) (n K : Nat) (H' : Heap) (n' : Nat) : Prop where
  keep : ∀ q, q < n → aget H' q = aget H q
  fresh : Fresh H' n'
  le : n ≤ n'
  room : n' ≤ n + K
theorem fresh_ofL {L : List (Nat × AObj)} {n : Nat} (h : (L.all fun p => Nat.blt p.1 n) = true) : Fresh (ofL L) n := by
  intro q h1 h2
  rw [aget_ofL]
  cases hl : L.lookup q with
  | none => rfl
  | some o =>
    rw [List.all_eq_true] at h
    have := h _ (mem_of_lookup hl)
    rw [Nat.blt_eq] at this
    simp only at this
    omega
theorem limv : lim = 999999999999999000 := rfl
def valsN (f : Nat → List Int) : Nat → List Int
  | 0 => []
  | k + 1 => valsN f k ++ f k
theorem tellsItems {H : Heap} {its : Nat → List Item} {f : Nat → List Int} : ∀ {m : Nat}, (∀ k, k < m → Tells H (its k) (f k)) → Tells H (itemsN its m) (valsN f m)
  | 0, _ => trivial
  | m + 1, h => Tells.join (tellsItems fun k hk => h k (by omega)) (h m (by omega))
theorem mem_itemsN {f : Nat → List Item} {it : Item} : ∀ {m : Nat}, it ∈ itemsN f m → ∃ k, k < m ∧ it ∈ f k
  | 0, h => by cases h
  | m + 1, h => by
    rcases List.mem_append.1 h with h | h
    · obtain ⟨k, h1, h2⟩ := mem_itemsN h
      exact ⟨k, by omega, h2⟩
    · exact ⟨m, by omega, h⟩
theorem noHdr {P : Nat × Nat × Value → Prop} : ∀ x ∈ ([] : List (Nat × Nat × Value)), P x := fun _ h => by cases h
theorem rd_cells' {H : Heap} {i : Nat} {cs : List Value} {t : TypeId} {gr : Option Nat} (h : aget H i = some (.cells cs t gr)) (d : Nat) : rdAt H i d = cs[d]? := by unfold rdAt; rw [h]
theorem cell_cells {H : Heap} {i : Nat} {cs : List Value} {t : TypeId} {gr : Option Nat} (h : aget H i = some (.cells cs t gr)) (d : Nat) : cellAt H i d = cs[d]? := by unfold cellAt; rw [h]
structure ResOk (P : Program) (G : List Nat) (t : TypeId) (B : Nat) (H : Heap) (lo hi : Nat) (r : Res) (w : List Int) : Prop where
  sees : Sees P G t r.f r.as r.bs r.its r.hdr
  small : r.its.length ≤ B
  wr : WrAt H r.its
  seen : SeenAt H r.its r.hdr w (fun p => lo ≤ p ∧ p < hi)
theorem rs0 (t : TypeId) (B : Nat) (H : Heap) (lo hi : Nat) : RsAt P G t H lo hi (.slice none 0 0) 0 0 [] [] B :=
  ⟨.nil 0 0, (by simp), fun _ _ h => (by simp at h), fun h => absurd rfl h, fun _ h => (by cases h), fun _ h => (by cases h), fun _ h => (by cases h), rfl, fun _ _ _ h => (by simp at h), fun _ _ _ _ _ h => (by simp at h)⟩
theorem rs1 {t : TypeId} {B : Nat} {H : Heap} {lo hi q : Nat} {r : Res} {w : List Int} (h : ResOk P G t B H lo hi r w) (hc : cellAt H q 0 = some r.clo) (hq : lo ≤ q ∧ q < hi) : RsAt P G t H lo hi (.slice (some ⟨q, 0, none⟩) 1 1) q 0 [r] [w] B := by
  have one : ∀ (k : Nat) (r' : Res), [r][k]? = some r' → k = 0 ∧ r' = r := by
    intro k r' h
    cases k with
    | zero => cases h; exact ⟨rfl, rfl⟩
    | succ k => simp at h
  refine ⟨.mk q 0 1 1, by simp, fun k r' hk => ?_, fun _ => hq, fun r' hr => ?_, fun r' hr => ?_, fun r' hr => ?_, rfl, fun k r' w' hk hw => ?_, fun k k' r1 r2 hne h1 h2 => ?_⟩
  · obtain ⟨rfl, rfl⟩ := one k r' hk; exact hc
  · rw [List.mem_singleton.1 hr]; exact h.sees
  · rw [List.mem_singleton.1 hr]; exact h.small
  · rw [List.mem_singleton.1 hr]; exact h.wr
  · obtain ⟨rfl, rfl⟩ := one k r' hk; cases hw; exact h.seen
  · exact absurd ((one k r1 h1).1.trans (one k' r2 h2).1.symm) hne
end
end Go.Cs
set_option maxRecDepth 1000000
set_option maxHeartbeats 1000000
namespace Go.Cs
structure MapI (K : Int → Prop) (es : List MapEntry) (clk : Nat) : Prop where
  old : ∀ e ∈ es, e.born < clk
  nd : (es.map (·.born)).Nodup
  kv : ∀ e ∈ es, (∃ k, e.key = .int .i64 k ∧ K k) ∧ ∃ x, e.val = .int .i64 x
theorem MapI.nil (K : Int → Prop) : MapI K [] 0 := ⟨fun _ h => (by cases h), List.nodup_nil, fun _ h => (by cases h)⟩
theorem MapI.find {K : Int → Prop} {es : List MapEntry} (h : ∀ e ∈ es, (∃ k, e.key = .int .i64 k ∧ K k) ∧ ∃ x, e.val = .int .i64 x) (k : Int) : ∀ i, findE (.int .i64 k) es i = some none ∨ ∃ (j : Nat) (x : Int), findE (.int .i64 k) es i = some (some (j, .int .i64 x)) := by
  induction es with
  | nil => intro i; exact .inl rfl
  | cons e es ih =>
    intro i
    obtain ⟨⟨k', h1, _⟩, ⟨x, h2⟩⟩ := h e List.mem_cons_self
    unfold findE
    rw [h1, h2]
    have : keyEq (.int .i64 k) (.int .i64 k') = some (k == k') := by simp [keyEq]
    rw [this]
    cases hk : k == k' with
    | true => exact .inr ⟨i, x, rfl⟩
    | false => exact ih (fun e he => h e (List.mem_cons_of_mem _ he)) (i + 1)
theorem modify_born (es : List MapEntry) (i : Nat) (k v : Value) : (es.modify i fun e => { e with key := k, val := v }).map (·.born) = es.map (·.born) := by
  apply List.ext_getElem?
  intro j
  rw [List.getElem?_map, List.getElem?_modify, List.getElem?_map]
  by_cases h : i = j <;> simp [h] <;> cases es[j]? <;> rfl
theorem MapI.set {K : Int → Prop} {es : List MapEntry} {clk : Nat} (h : MapI K es clk) (i : Nat) {k : Int} (hk : K k) (x : Int) : MapI K (es.modify i fun e => { e with key := .int .i64 k, val := .int .i64 x }) clk := by
  have hb := modify_born es i (.int .i64 k) (.int .i64 x)
  refine ⟨fun e he => ?_, by rw [hb]; exact h.nd, fun e he => ?_⟩
  · have : e.born ∈ es.map (·.born) := by rw [← hb]; exact List.mem_map.2 ⟨e, he, rfl⟩
    obtain ⟨e', he', q⟩ := List.mem_map.1 this
    rw [← q]; exact h.old e' he'
  · obtain ⟨j, hj⟩ := List.mem_iff_getElem?.1 he
    rw [List.getElem?_modify] at hj
    cases he' : es[j]? with
    | none => rw [he'] at hj; simp at hj
    | some e' =>
      rw [he'] at hj
      by_cases hij : i = j
      · simp [hij] at hj; subst hj; exact ⟨⟨k, rfl, hk⟩, ⟨x, rfl⟩⟩
      · simp [hij] at hj; subst hj; exact h.kv _ (List.mem_of_getElem? he')
theorem MapI.add {K : Int → Prop} {es : List MapEntry} {clk : Nat} (h : MapI K es clk) {k : Int} (hk : K k) (x : Int) : MapI K (es ++ [{ key := .int .i64 k, val := .int .i64 x, born := clk }]) (clk + 1) := by
  refine ⟨fun e he => ?_, ?_, fun e he => ?_⟩
  · rcases List.mem_append.1 he with he | he
    · have := h.old e he; omega
    · rw [List.mem_singleton.1 he]; exact Nat.lt_succ_self _
  · rw [List.map_append, List.nodup_append]
    refine ⟨h.nd, by simp, fun a ha b hb e => ?_⟩
    obtain ⟨e', he', q⟩ := List.mem_map.1 ha
    have := h.old e' he'
    simp at hb
    omega
  · rcases List.mem_append.1 he with he | he
    · exact h.kv e he
    · rw [List.mem_singleton.1 he]; exact ⟨⟨k, rfl, hk⟩, ⟨x, rfl⟩⟩
def MapAt (H : Heap) (b : Nat) (K : Int → Prop) : Prop := ∃ es clk, aget H b = some (.map es clk) ∧ MapI K es clk
theorem MapAt.congr {H H' : Heap} {b : Nat} {K : Int → Prop} (h : MapAt H b K) (e : aget H' b = aget H b) : MapAt H' b K := by
  obtain ⟨es, clk, h1, h2⟩ := h
  exact ⟨es, clk, e.trans h1, h2⟩
theorem MapAt.look {H : Heap} {b : Nat} {K : Int → Prop} (h : MapAt H b K) (k : Int) : ∃ x, semR (.lookup 0 (.int .i64 0) false) [.map (some b), .int .i64 k] H = some (.int .i64 x) := by
  obtain ⟨es, clk, h1, h2⟩ := h
  rcases MapI.find h2.kv k 0 with e | ⟨j, x, e⟩
  · exact ⟨0, by simp [semR, rLookup, h1, e, keyFits]⟩
  · exact ⟨x, by simp [semR, rLookup, h1, e, keyFits]⟩
theorem MapAt.upd {H : Heap} {n b : Nat} {K : Int → Prop} (h : MapAt H b K) {k : Int} (hk : K k) (x : Int) : ∃ H', semW (.mapUpdate 0) [.map (some b), .int .i64 k, .int .i64 x] H n = some (undef, H', n) ∧ MapAt H' b K ∧ ∀ q, q ≠ b → aget H' q = aget H q := by
  obtain ⟨es, clk, h1, h2⟩ := h
  rcases MapI.find h2.kv k 0 with e | ⟨j, y, e⟩
  · refine ⟨aput H b (.map (es ++ [{ key := .int .i64 k, val := .int .i64 x, born := clk }]) (clk + 1)), ?_, ⟨_, _, by simp [aget_aput], h2.add hk x⟩, fun q hq => by rw [aget_aput, if_neg (Ne.symm hq)]⟩
    simp only [semW, wMapUpdate, h1, e]
    rfl
  · refine ⟨aput H b (.map (es.modify j fun e => { e with key := .int .i64 k, val := .int .i64 x }) clk), ?_, ⟨_, _, by simp [aget_aput], h2.set j hk x⟩, fun q hq => by rw [aget_aput, if_neg (Ne.symm hq)]⟩
    simp only [semW, wMapUpdate, h1, e]
    rfl
theorem MapAt.len {H : Heap} {b : Nat} {K : Int → Prop} (h : MapAt H b K) : ∃ x, semR .lenMap [.map (some b)] H = some (.int .i64 x) := by
  obtain ⟨es, clk, h1, h2⟩ := h
  exact ⟨(es.length : Int), by simp only [semR, rLenMap, h1]⟩
section
variable {P : Program} {G : List Nat} {E : Env} {r : List Step} {Q : St → Prop} {as : List Operand} {d : Option Tmp} {g : Option (Tmp × Bool)} {L : List (Nat × Value)} {D : List Value} {H : Heap} {n : Nat}
theorem xRange {b : Nat} {es : List MapEntry} {clk : Nat} (hb : aget H b = some (.map es clk)) (hfr : Fresh H n) (hn : n < lim) (hw : wantT (.lst L) g = some true) (ha : evs G (.lst L) as = some [.map (some b)])
    (h : ∀ H1 : Heap, aget H1 n = some (.miter (some b) clk [] clk) → (∀ q, q ≠ n → aget H1 q = aget H q) → Fresh H1 (n + 1) → RX P G E r Q { T := .lst (putL d (ptrAt n 0) L), D := D, H := H1, n := n + 1 }) : RX P G E (⟨.rangeMap, as, d, g⟩ :: r) Q { T := .lst L, D := D, H := H, n := n } := by
  refine xN rfl hw ha ⟨by have : lim < big := by decide
                          omega, es, clk, hb, ?_⟩
  exact h _ (by simp [aget_aput]) (fun q hq => by rw [aget_aput, if_neg (Ne.symm hq)]) fun q h1 h2 => by rw [aget_aput, if_neg (by omega)]; exact hfr q (by omega) h2
theorem xNext {b i : Nat} {es : List MapEntry} {clk : Nat} {K : Int → Prop} {s : List Nat} (hb : aget H b = some (.map es clk)) (hi : aget H i = some (.miter (some b) clk s clk)) (hes : MapI K es clk) (hw : wantT (.lst L) g = some true) (ha : evs G (.lst L) as = some [ptrAt i 0])
    (h0 : RX P G E r Q { T := .lst (putL d (.tuple #[.bool false]) L), D := D, H := H, n := n })
    (h1 : ∀ (e : MapEntry) (k x : Int) (H1 : Heap), e ∈ es → e.born ∉ s → e.key = .int .i64 k → K k → e.val = .int .i64 x → aget H1 i = some (.miter (some b) clk (s ++ [e.born]) clk) → (∀ q, q ≠ i → aget H1 q = aget H q) → RX P G E r Q { T := .lst (putL d (.tuple #[.bool true, .int .i64 k, .int .i64 x]) L), D := D, H := H1, n := n }) :
    RX P G E (⟨.nextMap, as, d, g⟩ :: r) Q { T := .lst L, D := D, H := H, n := n } := by
  refine xN rfl hw ha (.inr ⟨b, clk, s, clk, es, clk, hi, hb, hes.old, Nat.le_refl _, fun _ => h0, fun e he hne => ?_⟩)
  obtain ⟨⟨k, e1, e2⟩, x, e3⟩ := hes.kv e he
  rw [e1, e3]
  exact h1 e k x _ he hne e1 e2 e3 (by simp [aget_aput]) fun q hq => by rw [aget_aput, if_neg (Ne.symm hq)]
theorem xEntry {b i : Nat} {es : List MapEntry} {clk : Nat} {s : List Nat} {e : MapEntry} {k x : Int} {K : Int → Prop} (hb : aget H b = some (.map es clk)) (hi : aget H i = some (.miter (some b) clk (s ++ [e.born]) clk)) (hes : MapI K es clk) (he : e ∈ es) (hk : e.key = .int .i64 k) (hx : e.val = .int .i64 x) (hw : wantT (.lst L) g = some true) (ha : evs G (.lst L) as = some [ptrAt i 0])
    (h : RX P G E r Q { T := .lst (putL d (.tuple #[.int .i64 k, .int .i64 x]) L), D := D, H := H, n := n }) : RX P G E (⟨.entry, as, d, g⟩ :: r) Q { T := .lst L, D := D, H := H, n := n } := by
  refine xN rfl hw ha ⟨b, clk, s, clk, es, e, hi, hb, hes.nd, he, ?_⟩
  rw [hk, hx]; exact h
theorem xStIO {b j : Nat} {y : Int} {l : List Int} {t : TypeId} {gr : Option Nat} (hb : aget H b = some (.cells (ints l) t gr)) (hj : j < l.length) (hw : wantT (.lst L) g = some true) (ha : evs G (.lst L) as = some [.pointer (some ⟨b, 0 + j * 1, none⟩), .int .i64 y]) (hn : n < lim)
    (h : ∀ H1 : Heap, aget H1 b = some (.cells (ints (l.set j y)) t gr) → (∀ q, q ≠ b → aget H1 q = aget H q) → RX P G E r Q { T := .lst (putL d undef L), D := D, H := H1, n := n }) : RX P G E (⟨.store 1, as, d, g⟩ :: r) Q { T := .lst L, D := D, H := H, n := n } :=
  xStI hw ha hb hj (blt_lim hn) (h _ (by simp [aget_aput]) fun q hq => by rw [aget_aput, if_neg (Ne.symm hq)])
theorem mkInts_sem {t bytes : Nat} {m : Int} (hm : 0 ≤ m ∧ bytes * m ≤ 2 ^ 40 ∧ m ≤ 2 ^ 40) : semA (.mkSlice t bytes [.int .i64 0]) [.int .i64 m, .int .i64 m] = some (.cells (ints (List.replicate m.toNat 0)) t none, .slice m.toNat m.toNat) := by
  simp only [semA, aMkSlice]
  rw [if_pos ⟨hm.1, Int.le_refl _, hm.2.1, hm.2.2⟩, ints_replicate]
end
end Go.Cs
namespace Go.Cs
section
variable {P : Program} {G : List Nat} {E : Env} {N n0 : Nat} {r : List Step} {Q : St → Prop} {ar : List Operand} {d : Option Tmp} {g : Option (Tmp × Bool)} {L : List (Nat × Value)} {D : List Value} {H : Heap} {n : Nat}
theorem append1g {t es bytes : Nat} {z : List Value} {i k j : Nat} {cs new : List Value} (hes : 0 < es) (hi : k ≠ 0 → aget H i = some (.cells cs t (some es))) (h0 : k = 0 → cs = []) (hlen : cs.length = k * es) (hj : aget H j = some (.cells new t none)) (hnl : new.length = es) (hall : new.all cell1 = true)
    (hb : (2 * (k + 1) + 1000) * bytes ≤ 2 ^ 40) : ∃ H', semW (.append t es bytes z) [gsl i k, .slice (some ⟨j, 0, none⟩) 1 1] H n = some (gsl n (k + 1), H', n + 1) ∧ aget H' n = some (.cells (cs ++ new) t (some es)) ∧ ∀ q, q ≠ n → q ≠ i → aget H' q = aget H q := by
  have hnew : cellsOfSlice H es (.slice (some ⟨j, 0, none⟩) 1 1) = some new := by
    simp only [cellsOfSlice, hj]
    rw [if_pos (by omega)]
    simp only [List.drop_zero, Nat.one_mul]
    rw [List.take_of_length_le (by omega)]
  cases k with
  | zero =>
    have hc := h0 rfl
    subst hc
    refine ⟨aput H n (.cells new t (some es)), ?_, by simp [aget_aput], fun q h1 h2 => by simp [aget_aput, Ne.symm h1]⟩
    have hold : cellsOfSlice H es (.slice none 0 0) = some [] := rfl
    simp only [semW, wAppend, gsl, hnew, hold]
    rw [if_pos hb]
    simp only [appended, hall, if_true]
    rfl
  | succ k =>
    have h1 := hi (by omega)
    have hold : cellsOfSlice H es (.slice (some ⟨i, 0, none⟩) (k + 1) (k + 1)) = some cs := by
      simp only [cellsOfSlice, h1]
      rw [if_pos (by omega)]
      simp [← hlen]
    refine ⟨aput (aput H i .dead) n (.cells (cs ++ new) t (some es)), ?_, by simp [aget_aput], fun q h1 h2 => by simp [aget_aput, Ne.symm h1, Ne.symm h2]⟩
    simp only [semW, wAppend, gsl, hnew, hold]
    rw [if_pos hb]
    simp only [appended, hall, if_true, h1]
    rw [if_neg (by omega)]
    simp only [and_self, if_true]
    rfl
end
section
variable {P : Program} {G : List Nat} {E : Env} {ms : List Nat} {i : Nat} {r : List (Nat × Step)} {recs : List Rec} {Q : St → Prop} {ar : List Operand} {d : Option Tmp} {g : Option (Tmp × Bool)} {L : List (Nat × Value)} {D : List Value} {H : Heap} {n : Nat}
theorem dAppend1g {t es bytes : Nat} {z : List Value} {b k j : Nat} {cs new : List Value} (hfr : Fresh H n) (hw : wantT (.lst L) g = some true) (ha : evs G (.lst L) ar = some [gsl b k, .slice (some ⟨j, 0, none⟩) 1 1]) (hes : 0 < es) (hi : k ≠ 0 → aget H b = some (.cells cs t (some es)) ∧ b < n) (h0 : k = 0 → cs = [] ∧ lim ≤ b) (hlen : cs.length = k * es)
    (hj : aget H j = some (.cells new t none)) (hnl : new.length = es) (hall : new.all cell1 = true) (hb : (2 * (k + 1) + 1000) * bytes ≤ 2 ^ 40) (hn : n < lim)
    (h : ∀ H', aget H' n = some (.cells (cs ++ new) t (some es)) → (∀ q, q ≠ n → q ≠ b → aget H' q = aget H q) → Fresh H' (n + 1) → StabOk H H' (keepE ms i recs) ∧ RD P G E ms r (keepE ms i recs) Q { T := .lst (putL d (gsl n (k + 1)) L), D := D, H := H', n := n + 1 }) :
    RD P G E ms ((i, ⟨.append t es bytes z, ar, d, g⟩) :: r) recs Q { T := .lst L, D := D, H := H, n := n } := by
  obtain ⟨H', h1, h2, h3⟩ := append1g (n := n) (bytes := bytes) (z := z) hes (fun h => (hi h).1) (fun h => (h0 h).1) hlen hj hnl hall hb
  obtain ⟨q1, q2⟩ := h H' h2 h3 (fun q hq hq2 => by
    have hqb : q ≠ b := by
      by_cases hk : k = 0
      · have := (h0 hk).2; omega
      · have := (hi hk).2; omega
    rw [h3 q (by omega) hqb]; exact hfr q (by omega) hq2)
  exact dW rfl hw ha h1 (blt_lim hn) q1 q2
end
end Go.Cs
