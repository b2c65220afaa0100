/- A part of the proof that the law spadilletop.TopSharedRing answers true and leaves its argument as it was (CsH) -/
import Derived.Test.YtmpogedhilfjgaaGreatDoorCsF
set_option linter.all false
namespace Go.Cs
section
variable {P : Program} {G : List Nat} {E : Env} {N n0 : Nat} {s : St}
theorem cellsOfSlice_mono {H H' : Heap} (hm : ∀ b o, aget H b = some o → aget H' b = some o) {es : Nat} {v : Value} {cs : List Value} (h : cellsOfSlice H es v = some cs) : cellsOfSlice H' es v = some cs := by
  unfold cellsOfSlice at h ⊢
  split at h
  · exact h
  · exact h
  · split at h
    · rename_i hg; simp only [hm _ _ hg]; exact h
    · rename_i hg; simp only [hm _ _ hg]; exact h
    · cases h
  · cases h
theorem semR_mono {H H' : Heap} (hm : ∀ b o, aget H b = some o → aget H' b = some o) {k : Kind} {vs : List Value} {v : Value} (h : semR k vs H = some v) : semR k vs H' = some v := by
  cases k <;> simp only [semR] at h ⊢
  case sliceS es lo hi =>
    unfold rSlice at h ⊢
    split at h
    · exact h
    · split at h
      · rename_i hg; simp only [hm _ _ hg]; exact h
      · rename_i hg; simp only [hm _ _ hg]; exact h
      · cases h
    · cases h
  case sliceA n es lo hi =>
    unfold rSliceA at h ⊢
    split at h
    · split at h
      · rename_i hg; simp only [hm _ _ hg]; exact h
      · cases h
    · cases h
  case load1 =>
    unfold rLoad1 at h ⊢
    split at h
    · split at h
      · rename_i hg; simp only [hm _ _ hg]; exact h
      · rename_i hg; simp only [hm _ _ hg]; exact h
      · cases h
    · cases h
  case loadN n =>
    unfold rLoadN at h ⊢
    split at h
    · split at h
      · rename_i hg; simp only [hm _ _ hg]; exact h
      · rename_i hg; simp only [hm _ _ hg]; exact h
      · cases h
    · cases h
  case lookup str zero ok =>
    unfold rLookup at h ⊢
    split at h
    · exact h
    · split at h
      · rename_i hg; simp only [hm _ _ hg]; exact h
      · cases h
    · cases h
  case lenMap =>
    unfold rLenMap at h ⊢
    split at h
    · exact h
    · split at h
      · rename_i hg; simp only [hm _ _ hg]; exact h
      · cases h
    · cases h
  case toUnsafe =>
    unfold rToUnsafe at h ⊢
    split at h
    · split at h
      · rename_i hg; simp only [hm _ _ hg]; exact h
      · cases h
    · cases h
  case ofUnsafe u n =>
    unfold rOfUnsafe at h ⊢
    split at h
    · split at h
      · rename_i hg; simp only [hm _ _ hg]; exact h
      · cases h
    · cases h
  case bytesToStr =>
    unfold rBytesToStr at h ⊢
    split at h
    · split at h
      · rename_i hg; simp only [cellsOfSlice_mono hm hg]; exact h
      · cases h
    · cases h
  all_goals (cases h)
def RX (P : Program) (G : List Nat) (E : Env) : List Step → (St → Prop) → St → Prop
  | [], Q, s => Q s
  | st :: r, Q, s => (st.k.cls = .A → wantT s.T st.guard = some true → aget s.H s.n = none) ∧ SW P G E st s fun v D H n => RX P G E r Q { T := putT st.dst v s.T, D, H, n }
theorem RX.mono {Q Q' : St → Prop} (hq : ∀ s, Q s → Q' s) : ∀ {l : List Step} {s : St}, RX P G E l Q s → RX P G E l Q' s
  | [], s, h => hq _ h
  | st :: r, s, h => ⟨h.1, SW.mono (fun v D H n hh => RX.mono hq hh) h.2⟩
theorem RX.rs {Q : St → Prop} : ∀ {l : List Step} {s : St}, RX P G E l Q s → RS P G E l Q s
  | [], s, h => h
  | st :: r, s, h => SW.mono (fun v D H n hh => RX.rs hh) h.2
def easyL (ms : List Nat) : List Nat → List (Nat × Step) → Bool
  | _, [] => true
  | prev, (i, st) :: r => match st.k.cls with
    | .P => easyL ms prev r
    | .R => easyL ms (i :: prev) r
    | .A => easyL ms (i :: prev) r
    | .W => prev.all (fun j => isPred ms i j) && easyL ms (bif st.guard.isSome then prev else []) r
    | .C => prev.all (fun j => isPred ms i j) && easyL ms (bif st.guard.isSome then prev else []) r
    | _ => false
def recOk (prev : List Nat) (H : Heap) (r : Rec) : Prop := trivR r ∨ (r.stable H ∧ r.i ∈ prev)
theorem aget_fresh {H : Heap} {n : Nat} {ob : AObj} (h : aget H n = none) : ∀ b o, aget H b = some o → aget (aput H n ob) b = some o := by
  intro b o hb
  rw [aget_aput, if_neg]
  · exact hb
  · rintro rfl; rw [h] at hb; cases hb
theorem stable_fresh {H : Heap} {n : Nat} {ob : AObj} (h : aget H n = none) {r : Rec} (hr : r.stable H) : r.stable (aput H n ob) := by
  unfold Rec.stable at *
  split <;> rename_i hact <;> simp only [hact] at hr
  · exact semR_mono (aget_fresh h) hr
  · exact aget_fresh h _ _ hr
  · trivial
theorem easyL_mono {ms : List Nat} : ∀ {pl : List (Nat × Step)} {p q : List Nat}, (∀ x ∈ q, x ∈ p) → easyL ms p pl = true → easyL ms q pl = true
  | [], _, _, _, _ => rfl
  | (i, st) :: r, p, q, hs, h => by
    have hcons : ∀ j, ∀ x ∈ j :: q, x ∈ j :: p := fun j x hx => by
      rcases List.mem_cons.1 hx with h | h
      · subst h; exact List.mem_cons_self
      · exact List.mem_cons_of_mem _ (hs x h)
    have hall : p.all (fun j => isPred ms i j) = true → q.all (fun j => isPred ms i j) = true := by
      simp only [List.all_eq_true]; exact fun h x hx => h x (hs x hx)
    have hif : ∀ x ∈ (bif st.guard.isSome then q else []), x ∈ (bif st.guard.isSome then p else []) := by
      intro x hx
      cases hg : st.guard.isSome with
      | true => rw [hg] at hx; exact hs x hx
      | false => rw [hg] at hx; cases hx
    unfold easyL at h ⊢
    cases hc : st.k.cls <;> simp only [hc] at h ⊢
    case P => exact easyL_mono hs h
    case R => exact easyL_mono (hcons i) h
    case A => exact easyL_mono (hcons i) h
    case W =>
      simp only [Bool.and_eq_true] at h ⊢
      exact ⟨hall h.1, easyL_mono hif h.2⟩
    case C =>
      simp only [Bool.and_eq_true] at h ⊢
      exact ⟨hall h.1, easyL_mono hif h.2⟩
    all_goals (cases h)
theorem RK_of_easy {ms : List Nat} {Q : St → Prop} : ∀ {pl : List (Nat × Step)} {prev : List Nat} {recs : List Rec} {s : St}, easyL ms prev pl = true → (∀ x ∈ recs, recOk prev s.H x) → RX P G E (pl.map (·.2)) Q s → RK P G E ms pl recs Q s
  | [], prev, recs, s, _, _, h => h
  | (i, st) :: r, prev, recs, s, he, hr, h => by
    simp only [List.map_cons] at h
    obtain ⟨h0, h⟩ := h
    unfold RK
    unfold SW at h
    have snoc : ∀ {prev' : List Nat} {y : Rec} {H' : Heap}, (∀ x ∈ recs, recOk prev' H' x) → recOk prev' H' y → ∀ x ∈ recs ++ [y], recOk prev' H' x := by
      intro prev' y H' h1 h2 x hx
      rcases List.mem_append.1 hx with hx | hx
      · exact h1 x hx
      · simp at hx; subst hx; exact h2
    have more : ∀ {j : Nat} {x : Rec} {H' : Heap}, recOk prev H' x → recOk (j :: prev) H' x := by
      intro j x H' h
      rcases h with h | ⟨h1, h2⟩
      · exact .inl h
      · exact .inr ⟨h1, List.mem_cons_of_mem _ h2⟩
    have kept : ∀ {p : List Nat}, (p.all (fun j => isPred ms i j)) = true → p = prev → ∀ x ∈ recs.filter (fun x => !isPred ms i x.i), trivR x := by
      intro p hp e x hx
      subst e
      rw [List.mem_filter] at hx
      rcases hr x hx.1 with h1 | ⟨_, h1⟩
      · exact h1
      · rw [List.all_eq_true] at hp
        have := hp _ h1
        simp [this] at hx
    have hif : ∀ x ∈ (bif st.guard.isSome then prev else []), x ∈ prev := by
      intro x hx
      cases hg : st.guard.isSome with
      | true => rw [hg] at hx; exact hx
      | false => rw [hg] at hx; cases hx
    split <;> rename_i hw <;> simp only [hw] at h
    · refine RK_of_easy (prev := prev) ?_ (snoc hr (.inl fun _ => trivial)) h
      have hgs : st.guard.isSome = true := by
        cases hg : st.guard with
        | none => rw [hg] at hw; cases hw
        | some g => rfl
      unfold easyL at he
      split at he
      · exact he
      · exact easyL_mono (fun x hx => List.mem_cons_of_mem _ hx) he
      · exact easyL_mono (fun x hx => List.mem_cons_of_mem _ hx) he
      · rw [hgs] at he; simp only [Bool.and_eq_true, cond_true] at he; exact he.2
      · rw [hgs] at he; simp only [Bool.and_eq_true, cond_true] at he; exact he.2
      · cases he
    · split <;> rename_i hv <;> simp only [hv] at h
      unfold easyL at he
      split <;> rename_i hc <;> simp only [hc] at h he
      · obtain ⟨v, h1, h2⟩ := h
        exact ⟨v, h1, RK_of_easy he (snoc hr (.inl fun _ => trivial)) h2⟩
      · obtain ⟨v, h1, h2⟩ := h
        exact ⟨v, h1, RK_of_easy he (snoc (fun x hx => more (hr x hx)) (.inr ⟨h1, List.mem_cons_self⟩)) h2⟩
      · obtain ⟨ob, mk, h1, hnb, h2⟩ := h
        have hfr := h0 hc hw
        have hst : ∀ x ∈ recs, recOk prev (aput s.H s.n ob) x := fun x hx => by
          rcases hr x hx with h | ⟨h3, h4⟩
          · exact .inl h
          · exact .inr ⟨stable_fresh hfr h3, h4⟩
        refine ⟨ob, mk, h1, hnb, fun x hx => ?_, RK_of_easy he (snoc (fun x hx => more (hst x hx)) (.inr ⟨?_, List.mem_cons_self⟩)) h2⟩
        · rcases hst x hx with h | h
          · exact h _
          · exact h.1
        · simp [Rec.stable, aget_aput]
      · obtain ⟨hnb, h1⟩ := h
        simp only [Bool.and_eq_true] at he
        have hk := kept he.1 rfl
        exact ⟨hnb, h1.mono fun v H' n' hh => ⟨fun x hx => hk x hx _, RK_of_easy he.2 (fun x hx => .inl (hk x hx)) hh⟩⟩
      · obtain ⟨f, args, h1, h2⟩ := h
        simp only [Bool.and_eq_true] at he
        have hk := kept he.1 rfl
        exact ⟨f, args, h1, h2.mono fun v H' n' hh => ⟨fun x hx => hk x hx _, RK_of_easy he.2 (fun x hx => .inl (hk x hx)) hh⟩⟩
      · cases he
      · cases he
end
end Go.Cs
namespace Go.Cs
inductive SC where
  | skip | steps (l : List Step) | drawn (pl : List (Nat × Step)) (ms : List Nat) | seq (a b : SC) | cond (c : Operand) (a b : SC) | block (id : Nat) (c : SC) | loop (c : SC) | exit (id : Nat) | ret
  deriving Inhabited
section
variable (P : Program)
def compR (N : Nat) (ops : Array Oper) (draw : Bool) : Option SC :=
  match ops.toList.mapM (stepOf P ops) with
  | none => none
  | some steps =>
    match draw with
    | false => bif dstsB N steps then some (.steps steps) else none
    | true => (planB P N ops steps (planOrder steps (masks ops.toList []))).map fun pl => bif easyL (masks ops.toList []) [] pl then .steps (pl.map (·.2)) else .drawn pl (masks ops.toList [])
def comp (N : Nat) : Code → Option SC
  | .skip => some .skip
  | .region _ ops draw => compR P N ops draw
  | .seq a b => match comp N a, comp N b with
    | some x, some y => some (.seq x y)
    | _, _ => none
  | .cond c a b => match comp N a, comp N b with
    | some x, some y => some (.cond c x y)
    | _, _ => none
  | .block id c => (comp N c).map (.block id)
  | .loop c => (comp N c).map .loop
  | .exit id => some (.exit id)
  | .ret => some .ret
  | .scope c => comp N c
  | .label _ => some .skip
  | _ => none
structure FC where
  ntmps : Nat
  sc : SC
  rvs : List RV
def compF (f : FuncId) : Option FC :=
  match P.funcs[f]? with
  | some fn => match fn.body with
    | some c => bif fn.name == "runtime.NumGoroutine" then none else
        match fn.results.toList.mapM (rvOf P), comp P fn.ntmps c with
        | some rvs, some sc => some { ntmps := fn.ntmps, sc, rvs }
        | _, _ => none
    | none => none
  | none => none
end
section
variable (P : Program) (G : List Nat) (E : Env) (N n0 : Nat)
def WC (sc : SC) (Q : EX → St → Prop) (s : St) : Prop := ∀ c, comp P N c = some sc → W P G N n0 c Q s
end
def strip : Code → Code
  | .scope c => strip c
  | c => c
section
variable {P : Program} {G : List Nat} {E : Env} {N n0 : Nat} {s : St}
theorem comp_strip : ∀ c : Code, comp P N (strip c) = comp P N c := by
  intro c
  induction c with
  | scope c ih => simp only [strip, comp]; exact ih
  | _ => rfl
theorem W_strip : ∀ (c : Code) {Q : EX → St → Prop} {s : St}, W P G N n0 (strip c) Q s → W P G N n0 c Q s := by
  intro c
  induction c with
  | scope c ih => intro Q s h; exact W_scope (ih h)
  | _ => intro Q s h; exact h
theorem strip_scope : ∀ (c x : Code), strip c ≠ .scope x := by
  intro c
  induction c with
  | scope c ih => intro x; exact ih x
  | _ => intro x h; cases h
theorem WC.mono {sc : SC} {Q Q' : EX → St → Prop} (hq : ∀ x s, Q x s → Q' x s) (h : WC P G N n0 sc Q s) : WC P G N n0 sc Q' s := fun c hc => (h c hc).mono hq
theorem WC_steps (hE : EnvOk P E) (hm : P.follows .mixedOrders = true) {l : List Step} {Q : EX → St → Prop} (h : RX P G E l (Q .normal) s) : WC P G N n0 (.steps l) Q s := by
  intro c hc
  apply W_strip
  rw [← comp_strip] at hc
  have hns := strip_scope c
  generalize strip c = d at hc hns
  cases d <;> simp only [comp] at hc
  case region id ops draw =>
    unfold compR at hc
    split at hc
    · cases hc
    · rename_i steps hst
      split at hc
      · cases hd : dstsB N steps with
        | false => rw [hd] at hc; cases hc
        | true =>
          rw [hd, cond_true] at hc; cases hc
          exact W_region hE hst (dstsB_spec hd) h.rs
      · simp only [Option.map_eq_some_iff] at hc
        obtain ⟨pl, hpl, e⟩ := hc
        cases hz : easyL (masks ops.toList []) [] pl with
        | false => rw [hz] at e; cases e
        | true =>
          rw [hz, cond_true] at e; cases e
          exact W_region_draw hE hm hst hpl (RK_of_easy hz (fun _ hx => by cases hx) h)
  case scope x => exact absurd rfl (hns x)
  all_goals first | (cases hc; done) | (split at hc <;> cases hc; done) | (simp only [Option.map_eq_some_iff] at hc; obtain ⟨_, _, e⟩ := hc; cases e)
theorem WC_drawn (hE : EnvOk P E) (hm : P.follows .mixedOrders = true) {pl : List (Nat × Step)} {ms : List Nat} {Q : EX → St → Prop} (h : RK P G E ms pl [] (Q .normal) s) : WC P G N n0 (.drawn pl ms) Q s := by
  intro c hc
  apply W_strip
  rw [← comp_strip] at hc
  have hns := strip_scope c
  generalize strip c = d at hc hns
  cases d <;> simp only [comp] at hc
  case region id ops draw =>
    unfold compR at hc
    split at hc
    · cases hc
    · rename_i steps hst
      split at hc
      · cases hd : dstsB N steps with
        | false => rw [hd] at hc; cases hc
        | true => rw [hd, cond_true] at hc; cases hc
      · simp only [Option.map_eq_some_iff] at hc
        obtain ⟨pl, hpl, e⟩ := hc
        cases hz : easyL (masks ops.toList []) [] pl with
        | true => rw [hz] at e; cases e
        | false =>
          rw [hz, cond_false] at e; cases e
          exact W_region_draw hE hm hst hpl h
  case scope x => exact absurd rfl (hns x)
  all_goals first | (cases hc; done) | (split at hc <;> cases hc; done) | (simp only [Option.map_eq_some_iff] at hc; obtain ⟨_, _, e⟩ := hc; cases e)
theorem compR_kind {N : Nat} {ops : Array Oper} {draw : Bool} {sc : SC} (hc : compR P N ops draw = some sc) : (∃ l, sc = .steps l) ∨ ∃ pl ms, sc = .drawn pl ms := by
  unfold compR at hc
  split at hc
  · cases hc
  · rename_i steps hst
    split at hc
    · cases hd : dstsB N steps with
      | false => rw [hd] at hc; cases hc
      | true => rw [hd, cond_true] at hc; cases hc; exact .inl ⟨_, rfl⟩
    · simp only [Option.map_eq_some_iff] at hc
      obtain ⟨pl, hpl, e⟩ := hc
      cases hz : easyL (masks ops.toList []) [] pl with
      | true => rw [hz] at e; exact .inl ⟨_, e.symm⟩
      | false => rw [hz] at e; exact .inr ⟨_, _, e.symm⟩
theorem WC_seq {a b : SC} {Q : EX → St → Prop} (h : WC P G N n0 a (thenQ (WC P G N n0 b Q) Q) s) : WC P G N n0 (.seq a b) Q s := by
  intro c hc
  apply W_strip
  rw [← comp_strip] at hc
  have hns := strip_scope c
  generalize strip c = d at hc hns
  cases d <;> simp only [comp] at hc
  case region id ops draw => rcases compR_kind hc with ⟨_, e⟩ | ⟨_, _, e⟩ <;> cases e
  case seq x y =>
    split at hc
    · rename_i x' y' hx hy
      cases hc
      refine W_seq ((h x hx).mono fun e s hq => ?_)
      cases e with
      | normal => exact hq y hy
      | _ => exact hq
    · cases hc
  case scope x => exact absurd rfl (hns x)
  all_goals first | (cases hc; done) | (split at hc <;> cases hc; done) | (simp only [Option.map_eq_some_iff] at hc; obtain ⟨_, _, e⟩ := hc; cases e)
theorem WC_cond {o : Operand} {a b : SC} {Q : EX → St → Prop} {t : Bool} (hc : ev G s.T o = some (.bool t)) (ha : t = true → WC P G N n0 a Q s) (hb : t = false → WC P G N n0 b Q s) : WC P G N n0 (.cond o a b) Q s := by
  intro c hcc
  apply W_strip
  rw [← comp_strip] at hcc
  have hns := strip_scope c
  generalize strip c = d at hcc hns
  cases d <;> simp only [comp] at hcc
  case region id ops draw => rcases compR_kind hcc with ⟨_, e⟩ | ⟨_, _, e⟩ <;> cases e
  case cond o' x y =>
    split at hcc
    · rename_i x' y' hx hy
      cases hcc
      refine W_cond hc ?_
      cases t with
      | true => exact ha rfl x hx
      | false => exact hb rfl y hy
    · cases hcc
  case scope x => exact absurd rfl (hns x)
  all_goals first | (cases hcc; done) | (split at hcc <;> cases hcc; done) | (simp only [Option.map_eq_some_iff] at hcc; obtain ⟨_, _, e⟩ := hcc; cases e)
theorem WC_block {id : Nat} {a : SC} {Q : EX → St → Prop} (h : WC P G N n0 a (blockQ id Q) s) : WC P G N n0 (.block id a) Q s := by
  intro c hc
  apply W_strip
  rw [← comp_strip] at hc
  have hns := strip_scope c
  generalize strip c = d at hc hns
  cases d <;> simp only [comp] at hc
  case region id ops draw => rcases compR_kind hc with ⟨_, e⟩ | ⟨_, _, e⟩ <;> cases e
  case block id x =>
    simp only [Option.map_eq_some_iff] at hc
    obtain ⟨x', hx, e⟩ := hc
    cases e
    exact W_block (h x hx)
  case scope x => exact absurd rfl (hns x)
  all_goals first | (cases hc; done) | (split at hc <;> cases hc; done) | (simp only [Option.map_eq_some_iff] at hc; obtain ⟨_, _, e⟩ := hc; cases e)
theorem WC_skip {Q : EX → St → Prop} (h : Q .normal s) : WC P G N n0 .skip Q s := by
  intro c hc
  apply W_strip
  rw [← comp_strip] at hc
  have hns := strip_scope c
  generalize strip c = d at hc hns
  cases d <;> simp only [comp] at hc
  case region id ops draw => rcases compR_kind hc with ⟨_, e⟩ | ⟨_, _, e⟩ <;> cases e
  case skip => exact W_skip h
  case label l => exact W_label h
  case scope x => exact absurd rfl (hns x)
  all_goals first | (cases hc; done) | (split at hc <;> cases hc; done) | (simp only [Option.map_eq_some_iff] at hc; obtain ⟨_, _, e⟩ := hc; cases e)
theorem WC_ret {Q : EX → St → Prop} (h : Q .ret s) : WC P G N n0 .ret Q s := by
  intro c hc
  apply W_strip
  rw [← comp_strip] at hc
  have hns := strip_scope c
  generalize strip c = d at hc hns
  cases d <;> simp only [comp] at hc
  case region id ops draw => rcases compR_kind hc with ⟨_, e⟩ | ⟨_, _, e⟩ <;> cases e
  case ret => exact W_ret h
  case scope x => exact absurd rfl (hns x)
  all_goals first | (cases hc; done) | (split at hc <;> cases hc; done) | (simp only [Option.map_eq_some_iff] at hc; obtain ⟨_, _, e⟩ := hc; cases e)
theorem WC_exit {i : Nat} {Q : EX → St → Prop} (h : Q (.exit i) s) : WC P G N n0 (.exit i) Q s := by
  intro c hc
  apply W_strip
  rw [← comp_strip] at hc
  have hns := strip_scope c
  generalize strip c = d at hc hns
  cases d <;> simp only [comp] at hc
  case region id ops draw => rcases compR_kind hc with ⟨_, e⟩ | ⟨_, _, e⟩ <;> cases e
  case exit => cases hc; exact W_exit h
  case scope x => exact absurd rfl (hns x)
  all_goals first | (cases hc; done) | (split at hc <;> cases hc; done) | (simp only [Option.map_eq_some_iff] at hc; obtain ⟨_, _, e⟩ := hc; cases e)
def initL : List Value → Nat → List (Nat × Value)
  | [], _ => []
  | v :: vs, k => (k, v) :: initL vs (k + 1)
theorem lk_initL : ∀ (vs : List Value) (k j : Nat) (v : Value), lk (initL vs k) j = some v → aget (initT vs k) j = some v
  | [], k, j, v, h => by cases h
  | u :: vs, k, j, v, h => by
    simp only [initL, lk, Bool.cond_eq_ite, Nat.beq_eq] at h
    simp only [initT, aget_aput]
    split at h
    · rename_i hk; rw [if_pos hk]; exact h
    · rename_i hk; rw [if_neg hk]; exact lk_initL vs (k + 1) j v h
theorem F_of_comp {f : FuncId} {fc : FC} (hf : compF P f = some fc) {args : List Value} {H : Heap} {n : Nat} {post : Value → Heap → Nat → Prop} (hN : Nat.ble args.length fc.ntmps = true)
    (h : WC P G fc.ntmps n fc.sc (EndsD P G fc.rvs post) { T := .lst (initL args 0), D := [], H := H, n := n }) : F P G f args H n post := by
  unfold compF at hf
  split at hf
  case h_2 => cases hf
  rename_i fn h1
  split at hf
  case h_2 => cases hf
  rename_i c h2
  cases hn : fn.name == "runtime.NumGoroutine" with
  | true => rw [hn] at hf; cases hf
  | false =>
    rw [hn, cond_false] at hf
    split at hf
    case h_2 => cases hf
    rename_i rvs sc h3 h4
    cases hf
    refine F_of_bodyD h1 h2 hn (Nat.le_of_ble_eq_true hN) h3 fun β0 w0 β a w h0 hr hf => h c h4 β0 w0 β a w h0 ⟨⟨hr.t.1, fun k v hk => hr.t.2 k v ?_⟩, hr.d, hr.h⟩ hf
    exact lk_initL args 0 k v hk
variable {st : Step} {r : List Step} {Q : St → Prop} {vs : List Value} {v : Value}
theorem RX_P (hc : st.k.cls = .P) (hw : wantT s.T st.guard = some true) (ha : evs G s.T st.args = some vs) (hv : semP E st.k vs = some v) (h : RX P G E r Q { T := putT st.dst v s.T, D := s.D, H := s.H, n := s.n }) : RX P G E (st :: r) Q s := by
  unfold RX SW
  simp only [hw, ha, hc]
  exact ⟨fun h => (by cases h), v, hv, h⟩
theorem RX_R (hc : st.k.cls = .R) (hw : wantT s.T st.guard = some true) (ha : evs G s.T st.args = some vs) (hv : semR st.k vs s.H = some v) (h : RX P G E r Q { T := putT st.dst v s.T, D := s.D, H := s.H, n := s.n }) : RX P G E (st :: r) Q s := by
  unfold RX SW
  simp only [hw, ha, hc]
  exact ⟨fun h => (by cases h), v, hv, h⟩
theorem RX_A {ob : AObj} {mk : Mk} (hc : st.k.cls = .A) (hw : wantT s.T st.guard = some true) (ha : evs G s.T st.args = some vs) (hv : semA st.k vs = some (ob, mk)) (hf : aget s.H s.n = none) (hn : Nat.blt s.n big = true)
    (h : RX P G E r Q { T := putT st.dst (mk.val s.n) s.T, D := s.D, H := aput s.H s.n ob, n := s.n + 1 }) : RX P G E (st :: r) Q s := by
  unfold RX SW
  simp only [hw, ha, hc]
  exact ⟨fun _ _ => hf, ob, mk, hv, by simpa [Nat.blt_eq] using hn, h⟩
theorem RX_W {H' : Heap} {n' : Nat} (hc : st.k.cls = .W) (hw : wantT s.T st.guard = some true) (ha : evs G s.T st.args = some vs) (hv : semW st.k vs s.H s.n = some (v, H', n')) (hn : Nat.blt s.n big = true) (h : RX P G E r Q { T := putT st.dst v s.T, D := s.D, H := H', n := n' }) : RX P G E (st :: r) Q s := by
  unfold RX SW
  simp only [hw, ha, hc]
  exact ⟨fun h => (by cases h), by simpa [Nat.blt_eq] using hn, .inl ⟨v, H', n', hv, h⟩⟩
theorem RX_N (hc : st.k.cls = .N) (hw : wantT s.T st.guard = some true) (ha : evs G s.T st.args = some vs) (h : SN st.k vs s.H s.n fun v H n => RX P G E r Q { T := putT st.dst v s.T, D := s.D, H := H, n := n }) : RX P G E (st :: r) Q s := by
  unfold RX SW
  simp only [hw, ha, hc]
  exact ⟨fun h => (by cases h), h⟩
theorem RX_C {f : FuncId} {args : List Value} {post : Value → Heap → Nat → Prop} (hc : st.k.cls = .C) (hw : wantT s.T st.guard = some true) (ha : evs G s.T st.args = some vs) (ht : target E st.k vs = some (f, args)) (hf : F P G f args s.H s.n post)
    (h : ∀ v H n, post v H n → RX P G E r Q { T := putT st.dst v s.T, D := s.D, H := H, n := n }) : RX P G E (st :: r) Q s := by
  unfold RX SW
  simp only [hw, ha, hc]
  exact ⟨fun h => (by cases h), f, args, ht, hf.mono h⟩
theorem RX_D {d : Value} (hc : st.k.cls = .D) (hw : wantT s.T st.guard = some true) (ha : evs G s.T st.args = some [d]) (hd : isFn d = true) (h : RX P G E r Q { T := putT st.dst undef s.T, D := d :: s.D, H := s.H, n := s.n }) : RX P G E (st :: r) Q s := by
  unfold RX SW
  simp only [hw, ha, hc]
  exact ⟨fun h => (by cases h), d, rfl, hd, h⟩
theorem RX_skip (hw : wantT s.T st.guard = some false) (h : RX P G E r Q { T := putT st.dst undef s.T, D := s.D, H := s.H, n := s.n }) : RX P G E (st :: r) Q s := by
  unfold RX SW
  simp only [hw]
  exact ⟨fun _ h => (by cases h), h⟩
theorem RXn (h : Q s) : RX P G E [] Q s := h
theorem WC_condT {c : Operand} {a b : SC} {Q : EX → St → Prop} (hc : ev G s.T c = some (.bool true)) (ha : WC P G N n0 a Q s) : WC P G N n0 (.cond c a b) Q s := WC_cond hc (fun _ => ha) (fun h => by cases h)
theorem WC_condF {c : Operand} {a b : SC} {Q : EX → St → Prop} (hc : ev G s.T c = some (.bool false)) (hb : WC P G N n0 b Q s) : WC P G N n0 (.cond c a b) Q s := WC_cond hc (fun h => by cases h) (fun _ => hb)
theorem WC_go (hE : EnvOk P E) (hm : P.follows .mixedOrders = true) {l : List Step} {b : SC} {Q : EX → St → Prop} (h : RX P G E l (WC P G N n0 b Q) s) : WC P G N n0 (.seq (.steps l) b) Q s := WC_seq (WC_steps hE hm h)
theorem thenN {K : St → Prop} {Q : EX → St → Prop} (h : K s) : thenQ K Q .normal s := h
theorem thenE {K : St → Prop} {Q : EX → St → Prop} {i : Nat} (h : Q (.exit i) s) : thenQ K Q (.exit i) s := h
theorem thenR {K : St → Prop} {Q : EX → St → Prop} (h : Q .ret s) : thenQ K Q .ret s := h
theorem blockN {Q : EX → St → Prop} {i : Nat} (h : Q .normal s) : blockQ i Q .normal s := h
theorem blockR {Q : EX → St → Prop} {i : Nat} (h : Q .ret s) : blockQ i Q .ret s := h
theorem blockE {Q : EX → St → Prop} {i : Nat} (h : Q .normal s) : blockQ i Q (.exit i) s := by simp only [blockQ, if_true]; exact h
theorem endN {rvs : List RV} {post : Value → Heap → Nat → Prop} {vs : List Value} {T : AL Value} {H : Heap} {n : Nat} (hv : rvVals T H rvs = some vs) (h : post (packV vs) H n) : EndsD P G rvs post .normal { T := T, D := [], H := H, n := n } := ⟨vs, hv, h⟩
theorem endR {rvs : List RV} {post : Value → Heap → Nat → Prop} {vs : List Value} {T : AL Value} {H : Heap} {n : Nat} (hv : rvVals T H rvs = some vs) (h : post (packV vs) H n) : EndsD P G rvs post .ret { T := T, D := [], H := H, n := n } := ⟨vs, hv, h⟩
end
end Go.Cs
namespace Go.Cs
mutual
def renV (σ : Nat → Nat) : Value → Value
  | .pointer (some ⟨b, o, none⟩) => .pointer (some ⟨σ b, o, none⟩)
  | .slice (some ⟨b, o, none⟩) l c => .slice (some ⟨σ b, o, none⟩) l c
  | .map (some b) => .map (some (σ b))
  | .func fn xs us => .func fn (renA σ xs) (renA σ us)
  | .iface t v => .iface t (renV σ v)
  | .agg xs => .agg (renA σ xs)
  | .tuple xs => .tuple (renA σ xs)
  | v => v
def renA (σ : Nat → Nat) : Array Value → Array Value
  | ⟨l⟩ => ⟨renL σ l⟩
def renL (σ : Nat → Nat) : List Value → List Value
  | [] => []
  | x :: xs => renV σ x :: renL σ xs
end
mutual
def idsV : Value → List Nat
  | .pointer (some ⟨b, _, none⟩) => [b]
  | .slice (some ⟨b, _, none⟩) _ _ => [b]
  | .map (some b) => [b]
  | .func _ xs us => idsA xs ++ idsA us
  | .iface _ v => idsV v
  | .agg xs => idsA xs
  | .tuple xs => idsA xs
  | _ => []
def idsA : Array Value → List Nat
  | ⟨l⟩ => idsL l
def idsL : List Value → List Nat
  | [] => []
  | x :: xs => idsV x ++ idsL xs
end
theorem renA_toList (σ : Nat → Nat) (a : Array Value) : (renA σ a).toList = renL σ a.toList := by
  obtain ⟨l⟩ := a; simp [renA]
theorem idsA_eq (a : Array Value) : idsA a = idsL a.toList := by
  obtain ⟨l⟩ := a; simp [idsA]
theorem renL_map (σ : Nat → Nat) : ∀ l, renL σ l = l.map (renV σ)
  | [] => rfl
  | x :: xs => by simp [renL, renL_map σ xs]
theorem renL_length (σ : Nat → Nat) (l : List Value) : (renL σ l).length = l.length := by simp [renL_map]
theorem renV_flat (σ : Nat → Nat) {v : Value} (h : flat v = true) : renV σ v = v := by
  unfold flat at h
  split at h <;> first | rfl | cases h
mutual
theorem renV_of {σ : Nat → Nat} {β : Ren} : ∀ {v v' : Value}, VR (fun i => β (σ i)) v v' → VR β (renV σ v) v'
  | _, _, .same f => by rw [renV_flat σ f]; exact .same f
  | _, _, .ptr e => .ptr e
  | _, _, .slice e r => .slice e r
  | _, _, .sliceR e r a b c d => .sliceR e r a b c d
  | _, _, .slice0 => .slice0
  | _, _, .map e => .map e
  | _, _, .func a b => by
    simp only [renV]
    refine .func ?_ ?_
    · rw [renA_toList]; exact renL_of a
    · rw [renA_toList]; exact renL_of b
  | _, _, .iface a => .iface (renV_of a)
  | _, _, .agg a => by simp only [renV]; refine .agg ?_; rw [renA_toList]; exact renL_of a
  | _, _, .tuple a => by simp only [renV]; refine .tuple ?_; rw [renA_toList]; exact renL_of a
theorem renL_of {σ : Nat → Nat} {β : Ren} : ∀ {v v' : List Value}, VRs (fun i => β (σ i)) v v' → VRs β (renL σ v) v'
  | _, _, .nil => .nil
  | _, _, .cons a b => .cons (renV_of a) (renL_of b)
end
mutual
theorem renV_to {σ : Nat → Nat} {β : Ren} : ∀ (v : Value) {v' : Value}, VR β (renV σ v) v' → VR (fun i => β (σ i)) v v'
  | .pointer (some ⟨b, o, none⟩), v', h => by
    simp only [renV] at h
    cases h with
    | same f => simp [flat] at f
    | ptr e => exact .ptr (β := fun i => β (σ i)) e
  | .slice (some ⟨b, o, none⟩) l c, v', h => by
    simp only [renV] at h
    cases h with
    | same f => simp [flat] at f
    | slice e r => exact .slice (β := fun i => β (σ i)) e r
    | sliceR e r a b c d => exact .sliceR (β := fun i => β (σ i)) e r a b c d
  | .map (some b), v', h => by
    simp only [renV] at h
    cases h with
    | same f => simp [flat] at f
    | map e => exact .map (β := fun i => β (σ i)) e
  | .func fn ⟨xs⟩ ⟨us⟩, v', h => by
    simp only [renV, renA] at h
    cases h with
    | same f => simp [flat] at f
    | func a b => exact .func (renL_to xs a) (renL_to us b)
  | .iface t u, v', h => by
    simp only [renV] at h
    cases h with
    | same f => simp [flat] at f
    | iface a => exact .iface (renV_to u a)
  | .agg ⟨xs⟩, v', h => by
    simp only [renV, renA] at h
    cases h with
    | same f => simp [flat] at f
    | agg a => exact .agg (renL_to xs a)
  | .tuple ⟨xs⟩, v', h => by
    simp only [renV, renA] at h
    cases h with
    | same f => simp [flat] at f
    | tuple a => exact .tuple (renL_to xs a)
  | .bool b, v', h => by simp only [renV] at h; cases h with | same f => exact .same f
  | .int k n, v', h => by simp only [renV] at h; cases h with | same f => exact .same f
  | .float k n, v', h => by simp only [renV] at h; cases h with | same f => exact .same f
  | .complex k n m, v', h => by simp only [renV] at h; cases h with | same f => exact .same f
  | .string s, v', h => by simp only [renV] at h; cases h with | same f => exact .same f
  | .pointer none, v', h => by simp only [renV] at h; cases h with | same f => exact .same f
  | .slice none l c, v', h => by
    simp only [renV] at h
    cases h with
    | same f => exact .same f
    | slice0 => exact .slice0
  | .map none, v', h => by simp only [renV] at h; cases h with | same f => exact .same f
  | .chan r, v', h => by simp only [renV] at h; cases h with | same f => exact .same f
  | .nilFunc, v', h => by simp only [renV] at h; cases h with | same f => exact .same f
  | .nilIface, v', h => by simp only [renV] at h; cases h with | same f => exact .same f
  | .pointer (some ⟨b, o, some p⟩), v', h => by simp only [renV] at h; cases h with | same f => exact .same f
  | .slice (some ⟨b, o, some p⟩) l c, v', h => by simp only [renV] at h; cases h with | same f => exact .same f
theorem renL_to {σ : Nat → Nat} {β : Ren} : ∀ (v : List Value) {v' : List Value}, VRs β (renL σ v) v' → VRs (fun i => β (σ i)) v v'
  | [], _, h => by cases h; exact .nil
  | x :: xs, _, h => by
    simp only [renL] at h
    cases h with
    | cons a b => exact .cons (renV_to x a) (renL_to xs b)
end
def Ren.only (β : Ren) (S : Nat → Bool) : Ren := fun i => bif S i then β i else none
theorem Ren.only_at {β : Ren} {S : Nat → Bool} {i : Nat} {e : Bl} (h : β i = some e) (hs : S i = true) : β.only S i = some e := by simp [Ren.only, hs, h]
theorem Ren.only_le {β : Ren} {S : Nat → Bool} : Ren.le (β.only S) β := by
  intro i e h
  unfold Ren.only at h
  cases hs : S i with
  | true => rw [hs] at h; exact h
  | false => rw [hs] at h; cases h
mutual
theorem VR.only {β : Ren} {S : Nat → Bool} : ∀ {v v' : Value}, VR β v v' → (∀ i ∈ idsV v, S i = true) → VR (β.only S) v v'
  | _, _, .same f, _ => .same f
  | _, _, .ptr e, h => .ptr (Ren.only_at e (h _ (by simp [idsV])))
  | _, _, .slice e r, h => .slice (Ren.only_at e (h _ (by simp [idsV]))) r
  | _, _, .sliceR e r a b c d, h => .sliceR (Ren.only_at e (h _ (by simp [idsV]))) r a b c d
  | _, _, .slice0, _ => .slice0
  | _, _, .map e, h => .map (Ren.only_at e (h _ (by simp [idsV])))
  | _, _, .func a b, h => .func (VRs.only a fun i hi => h i (by simp only [idsV, idsA_eq, List.mem_append]; exact .inl hi)) (VRs.only b fun i hi => h i (by simp only [idsV, idsA_eq, List.mem_append]; exact .inr hi))
  | _, _, .iface a, h => .iface (VR.only a fun i hi => h i (by simpa only [idsV] using hi))
  | _, _, .agg a, h => .agg (VRs.only a fun i hi => h i (by simpa only [idsV, idsA_eq] using hi))
  | _, _, .tuple a, h => .tuple (VRs.only a fun i hi => h i (by simpa only [idsV, idsA_eq] using hi))
theorem VRs.only {β : Ren} {S : Nat → Bool} : ∀ {v v' : List Value}, VRs β v v' → (∀ i ∈ idsL v, S i = true) → VRs (β.only S) v v'
  | _, _, .nil, _ => .nil
  | _, _, .cons a b, h => .cons (VR.only a fun i hi => h i (by simp only [idsL, List.mem_append]; exact .inl hi)) (VRs.only b fun i hi => h i (by simp only [idsL, List.mem_append]; exact .inr hi))
end
def renE (σ : Nat → Nat) (e : MapEntry) : MapEntry := { e with key := renV σ e.key, val := renV σ e.val }
def renO (σ : Nat → Nat) : AObj → AObj
  | .cells cs t g => .cells (renL σ cs) t g
  | .map es k => .map (es.map (renE σ)) k
  | .ro cs t => .ro (renL σ cs) t
  | .iter s p => .iter s p
  | .miter m a b c => .miter (m.map σ) a b c
  | .pin cs o => .pin (cs.map (Option.map (renV σ))) o
  | .dead => .dead
def idsO : AObj → List Nat
  | .cells cs _ _ => idsL cs
  | .map es _ => es.flatMap fun e => idsV e.key ++ idsV e.val
  | .ro cs _ => idsL cs
  | .iter _ _ => []
  | .miter m _ _ _ => m.toList
  | .pin cs _ => cs.flatMap fun x => match x with
    | some v => idsV v
    | none => []
  | .dead => []
theorem renO_live (σ : Nat → Nat) (o : AObj) : (renO σ o).live = o.live := by cases o <;> rfl
theorem renE_of {σ : Nat → Nat} {β : Ren} : ∀ {v v' : List MapEntry}, ERs (fun i => β (σ i)) v v' → ERs β (v.map (renE σ)) v'
  | _, _, .nil => .nil
  | _, _, .cons a b c d => .cons (renV_of a) (renV_of b) c (renE_of d)
theorem renE_to {σ : Nat → Nat} {β : Ren} : ∀ (v : List MapEntry) {v' : List MapEntry}, ERs β (v.map (renE σ)) v' → ERs (fun i => β (σ i)) v v'
  | [], _, h => by cases h; exact .nil
  | x :: xs, _, h => by
    simp only [List.map_cons] at h
    cases h with
    | cons a b c d => exact .cons (renV_to x.key a) (renV_to x.val b) c (renE_to xs d)
theorem ERs.only {β : Ren} {S : Nat → Bool} : ∀ {v v' : List MapEntry}, ERs β v v' → (∀ i ∈ v.flatMap fun e => idsV e.key ++ idsV e.val, S i = true) → ERs (β.only S) v v'
  | _, _, .nil, _ => .nil
  | _, _, .cons a b c d, h => .cons (VR.only a fun i hi => h i (by simp [hi])) (VR.only b fun i hi => h i (by simp [hi])) c (ERs.only d fun i hi => h i (by
      simp only [List.flatMap_cons, List.mem_append]; exact .inr hi))
theorem OR.ren_of {σ : Nat → Nat} {β : Ren} {e : Bl} {o : AObj} {b : Obj} (h : OR (fun i => β (σ i)) e o b) : OR β e (renO σ o) b := by
  cases h with
  | exact a1 a2 a3 a4 => exact .exact a1 a2 (renL_of a3) a4
  | grown a1 a2 a3 a4 => exact .grown a1 (by rw [renL_length]; exact a2) (by rw [renL_length]; exact renL_of a3) a4
  | ro a1 a2 => exact .ro (by rw [renL_length]; exact a1) (by rw [renL_length]; exact renL_of a2)
  | map a => exact .map (renE_of a)
  | iter a => exact .iter a
  | miter a b => exact .miter a b
  | miter0 a => exact .miter0 a
  | pin a b d =>
    refine .pin a b fun j v hj => ?_
    rw [List.getElem?_map] at hj
    rename_i cs c t fr
    cases hc : cs[j]? with
    | none => rw [hc] at hj; cases hj
    | some x =>
      cases x with
      | none => rw [hc] at hj; cases hj
      | some u =>
        rw [hc] at hj
        simp only [Option.map_some, Option.some.injEq] at hj
        subst hj
        obtain ⟨v', h1, h2, h3⟩ := d j u hc
        exact ⟨v', h1, renV_of h2, h3⟩
  | dead => exact .dead
theorem OR.ren_to {σ : Nat → Nat} {β : Ren} {e : Bl} {o : AObj} {b : Obj} (h : OR β e (renO σ o) b) : OR (fun i => β (σ i)) e o b := by
  cases o with
  | cells cs t g =>
    simp only [renO] at h
    cases h with
    | exact a1 a2 a3 a4 => exact .exact a1 a2 (renL_to cs a3) a4
    | grown a1 a2 a3 a4 => rw [renL_length] at a2 a3; exact .grown a1 a2 (renL_to cs a3) a4
  | map es k => simp only [renO] at h; cases h with | map a => exact .map (renE_to es a)
  | ro cs t => simp only [renO] at h; cases h with | ro a1 a2 => rw [renL_length] at a1 a2; exact .ro a1 (renL_to cs a2)
  | iter s p => simp only [renO] at h; cases h with | iter a => exact .iter a
  | miter m a1 a2 a3 =>
    cases m with
    | none => simp only [renO, Option.map_none] at h; cases h with | miter0 a => exact .miter0 a
    | some m => simp only [renO, Option.map_some] at h; cases h with | miter a b => exact .miter a b
  | pin cs o =>
    simp only [renO] at h
    cases h with
    | pin a b d =>
      refine .pin a b fun j v hj => ?_
      obtain ⟨v', h1, h2, h3⟩ := d j (renV σ v) (by rw [List.getElem?_map, hj]; rfl)
      exact ⟨v', h1, renV_to v h2, h3⟩
  | dead => exact .dead
theorem OR.only {β : Ren} {S : Nat → Bool} {e : Bl} {o : AObj} {b : Obj} (h : OR β e o b) (hi : ∀ i ∈ idsO o, S i = true) : OR (β.only S) e o b := by
  cases h with
  | exact a1 a2 a3 a4 => exact .exact a1 a2 (a3.only hi) a4
  | grown a1 a2 a3 a4 => exact .grown a1 a2 (a3.only hi) a4
  | ro a1 a2 => exact .ro a1 (a2.only hi)
  | map a => exact .map (a.only hi)
  | iter a => exact .iter a
  | miter a b => exact .miter a (Ren.only_at b (hi _ (by simp [idsO])))
  | miter0 a => exact .miter0 a
  | pin a b d =>
    refine .pin a b fun j v hj => ?_
    obtain ⟨v', h1, h2, h3⟩ := d j v hj
    refine ⟨v', h1, h2.only fun i hi' => hi i ?_, h3⟩
    simp only [idsO, List.mem_flatMap]
    exact ⟨some v, List.mem_of_getElem? hj, hi'⟩
  | dead => exact .dead
def ofL {α : Type} (L : List (Nat × α)) : AL α := .lst L
theorem lk_eq {α : Type} : ∀ (L : List (Nat × α)) (k : Nat), lk L k = L.lookup k
  | [], k => rfl
  | (j, v) :: r, k => by
    simp only [lk, List.lookup_cons, lk_eq r]
    by_cases h : j = k
    · subst h; simp
    · have : (k == j) = false := by simp; exact fun h2 => h h2.symm
      simp [h, this, Bool.cond_eq_ite]
theorem aget_ofL {α : Type} (L : List (Nat × α)) (k : Nat) : aget (ofL L) k = L.lookup k := lk_eq L k
theorem mem_of_lookup {α : Type} : ∀ {L : List (Nat × α)} {k : Nat} {v : α}, L.lookup k = some v → (k, v) ∈ L
  | [], k, v, h => by cases h
  | (j, u) :: r, k, v, h => by
    rw [List.lookup_cons] at h
    split at h
    · rename_i hk; cases h; have : k = j := by simpa using hk
      subst this; exact List.mem_cons_self
    · exact List.mem_cons_of_mem _ (mem_of_lookup h)
end Go.Cs
namespace Go.Cs
section
variable {P : Program} {G : List Nat} {E : Env} {N n0 : Nat}
structure Sub (n0 : Nat) (σ : Nat → Nat) (s s2 : St) : Prop where
  low : ∀ i, i < n0 → σ i = i
  hi : ∀ i, Cs.big ≤ i → σ i = i
  mid : ∀ i, n0 ≤ i → i < Cs.big → n0 ≤ σ i ∧ σ i < Cs.big
  out : ∀ i, s2.n ≤ i → i < Cs.big → σ i = s.n
  sn : s.n < Cs.big
  n2 : n0 ≤ s2.n
  T : ∀ k v, aget s2.T k = some v → aget s.T k = some (renV σ v)
  D : s.D = renL σ s2.D
  H : ∀ i o, aget s2.H i = some o → o.live = true → aget s.H (σ i) = some (renO σ o)
  inj : ∀ i j, isLive s2.H i → isLive s2.H j → σ i = σ j → i = j
theorem renD_to {σ : Nat → Nat} {β : Ren} : ∀ (v : List Value) {v' : List Deferred}, DR β (renL σ v) v' → DR (fun i => β (σ i)) v v'
  | [], _, h => by cases h; exact .nil
  | x :: xs, _, h => by
    simp only [renL] at h
    generalize hx : renV σ x = y at h
    cases h with
    | cons a b c =>
      cases x with
      | func f xs us =>
        obtain ⟨xs⟩ := xs
        obtain ⟨us⟩ := us
        simp only [renV, renA, Value.func.injEq] at hx
        obtain ⟨rfl, rfl, rfl⟩ := hx
        exact .cons (renL_to xs a) (renL_to us b) (renD_to _ c)
      | pointer a => exfalso; unfold renV at hx; split at hx <;> simp_all
      | slice a l c => exfalso; unfold renV at hx; split at hx <;> simp_all
      | map a => exfalso; unfold renV at hx; split at hx <;> simp_all
      | _ => exfalso; simp only [renV] at hx; cases hx
theorem Sub.rel {σ : Nat → Nat} {s s2 : St} (hs : Sub n0 σ s s2) (hG : ∀ g ∈ G, g < n0) {β0 β : Ren} {w0 w : World} {a : Act} (h0 : Dom0 β0 n0) (hr : Rel G N β s a w) (hf : Fr β0 n0 w0 β s.n w) :
    Rel G N (fun i => β (σ i)) s2 a w ∧ Fr β0 n0 w0 (fun i => β (σ i)) s2.n w := by
  have hnone : β s.n = none := hr.h.fresh hs.sn
  refine ⟨⟨⟨hr.t.1, fun k v hk => ?_⟩, ?_, ?_⟩, ?_⟩
  · obtain ⟨v', h1, h2⟩ := hr.t.2 k _ (hs.T k v hk)
    exact ⟨v', h1, renV_to v h2⟩
  · have := hr.d
    rw [hs.D] at this
    exact renD_to _ this
  · refine ⟨fun g hg => ?_, fun {i e} hi => ?_, ?_, fun {i j e f} hi hj li lj he => ?_, fun {i e o} hi ho => ?_⟩
    · show β (σ g) = _
      rw [hs.low g (hG g hg)]
      exact hr.h.glob g hg
    · refine ⟨?_, (hr.h.dom hi).2⟩
      rcases Nat.lt_or_ge i s2.n with h | h
      · exact .inl h
      · rcases Nat.lt_or_ge i Cs.big with h2 | h2
        · simp only [hs.out i h h2, hnone] at hi; cases hi
        · exact .inr h2
    · obtain ⟨M, hM⟩ := hr.h.fin
      refine ⟨max s2.n M, fun i e hi => ?_⟩
      rcases Nat.lt_or_ge i s2.n with h | h
      · omega
      · rcases Nat.lt_or_ge i Cs.big with h2 | h2
        · simp only [hs.out i h h2, hnone] at hi; cases hi
        · have := hM _ _ hi
          rw [hs.hi i h2] at this; omega
    · have live : ∀ {i}, isLive s2.H i → isLive s.H (σ i) := fun {i} ⟨o, h1, h2⟩ => ⟨_, hs.H i o h1 h2, by rw [renO_live]; exact h2⟩
      exact hs.inj i j li lj (hr.h.inj hi hj (live li) (live lj) he)
    · by_cases hl : o.live = true
      · obtain ⟨b, h1, h2⟩ := hr.h.obj hi (hs.H i o ho hl)
        exact ⟨b, h1, h2.ren_to⟩
      · have : o = .dead := by cases o <;> first | rfl | exact absurd rfl hl
        subst this
        have hlt := (hr.h.dom hi).2
        exact ⟨w.heap[e.blk], by simp [hlt], .dead⟩
  · refine ⟨fun i e hi => ?_, fun {i e} hi => ?_, hs.n2, hf.size, fun b hb hno => hf.keep b hb hno, hf.os, hf.tape, hf.output⟩
    · show β (σ i) = some e
      rcases h0 i e hi with h | h
      · rw [hs.low i h]; exact hf.ext i e hi
      · rw [hs.hi i h]; exact hf.ext i e hi
    · have hi' : β (σ i) = some e := hi
      rcases Nat.lt_or_ge i n0 with h | h
      · rw [hs.low i h] at hi'
        rcases hf.new hi' with h1 | h1
        · exact .inl h1
        · omega
      · rcases Nat.lt_or_ge i Cs.big with h2 | h2
        · obtain ⟨m1, m2⟩ := hs.mid i h h2
          rcases hf.new hi' with h1 | h1
          · rcases h0 _ _ h1 with h3 | h3 <;> omega
          · exact .inr ⟨h, h1.2⟩
        · rw [hs.hi i h2] at hi'
          rcases hf.new hi' with h1 | h1
          · exact .inl h1
          · exact .inr ⟨h, h1.2⟩
def sig (n0 : Nat) (L : List (Nat × Nat)) (sn : Nat) : Nat → Nat := fun i => bif Nat.blt i n0 then i else bif Nat.ble big i then i else match L.lookup i with
  | some j => j
  | none => sn
theorem Sub.of {n0 : Nat} (L : List (Nat × Nat)) {s s2 : St} {LT : List (Nat × Value)} {LH : List (Nat × AObj)} (hT : s2.T = ofL LT) (hH : s2.H = ofL LH)
    (hsn : Nat.blt s.n big = true) (hn2 : Nat.ble n0 s2.n = true) (hn0 : Nat.ble n0 s.n = true) (hL : (L.all fun p => Nat.ble n0 p.1 && Nat.blt p.1 s2.n && Nat.ble n0 p.2 && Nat.blt p.2 big) = true)
    (h1 : ∀ p ∈ LT, aget s.T p.1 = some (renV (sig n0 L s.n) p.2)) (h2 : s.D = renL (sig n0 L s.n) s2.D) (h3 : ∀ p ∈ LH, p.2 = .dead ∨ aget s.H (sig n0 L s.n p.1) = some (renO (sig n0 L s.n) p.2))
    (h4 : (LH.map fun p => sig n0 L s.n p.1).Nodup) : Sub n0 (sig n0 L s.n) s s2 := by
  have hLm : ∀ {i j}, L.lookup i = some j → n0 ≤ i ∧ i < s2.n ∧ n0 ≤ j ∧ j < big := by
    intro i j h
    rw [List.all_eq_true] at hL
    have := hL _ (mem_of_lookup h)
    simp only [Bool.and_eq_true, Nat.ble_eq, Nat.blt_eq] at this
    exact ⟨this.1.1.1, this.1.1.2, this.1.2, this.2⟩
  rw [Nat.blt_eq] at hsn
  rw [Nat.ble_eq] at hn2 hn0
  have hb : ∀ {i}, Nat.blt i n0 = true ↔ i < n0 := fun {i} => by rw [Nat.blt_eq]
  have hlow : ∀ i, i < n0 → sig n0 L s.n i = i := by
    intro i hi; unfold sig; rw [hb.2 hi]; rfl
  have hbig : ∀ i, big ≤ i → sig n0 L s.n i = i := by
    intro i hi; unfold sig
    cases Nat.blt i n0 with
    | true => rfl
    | false => rw [show Nat.ble Cs.big i = true from Nat.ble_eq_true_of_le hi]; rfl
  have hmid : ∀ i, n0 ≤ i → i < big → sig n0 L s.n i = match L.lookup i with | some j => j | none => s.n := by
    intro i h h'
    unfold sig
    have e1 : Nat.blt i n0 = false := by
      cases hh : Nat.blt i n0 with
      | true => rw [hb] at hh; omega
      | false => rfl
    have e2 : Nat.ble big i = false := by
      cases hh : Nat.ble big i with
      | true => rw [Nat.ble_eq] at hh; omega
      | false => rfl
    rw [e1, e2]; rfl
  refine ⟨hlow, hbig, ?_, ?_, hsn, hn2, ?_, h2, ?_, ?_⟩
  · intro i h h'
    rw [hmid i h h']
    split
    · rename_i j hj; exact ⟨(hLm hj).2.2.1, (hLm hj).2.2.2⟩
    · exact ⟨hn0, hsn⟩
  · intro i h h'
    rw [hmid i (Nat.le_trans hn2 h) h']
    split
    · rename_i j hj; have := (hLm hj).2.1; omega
    · rfl
  · intro k v hk
    rw [hT, aget_ofL] at hk
    exact h1 _ (mem_of_lookup hk)
  · intro i o ho hl
    rw [hH, aget_ofL] at ho
    rcases h3 _ (mem_of_lookup ho) with h | h
    · simp only at h; rw [h] at hl; cases hl
    · exact h
  · intro i j ⟨o, ho, _⟩ ⟨o', ho', _⟩ he
    rw [hH, aget_ofL] at ho ho'
    have key : ∀ (L' : List (Nat × AObj)), (L'.map fun p => sig n0 L s.n p.1).Nodup → ∀ {i j : Nat} {o o' : AObj}, (i, o) ∈ L' → (j, o') ∈ L' → sig n0 L s.n i = sig n0 L s.n j → i = j := by
      intro L'
      induction L' with
      | nil => intro _ i j o o' h; cases h
      | cons p r ih =>
        intro hnd i j o o' hi hj he
        simp only [List.map_cons, List.nodup_cons] at hnd
        rcases List.mem_cons.1 hi with hi | hi <;> rcases List.mem_cons.1 hj with hj | hj
        · rw [← hj] at hi; cases hi; rfl
        · exfalso; refine hnd.1 (List.mem_map.2 ⟨_, hj, ?_⟩); rw [← hi]; exact he.symm
        · exfalso; refine hnd.1 (List.mem_map.2 ⟨_, hi, ?_⟩); rw [← hj]; exact he
        · exact ih hnd.2 hi hj he
    exact key LH h4 (mem_of_lookup ho) (mem_of_lookup ho') he
def inL (L : List (Nat × AObj)) (i : Nat) : Bool := (L.lookup i).isSome
def sigC (σ : Nat → Nat) (ns nc : Nat) : Nat → Nat := fun i => bif Nat.blt i ns then σ i else Nat.add (Nat.sub i ns) nc
def mergeH (σ : Nat → Nat) (H : Heap) : List (Nat × AObj) → Heap
  | [] => H
  | (i, o) :: r => aput (mergeH σ H r) (σ i) (renO σ o)
theorem aget_mergeH {σ : Nat → Nat} {H : Heap} : ∀ {L : List (Nat × AObj)} {k : Nat}, (∀ i j, inL L i = true → inL L j = true → σ i = σ j → i = j) → inL L k = true → aget (mergeH σ H L) (σ k) = (L.lookup k).map (renO σ)
  | [], k, _, h => by cases h
  | (j, o) :: r, k, hinj, h => by
    simp only [mergeH, aget_aput]
    by_cases hjk : j = k
    · subst hjk
      simp [List.lookup_cons]
    · have hkj : (k == j) = false := by simp; exact fun h => hjk h.symm
      have hr : inL r k = true := by simpa [inL, List.lookup_cons, hkj] using h
      rw [if_neg, List.lookup_cons, hkj]
      · refine aget_mergeH (fun i i' hi hi' => hinj i i' ?_ ?_) hr
        · simp only [inL, List.lookup_cons] at *; split <;> simp_all
        · simp only [inL, List.lookup_cons] at *; split <;> simp_all
      · intro he
        exact hjk (hinj j k (by simp [inL, List.lookup_cons]) h he)
theorem aget_mergeH_out {σ : Nat → Nat} {H : Heap} {j : Nat} : ∀ {L : List (Nat × AObj)}, (∀ k, inL L k = true → σ k ≠ j) → aget (mergeH σ H L) j = aget H j
  | [], _ => rfl
  | (k, o) :: r, h => by
    simp only [mergeH, aget_aput]
    rw [if_neg (h k (by simp [inL, List.lookup_cons]))]
    refine aget_mergeH_out fun i hi => h i ?_
    simp only [inL, List.lookup_cons] at *; split <;> simp_all
def lvB (L : List (Nat × AObj)) (i : Nat) : Bool := match L.lookup i with
  | some o => o.live
  | none => false
structure Shut (args : List Value) (L : List (Nat × AObj)) (n : Nat) : Prop where
  args : ∀ i ∈ idsL args, i < n ∧ lvB L i = true
  objs : ∀ p ∈ L, ∀ i ∈ idsO p.2, i < n ∧ lvB L i = true
structure ShutR (v : Value) (L : List (Nat × AObj)) (n0 n : Nat) : Prop where
  keys : ∀ p ∈ L, p.1 < n
  old : ∀ i, i < n0 → inL L i = true
  val : ∀ i ∈ idsV v, inL L i = true
  objs : ∀ p ∈ L, ∀ i ∈ idsO p.2, inL L i = true
theorem F_ren {f : FuncId} {as : List Value} {Ls : List (Nat × AObj)} {ns : Nat} {R : Value → List (Nat × AObj) → Nat → Prop} (hF : F P G f as (ofL Ls) ns fun v H' n' => ∃ L', H' = ofL L' ∧ R v L' n' ∧ ShutR v L' ns n') (hcl : Shut as Ls ns)
    {σ : Nat → Nat} {Hc : Heap} {nc : Nat} (hG : ∀ g ∈ G, g < ns ∧ σ g = g ∧ lvB Ls g = true) (hσ : ∀ i, i < ns → lvB Ls i = true → σ i < nc ∨ big ≤ σ i) (hσd : ∀ i, i < ns → lvB Ls i = false → big - 100 ≤ σ i ∧ σ i < big) (hinj : ∀ i j, i < ns → j < ns → σ i = σ j → i = j) (hH : ∀ p ∈ Ls, p.2 = .dead ∨ aget Hc (σ p.1) = some (renO σ p.2))
    (hb : ∀ v L' n', R v L' n' → nc + (n' - ns) ≤ big - 100) :
    F P G f (renL σ as) Hc nc fun v H' n' => ∃ vs L' ns', R vs L' ns' ∧ v = renV (sigC σ ns nc) vs ∧ H' = mergeH (sigC σ ns nc) Hc L' ∧ n' = nc + (ns' - ns) := by
  intro β w args' ha hr
  have hbd : big = 1000000000000000000 := rfl
  have hlook : ∀ {i}, lvB Ls i = true → ∃ o, Ls.lookup i = some o ∧ aget Hc (σ i) = some (renO σ o) ∧ o.live = true := by
    intro i hi
    unfold lvB at hi
    cases hl : Ls.lookup i with
    | none => rw [hl] at hi; cases hi
    | some o =>
      rw [hl] at hi
      refine ⟨o, rfl, ?_, hi⟩
      rcases hH _ (mem_of_lookup hl) with h | h
      · simp only at h; rw [h] at hi; cases hi
      · exact h
  have hlive : ∀ {i}, lvB Ls i = true → isLive Hc (σ i) := by
    intro i hi
    obtain ⟨o, _, h2, h3⟩ := hlook hi
    exact ⟨_, h2, by rw [renO_live]; exact h3⟩
  let S : Nat → Bool := fun i => Nat.blt i ns && lvB Ls i
  have hS : ∀ {i}, S i = true ↔ i < ns ∧ lvB Ls i = true := fun {i} => by simp only [S, Bool.and_eq_true, Nat.blt_eq]
  let βs : Ren := Ren.only (fun i => β (σ i)) S
  have hβs : ∀ {i e}, βs i = some e → (i < ns ∧ lvB Ls i = true) ∧ β (σ i) = some e := by
    intro i e h
    have h' := Ren.only_le _ _ h
    refine ⟨?_, h'⟩
    cases hs : S i with
    | true => exact hS.1 hs
    | false => simp only [βs, Ren.only, hs] at h; cases h
  have hβs2 : ∀ {i e}, i < ns → lvB Ls i = true → β (σ i) = some e → βs i = some e := fun hi hl h => Ren.only_at (β := fun i => β (σ i)) h (hS.2 ⟨hi, hl⟩)
  have hrs : HR G βs (ofL Ls) ns w := by
    refine ⟨fun g hg => ?_, fun {i e} hi => ?_, ?_, fun {i j e f} hi hj li lj he => ?_, fun {i e o} hi ho => ?_⟩
    · refine hβs2 (hG g hg).1 (hG g hg).2.2 ?_
      rw [(hG g hg).2.1]; exact hr.glob g hg
    · exact ⟨.inl (hβs hi).1.1, (hr.dom (hβs hi).2).2⟩
    · exact ⟨ns, fun i e hi => (hβs hi).1.1⟩
    · obtain ⟨h1, h2⟩ := hβs hi
      obtain ⟨h3, h4⟩ := hβs hj
      exact hinj i j h1.1 h3.1 (hr.inj h2 h4 (hlive h1.2) (hlive h3.2) he)
    · rw [aget_ofL] at ho
      obtain ⟨h1, h2⟩ := hβs hi
      obtain ⟨o', g1, g2, g3⟩ := hlook h1.2
      rw [ho] at g1; cases g1
      obtain ⟨b, q1, q2⟩ := hr.obj h2 g2
      exact ⟨b, q1, q2.ren_to.only fun i hi => hS.2 (hcl.objs _ (mem_of_lookup ho) i hi)⟩
  have has : VRs βs as args' := (renL_to as ha).only fun i hi => hS.2 (hcl.args i hi)
  have key : ∀ {v' : Value} {w' : World}, Ret G βs ns w (fun v H' n' => ∃ L', H' = ofL L' ∧ R v L' n' ∧ ShutR v L' ns n') v' w' →
      Ret G β nc w (fun v H' n' => ∃ vs L' ns', R vs L' ns' ∧ v = renV (sigC σ ns nc) vs ∧ H' = mergeH (sigC σ ns nc) Hc L' ∧ n' = nc + (ns' - ns)) v' w' := by
    intro v' w' hret
    obtain ⟨v, β', H', n', hv, hr', hf, L', rfl, hR, hsh⟩ := hret
    have hnn := hf.le
    have hbig := hb v L' n' hR
    let τ := sigC σ ns nc
    have τlo : ∀ {i}, i < ns → τ i = σ i := by
      intro i hi; simp only [τ, sigC]; rw [show Nat.blt i ns = true by rw [Nat.blt_eq]; exact hi]; rfl
    have τhi : ∀ {i}, ns ≤ i → τ i = i - ns + nc := by
      intro i hi
      simp only [τ, sigC]
      have : Nat.blt i ns = false := by
        cases hh : Nat.blt i ns with
        | true => rw [Nat.blt_eq] at hh; omega
        | false => rfl
      rw [this]; rfl
    have hout : ∀ {j e}, β j = some e → ¬ (nc ≤ j ∧ j < big) := by
      intro j e h h2
      rcases (hr.dom h).1 with h3 | h3 <;> omega
    let γ : Ren := fun j => if nc ≤ j ∧ j < nc + (n' - ns) ∧ inL L' (j - nc + ns) = true then β' (j - nc + ns) else β j
    have γold : ∀ {j e}, β j = some e → γ j = some e := by
      intro j e h
      simp only [γ]
      rw [if_neg]
      · exact h
      · intro h2; exact hout h ⟨h2.1, by omega⟩
    have γτ : ∀ {k e}, inL L' k = true → β' k = some e → γ (τ k) = some e := by
      intro k e hk he
      have hk' : k < n' := by
        simp only [inL] at hk
        cases hl : L'.lookup k with
        | none => rw [hl] at hk; cases hk
        | some o => exact hsh.keys _ (mem_of_lookup hl)
      rcases Nat.lt_or_ge k ns with h | h
      · rw [τlo h]
        rcases hf.new he with h1 | h1
        · exact γold (hβs h1).2
        · omega
      · rw [τhi h]
        simp only [γ]
        have e1 : k - ns + nc - nc + ns = k := by omega
        rw [if_pos ⟨by omega, by omega, by rw [e1]; exact hk⟩, e1]
        exact he
    have γat : ∀ {j e}, γ j = some e → (∃ k, inL L' k = true ∧ ns ≤ k ∧ j = τ k ∧ β' k = some e) ∨ β j = some e := by
      intro j e h
      simp only [γ] at h
      split at h
      · rename_i hh
        refine .inl ⟨j - nc + ns, hh.2.2, by omega, ?_, h⟩
        rw [τhi (by omega)]; omega
      · exact .inr h
    have hk : ∀ {k}, inL L' k = true → k < n' := by
      intro k hk
      simp only [inL] at hk
      cases hl : L'.lookup k with
      | none => rw [hl] at hk; cases hk
      | some o => exact hsh.keys _ (mem_of_lookup hl)
    have τinj : ∀ i j, inL L' i = true → inL L' j = true → τ i = τ j → i = j := by
      intro i j hi hj he
      have dom : ∀ {i}, i < ns → ¬ (nc ≤ σ i ∧ σ i < big - 100) := by
        intro i hi h2
        cases hlv : lvB Ls i with
        | true => rcases hσ i hi hlv with h3 | h3 <;> omega
        | false => have := hσd i hi hlv; omega
      rcases Nat.lt_or_ge i ns with h1 | h1 <;> rcases Nat.lt_or_ge j ns with h2 | h2
      · rw [τlo h1, τlo h2] at he; exact hinj i j h1 h2 he
      · rw [τlo h1, τhi h2] at he; exact absurd ⟨by omega, by have := hk hj; omega⟩ (dom h1)
      · rw [τhi h1, τlo h2] at he; exact absurd ⟨by omega, by have := hk hi; omega⟩ (dom h2)
      · rw [τhi h1, τhi h2] at he; omega
    have inner : ∀ {j e}, γ j = some e → (∃ k, inL L' k = true ∧ j = τ k ∧ β' k = some e) ∨ ((∀ k, inL L' k = true → τ k ≠ j) ∧ β j = some e) := by
      intro j e h
      rcases γat h with ⟨k, h1, h2, h3, h4⟩ | h1
      · exact .inl ⟨k, h1, h3, h4⟩
      · by_cases hin : ∃ k, inL L' k = true ∧ τ k = j
        · obtain ⟨k, h2, h3⟩ := hin
          rcases Nat.lt_or_ge k ns with h4 | h4
          · rw [τlo h4] at h3
            subst h3
            cases hlv : lvB Ls k with
            | true => exact .inl ⟨k, h2, (τlo h4).symm, hf.ext _ _ (hβs2 h4 hlv h1)⟩
            | false =>
              have := hσd k h4 hlv
              exact absurd ⟨by omega, this.2⟩ (hout h1)
          · rw [τhi h4] at h3
            exact absurd ⟨by omega, by have := hk h2; omega⟩ (hout h1)
        · exact .inr ⟨fun k h2 h3 => hin ⟨k, h2, h3⟩, h1⟩
    have hH1 : ∀ {k}, inL L' k = true → aget (mergeH τ Hc L') (τ k) = (L'.lookup k).map (renO τ) := fun h => aget_mergeH τinj h
    have hH2 : ∀ {j}, (∀ k, inL L' k = true → τ k ≠ j) → aget (mergeH τ Hc L') j = aget Hc j := fun h => aget_mergeH_out h
    have apart : ∀ {j f k e}, (∀ k, inL L' k = true → τ k ≠ j) → β j = some f → isLive Hc j → β' k = some e → f.blk ≠ e.blk := by
      intro j f k e hno hj hl he hfe
      have old : ∀ {i g}, βs i = some g → f.blk = g.blk → False := by
        intro i g hi hg
        obtain ⟨h1, h2⟩ := hβs hi
        have := hr.inj hj h2 hl (hlive h1.2) hg
        exact hno i (hsh.old i h1.1) ((τlo h1.1).trans this.symm)
      rcases hf.new he with h1 | ⟨h1, h2 | ⟨i, g, hi, hg⟩⟩
      · exact old h1 hfe
      · have := (hr.dom hj).2; omega
      · exact old hi (hfe.trans hg.symm)
    have hval : ∀ {x y : Value}, VR β' x y → (∀ i ∈ idsV x, inL L' i = true) → VR γ (renV τ x) y := by
      intro x y h h2
      refine renV_of ((h.only (S := inL L') h2).mono fun i e hi => ?_)
      have h3 := Ren.only_le _ _ hi
      cases hs : inL L' i with
      | true => exact γτ hs h3
      | false => simp only [Ren.only, hs] at hi; cases hi
    have hobj : ∀ {e : Bl} {x : AObj} {y : Obj}, OR β' e x y → (∀ i ∈ idsO x, inL L' i = true) → OR γ e (renO τ x) y := by
      intro e x y h h2
      refine OR.ren_of ((h.only (S := inL L') h2).mono fun i e hi => ?_)
      have h3 := Ren.only_le _ _ hi
      cases hs : inL L' i with
      | true => exact γτ hs h3
      | false => simp only [Ren.only, hs] at hi; cases hi
    have getL : ∀ {k}, inL L' k = true → ∃ o, L'.lookup k = some o := by
      intro k h; simp only [inL] at h
      cases hl : L'.lookup k with
      | none => rw [hl] at h; cases h
      | some o => exact ⟨o, rfl⟩
    refine ⟨renV τ v, γ, mergeH τ Hc L', nc + (n' - ns), hval hv hsh.val, ?_, ?_, v, L', n', hR, rfl, rfl, rfl⟩
    · refine ⟨fun g hg => γold (hr.glob g hg), fun {j e} hj => ?_, ?_, fun {i j e f} hi hj li lj he => ?_, fun {j e o} hj ho => ?_⟩
      · rcases γat hj with ⟨k, h1, h2, h3, h4⟩ | h1
        · rw [τhi h2] at h3
          exact ⟨.inl (by have := hk h1; omega), (hr'.dom h4).2⟩
        · refine ⟨?_, Nat.lt_of_lt_of_le (hr.dom h1).2 hf.size⟩
          rcases (hr.dom h1).1 with h2 | h2 <;> omega
      · obtain ⟨M, hM⟩ := hr.fin
        refine ⟨max M (nc + (n' - ns)), fun j e hj => ?_⟩
        rcases γat hj with ⟨k, h1, h2, h3, h4⟩ | h1
        · rw [τhi h2] at h3
          have := hk h1; omega
        · have := hM _ _ h1; omega
      · rcases inner hi with ⟨k, h1, h2, h3⟩ | ⟨h1, h2⟩ <;> rcases inner hj with ⟨k', g1, g2, g3⟩ | ⟨g1, g2⟩
        · subst h2; subst g2
          obtain ⟨o, q1⟩ := getL h1
          obtain ⟨o', q1'⟩ := getL g1
          have l1 : isLive (ofL L') k := by
            obtain ⟨x, y1, y2⟩ := li
            rw [hH1 h1, q1] at y1; cases y1
            exact ⟨o, by rw [aget_ofL, q1], by rw [renO_live] at y2; exact y2⟩
          have l2 : isLive (ofL L') k' := by
            obtain ⟨x, y1, y2⟩ := lj
            rw [hH1 g1, q1'] at y1; cases y1
            exact ⟨o', by rw [aget_ofL, q1'], by rw [renO_live] at y2; exact y2⟩
          rw [hr'.inj h3 g3 l1 l2 he]
        · obtain ⟨x, y1, y2⟩ := lj
          rw [hH2 g1] at y1
          exact absurd he.symm (apart g1 g2 ⟨x, y1, y2⟩ h3)
        · obtain ⟨x, y1, y2⟩ := li
          rw [hH2 h1] at y1
          exact absurd he (apart h1 h2 ⟨x, y1, y2⟩ g3)
        · obtain ⟨x, y1, y2⟩ := li
          obtain ⟨x', y1', y2'⟩ := lj
          rw [hH2 h1] at y1
          rw [hH2 g1] at y1'
          exact hr.inj h2 g2 ⟨x, y1, y2⟩ ⟨x', y1', y2'⟩ he
      · rcases inner hj with ⟨k, h1, h2, h3⟩ | ⟨h1, h2⟩
        · subst h2
          obtain ⟨o', q1⟩ := getL h1
          rw [hH1 h1, q1] at ho; cases ho
          obtain ⟨b, z1, z2⟩ := hr'.obj h3 (by rw [aget_ofL]; exact q1)
          exact ⟨b, z1, hobj z2 (hsh.objs _ (mem_of_lookup q1))⟩
        · rw [hH2 h1] at ho
          by_cases hl : o.live = true
          · obtain ⟨b, z1, z2⟩ := hr.obj h2 ho
            refine ⟨b, ?_, z2.mono fun i e hi => γold hi⟩
            rw [hf.keep e.blk (hr.dom h2).2 fun i g hi hg => ?_]
            · exact z1
            · obtain ⟨y1, y2⟩ := hβs hi
              exact apart h1 h2 ⟨o, ho, hl⟩ (hf.ext _ _ hi) hg.symm
          · have : o = .dead := by cases o <;> first | rfl | exact absurd rfl hl
            subst this
            have hlt := Nat.lt_of_lt_of_le (hr.dom h2).2 hf.size
            exact ⟨w'.heap[e.blk], by simp [hlt], .dead⟩
    · refine ⟨fun i e hi => γold hi, fun {j e} hj => ?_, by omega, hf.size, fun b hb hno => hf.keep b hb fun i e hi => hno _ _ (hβs hi).2, hf.os, hf.tape, hf.output⟩
      rcases γat hj with ⟨k, h1, h2, h3, h4⟩ | h1
      · refine .inr ⟨by rw [h3, τhi h2]; omega, ?_⟩
        rcases hf.new h4 with h5 | ⟨_, h5 | ⟨i, g, hi, hg⟩⟩
        · have := (hβs h5).1.1; omega
        · exact .inl h5
        · exact .inr ⟨σ i, g, (hβs hi).2, hg⟩
      · exact .inl h1
  rcases hF βs w args' has hrs with ⟨h1, h2⟩ | ⟨v', w', h1, h2⟩
  · exact .inl ⟨h1, h2.mono fun e w' ⟨v', he, hv'⟩ => ⟨v', he, key hv'⟩⟩
  · exact .inr ⟨v', w', h1, key h2⟩
end
end Go.Cs
