/- A part of the proof that the law spadilletop.TopSharedRing answers true and leaves its argument as it was (CsE) -/
import Derived.Test.YtmpogedhilfjgaaGreatDoorCsD
import Derived.LoopN
set_option linter.all false
namespace Go.Cs
inductive EX where
  | normal | exit (id : Nat) | ret
  deriving DecidableEq
inductive ExR : Exit → EX → Prop
  | normal : ExR .normal .normal
  | exit {i : Nat} : ExR (.exit i) (.exit i)
  | ret : ExR .ret .ret
section
variable (P : Program) (G : List Nat) (E : Env) (N : Nat)
structure Rel (β : Ren) (s : St) (a : Act) (w : World) : Prop where
  t : TR β N s.T a.tmps
  d : DR β s.D a.defers
  h : HR G β s.H s.n w
def CQ (β0 : Ren) (n0 : Nat) (w0 : World) (Q : EX → St → Prop) (e : Exit) (a' : Act) (w' : World) : Prop :=
  ∃ x s' β', ExR e x ∧ Rel G N β' s' a' w' ∧ Fr β0 n0 w0 β' s'.n w' ∧ Q x s'
def Dom0 (β0 : Ren) (n0 : Nat) : Prop := ∀ i e, β0 i = some e → i < n0 ∨ big ≤ i
def W (n0 : Nat) (c : Code) (Q : EX → St → Prop) (s : St) : Prop :=
  ∀ β0 w0 β a w, Dom0 β0 n0 → Rel G N β s a w → Fr β0 n0 w0 β s.n w → c.wp P (CQ G N β0 n0 w0 Q) a w
def WRo (n0 : Nat) (k : Nat) (c : Code) (Q : EX → St → Prop) (s : St) : Prop :=
  ∀ β0 w0 β a w, Dom0 β0 n0 → Rel G N β s a w → Fr β0 n0 w0 β s.n w → Code.rounds P c (CQ G N β0 n0 w0 Q) k a w
def RS : List Step → (St → Prop) → St → Prop
  | [], Q, s => Q s
  | st :: r, Q, s => SW P G E st s fun v D H n => RS r Q { T := putT st.dst v s.T, D, H, n }
end
section
variable {P : Program} {G : List Nat} {E : Env} {N n0 : Nat} {Q : EX → St → Prop} {s : St}
theorem CQ.mono {Q' : EX → St → Prop} {β0 : Ren} {n0 : Nat} {w0 : World} {e : Exit} {a : Act} {w : World} (hq : ∀ x s, Q x s → Q' x s) (h : CQ G N β0 n0 w0 Q e a w) : CQ G N β0 n0 w0 Q' e a w :=
  let ⟨x, s', β', a, b, c, d⟩ := h; ⟨x, s', β', a, b, c, hq _ _ d⟩
theorem W.mono {c : Code} {Q' : EX → St → Prop} (hq : ∀ x s, Q x s → Q' x s) (h : W P G N n0 c Q s) : W P G N n0 c Q' s :=
  fun β0 w0 β a w h0 hr hf => wp_mono (h β0 w0 β a w h0 hr hf) fun _ _ _ => CQ.mono hq
theorem W_skip (h : Q .normal s) : W P G N n0 .skip Q s := fun _ _ β _ _ _ hr hf => wp_skip ⟨.normal, s, β, .normal, hr, hf, h⟩
theorem W_ret (h : Q .ret s) : W P G N n0 .ret Q s := fun _ _ β _ _ _ hr hf => wp_ret ⟨.ret, s, β, .ret, hr, hf, h⟩
theorem W_exit {i : Nat} (h : Q (.exit i) s) : W P G N n0 (.exit i) Q s := fun _ _ β _ _ _ hr hf => wp_exit ⟨.exit i, s, β, .exit, hr, hf, h⟩
def thenQ (K : St → Prop) (Q : EX → St → Prop) : EX → St → Prop
  | .normal, s => K s
  | e, s => Q e s
theorem CQ_then {K : St → Prop} {Kc : Act → World → Prop} {β0 : Ren} {n0 : Nat} {w0 : World} {e : Exit} {a : Act} {w : World}
    (hk : ∀ s β a w, Rel G N β s a w → Fr β0 n0 w0 β s.n w → K s → Kc a w) (h : CQ G N β0 n0 w0 (thenQ K Q) e a w) : Exit.then Kc (CQ G N β0 n0 w0 Q) e a w := by
  obtain ⟨x, s', β', hx, hr, hf, hq⟩ := h
  cases hx with
  | normal => exact hk _ _ _ _ hr hf hq
  | exit => exact ⟨_, s', β', .exit, hr, hf, hq⟩
  | ret => exact ⟨_, s', β', .ret, hr, hf, hq⟩
theorem W_seq {x y : Code} (h : W P G N n0 x (thenQ (W P G N n0 y Q) Q) s) : W P G N n0 (.seq x y) Q s := by
  intro β0 w0 β a w h0 hr hf
  refine wp_seq (wp_mono (h β0 w0 β a w h0 hr hf) fun e a w hq => CQ_then (fun s β a w hr hf hk => hk β0 w0 β a w h0 hr hf) hq)
theorem W_cond {c : Operand} {x y : Code} {t : Bool} (hc : ev G s.T c = some (.bool t)) (h : W P G N n0 (if t then x else y) Q s) : W P G N n0 (.cond c x y) Q s := by
  intro β0 w0 β a w h0 hr hf
  exact wp_cond (t := t) (by have := ev_sound hr.h.glob hr.t hc; exact this.bool) (h β0 w0 β a w h0 hr hf)
def blockQ (id : Nat) (Q : EX → St → Prop) : EX → St → Prop
  | .exit id', s => if id' = id then Q .normal s else Q (.exit id') s
  | e, s => Q e s
theorem W_block {id : Nat} {c : Code} (h : W P G N n0 c (blockQ id Q) s) : W P G N n0 (.block id c) Q s := by
  intro β0 w0 β a w h0 hr hf
  refine wp_block (wp_mono (h β0 w0 β a w h0 hr hf) fun e a w hq => ?_)
  obtain ⟨x, s', β', hx, hr, hf, hq⟩ := hq
  cases hx with
  | normal => exact ⟨_, s', β', .normal, hr, hf, hq⟩
  | exit =>
    rename_i i
    simp only [blockQ] at hq
    simp only [Exit.inBlock]
    split
    · rename_i h; rw [if_pos h] at hq; exact ⟨_, s', β', .normal, hr, hf, hq⟩
    · rename_i h; rw [if_neg h] at hq; exact ⟨_, s', β', .exit, hr, hf, hq⟩
  | ret => exact ⟨_, s', β', .ret, hr, hf, hq⟩
theorem WRo_succ {k : Nat} {c : Code} (h : W P G N n0 c (thenQ (WRo P G N n0 k c Q) Q) s) : WRo P G N n0 (k + 1) c Q s := by
  intro β0 w0 β a w h0 hr hf
  rw [rounds_succ]
  exact wp_mono (h β0 w0 β a w h0 hr hf) fun e a w hq => CQ_then (fun s β a w hr hf hk => hk β0 w0 β a w h0 hr hf) hq
theorem W_loop_rounds {k : Nat} {c : Code} (h : WRo P G N n0 k c Q s) : W P G N n0 (.loop c) Q s :=
  fun β0 w0 β a w h0 hr hf => wp_loop_rounds k (h β0 w0 β a w h0 hr hf)
theorem rounds_mono {c : Code} {Q' : EX → St → Prop} {β0 : Ren} {n0 : Nat} {w0 : World} (k : Nat) (hq : ∀ x s, Q x s → Q' x s) : ∀ a w, Code.rounds P c (CQ G N β0 n0 w0 Q) k a w → Code.rounds P c (CQ G N β0 n0 w0 Q') k a w := by
  induction k with
  | zero => intro a w h; exact h.elim
  | succ k ih =>
    intro a w h
    rw [rounds_succ] at h ⊢
    refine wp_mono h fun e a w hh => ?_
    cases e with
    | normal => exact ih a w hh
    | _ => exact CQ.mono hq hh
theorem WRo.mono {k : Nat} {c : Code} {Q' : EX → St → Prop} (hq : ∀ x s, Q x s → Q' x s) (h : WRo P G N n0 k c Q s) : WRo P G N n0 k c Q' s :=
  fun β0 w0 β a w h0 hr hf => rounds_mono k hq a w (h β0 w0 β a w h0 hr hf)
theorem RS_sound (hE : EnvOk P E) {ops : Array Oper} {Kf : St → Prop} {Qc : Exit → Act → World → Prop} {β0 : Ren} {n0 : Nat} {w0 : World} : ∀ (steps : List Step) (i : Nat) (s : St) (β : Ren) (a : Act) (w : World),
    (∀ j st, steps[j]? = some st → ∃ o, ops[i + j]? = some o ∧ stepOf P ops o = some st) → (∀ st ∈ steps, ∀ d, st.dst = some d → d < N) → RS P G E steps Kf s → Rel G N β s a w → Fr β0 n0 w0 β s.n w →
    (∀ s β a w, Rel G N β s a w → Fr β0 n0 w0 β s.n w → Kf s → Qc .normal a w) → wpOps P ops Qc (List.range' i steps.length) a w
  | [], i, s, β, a, w, _, _, h, hr, hf, hk => hk s β a w hr hf h
  | st :: r, i, s, β, a, w, hst, hd, h, hr, hf, hk => by
    simp only [List.length_cons, List.range'_succ, wpOps_cons]
    obtain ⟨o, ho, hs⟩ := hst 0 st rfl
    rw [Nat.add_zero] at ho
    refine SW_sound (N := N) hE ho hs hr.t hr.d hr.h h ?_
    intro β' v v' D' H' n' a' w' hv hD ht hR hF hp
    have hdst : st.dst = o.dst := by
      unfold stepOf at hs
      repeat' split at hs
      all_goals first | (cases hs; done) | (cases hs; rfl)
    refine RS_sound hE r (i + 1) _ β' a' w' (fun j st' hj => ?_) (fun st' hm => hd st' (List.mem_cons_of_mem _ hm)) hp ⟨?_, hD, hR⟩ (hf.trans hF) hk
    · obtain ⟨o', h1, h2⟩ := hst (j + 1) st' (by simpa using hj)
      exact ⟨o', by rw [← h1]; congr 1; omega, h2⟩
    · simp only
      rw [ht, ← hdst]
      exact (hr.t.mono hF.ext).putT (hd st (by simp)) hv
theorem W_region (hE : EnvOk P E) {id : Nat} {ops : Array Oper} {steps : List Step} (hst : ops.toList.mapM (stepOf P ops) = some steps) (hd : ∀ st ∈ steps, ∀ d, st.dst = some d → d < N) (h : RS P G E steps (Q .normal) s) : W P G N n0 (.region id ops false) Q s := by
  intro β0 w0 β a w h0 hr hf
  have hmap : ∀ (l : List Oper) (r : List Step), l.mapM (stepOf P ops) = some r → r.length = l.length ∧ ∀ (j : Nat) (st : Step), r[j]? = some st → ∃ o, l[j]? = some o ∧ stepOf P ops o = some st := by
    intro l
    induction l with
    | nil => intro r h; simp at h; subst h; exact ⟨rfl, by simp⟩
    | cons o l ih =>
      intro r h
      simp only [List.mapM_cons, Option.pure_def, Option.bind_eq_bind] at h
      cases h1 : stepOf P ops o with
      | none => simp [h1] at h
      | some st =>
        cases h2 : l.mapM (stepOf P ops) with
        | none => simp [h1, h2] at h
        | some r' =>
          simp [h1, h2] at h
          subst h
          obtain ⟨q1, q2⟩ := ih r' h2
          refine ⟨by simp [q1], fun j st' hj => ?_⟩
          cases j with
          | zero => simp at hj; subst hj; exact ⟨o, rfl, h1⟩
          | succ j => simpa using q2 j st' (by simpa using hj)
  obtain ⟨hl, hg⟩ := hmap _ _ hst
  have := RS_sound (Qc := CQ G N β0 n0 w0 Q) hE steps 0 s β a w (fun j st hj => by
    obtain ⟨o, h1, h2⟩ := hg j st hj
    exact ⟨o, by simpa using h1, h2⟩) hd h hr hf (fun s β a w hr hf hk => ⟨.normal, s, β, .normal, hr, hf, hk⟩)
  refine wp_region ?_
  rw [List.range_eq_range']
  rwa [hl, Array.length_toList] at this
def initT : List Value → Nat → AL Value
  | [], _ => .nil
  | v :: vs, k => aput (initT vs (k + 1)) k v
theorem aget_initT : ∀ (vs : List Value) (k j : Nat), aget (initT vs k) j = if k ≤ j then vs[j - k]? else none
  | [], k, j => by simp [initT, aget]
  | v :: vs, k, j => by
    simp only [initT, aget_aput, aget_initT vs (k + 1) j]
    by_cases h : k = j
    · subst h; simp
    · by_cases h2 : k ≤ j
      · rw [if_neg h, if_pos (by omega), if_pos h2]
        rw [show j - k = (j - (k + 1)) + 1 by omega]; simp
      · rw [if_neg h, if_neg (by omega), if_neg h2]
inductive RV where
  | tmp (t : Tmp) | cell1 (t : Tmp) | cellN (t : Tmp) (n : Nat)
def rvOf (P : Program) : ResultVar → Option RV
  | .tmp t => some (.tmp t)
  | .cell a t => match isAggT P t, sizeOfT P t with
    | some true, some n => some (.cellN a n)
    | some false, some _ => some (.cell1 a)
    | _, _ => none
def rvVal (T : AL Value) (H : Heap) : RV → Option Value
  | .tmp t => aget T t
  | .cell1 t => (aget T t).bind fun v => rLoad1 H [v]
  | .cellN t n => (aget T t).bind fun v => rLoadN n H [v]
def rvVals (T : AL Value) (H : Heap) : List RV → Option (List Value)
  | [] => some []
  | r :: rs => match rvVal T H r, rvVals T H rs with
    | some v, some vs => some (v :: vs)
    | _, _ => none
def packV : List Value → Value
  | [v] => v
  | vs => .tuple vs.toArray
theorem rvVal_sound {β : Ren} {T : AL Value} {H : Heap} {n : Nat} {tmps : Array Value} {w : World} {rv : ResultVar} {r : RV} {v : Value} (hT : TR β N T tmps) (hR : HR G β H n w) (h1 : rvOf P rv = some r) (h2 : rvVal T H r = some v) :
    ∃ v', ((match rv with | .tmp t => pure (tmps.getD t undef) | .cell a t => do loadVar t (← asAddr (tmps.getD a undef)) : Sem Value)).run P w = .ok v' w ∧ VR β v v' := by
  cases rv with
  | tmp t =>
    simp only [rvOf, Option.some.injEq] at h1; subst h1
    obtain ⟨v', g1, g2⟩ := hT.2 t v h2
    exact ⟨v', by simp [Array.getD_eq_getD_getElem?, g1], g2⟩
  | cell a t =>
    have hload : ∀ (u u' : Value), aget T a = some u → tmps.getD a undef = u' → VR β u u' → ∀ (o : Oper), o.op = .load t (.const u') → ∀ v, Says P β (fun | .const v => v | _ => undef) o w v → ∃ v', (do loadVar t (← asAddr u') : Sem Value).run P w = .ok v' w ∧ VR β v v' := by
      intro u u' _ _ hu o ho v hs
      obtain ⟨v', h1, h2⟩ := hs
      refine ⟨v', ?_, h2⟩
      simp only [execOp, ho, Instr.loadAt, Sem.run_bind] at h1
      have : ∀ A, u' = .pointer (some A) → (do loadVar t (← asAddr u') : Sem Value).run P w = .ok v' w := by
        intro A hA
        subst hA
        simp only [Instr.sureAddr, Sem.run_pure, Result.andThen_ok] at h1
        simp only [asAddr, Sem.run_bind, Sem.run_pure, Result.andThen_ok]
        cases hl : (loadVar t A).run P w with
        | ok x w1 => rw [hl] at h1; simp at h1; rw [h1.1, h1.2]
        | halt x w1 => rw [hl] at h1; simp at h1
      cases u' with
      | pointer p => cases p with
        | some A => exact this A rfl
        | none => simp [Instr.sureAddr] at h1
      | _ => simp [Instr.sureAddr] at h1
    simp only [rvOf] at h1
    split at h1
    · rename_i m ha hm
      cases h1
      simp only [rvVal, Option.bind_eq_some_iff] at h2
      obtain ⟨u, hu1, hu2⟩ := h2
      obtain ⟨u', g1, g2⟩ := hT.2 a u hu1
      have hgd : tmps.getD a undef = u' := by simp [Array.getD_eq_getD_getElem?, g1]
      obtain ⟨v', q1, q2⟩ := hload u u' hu1 hgd g2 { dst := none, op := .load t (.const u'), type := 0, pos := "", after := #[], guard := none } rfl v (loadN_sound (x := .const u') hR rfl ha hm (.cons g2 .nil) hu2)
      exact ⟨v', by simp only [hgd]; exact q1, q2⟩
    · rename_i m ha hm
      cases h1
      simp only [rvVal, Option.bind_eq_some_iff] at h2
      obtain ⟨u, hu1, hu2⟩ := h2
      obtain ⟨u', g1, g2⟩ := hT.2 a u hu1
      have hgd : tmps.getD a undef = u' := by simp [Array.getD_eq_getD_getElem?, g1]
      obtain ⟨v', q1, q2⟩ := hload u u' hu1 hgd g2 { dst := none, op := .load t (.const u'), type := 0, pos := "", after := #[], guard := none } rfl v (load1_sound (k := .load1) (args := []) (x := .const u') hR rfl ha (.cons g2 .nil) hu2)
      exact ⟨v', by simp only [hgd]; exact q1, q2⟩
    · cases h1
theorem results_sound {β : Ren} {T : AL Value} {H : Heap} {n : Nat} {tmps : Array Value} {w : World} {fn : Func} {rvs : List RV} {vs : List Value} (hT : TR β N T tmps) (hR : HR G β H n w) (h1 : fn.results.toList.mapM (rvOf P) = some rvs) (h2 : rvVals T H rvs = some vs) :
    ∃ v', (results fn tmps).run P w = .ok v' w ∧ VR β (packV vs) v' := by
  have hgen : ∀ (L : List ResultVar) (rvs : List RV) (vs : List Value), L.mapM (rvOf P) = some rvs → rvVals T H rvs = some vs →
      ∃ vs', (L.mapM (m := Sem) fun | .tmp t => pure (tmps.getD t undef) | .cell a t => do loadVar t (← asAddr (tmps.getD a undef))).run P w = .ok vs' w ∧ VRs β vs vs' := by
    intro L
    induction L with
    | nil => intro rvs vs h1 h2; simp at h1; subst h1; simp [rvVals] at h2; subst h2; exact ⟨[], by simp, .nil⟩
    | cons r L ih =>
      intro rvs vs h1 h2
      simp only [List.mapM_cons, Option.pure_def, Option.bind_eq_bind] at h1
      cases q1 : rvOf P r with
      | none => simp [q1] at h1
      | some r' =>
        cases q2 : L.mapM (rvOf P) with
        | none => simp [q1, q2] at h1
        | some rs =>
          simp [q1, q2] at h1
          subst h1
          simp only [rvVals] at h2
          split at h2
          · rename_i v us e1 e2
            cases h2
            obtain ⟨v', g1, g2⟩ := rvVal_sound hT hR q1 e1
            obtain ⟨vs', g3, g4⟩ := ih rs us q2 e2
            refine ⟨v' :: vs', ?_, .cons g2 g4⟩
            simp only [List.mapM_cons, Sem.run_bind]
            refine (congrArg (fun z => Result.andThen z _) g1).trans ?_
            simp only [Result.andThen_ok]
            refine (congrArg (fun z => Result.andThen z _) g3).trans ?_
            simp
          · cases h2
  obtain ⟨vs', g1, g2⟩ := hgen _ _ _ h1 h2
  unfold results
  rw [Array.mapM_eq_mapM_toList]
  simp only [Sem.run_bind, Sem.run_map]
  have hl := g2.length
  refine ⟨if h : vs'.toArray.size = 1 then vs'.toArray[0] else .tuple vs'.toArray, ?_, ?_⟩
  · refine (congrArg (fun z => Result.andThen (Result.andThen z _) _) g1).trans ?_
    simp only [Result.andThen_ok, Sem.run_pure]
  · match vs, vs', g2 with
    | [], [], _ => simp [packV]; exact .tuple .nil
    | [v], [v'], g2 => simp [packV]; exact g2.hd.1
    | v1 :: v2 :: vs, u1 :: u2 :: us, g2 => simp [packV]; exact .tuple g2
theorem callFunc_body {f : FuncId} {fn : Func} {args : Array Value} {w : World} (hf : P.funcs[f]? = some fn) (hb : fn.body.isSome = true) (hn : (fn.name == "runtime.NumGoroutine") = false) : (callFunc f args).run P w = .ok (.enter f args) w := by
  have hb2 : fn.body.isNone = false := by cases h : fn.body <;> simp_all
  simp only [callFunc, Sem.run_bind, run_program, Result.andThen_ok, hf, hn, Bool.false_eq_true, if_false, hb2, Sem.run_pure]
def St.init (args : List Value) (H : Heap) (n : Nat) : St := { T := initT args 0, D := [], H, n }
theorem init_rel {β : Ren} {H : Heap} {n : Nat} {args args' : List Value} {w : World} (hN : args.length ≤ N) (ha : VRs β args args') (hr : HR G β H n w) : Rel G N β (St.init args H n) { tmps := args'.toArray ++ Array.replicate (N - args'.toArray.size) undef, defers := [] } w := by
  have hl := ha.length
  refine ⟨⟨by simp; omega, fun k v hk => ?_⟩, .nil, hr⟩
  simp only [St.init, aget_initT, Nat.zero_le, if_true, Nat.sub_zero] at hk
  obtain ⟨v', h1, h2⟩ := ha.get hk
  have hlt : k < args'.length := (List.getElem?_eq_some_iff.1 h1).1
  exact ⟨v', by rw [Array.getElem?_append]; simp [hlt]; have := List.getElem?_eq_some_iff.1 h1; exact this.2, h2⟩
def Ends (rvs : List RV) (post : Value → Heap → Nat → Prop) : EX → St → Prop
  | .exit _, _ => False
  | _, s => s.D = [] ∧ ∃ vs, rvVals s.T s.H rvs = some vs ∧ post (packV vs) s.H s.n
theorem body_post {fn : Func} {rvs : List RV} {post : Value → Heap → Nat → Prop} {β : Ren} {n : Nat} {w : World} {e : Exit} {a : Act} {w' : World} (hrv : fn.results.toList.mapM (rvOf P) = some rvs)
    (h : CQ G N β n w (Ends rvs post) e a w') : bodyPost P fn (RetE G β n w post) e a w' := by
  obtain ⟨x, s', β', hx, hr, hf, hq⟩ := h
  have main : s'.D = [] ∧ (∃ vs, rvVals s'.T s'.H rvs = some vs ∧ post (packV vs) s'.H s'.n) → a.defers = [] ∧ ∃ v, (results fn a.tmps).run P w' = .ok v w' ∧ RetE G β n w post (.returned v) w' := by
    intro ⟨hD, vs, h1, h2⟩
    have hd : a.defers = [] := by
      have := hr.d; rw [hD] at this
      cases hh : a.defers with
      | nil => rfl
      | cons x y => rw [hh] at this; cases this
    obtain ⟨v', g1, g2⟩ := results_sound hr.t hr.h hrv h1
    exact ⟨hd, v', g1, v', rfl, packV vs, β', s'.H, s'.n, g2, hr.h, hf, h2⟩
  cases hx with
  | normal => exact main hq
  | exit => exact hq.elim
  | ret => exact main hq
theorem FD_of_body {f : FuncId} {fn : Func} {c : Code} {rvs : List RV} {args : List Value} {H : Heap} {n : Nat} {post : Value → Heap → Nat → Prop} (hf : P.funcs[f]? = some fn) (hb : fn.body = some c) (hn : (fn.name == "runtime.NumGoroutine") = false) (hN : args.length ≤ fn.ntmps)
    (hrv : fn.results.toList.mapM (rvOf P) = some rvs) (h : W P G fn.ntmps n c (Ends rvs post) (St.init args H n)) : FD P G f args H n post := by
  intro β w args' ha hr
  refine ⟨callFunc_body hf (by rw [hb]; rfl) hn, fun u => callsD_of_wp hf hb ?_⟩
  exact wp_mono (h β w β _ w (fun i e hi => (hr.dom hi).1) (init_rel hN ha hr) (Fr.refl _ _ _)) fun e a w' hq => body_post hrv hq
def Defs (P : Program) (G : List Nat) (rvs : List RV) (T : AL Value) (post : Value → Heap → Nat → Prop) : List Value → Heap → Nat → Prop
  | [], H, n => ∃ vs, rvVals T H rvs = some vs ∧ post (packV vs) H n
  | d :: ds, H, n => ∃ f a b, d = .func (.func f) a b ∧ FD P G f (a.toList ++ b.toList) H n fun _ H' n' => Defs P G rvs T post ds H' n'
theorem defs_sound {fn : Func} {rvs : List RV} {post : Value → Heap → Nat → Prop} {β0 : Ren} {n0 : Nat} {w0 : World} {T : AL Value} {tmps : Array Value} (hrv : fn.results.toList.mapM (rvOf P) = some rvs) : ∀ (D : List Value) (ds : List Deferred) (H : Heap) (n : Nat) (β : Ren) (w : World),
    TR β N T tmps → DR β D ds → HR G β H n w → Fr β0 n0 w0 β n w → Defs P G rvs T post D H n → Leaves P fn tmps (RetE G β0 n0 w0 post) ds .returning w
  | [], ds, H, n, β, w, hT, hD, hR, hF, h => by
    cases hD
    obtain ⟨vs, h1, h2⟩ := h
    obtain ⟨v', g1, g2⟩ := results_sound hT hR hrv h1
    exact ⟨v', g1, v', rfl, packV vs, β, H, n, g2, hR, hF, h2⟩
  | d :: D, ds, H, n, β, w, hT, hD, hR, hF, h => by
    obtain ⟨f, a, b, rfl, hfd⟩ := h
    cases hD with
    | cons ha hb hds =>
      rename_i a' b' ds'
      obtain ⟨h1, h2⟩ := hfd β w (a'.toList ++ b'.toList) (ha.append hb) hR
      have hinv : (invoke (.fn (.func f) b') a').run P w = .ok (.enter f (a'.toList ++ b'.toList).toArray) w := by
        have : a' ++ b' = (a'.toList ++ b'.toList).toArray := by apply Array.ext'; simp
        simp only [invoke, this]
        exact h1
      refine leaves_cons (by simp) hinv ((h2 .returning).mono fun e u' w' hq => ?_)
      obtain ⟨rfl, v', rfl, v, β', H', n', q1, q2, q3, q4⟩ := hq
      exact defs_sound hrv D ds' H' n' β' w' (hT.mono q3.ext) (hds.mono q3.ext) q2 (hF.trans q3) q4
def EndsD (P : Program) (G : List Nat) (rvs : List RV) (post : Value → Heap → Nat → Prop) : EX → St → Prop
  | .exit _, _ => False
  | _, s => Defs P G rvs s.T post s.D s.H s.n
theorem F_of_bodyD {f : FuncId} {fn : Func} {c : Code} {rvs : List RV} {args : List Value} {H : Heap} {n : Nat} {post : Value → Heap → Nat → Prop} (hf : P.funcs[f]? = some fn) (hb : fn.body = some c) (hn : (fn.name == "runtime.NumGoroutine") = false) (hN : args.length ≤ fn.ntmps)
    (hrv : fn.results.toList.mapM (rvOf P) = some rvs) (h : W P G fn.ntmps n c (EndsD P G rvs post) (St.init args H n)) : F P G f args H n post := by
  intro β w args' ha hr
  refine .inl ⟨callFunc_body hf (by rw [hb]; rfl) hn, calls_of_wp_defers hf hb ?_⟩
  refine wp_mono (h β w β _ w (fun i e hi => (hr.dom hi).1) (init_rel hN ha hr) (Fr.refl _ _ _)) fun e a w' hq => ?_
  obtain ⟨x, s', β', hx, hr', hf', hq⟩ := hq
  cases hx with
  | normal => exact defs_sound hrv _ _ _ _ _ _ hr'.t hr'.d hr'.h hf' hq
  | exit => exact hq.elim
  | ret => exact defs_sound hrv _ _ _ _ _ _ hr'.t hr'.d hr'.h hf' hq
end
end Go.Cs
namespace Go.Cs
def looks (st : Step) : List Tmp := (st.args.filterMap fun | .tmp t => some t | _ => none) ++ (match st.guard with | some (d, _) => [d] | none => [])
def dsts (st : Step) : List Tmp := st.dst.toList
def share (x y : Step) : Bool := (dsts x).any (fun d => (looks y).contains d || (dsts y).contains d) || (dsts y).any fun d => (looks x).contains d
def isEff (st : Step) : Bool := match st.k.cls with
  | .W | .C | .D => true
  | _ => false
def dirPreds (o : Oper) : List Nat := o.after.toList.filterMap fun e => if Region.binds .any e then some e.on else none
def maskOf (acc : List Nat) (o : Oper) : Nat := (dirPreds o).foldl (fun m j => m ||| 2 ^ j ||| acc.getD j 0) 0
def masks : List Oper → List Nat → List Nat
  | [], acc => acc
  | o :: os, acc => masks os (acc ++ [maskOf acc o])
theorem foldl_bit (acc : List Nat) (x : Nat) : ∀ (l : List Nat) (m : Nat), (l.foldl (fun m j => m ||| 2 ^ j ||| acc.getD j 0) m).testBit x = true → m.testBit x = true ∨ x ∈ l ∨ ∃ j ∈ l, (acc.getD j 0).testBit x = true
  | [], m, h => .inl h
  | j :: l, m, h => by
    simp only [List.foldl_cons] at h
    rcases foldl_bit acc x l _ h with h | h | ⟨i, hi, h⟩
    · simp only [Nat.testBit_or, Bool.or_eq_true] at h
      rcases h with (h | h) | h
      · exact .inl h
      · have : x = j := by
          rw [Nat.testBit_two_pow] at h
          simpa [eq_comm] using h
        subst this; exact .inr (.inl (by simp))
      · exact .inr (.inr ⟨j, by simp, h⟩)
    · exact .inr (.inl (by simp [h]))
    · exact .inr (.inr ⟨i, by simp [hi], h⟩)
theorem masks_keep : ∀ (os : List Oper) (acc : List Nat) (j : Nat), j < acc.length → (masks os acc).getD j 0 = acc.getD j 0
  | [], acc, j, _ => rfl
  | o :: os, acc, j, h => by
    simp only [masks]
    rw [masks_keep os _ j (by simp; omega)]
    simp [List.getElem?_append_left h]
theorem masks_at : ∀ (os : List Oper) (acc : List Nat) (k : Nat) (o : Oper), os[k]? = some o → ∃ acc', (masks os acc).getD (acc.length + k) 0 = maskOf acc' o ∧ acc'.length = acc.length + k ∧ ∀ j, j < acc'.length → acc'.getD j 0 = (masks os acc).getD j 0
  | [], acc, k, o, h => by simp at h
  | o' :: os, acc, 0, o, h => by
    simp at h; subst h
    refine ⟨acc, ?_, by simp, fun j hj => ?_⟩
    · simp only [masks, Nat.add_zero]
      rw [masks_keep os _ _ (by simp)]
      simp
    · simp only [masks]
      rw [masks_keep os _ j (by simp; omega)]
      simp [List.getElem?_append_left hj]
  | o' :: os, acc, k + 1, o, h => by
    simp at h
    obtain ⟨acc', h1, h2, h3⟩ := masks_at os (acc ++ [maskOf acc o']) k o h
    refine ⟨acc', ?_, by simp at h2; omega, fun j hj => by simpa [masks] using h3 j hj⟩
    simp only [masks]
    rw [← h1]; congr 1; simp; omega
theorem mask_closed {ops : List Oper} {D : Nat → Prop} (hcl : ∀ i o, D i → ops[i]? = some o → ∀ e ∈ dirPreds o, D e) (hin : ∀ i, D i → i < ops.length) : ∀ (i : Nat) (o : Oper), ops[i]? = some o → (∀ e ∈ dirPreds o, D e) → ∀ x, ((masks ops []).getD i 0).testBit x = true → D x := by
  intro i
  induction i using Nat.strongRecOn with
  | _ i ih =>
    intro o ho hd x hx
    obtain ⟨acc', h1, h2, h3⟩ := masks_at ops [] i o ho
    simp only [List.length_nil, Nat.zero_add] at h1 h2
    rw [h1] at hx
    rcases foldl_bit acc' x _ _ hx with h | h | ⟨j, hj, h⟩
    · simp at h
    · exact hd x h
    · have hDj := hd j hj
      by_cases hlt : j < acc'.length
      · rw [h3 j hlt] at h
        have hjl := hin j hDj
        exact ih j (by omega) _ (List.getElem?_eq_getElem hjl) (hcl j _ hDj (List.getElem?_eq_getElem hjl)) x h
      · have : acc'.getD j 0 = 0 := by simp [List.getElem?_eq_none (by omega : acc'.length ≤ j)]
        rw [this] at h; simp at h
inductive PAct where
  | skip
  | p (vs : List Value) (v : Value)
  | r (vs : List Value) (v : Value)
  | a (vs : List Value) (ob : AObj) (m : Mk) (id : Nat)
structure Rec where
  i : Nat
  st : Step
  act : PAct
def Rec.val (r : Rec) : Value := match r.act with
  | .skip => undef
  | .p _ v => v
  | .r _ v => v
  | .a _ _ m id => m.val id
def Rec.stable (r : Rec) (H : Heap) : Prop := match r.act with
  | .r vs v => semR r.st.k vs H = some v
  | .a _ ob _ id => aget H id = some ob
  | _ => True
section
variable (P : Program) (G : List Nat) (E : Env) (N : Nat) (ms : List Nat)
def isPred (i j : Nat) : Bool := (ms.getD i 0).testBit j
def RK : List (Nat × Step) → List Rec → (St → Prop) → St → Prop
  | [], _, Q, s => Q s
  | (i, st) :: r, recs, Q, s =>
    match wantT s.T st.guard with
    | none => False
    | some false => RK r (recs ++ [⟨i, st, .skip⟩]) Q { s with T := putT st.dst undef s.T }
    | some true =>
      match evs G s.T st.args with
      | none => False
      | some vs =>
        match st.k.cls with
        | .P => ∃ v, semP E st.k vs = some v ∧ RK r (recs ++ [⟨i, st, .p vs v⟩]) Q { s with T := putT st.dst v s.T }
        | .R => ∃ v, semR st.k vs s.H = some v ∧ RK r (recs ++ [⟨i, st, .r vs v⟩]) Q { s with T := putT st.dst v s.T }
        | .A => ∃ ob mk, semA st.k vs = some (ob, mk) ∧ s.n < big ∧ (∀ x ∈ recs, x.stable (aput s.H s.n ob)) ∧
            RK r (recs ++ [⟨i, st, .a vs ob mk s.n⟩]) Q { s with T := putT st.dst (mk.val s.n) s.T, H := aput s.H s.n ob, n := s.n + 1 }
        | .W => s.n < big ∧ WP st.k vs s.H s.n fun v H' n' => (∀ x ∈ recs.filter (fun x => !isPred ms i x.i), x.stable H') ∧
            RK r (recs.filter fun x => !isPred ms i x.i) Q { s with T := putT st.dst v s.T, H := H', n := n' }
        | .C => ∃ f args, target E st.k vs = some (f, args) ∧ F P G f args s.H s.n fun v H' n' => (∀ x ∈ recs.filter (fun x => !isPred ms i x.i), x.stable H') ∧
            RK r (recs.filter fun x => !isPred ms i x.i) Q { s with T := putT st.dst v s.T, H := H', n := n' }
        | .D => False
        | .N => False
def Holds (r : Rec) (T : AL Value) (H : Heap) : Prop :=
  match r.act with
  | .skip => wantT T r.st.guard = some false
  | .p vs v => wantT T r.st.guard = some true ∧ evs G T r.st.args = some vs ∧ r.st.k.cls = .P ∧ semP E r.st.k vs = some v
  | .r vs v => wantT T r.st.guard = some true ∧ evs G T r.st.args = some vs ∧ r.st.k.cls = .R ∧ semR r.st.k vs H = some v
  | .a vs ob m id => wantT T r.st.guard = some true ∧ evs G T r.st.args = some vs ∧ r.st.k.cls = .A ∧ semA r.st.k vs = some (ob, m) ∧ aget H id = some ob
def Pend : List Rec → AL Value → Heap → AL Value → Prop
  | [], T, _, Tf => ∀ k, aget T k = aget Tf k
  | r :: L, T, H, Tf => Holds G E r T H ∧ Pend L (putT r.st.dst r.val T) H Tf
end
section
variable {P : Program} {G : List Nat} {E : Env} {N : Nat} {ms : List Nat}
theorem aget_putT {T : AL Value} {dst : Option Tmp} {v : Value} {k : Nat} : aget (putT dst v T) k = if dst = some k then some v else aget T k := by
  cases dst with
  | none => simp [putT]
  | some d => simp [putT, aget_aput]
theorem wantT_congr {T T' : AL Value} {g : Option (Tmp × Bool)} (h : ∀ d b, g = some (d, b) → aget T d = aget T' d) : wantT T g = wantT T' g := by
  cases g with
  | none => rfl
  | some p => obtain ⟨d, b⟩ := p; simp only [wantT, h d b rfl]
theorem evs_congr {T T' : AL Value} : ∀ {args : List Operand}, (∀ t, Operand.tmp t ∈ args → aget T t = aget T' t) → evs G T args = evs G T' args
  | [], _ => rfl
  | x :: xs, h => by
    have hx : ev G T x = ev G T' x := by
      cases x with
      | tmp t => exact h t (by simp)
      | _ => rfl
    simp only [evs, hx]
    rw [evs_congr (args := xs) fun t ht => h t (List.mem_cons_of_mem _ ht)]
theorem mem_looks_arg {st : Step} {t : Tmp} (h : Operand.tmp t ∈ st.args) : t ∈ looks st := by
  unfold looks
  refine List.mem_append_left _ (List.mem_filterMap.2 ⟨_, h, rfl⟩)
theorem mem_looks_guard {st : Step} {d : Tmp} {b : Bool} (h : st.guard = some (d, b)) : d ∈ looks st := by
  unfold looks
  refine List.mem_append_right _ ?_
  rw [h]; simp
theorem looks_congr {st : Step} {T T' : AL Value} (h : ∀ t ∈ looks st, aget T t = aget T' t) : wantT T st.guard = wantT T' st.guard ∧ evs G T st.args = evs G T' st.args :=
  ⟨wantT_congr fun d b hd => h d (mem_looks_guard hd), evs_congr fun t ht => h t (mem_looks_arg ht)⟩
theorem Holds.congr {r : Rec} {T T' : AL Value} {H : Heap} (h : ∀ t ∈ looks r.st, aget T t = aget T' t) (hh : Holds G E r T H) : Holds G E r T' H := by
  obtain ⟨h1, h2⟩ := looks_congr (G := G) h
  unfold Holds at *
  rw [h1, h2] at hh
  exact hh
theorem Holds.stable {r : Rec} {T : AL Value} {H H' : Heap} (hh : Holds G E r T H) (hs : r.stable H') : Holds G E r T H' := by
  unfold Holds Rec.stable at *
  cases hact : r.act <;> simp only [hact] at hh hs ⊢
  · exact hh
  · exact hh
  · exact ⟨hh.1, hh.2.1, hh.2.2.1, hs⟩
  · exact ⟨hh.1, hh.2.1, hh.2.2.1, hh.2.2.2.1, hs⟩
theorem putT_ext {T T' : AL Value} {dst : Option Tmp} {v : Value} (h : ∀ k, aget T k = aget T' k) (k : Nat) : aget (putT dst v T) k = aget (putT dst v T') k := by
  rw [aget_putT, aget_putT, h]
theorem Pend.congr : ∀ {L : List Rec} {T T' : AL Value} {H : Heap} {Tf : AL Value}, (∀ k, aget T k = aget T' k) → Pend G E L T H Tf → Pend G E L T' H Tf
  | [], T, T', H, Tf, h, hp => fun k => (h k).symm.trans (hp k)
  | r :: L, T, T', H, Tf, h, hp => ⟨hp.1.congr fun t _ => h t, Pend.congr (putT_ext h) hp.2⟩
theorem Pend.stable : ∀ {L : List Rec} {T : AL Value} {H H' : Heap} {Tf : AL Value}, (∀ x ∈ L, x.stable H') → Pend G E L T H Tf → Pend G E L T H' Tf
  | [], T, H, H', Tf, _, hp => hp
  | r :: L, T, H, H', Tf, h, hp => ⟨hp.1.stable (h r (by simp)), Pend.stable (fun x hx => h x (by simp [hx])) hp.2⟩
theorem share_dst {x y : Step} (h : share x y = false) : (∀ d, x.dst = some d → d ∉ looks y ∧ y.dst ≠ some d) ∧ (∀ d, y.dst = some d → d ∉ looks x) := by
  unfold share at h
  simp only [Bool.or_eq_false_iff, List.any_eq_false] at h
  refine ⟨fun d hd => ?_, fun d hd => ?_⟩
  · have := h.1 d (by simp [dsts, hd])
    simp only [Bool.or_eq_true, List.contains_iff_mem, not_or] at this
    refine ⟨this.1, fun hy => this.2 (by simp [dsts, hy])⟩
  · have := h.2 d (by simp [dsts, hd])
    simpa using this
theorem putT_comm {T : AL Value} {d d' : Option Tmp} {v v' : Value} (h : ∀ k, d = some k → d' ≠ some k) (k : Nat) : aget (putT d v (putT d' v' T)) k = aget (putT d' v' (putT d v T)) k := by
  simp only [aget_putT]
  by_cases h1 : d = some k
  · simp [h1, h k h1]
  · simp [h1]
theorem Pend.put : ∀ {L : List Rec} {T : AL Value} {H : Heap} {Tf : AL Value} {dst : Option Tmp} {v : Value}, (∀ x ∈ L, (∀ d, dst = some d → d ∉ looks x.st ∧ x.st.dst ≠ some d)) → Pend G E L T H Tf → Pend G E L (putT dst v T) H (putT dst v Tf)
  | [], T, H, Tf, dst, v, _, hp => putT_ext hp
  | r :: L, T, H, Tf, dst, v, h, hp => by
    refine ⟨hp.1.congr fun t ht => ?_, ?_⟩
    · rw [aget_putT]
      split
      · rename_i hd; exact absurd ht (h r (by simp) t hd).1
      · rfl
    · refine Pend.congr (putT_comm fun k hk => ?_) (Pend.put (fun x hx => h x (by simp [hx])) hp.2)
      exact (h r (by simp) k hk).2
theorem Pend.first : ∀ {L1 : List Rec} {r : Rec} {L2 : List Rec} {T : AL Value} {H : Heap} {Tf : AL Value}, (∀ x ∈ L1, share x.st r.st = false) → Pend G E (L1 ++ r :: L2) T H Tf → Holds G E r T H ∧ Pend G E (L1 ++ L2) (putT r.st.dst r.val T) H Tf
  | [], r, L2, T, H, Tf, _, hp => hp
  | x :: L1, r, L2, T, H, Tf, h, hp => by
    obtain ⟨h1, h2⟩ := hp
    obtain ⟨h3, h4⟩ := Pend.first (fun y hy => h y (by simp [hy])) h2
    obtain ⟨s1, s2⟩ := share_dst (h x (by simp))
    refine ⟨h3.congr fun t ht => ?_, h1.congr fun t ht => ?_, ?_⟩
    · rw [aget_putT]; split
      · rename_i hd; exact absurd ht (s1 t hd).1
      · rfl
    · rw [aget_putT]; split
      · rename_i hd; exact absurd ht (s2 t hd)
      · rfl
    · exact Pend.congr (fun k => (putT_comm (fun k hk => (s1 k hk).2) k).symm) h4
theorem Pend.reads : ∀ {L : List Rec} {T : AL Value} {H : Heap} {Tf : AL Value} {t : Tmp}, (∀ x ∈ L, x.st.dst ≠ some t) → Pend G E L T H Tf → aget T t = aget Tf t
  | [], T, H, Tf, t, _, hp => hp t
  | r :: L, T, H, Tf, t, h, hp => by
    rw [← Pend.reads (fun x hx => h x (by simp [hx])) hp.2, aget_putT, if_neg (h r (by simp))]
theorem Pend.snoc : ∀ {L : List Rec} {r : Rec} {T : AL Value} {H : Heap} {Tf : AL Value}, Pend G E L T H Tf → Holds G E r Tf H → Pend G E (L ++ [r]) T H (putT r.st.dst r.val Tf)
  | [], r, T, H, Tf, hp, hr => ⟨hr.congr fun t _ => (hp t).symm, putT_ext hp⟩
  | x :: L, r, T, H, Tf, hp, hr => ⟨hp.1, Pend.snoc hp.2 hr⟩
end
end Go.Cs
namespace Go.Cs
section
variable {P : Program} {G : List Nat} {E : Env} {N : Nat} {ops : Array Oper}
theorem HR.drawn {β : Ren} {H : Heap} {n : Nat} {w w' : World} (hr : HR G β H n w) (h : w'.heap = w.heap) : HR G β H n w' where
  glob := hr.glob
  dom := by rw [h]; exact hr.dom
  fin := hr.fin
  inj := hr.inj
  obj := by rw [h]; exact hr.obj
theorem Fr.drawn {β β' : Ren} {n n' : Nat} {w w1 w2 : World} (hf : Fr β n w β' n' w1) (h : w2.heap = w1.heap) (h1 : w2.os = w1.os) (h2 : w2.tape = w1.tape) (h3 : w2.output = w1.output) : Fr β n w β' n' w2 where
  ext := hf.ext
  new := hf.new
  le := hf.le
  size := by rw [h]; exact hf.size
  keep := by rw [h]; exact hf.keep
  os := h1.trans hf.os
  tape := h2.trans hf.tape
  output := h3.trans hf.output
theorem HR.adopt {β : Ren} {H : Heap} {n : Nat} {w w' : World} (hr : HR G β H n w) {o' : Obj} {e : Bl} {ob : AObj} {id : Nat} (hn : β id = none) (hid : id < n) (hob : aget H id = some ob)
    (hheap : w'.heap = w.heap.push o') (he : e.blk = w.heap.size) (ho : OR (β.add id e) e ob o') : HR G (β.add id e) H n w' := by
  have hle : Ren.le β (β.add id e) := Ren.le_add hn
  constructor
  · intro g hg; exact hle _ _ (hr.glob g hg)
  · intro i f hi
    unfold Ren.add at hi
    split at hi
    · cases hi; rename_i h; subst h; exact ⟨.inl hid, by rw [hheap]; simp [he]⟩
    · have := hr.dom hi; exact ⟨this.1, by rw [hheap]; simp; omega⟩
  · obtain ⟨M, hM⟩ := hr.fin
    refine ⟨max M (id + 1), fun i f hi => ?_⟩
    unfold Ren.add at hi
    split at hi
    · omega
    · have := hM i f hi; omega
  · intro i j f g hi hj hli hlj hfg
    unfold Ren.add at hi hj
    split at hi <;> split at hj
    · omega
    · cases hi; have := (hr.dom hj).2; omega
    · cases hj; have := (hr.dom hi).2; omega
    · exact hr.inj hi hj hli hlj hfg
  · intro i f q hi hq
    unfold Ren.add at hi
    split at hi
    · rename_i h; cases hi; subst h
      rw [hob] at hq; cases hq
      exact ⟨o', by rw [hheap, he]; simp, ho⟩
    · obtain ⟨b, h1, h2⟩ := hr.obj hi hq
      refine ⟨b, ?_, h2.mono hle⟩
      rw [hheap, Array.getElem?_push, if_neg (by have := (hr.dom hi).2; omega)]
      exact h1
theorem Fr.adopt {β0 β : Ren} {n0 n : Nat} {w0 w w' : World} (hf : Fr β0 n0 w0 β n w) {o' : Obj} {e : Bl} {id : Nat} (hn : β id = none) (h0 : n0 ≤ id) (hheap : w'.heap = w.heap.push o') (he : e.blk = w.heap.size)
    (hdom : ∀ i e, β0 i = some e → e.blk < w0.heap.size)
    (h1 : w'.os = w.os) (h2 : w'.tape = w.tape) (h3 : w'.output = w.output) : Fr β0 n0 w0 (β.add id e) n w' where
  ext := Ren.le_trans hf.ext (Ren.le_add hn)
  new := by
    intro i f hi
    unfold Ren.add at hi
    split at hi
    · cases hi; rename_i h; subst h; exact .inr ⟨h0, .inl (by have := hf.size; omega)⟩
    · exact hf.new hi
  le := hf.le
  size := by rw [hheap]; have := hf.size; simp; omega
  keep := by
    intro b hb hh
    rw [hheap, Array.getElem?_push, if_neg (by have := hf.size; omega)]
    exact hf.keep b hb hh
  os := h1.trans hf.os
  tape := h2.trans hf.tape
  output := h3.trans hf.output
theorem HR.grow {β : Ren} {H : Heap} {n : Nat} {w : World} (hr : HR G β H n w) (hnb : n < big) (ob : AObj) : HR G β (aput H n ob) (n + 1) w := by
  have key : ∀ {i e}, β i = some e → i ≠ n := fun {i e} hi => by have := (hr.dom hi).1; omega
  constructor
  · exact hr.glob
  · intro i e hi; have := hr.dom hi; exact ⟨by omega, this.2⟩
  · exact hr.fin
  · intro i j e f hi hj li lj hb
    exact hr.inj hi hj ((isLive_cons (key hi)).1 li) ((isLive_cons (key hj)).1 lj) hb
  · intro i e o hi ho
    simp only [aget_aput, if_neg (Ne.symm (key hi))] at ho
    exact hr.obj hi ho
theorem Fr.grow {β0 β : Ren} {n0 n : Nat} {w0 w : World} (hf : Fr β0 n0 w0 β n w) : Fr β0 n0 w0 β (n + 1) w :=
  { hf with le := by have := hf.le; omega }
theorem TR.congr {β : Ren} {T T' : AL Value} {t : Array Value} (h : ∀ k, aget T k = aget T' k) (ht : TR β N T t) : TR β N T' t :=
  ⟨ht.1, fun k v hk => ht.2 k v (by rw [h]; exact hk)⟩
end
def PairOk (ops : List Oper) (ms : List Nat) (x y : Nat × Step) : Prop :=
  x.1 ≠ y.1 ∧ (∀ o, ops[x.1]? = some o → y.1 ∉ dirPreds o) ∧ ((isEff x.2 = true ∨ share x.2 y.2 = true) → isPred ms y.1 x.1 = true)
structure Plan (P : Program) (N : Nat) (ops : Array Oper) (plan : List (Nat × Step)) : Prop where
  all : ∀ i, i < ops.size → i ∈ plan.map (·.1)
  step : ∀ x ∈ plan, ∃ o, ops[x.1]? = some o ∧ stepOf P ops o = some x.2 ∧ (∀ d, x.2.dst = some d → d < N) ∧ (∀ e ∈ dirPreds o, e < ops.size) ∧ x.1 ∉ dirPreds o
  pairs : plan.Pairwise (PairOk ops.toList (masks ops.toList []))
def Rec.key (r : Rec) : Nat × Step := (r.i, r.st)
def allocId (r : Rec) : Option Nat := match r.act with
  | .a _ _ _ id => some id
  | _ => none
structure Inv (P : Program) (G : List Nat) (E : Env) (N : Nat) (ops : Array Oper) (ms : List Nat) (β0 : Ren) (n0 : Nat) (w0 : World) (plan : List (Nat × Step)) (Q : St → Prop)
    (listed : Array Bool) (L recs : List Rec) (rest : List (Nat × Step)) (s : St) (T : AL Value) (β : Ren) (a : Act) (w : World) : Prop where
  size : listed.size = ops.size
  unl : ∀ j, listed.getD j true = false ↔ j ∈ (L.map Rec.key ++ rest).map (·.1)
  closed : ∀ i o, listed.getD i false = true → ops[i]? = some o → ∀ e ∈ dirPreds o, listed.getD e false = true
  sub : (L.map Rec.key ++ rest).Sublist plan
  inrecs : ∀ x ∈ L, x ∈ recs
  rk : RK P G E ms rest recs Q s
  pend : Pend G E L T s.H s.T
  t : TR β N T a.tmps
  d : DR β s.D a.defers
  h : HR G β s.H s.n w
  f : Fr β0 n0 w0 β s.n w
  ids : ∀ x ∈ L, ∀ id, allocId x = some id → β id = none ∧ n0 ≤ id ∧ id < s.n
  dist : L.Pairwise fun x y => ∀ id, allocId x = some id → allocId y ≠ some id
section
variable {P : Program} {G : List Nat} {E : Env} {N : Nat} {ops : Array Oper} {β0 : Ren} {n0 : Nat} {w0 : World} {plan : List (Nat × Step)} {Q : St → Prop}
theorem mem_dirPreds {o : Oper} {j : Nat} : j ∈ dirPreds o ↔ ∃ e ∈ o.after, Region.binds .any e = true ∧ e.on = j := by
  unfold dirPreds
  rw [List.mem_filterMap]
  constructor
  · rintro ⟨e, he, h⟩
    split at h
    · cases h; exact ⟨e, by simpa using he, by assumption, rfl⟩
    · cases h
  · rintro ⟨e, he, hb, rfl⟩
    exact ⟨e, by simpa using he, by simp [hb]⟩
theorem Inv.absorb {ms : List Nat} {listed : Array Bool} {β : Ren} {a : Act} {w : World} {T : AL Value} : ∀ (rest : List (Nat × Step)) (L recs : List Rec) (s : St),
    Inv P G E N ops ms β0 n0 w0 plan Q listed L recs rest s T β a w →
    ∃ L' recs' rest' s', Inv P G E N ops ms β0 n0 w0 plan Q listed L' recs' rest' s' T β a w ∧ L'.length + rest'.length = L.length + rest.length ∧
      ∀ x r, rest' = x :: r → isEff x.2 = true ∧ wantT s'.T x.2.guard = some true
  | [], L, recs, s, h => ⟨L, recs, [], s, h, rfl, by simp⟩
  | x :: rest, L, recs, s, h => by
    obtain ⟨i, st⟩ := x
    have snoc : ∀ (act : PAct) (s' : St), allocId ⟨i, st, act⟩ = none → s'.H = s.H → s'.n = s.n → s'.D = s.D → s'.T = putT st.dst (Rec.val ⟨i, st, act⟩) s.T → Holds G E ⟨i, st, act⟩ s.T s.H →
        RK P G E ms rest (recs ++ [⟨i, st, act⟩]) Q s' → Inv P G E N ops ms β0 n0 w0 plan Q listed (L ++ [⟨i, st, act⟩]) (recs ++ [⟨i, st, act⟩]) rest s' T β a w := by
      intro act s' hid hH hn hD hT hh hrk
      refine ⟨h.size, ?_, h.closed, ?_, ?_, hrk, ?_, h.t, by rw [hD]; exact h.d, by rw [hH, hn]; exact h.h, by rw [hn]; exact h.f, ?_, ?_⟩
      · simpa [Rec.key] using h.unl
      · simpa [Rec.key] using h.sub
      · intro y hy
        rcases List.mem_append.1 hy with hy | hy
        · exact List.mem_append_left _ (h.inrecs y hy)
        · exact List.mem_append_right _ hy
      · rw [hH, hT]; exact h.pend.snoc hh
      · intro y hy id hi
        rcases List.mem_append.1 hy with hy | hy
        · rw [hn]; exact h.ids y hy id hi
        · simp at hy; subst hy; rw [hid] at hi; cases hi
      · refine List.pairwise_append.2 ⟨h.dist, by simp, fun y hy z hz id _ => ?_⟩
        simp at hz; subst hz; rw [hid]; simp
    have len : ∀ (r : Rec), (L ++ [r]).length + rest.length = L.length + ((i, st) :: rest).length := by intro r; simp; omega
    have hrk := h.rk
    unfold RK at hrk
    cases hw : wantT s.T st.guard with
    | none => simp [hw] at hrk
    | some b =>
      cases b with
      | false =>
        simp only [hw] at hrk
        obtain ⟨L', recs', rest', s', h1, h2, h3⟩ := Inv.absorb rest _ _ _ (snoc .skip { s with T := putT st.dst undef s.T } rfl rfl rfl rfl rfl hw hrk)
        exact ⟨L', recs', rest', s', h1, h2.trans (len _), h3⟩
      | true =>
        simp only [hw] at hrk
        cases hv : evs G s.T st.args with
        | none => simp [hv] at hrk
        | some vs =>
          simp only [hv] at hrk
          cases hc : st.k.cls with
          | P =>
            simp only [hc] at hrk
            obtain ⟨v, hs, hrk⟩ := hrk
            obtain ⟨L', recs', rest', s', h1, h2, h3⟩ := Inv.absorb rest _ _ _ (snoc (.p vs v) { s with T := putT st.dst v s.T } rfl rfl rfl rfl rfl ⟨hw, hv, hc, hs⟩ hrk)
            exact ⟨L', recs', rest', s', h1, h2.trans (len _), h3⟩
          | R =>
            simp only [hc] at hrk
            obtain ⟨v, hs, hrk⟩ := hrk
            obtain ⟨L', recs', rest', s', h1, h2, h3⟩ := Inv.absorb rest _ _ _ (snoc (.r vs v) { s with T := putT st.dst v s.T } rfl rfl rfl rfl rfl ⟨hw, hv, hc, hs⟩ hrk)
            exact ⟨L', recs', rest', s', h1, h2.trans (len _), h3⟩
          | A =>
            simp only [hc] at hrk
            obtain ⟨ob, mk, hs, hnb, hst, hrk⟩ := hrk
            have := Inv.absorb (listed := listed) (T := T) (β := β) (a := a) (w := w) (ms := ms) rest (L ++ [⟨i, st, .a vs ob mk s.n⟩]) (recs ++ [⟨i, st, .a vs ob mk s.n⟩])
              { s with T := putT st.dst (mk.val s.n) s.T, H := aput s.H s.n ob, n := s.n + 1 }
              { size := h.size
                unl := by simpa [Rec.key] using h.unl
                closed := h.closed
                sub := by simpa [Rec.key] using h.sub
                inrecs := by
                  intro y hy
                  rcases List.mem_append.1 hy with hy | hy
                  · exact List.mem_append_left _ (h.inrecs y hy)
                  · exact List.mem_append_right _ hy
                rk := hrk
                pend := by
                  refine (h.pend.stable fun x hx => hst x (h.inrecs x hx)).snoc ?_
                  exact ⟨hw, hv, hc, hs, by simp [aget_aput]⟩
                t := h.t
                d := h.d
                h := h.h.grow hnb ob
                f := h.f.grow
                ids := by
                  intro y hy id hi
                  rcases List.mem_append.1 hy with hy | hy
                  · obtain ⟨q1, q2, q3⟩ := h.ids y hy id hi
                    exact ⟨q1, q2, Nat.lt_succ_of_lt q3⟩
                  · simp at hy; subst hy; simp [allocId] at hi; subst hi
                    exact ⟨h.h.fresh hnb, h.f.le, Nat.lt_succ_self _⟩
                dist := by
                  refine List.pairwise_append.2 ⟨h.dist, by simp, fun y hy z hz id hi => ?_⟩
                  simp at hz; subst hz
                  have := (h.ids y hy id hi).2.2
                  simp [allocId]; omega }
            obtain ⟨L', recs', rest', s', h1, h2, h3⟩ := this
            exact ⟨L', recs', rest', s', h1, h2.trans (len _), h3⟩
          | N => simp only [hc] at hrk
          | _ =>
            refine ⟨L, recs, _, s, h, rfl, fun y r hy => ?_⟩
            cases hy
            exact ⟨by simp [isEff, hc], hw⟩
end
end Go.Cs
namespace Go.Cs
section
variable {P : Program} {G : List Nat} {E : Env} {N : Nat} {ops : Array Oper} {β0 : Ren} {n0 : Nat} {w0 : World} {plan : List (Nat × Step)} {Q : St → Prop}
theorem step_spec {o : Oper} {st : Step} {T : AL Value} {β : Ren} {a : Act} (hst : stepOf P ops o = some st) (hT : TR β N T a.tmps) :
    kindOf P o = some (st.k, st.args) ∧ st.dst = o.dst ∧ ∀ b, wantT T st.guard = some b → Region.wanted o (yielded ops a.tmps) = b := by
  unfold stepOf at hst
  split at hst
  case h_2 => cases hst
  rename_i k args hk
  cases hg : o.guard with
  | none =>
    rw [hg] at hst
    cases hst
    exact ⟨hk, rfl, fun b hb => by simp [wantT] at hb; subst hb; simp [Region.wanted, hg]⟩
  | some jb =>
    obtain ⟨j, b⟩ := jb
    rw [hg] at hst
    simp only at hst
    cases hd : (ops[j]?).bind (·.dst) with
    | none => simp [hd] at hst
    | some d =>
      simp only [hd, Option.some.injEq] at hst
      subst hst
      refine ⟨hk, rfl, fun b' hw => ?_⟩
      simp only [wantT] at hw
      split at hw
      · rename_i c hc
        simp only [Option.some.injEq] at hw
        obtain ⟨v', h1, h2⟩ := hT.2 d _ hc
        have := h2.bool; subst this
        have hy : yielded ops a.tmps j = some c := by simp [yielded, hd, h1]
        simp only [Region.wanted, hg, hy]
        simpa using hw
      · rename_i c hc
        simp only [Option.some.injEq] at hw
        subst hw
        obtain ⟨v', h1, h2⟩ := hT.2 d _ hc
        have hy : yielded ops a.tmps j = none := by
          cases h2 with
          | same hf => cases hf
          | tuple _ => simp [yielded, hd, h1]
        simp only [Region.wanted, hg, hy]
        rfl
      · cases hw
theorem makes_pending {i : Nat} {o : Oper} {st : Step} {T : AL Value} {H : Heap} {n id : Nat} {β : Ren} {a : Act} {w : World} {K : Act → World → Prop} {Qc : Exit → Act → World → Prop} {D : List Value} {vs : List Value} {ob : AObj} {mk : Mk}
    (hi : ops[i]? = some o) (hst : stepOf P ops o = some st) (hT : TR β N T a.tmps) (hD : DR β D a.defers) (hR : HR G β H n w) (hF : Fr β0 n0 w0 β n w) (hdom : ∀ i e, β0 i = some e → e.blk < w0.heap.size)
    (hw : wantT T st.guard = some true) (hv : evs G T st.args = some vs) (hs : semA st.k vs = some (ob, mk)) (hob : aget H id = some ob) (hn : β id = none) (h0 : n0 ≤ id) (hid : id < n)
    (hK : ∀ e v' a' w', VR (β.add id e) (mk.val id) v' → DR (β.add id e) D a'.defers → a'.tmps = (a.put o.dst v').tmps → HR G (β.add id e) H n w' → Fr β0 n0 w0 (β.add id e) n w' → K a' w') : wpOp P ops Qc i K a w := by
  obtain ⟨hk, hd, hwant⟩ := step_spec hst hT
  unfold wpOp
  simp only [hi]
  rw [if_pos (hwant _ hw)]
  refine .inl ?_
  have hrel := evs_sound hR.glob hT hv
  unfold Oper.wp
  obtain ⟨v', w', o', room, r1, r2, r3, r4, r5, r6⟩ := semA_sound (w := w) hk hrel hs
  rw [r1, Oper.upon_value]
  have hle : Ren.le β (β.add id ⟨w.heap.size, 0, room⟩) := Ren.le_add hn
  obtain ⟨q1, q2⟩ := r6 _ id hle Ren.add_self
  refine hK ⟨w.heap.size, 0, room⟩ v' _ w' q1 ?_ rfl (hR.adopt hn hid hob r2 rfl q2) (hF.adopt hn h0 r2 rfl hdom r3 r4 r5)
  rw [put_defers]; exact hD.mono hle
theorem getD_eq_of_lt {listed : Array Bool} {j : Nat} (h : j < listed.size) : listed.getD j true = listed.getD j false := by
  simp [h]
theorem getD_set_self {listed : Array Bool} {j : Nat} (d : Bool) (h : j < listed.size) : (listed.setIfInBounds j true).getD j d = true := by
  simp [h]
variable {listed : Array Bool} {L recs : List Rec} {rest : List (Nat × Step)} {s : St} {T : AL Value} {β : Ren} {a : Act} {w : World} {ms : List Nat}
theorem Inv.lt (hp : Plan P N ops plan) (h : Inv P G E N ops ms β0 n0 w0 plan Q listed L recs rest s T β a w) {j : Nat} (hj : listed.getD j true = false) : j < listed.size := by
  rcases Nat.lt_or_ge j listed.size with h1 | h1
  · exact h1
  · simp [Array.getElem?_eq_none h1] at hj
theorem Inv.preds (hp : Plan P N ops plan) (h : Inv P G E N ops (masks ops.toList []) β0 n0 w0 plan Q listed L recs rest s T β a w) {i : Nat} {o : Oper} (ho : ops[i]? = some o)
    (hr : ∀ e ∈ o.after, Region.binds .any e = true → listed.getD e.on false = true) {x : Nat} (hx : isPred (masks ops.toList []) i x = true) : listed.getD x false = true := by
  refine mask_closed (ops := ops.toList) (D := fun j => listed.getD j false = true) ?_ ?_ i o (by simpa using ho) ?_ x hx
  · intro j o' hj ho' e he
    exact h.closed j o' hj (by simpa using ho') e he
  · intro j hj
    rcases Nat.lt_or_ge j listed.size with h1 | h1
    · rw [h.size] at h1; simpa using h1
    · simp [Array.getElem?_eq_none h1] at hj
  · intro e he
    obtain ⟨d, hd, hb, rfl⟩ := mem_dirPreds.1 he
    exact hr d hd hb
theorem Inv.pairs (hp : Plan P N ops plan) (h : Inv P G E N ops ms β0 n0 w0 plan Q listed L recs rest s T β a w) : (L.map Rec.key ++ rest).Pairwise (PairOk ops.toList (masks ops.toList [])) :=
  hp.pairs.sublist h.sub
theorem Inv.list (hp : Plan P N ops plan) (h : Inv P G E N ops ms β0 n0 w0 plan Q listed L recs rest s T β a w) {i : Nat} {o : Oper} (ho : ops[i]? = some o) (hl : listed.getD i true = false)
    (hr : ∀ e ∈ o.after, Region.binds .any e = true → listed.getD e.on false = true) {A B : List (Nat × Step)} {x : Nat × Step} (hx : x.1 = i) (hsplit : L.map Rec.key ++ rest = A ++ x :: B) :
    (listed.setIfInBounds i true).size = ops.size ∧ (∀ j, (listed.setIfInBounds i true).getD j true = false ↔ j ∈ (A ++ B).map (·.1)) ∧
    (∀ i' o, (listed.setIfInBounds i true).getD i' false = true → ops[i']? = some o → ∀ e ∈ dirPreds o, (listed.setIfInBounds i true).getD e false = true) ∧ (A ++ B).Sublist plan := by
  have hlt := h.lt hp hl
  have hnd := h.pairs hp
  rw [hsplit, List.pairwise_append, List.pairwise_cons] at hnd
  refine ⟨by simp [h.size], ?_, ?_, ?_⟩
  · intro j
    by_cases hj : i = j
    · subst hj
      rw [getD_set_self true hlt]
      simp only [Bool.true_eq_false, false_iff]
      intro hm
      rw [List.map_append, List.mem_append] at hm
      rcases hm with hm | hm
      · obtain ⟨y, hy, hyi⟩ := List.mem_map.1 hm
        exact (hnd.2.2 y hy x (by simp)).1 (by rw [hyi, hx])
      · obtain ⟨y, hy, hyi⟩ := List.mem_map.1 hm
        exact (hnd.2.1.1 y hy).1 (by rw [hyi, hx])
    · rw [getD_set_ne true hj, h.unl, hsplit]
      simp only [List.map_append, List.map_cons, List.mem_append, List.mem_cons]
      constructor
      · rintro (h1 | h1 | h1)
        · exact .inl h1
        · exact absurd (hx.symm.trans h1.symm) hj
        · exact .inr h1
      · rintro (h1 | h1)
        · exact .inl h1
        · exact .inr (.inr h1)
  · intro i' o' hl' ho' e he
    by_cases hj : i = i'
    · subst hj
      rw [ho] at ho'; cases ho'
      obtain ⟨d, hd, hb, rfl⟩ := mem_dirPreds.1 he
      exact getD_set_true (hr d hd hb)
    · rw [getD_set_ne false hj] at hl'
      exact getD_set_true (h.closed i' o' hl' ho' e he)
  · refine List.Sublist.trans ?_ h.sub
    rw [hsplit]
    exact List.Sublist.append_left (List.sublist_cons_self _ _) _
theorem Inv.run (hE : EnvOk P E) (hp : Plan P N ops plan) (hdom : ∀ i e, β0 i = some e → e.blk < w0.heap.size) {Qc : Exit → Act → World → Prop}
    (hQ : ∀ s β a w, Rel G N β s a w → Fr β0 n0 w0 β s.n w → Q s → Qc .normal a w) : ∀ (fuel : Nat) (listed : Array Bool) (L recs : List Rec) (rest : List (Nat × Step)) (s : St) (T : AL Value) (β : Ren) (a : Act) (w : World),
    Inv P G E N ops (masks ops.toList []) β0 n0 w0 plan Q listed L recs rest s T β a w → L.length + rest.length = fuel → wpAny P .any ops Qc fuel listed a w := by
  intro fuel
  induction fuel with
  | zero =>
    intro listed L recs rest s T β a w h hl
    obtain rfl : L = [] := List.eq_nil_of_length_eq_zero (by omega)
    obtain rfl : rest = [] := List.eq_nil_of_length_eq_zero (by omega)
    refine ⟨?_, ?_⟩
    · apply List.eq_nil_iff_forall_not_mem.2
      intro j hj
      have := (h.unl j).1 (mem_ready.1 hj).1
      simp at this
    · exact hQ s β a w ⟨h.t.congr h.pend, h.d, h.h⟩ h.f h.rk
  | succ fuel ih =>
    intro listed L recs rest s T β a w h hl
    obtain ⟨L, recs, rest, s, h, hl2, hhead⟩ := h.absorb rest L recs s
    rw [hl] at hl2
    have hpw := h.pairs hp
    refine ⟨?_, ?_⟩
    · intro hnil
      exfalso
      have hne : L.map Rec.key ++ rest ≠ [] := by
        intro hh
        obtain ⟨e1, e2⟩ := List.append_eq_nil_iff.1 hh
        obtain rfl := List.map_eq_nil_iff.1 e1
        subst e2
        simp at hl2
      obtain ⟨x, r, hxr⟩ := List.exists_cons_of_ne_nil hne
      obtain ⟨o, ho, hs, hd, hin, hirr⟩ := hp.step x (h.sub.subset (by rw [hxr]; simp))
      have hunl : listed.getD x.1 true = false := (h.unl _).2 (by rw [hxr]; simp)
      have : x.1 ∈ Region.ready .any ops listed := by
        refine mem_ready.2 ⟨hunl, o, ho, fun e he hb => ?_⟩
        have hm : e.on ∈ dirPreds o := mem_dirPreds.2 ⟨e, he, hb, rfl⟩
        cases hle : listed.getD e.on false with
        | true => rfl
        | false =>
          exfalso
          have hlt := hin _ hm
          rw [← h.size] at hlt
          rw [← getD_eq_of_lt hlt] at hle
          have := (h.unl _).1 hle
          rw [hxr] at this hpw
          simp only [List.map_cons, List.mem_cons] at this
          rcases this with h1 | h1
          · rw [h1] at hm; exact hirr hm
          · obtain ⟨y, hy, hyi⟩ := List.mem_map.1 h1
            exact ((List.pairwise_cons.1 hpw).1 y hy).2.1 o (by simpa using ho) (by rw [hyi]; exact hm)
      rw [hnil] at this; cases this
    · intro i hi
      obtain ⟨hunl, o, ho, hr⟩ := mem_ready.1 hi
      have hmem := (h.unl i).1 hunl
      have hlisted : ∀ x, isPred (masks ops.toList []) i x = true → x ∉ (L.map Rec.key ++ rest).map (·.1) := by
        intro x hx hm
        have h1 := h.preds hp ho hr hx
        have h2 := (h.unl x).2 hm
        rw [getD_eq_of_lt (h.lt hp h2)] at h2
        rw [h1] at h2; cases h2
      rw [List.map_append, List.mem_append] at hmem
      rcases hmem with hmem | hmem
      · -- pending
        obtain ⟨x, hx, hxi⟩ := List.mem_map.1 hmem
        obtain ⟨r, hrL, rfl⟩ := List.mem_map.1 hx
        obtain ⟨L1, L2, rfl⟩ := List.append_of_mem hrL
        have hsplit : (L1 ++ r :: L2).map Rec.key ++ rest = L1.map Rec.key ++ r.key :: (L2.map Rec.key ++ rest) := by simp
        have hpw' := hpw
        rw [hsplit, List.pairwise_append] at hpw'
        have hshare : ∀ x ∈ L1, share x.st r.st = false := by
          intro x hx
          cases hsh : share x.st r.st with
          | false => rfl
          | true =>
            exfalso
            have h1 := (hpw'.2.2 x.key (List.mem_map_of_mem hx) r.key (by simp)).2.2 (.inr hsh)
            refine hlisted x.i (by rw [← hxi]; exact h1) ?_
            rw [hsplit]
            simp only [List.map_append, List.map_map, List.mem_append]
            exact .inl (List.mem_map_of_mem (f := (fun x : Nat × Step => x.1) ∘ Rec.key) hx)
        obtain ⟨hh, hpend⟩ := h.pend.first hshare
        obtain ⟨q1, q2, q3, q4⟩ := h.list hp ho hunl hr (x := r.key) hxi hsplit
        obtain ⟨o', ho', hs, hd, _, _⟩ := hp.step r.key (h.sub.subset (by rw [hsplit]; simp))
        rw [hxi, ho] at ho'; cases ho'
        obtain ⟨hk, hdst, _⟩ := step_spec hs h.t
        have hdst' : r.st.dst = o.dst := hdst
        have happ : (L1 ++ L2).map Rec.key ++ rest = L1.map Rec.key ++ (L2.map Rec.key ++ rest) := by simp
        have hlen : (L1 ++ L2).length + rest.length = fuel := by simp at hl2 ⊢; omega
        have hsubL : ∀ x ∈ L1 ++ L2, x ∈ L1 ++ r :: L2 := by
          intro x hx; simp at hx ⊢; rcases hx with hx | hx <;> simp [hx]
        have hdist := h.dist
        have hnext : ∀ β' a' w', (∀ v', VR β' r.val v' → True) → Ren.le β β' → TR β' N (putT r.st.dst r.val T) a'.tmps → DR β' s.D a'.defers → HR G β' s.H s.n w' → Fr β0 n0 w0 β' s.n w' →
            (∀ x ∈ L1 ++ L2, ∀ id, allocId x = some id → β' id = none) → wpAny P .any ops Qc fuel (listed.setIfInBounds i true) a' w' := by
          intro β' a' w' _ hle ht hD hR hF hids
          refine ih _ (L1 ++ L2) recs rest s (putT r.st.dst r.val T) β' a' w' ?_ hlen
          exact { size := q1, unl := by rw [happ]; exact q2, closed := q3, sub := by rw [happ]; exact q4, inrecs := fun x hx => h.inrecs x (hsubL x hx), rk := h.rk, pend := hpend, t := ht, d := hD, h := hR, f := hF
                  ids := fun x hx id hid => ⟨hids x hx id hid, (h.ids x (hsubL x hx) id hid).2⟩
                  dist := hdist.sublist (List.Sublist.append_left (List.sublist_cons_self _ _) _) }
        by_cases hact : ∃ vs ob mk id, r.act = .a vs ob mk id
        · obtain ⟨vs, ob, mk, id, hact⟩ := hact
          have hval : r.val = mk.val id := by simp [Rec.val, hact]
          simp only [Holds, hact] at hh
          obtain ⟨g1, g2, g3, g4, g5⟩ := hh
          have hrid : allocId r = some id := by simp [allocId, hact]
          obtain ⟨i1, i2, i3⟩ := h.ids r (by simp) id hrid
          refine makes_pending ho hs h.t h.d h.h h.f hdom g1 g2 g4 g5 i1 i2 i3 ?_
          intro e v' a' w' hv hD ht hR hF
          have hle : Ren.le β (β.add id e) := Ren.le_add i1
          refine hnext _ a' w' (fun _ _ => trivial) hle ?_ hD hR hF ?_
          · rw [ht, ← hdst', hval]
            exact (h.t.mono hle).putT hd hv
          · intro x hx id' hid'
            have hne : id' ≠ id := by
              rintro rfl
              rw [List.pairwise_append] at hdist
              rcases List.mem_append.1 hx with hx | hx
              · exact hdist.2.2 x hx r (by simp) id' hid' hrid
              · exact (List.pairwise_cons.1 hdist.2.1).1 x hx id' hrid hid'
            simp only [Ren.add, if_neg hne]
            exact (h.ids x (hsubL x hx) id' hid').1
        · refine SW_sound (s := { s with T := T }) (post := fun v D H n => v = r.val ∧ D = s.D ∧ H = s.H ∧ n = s.n) hE ho hs h.t h.d h.h ?_ ?_
          · unfold SW
            unfold Holds at hh
            unfold Rec.val
            simp only [Rec.key]
            cases hact' : r.act with
            | skip =>
              simp only [hact'] at hh ⊢
              simp [hh]
            | p vs v =>
              simp only [hact'] at hh ⊢
              obtain ⟨g1, g2, g3, g4⟩ := hh
              simp [g1, g2, g3, g4]
            | r vs v =>
              simp only [hact'] at hh ⊢
              obtain ⟨g1, g2, g3, g4⟩ := hh
              simp [g1, g2, g3, g4]
            | a vs ob mk id => exact absurd ⟨vs, ob, mk, id, hact'⟩ hact
          · rintro β' v v' D' H' n' a' w' hv hD ht hR hF ⟨rfl, rfl, rfl, rfl⟩
            refine hnext β' a' w' (fun _ _ => trivial) hF.ext ?_ hD hR (h.f.trans hF) ?_
            · rw [ht, ← hdst']
              exact (h.t.mono hF.ext).putT hd hv
            · intro x hx id hid
              obtain ⟨i1, i2, i3⟩ := h.ids x (hsubL x hx) id hid
              cases hb : β' id with
              | none => rfl
              | some e =>
                rcases hF.new hb with h1 | h1
                · rw [i1] at h1; cases h1
                · have := h1.1; simp only at this; omega
      · -- the head
        cases rest with
        | nil => simp at hmem
        | cons x r =>
          obtain ⟨heff, hwant⟩ := hhead x r rfl
          have hxi : x.1 = i := by
            rw [List.map_cons] at hmem
            rcases List.mem_cons.1 hmem with h1 | h1
            · exact h1.symm
            · exfalso
              have h1' : i ∈ r.map (·.1) := by simpa using h1
              obtain ⟨y, hy, hyi⟩ := List.mem_map.1 h1'
              rw [List.pairwise_append, List.pairwise_cons] at hpw
              have := (hpw.2.1.1 y hy).2.2 (.inl heff)
              rw [hyi] at this
              exact hlisted _ this (by simp)
          obtain ⟨i', st⟩ := x
          simp only at hxi
          subst hxi
          obtain ⟨q1, q2, q3, q4⟩ := h.list hp ho hunl hr (x := (i', st)) rfl rfl
          obtain ⟨o', ho', hs, hd, _, _⟩ := hp.step (i', st) (h.sub.subset (by simp))
          rw [ho] at ho'; cases ho'
          obtain ⟨hk, hdst, _⟩ := step_spec hs h.t
          have hlen : L.length + r.length = fuel := by simp at hl2 ⊢; omega
          have hnp : ∀ x ∈ L, isPred (masks ops.toList []) i' x.i = false := by
            intro x hx
            cases hpp : isPred (masks ops.toList []) i' x.i with
            | false => rfl
            | true =>
              exfalso
              refine hlisted _ hpp ?_
              simp only [List.map_append, List.map_map, List.mem_append]
              exact .inl (List.mem_map_of_mem (f := (fun x : Nat × Step => x.1) ∘ Rec.key) hx)
          have hshare : ∀ x ∈ L, share x.st st = false := by
            intro x hx
            cases hsh : share x.st st with
            | false => rfl
            | true =>
              rw [List.pairwise_append] at hpw
              have := (hpw.2.2 x.key (List.mem_map_of_mem hx) (i', st) (by simp)).2.2 (.inr hsh)
              have h5 : isPred (masks ops.toList []) i' x.i = true := this
              rw [hnp x hx] at h5; cases h5
          have hlook : ∀ t ∈ looks st, aget T t = aget s.T t := by
            intro t ht
            refine h.pend.reads fun x hx hd => ?_
            exact ((share_dst (hshare x hx)).1 t hd).1 ht
          obtain ⟨w1, w2⟩ := looks_congr (G := G) hlook
          have hin : ∀ x ∈ L, x ∈ recs.filter fun x => !isPred (masks ops.toList []) i' x.i := by
            intro x hx
            exact List.mem_filter.2 ⟨h.inrecs x hx, by rw [hnp x hx]; rfl⟩
          have hrk := h.rk
          unfold RK at hrk
          simp only at hwant
          simp only [hwant] at hrk
          cases hv : evs G s.T st.args with
          | none => simp [hv] at hrk
          | some vs =>
            simp only [hv] at hrk
            refine SW_sound (s := { s with T := T }) (post := fun v D H' n' => D = s.D ∧ (∀ x ∈ recs.filter (fun x => !isPred (masks ops.toList []) i' x.i), x.stable H') ∧
              RK P G E (masks ops.toList []) r (recs.filter fun x => !isPred (masks ops.toList []) i' x.i) Q { s with T := putT st.dst v s.T, H := H', n := n' }) hE ho hs h.t h.d h.h ?_ ?_
            · unfold SW
              simp only [w1, w2, hwant, hv]
              cases hc : st.k.cls with
              | W =>
                simp only [hc] at hrk ⊢
                exact ⟨hrk.1, hrk.2.mono fun v H n hh => ⟨trivial, hh.1, hh.2⟩⟩
              | C =>
                simp only [hc] at hrk ⊢
                obtain ⟨f, args, h1, h2⟩ := hrk
                exact ⟨f, args, h1, h2.mono fun v H n hh => ⟨trivial, hh.1, hh.2⟩⟩
              | D => simp [hc] at hrk
              | _ => simp [isEff, hc] at heff
            · rintro β' v v' D' H' n' a' w' hv hD ht hR hF ⟨rfl, hst, hrk⟩
              refine ih _ L (recs.filter fun x => !isPred (masks ops.toList []) i' x.i) r { s with T := putT st.dst v s.T, H := H', n := n' } (putT st.dst v T) β' a' w' ?_ hlen
              exact
                { size := q1, unl := q2, closed := q3, sub := q4, inrecs := hin, rk := hrk
                  pend := by
                    refine Pend.put (fun x hx d hd => ?_) (h.pend.stable fun x hx => hst x (hin x hx))
                    obtain ⟨s1, s2⟩ := share_dst (hshare x hx)
                    exact ⟨s2 d hd, fun hxd => (s1 d hxd).2 hd⟩
                  t := by
                    rw [ht, ← hdst]
                    exact (h.t.mono hF.ext).putT hd hv
                  d := hD, h := hR, f := h.f.trans hF
                  ids := by
                    intro x hx id hid
                    obtain ⟨i1, i2, i3⟩ := h.ids x hx id hid
                    refine ⟨?_, i2, Nat.lt_of_lt_of_le i3 hF.le⟩
                    cases hb : β' id with
                    | none => rfl
                    | some e =>
                      rcases hF.new hb with h1 | h1
                      · rw [i1] at h1; cases h1
                      · have := h1.1; simp only at this; omega
                  dist := h.dist }
def pairOkB (ops : List Oper) (ms : List Nat) (dp : List Nat) (x y : Nat × Step) : Bool :=
  !(x.1 == y.1) && !dp.contains y.1 && (!(isEff x.2 || share x.2 y.2) || isPred ms y.1 x.1)
def pairsB (ops : List Oper) (ms : List Nat) : List (Nat × Step) → Bool
  | [] => true
  | x :: r => (match ops[x.1]? with
    | some o => r.all (pairOkB ops ms (dirPreds o) x)
    | none => false) && pairsB ops ms r
theorem pairsB_spec {ops : List Oper} {ms : List Nat} : ∀ {l : List (Nat × Step)}, pairsB ops ms l = true → l.Pairwise (PairOk ops ms)
  | [], _ => .nil
  | x :: r, h => by
    simp only [pairsB, Bool.and_eq_true] at h
    obtain ⟨h1, h2⟩ := h
    refine .cons (fun y hy => ?_) (pairsB_spec h2)
    cases ho : ops[x.1]? with
    | none => simp [ho] at h1
    | some o =>
      simp only [ho, List.all_eq_true] at h1
      have := h1 y hy
      simp only [pairOkB, Bool.and_eq_true, Bool.not_eq_true', Bool.or_eq_true, beq_eq_false_iff_ne] at this
      obtain ⟨⟨a, b⟩, c⟩ := this
      refine ⟨a, fun o' ho' hm => ?_, fun hh => ?_⟩
      · rw [ho] at ho'; cases ho'
        have : (dirPreds o).contains y.1 = true := by simpa using hm
        rw [this] at b; cases b
      · rcases c with c | c
        · rw [← Bool.not_eq_true] at c
          simp only [Bool.or_eq_true] at c
          exact absurd hh c
        · exact c
def planB (P : Program) (N : Nat) (ops : Array Oper) (steps : List Step) (κ : List Nat) : Option (List (Nat × Step)) :=
  match κ.mapM fun i => (steps[i]?).map fun st => (i, st) with
  | some plan => if pairsB ops.toList (masks ops.toList []) plan && (List.range ops.size).all (fun i => κ.contains i) && ops.toList.all (fun o => (dirPreds o).all fun e => e < ops.size) &&
      (List.range ops.size).all (fun i => match ops[i]? with | some o => !(dirPreds o).contains i | none => true) && steps.all (fun st => match st.dst with | some d => d < N | none => true) then some plan else none
  | none => none
theorem mapM_get {α : Type} {g : Nat → Option α} : ∀ {κ : List Nat} {r : List α}, κ.mapM g = some r → ∀ y ∈ r, ∃ i ∈ κ, g i = some y
  | [], r, h, y, hy => by simp at h; subst h; cases hy
  | i :: κ, r, h, y, hy => by
    simp only [List.mapM_cons, Option.pure_def, Option.bind_eq_bind] at h
    cases h1 : g i with
    | none => simp [h1] at h
    | some v =>
      cases h2 : κ.mapM g with
      | none => simp [h1, h2] at h
      | some r' =>
        simp [h1, h2] at h; subst h
        rcases List.mem_cons.1 hy with rfl | hy
        · exact ⟨i, by simp, h1⟩
        · obtain ⟨j, hj, hg⟩ := mapM_get h2 y hy
          exact ⟨j, by simp [hj], hg⟩
theorem mapM_get2 {α : Type} {g : Nat → Option α} : ∀ {κ : List Nat} {r : List α}, κ.mapM g = some r → ∀ i ∈ κ, ∃ y ∈ r, g i = some y
  | [], r, h, i, hi => by cases hi
  | j :: κ, r, h, i, hi => by
    simp only [List.mapM_cons, Option.pure_def, Option.bind_eq_bind] at h
    cases h1 : g j with
    | none => simp [h1] at h
    | some v =>
      cases h2 : κ.mapM g with
      | none => simp [h1, h2] at h
      | some r' =>
        simp [h1, h2] at h; subst h
        rcases List.mem_cons.1 hi with rfl | hi
        · exact ⟨v, by simp, h1⟩
        · obtain ⟨y, hy, hg⟩ := mapM_get2 h2 i hi
          exact ⟨y, by simp [hy], hg⟩
theorem mapM_step {ops : Array Oper} : ∀ (l : List Oper) (r : List Step), l.mapM (stepOf P ops) = some r → ∀ (j : Nat) (st : Step), r[j]? = some st → ∃ o, l[j]? = some o ∧ stepOf P ops o = some st := by
  intro l
  induction l with
  | nil => intro r h; simp at h; subst h; simp
  | cons o l ih =>
    intro r h
    simp only [List.mapM_cons, Option.pure_def, Option.bind_eq_bind] at h
    cases h1 : stepOf P ops o with
    | none => simp [h1] at h
    | some st =>
      cases h2 : l.mapM (stepOf P ops) with
      | none => simp [h1, h2] at h
      | some r' =>
        simp [h1, h2] at h
        subst h
        intro j st' hj
        cases j with
        | zero => simp at hj; subst hj; exact ⟨o, rfl, h1⟩
        | succ j => simpa using ih r' h2 j st' (by simpa using hj)
theorem planB_spec {steps : List Step} {κ : List Nat} {plan : List (Nat × Step)} (hst : ops.toList.mapM (stepOf P ops) = some steps) (h : planB P N ops steps κ = some plan) : Plan P N ops plan := by
  unfold planB at h
  split at h
  case h_2 => cases h
  rename_i pl hpl
  split at h
  case isFalse => cases h
  rename_i hc
  cases h
  simp only [Bool.and_eq_true] at hc
  obtain ⟨⟨⟨⟨c1, c2⟩, c3⟩, c4⟩, c5⟩ := hc
  simp only [List.all_eq_true, List.mem_range] at c2 c3 c4 c5
  refine ⟨fun i hi => ?_, fun x hx => ?_, pairsB_spec c1⟩
  · have : i ∈ κ := by simpa using c2 i hi
    obtain ⟨y, hy, hg⟩ := mapM_get2 hpl i this
    simp only [Option.map_eq_some_iff] at hg
    obtain ⟨st, _, rfl⟩ := hg
    exact List.mem_map_of_mem (f := (·.1)) hy
  · obtain ⟨i, hi, hg⟩ := mapM_get hpl x hx
    simp only [Option.map_eq_some_iff] at hg
    obtain ⟨st, hs, rfl⟩ := hg
    obtain ⟨o, h1, h2⟩ := mapM_step _ _ hst i st hs
    have h1' : ops[i]? = some o := by simpa using h1
    refine ⟨o, h1', h2, fun d hd => ?_, fun e he => ?_, fun hm => ?_⟩
    · have := c5 st (List.mem_of_getElem? hs)
      rw [hd] at this; simpa using this
    · have := c3 o (List.mem_of_getElem? h1)
      simpa using this e he
    · have := c4 i (Array.getElem?_eq_some_iff.1 h1').1
      simp only [h1'] at this
      have h2 : (dirPreds o).contains i = true := by simpa using hm
      rw [h2] at this; cases this
theorem plan_unl (hp : Plan P N ops plan) (j : Nat) : (Array.replicate ops.size false).getD j true = false ↔ j ∈ plan.map (·.1) := by
  constructor
  · intro h
    refine hp.all j ?_
    rcases Nat.lt_or_ge j ops.size with h1 | h1
    · exact h1
    · simp [Nat.not_lt.2 h1] at h
  · intro h
    obtain ⟨x, hx, rfl⟩ := List.mem_map.1 h
    obtain ⟨o, ho, _⟩ := hp.step x hx
    have := (Array.getElem?_eq_some_iff.1 ho).1
    simp [this]
theorem plan_len (hp : Plan P N ops plan) : plan.length = ops.size := by
  have hnd : (plan.map (·.1)).Nodup := by
    unfold List.Nodup
    rw [List.pairwise_map]
    exact hp.pairs.imp fun h => h.1
  have h1 : (plan.map (·.1)).Perm (List.range ops.size) := by
    rw [List.perm_ext_iff_of_nodup hnd List.nodup_range]
    intro j
    rw [List.mem_range]
    constructor
    · intro h
      obtain ⟨x, hx, rfl⟩ := List.mem_map.1 h
      obtain ⟨o, ho, _⟩ := hp.step x hx
      exact (Array.getElem?_eq_some_iff.1 ho).1
    · exact hp.all j
  simpa using h1.length_eq
theorem W_region_draw (hE : EnvOk P E) (hm : P.follows .mixedOrders = true) {Q : EX → St → Prop} {id : Nat} {steps : List Step} {κ : List Nat} {plan : List (Nat × Step)} {s : St} (hst : ops.toList.mapM (stepOf P ops) = some steps)
    (hpl : planB P N ops steps κ = some plan) (h : RK P G E (masks ops.toList []) plan [] (Q .normal) s) : W P G N n0 (.region id ops true) Q s := by
  have hp := planB_spec hst hpl
  intro β0 w0 β a w h0 hr hf
  refine wp_region_any hm ?_
  have hdom : ∀ i e, β i = some e → e.blk < w.heap.size := fun i e hi => (hr.h.dom hi).2
  have key := Inv.run (β0 := β) (n0 := s.n) (w0 := w) (Q := Q .normal) (Qc := CQ G N β0 n0 w0 Q) hE hp hdom (fun s' β' a' w' hr' hf' hq => ⟨.normal, s', β', .normal, hr', hf.trans hf', hq⟩)
    ops.size (Array.replicate ops.size false) [] [] plan s s.T β a { w with drawn := w.drawn + 1 }
    { size := by simp
      unl := by simpa using plan_unl hp
      closed := by
        intro i o hi
        by_cases hlt : i < ops.size <;> simp [hlt] at hi
      sub := by simp
      inrecs := by simp
      rk := h
      pend := fun k => rfl
      t := hr.t
      d := hr.d
      h := hr.h.drawn rfl
      f := (Fr.refl _ _ _).drawn rfl rfl rfl rfl
      ids := by simp
      dist := .nil } (by simp [plan_len hp])
  exact key
end
end Go.Cs
