/- A part of the proof that the law spadilletop.TopSharedRing answers true and leaves its argument as it was (CsF) -/
import Derived.Test.YtmpogedhilfjgaaGreatDoorCsE
import Derived.Scope
import Derived.Lib.Bytealg
set_option linter.all false
namespace Go.Cs
def forceN {α : Type} (n : Nat) (k : Nat → α) : α := match n with
  | 0 => k 0
  | m + 1 => k (m + 1)
def forceI {α : Type} (n : Int) (k : Int → α) : α := match n with
  | .ofNat n => forceN n fun n => k (.ofNat n)
  | .negSucc n => forceN n fun n => k (.negSucc n)
def forceV {α : Type} (v : Value) (k : Value → α) : α := match v with
  | .int t i => forceI i fun i => k (.int t i)
  | .bool b => match b with
    | true => k (.bool true)
    | false => k (.bool false)
  | .pointer (some ⟨b, o, none⟩) => forceN b fun b => forceN o fun o => k (.pointer (some ⟨b, o, none⟩))
  | .slice (some ⟨b, o, none⟩) l c => forceN b fun b => forceN o fun o => forceN l fun l => forceN c fun c => k (.slice (some ⟨b, o, none⟩) l c)
  | .map (some b) => forceN b fun b => k (.map (some b))
  | v => k v
def forceA {α β : Type} (l : AL α) (k : AL α → β) : β := match l with
  | .nil => k .nil
  | .node v l r => k (.node v l r)
  | .fam l f => k (.fam l f)
  | .lst l => k (.lst l)
theorem forceN_eq {α : Type} (n : Nat) (k : Nat → α) : forceN n k = k n := by cases n <;> rfl
theorem forceI_eq {α : Type} (n : Int) (k : Int → α) : forceI n k = k n := by cases n <;> simp [forceI, forceN_eq]
theorem forceV_eq {α : Type} (v : Value) (k : Value → α) : forceV v k = k v := by
  unfold forceV
  split
  · exact forceI_eq _ _
  · split <;> rfl
  · simp only [forceN_eq]
  · simp only [forceN_eq]
  · simp only [forceN_eq]
  · rfl
theorem forceA_eq {α β : Type} (l : AL α) (k : AL α → β) : forceA l k = k l := by cases l <;> rfl
def doneSt (dst : Option Tmp) (v : Value) (T : AL Value) (D : List Value) (H : Heap) (n : Nat) : Option St :=
  forceV v fun v => forceA (putT dst v T) fun T => forceA H fun H => forceN n fun n => some { T, D, H, n }
theorem doneSt_eq {dst : Option Tmp} {v : Value} {T : AL Value} {D : List Value} {H : Heap} {n : Nat} : doneSt dst v T D H n = some { T := putT dst v T, D, H, n } := by
  simp only [doneSt, forceV_eq, forceA_eq, forceN_eq]
def eqV0 : Value → Value → Bool
  | .bool a, .bool b => a == b
  | .int k a, .int j b => decide (k = j) && decide (a = b)
  | .string a, .string b => decide (a.data.toList = b.data.toList)
  | .pointer none, .pointer none => true
  | .pointer (some ⟨b, o, none⟩), .pointer (some ⟨b', o', none⟩) => Nat.beq b b' && Nat.beq o o'
  | .slice none l c, .slice none l' c' => Nat.beq l l' && Nat.beq c c'
  | .slice (some ⟨b, o, none⟩) l c, .slice (some ⟨b', o', none⟩) l' c' => Nat.beq b b' && Nat.beq o o' && Nat.beq l l' && Nat.beq c c'
  | .map none, .map none => true
  | .map (some b), .map (some b') => Nat.beq b b'
  | .nilFunc, .nilFunc => true
  | .nilIface, .nilIface => true
  | _, _ => false
def eqL0 : List Value → List Value → Bool
  | [], [] => true
  | x :: xs, y :: ys => eqV0 x y && eqL0 xs ys
  | _, _ => false
def eqV : Value → Value → Bool
  | .iface t v, .iface t' v' => Nat.beq t t' && eqV0 v v'
  | .agg xs, .agg ys => eqL0 xs.toList ys.toList
  | .tuple xs, .tuple ys => eqL0 xs.toList ys.toList
  | x, y => eqV0 x y
theorem eqV0_spec {x y : Value} (h : eqV0 x y = true) : x = y := by
  unfold eqV0 at h
  split at h <;> simp_all
  rename_i a b
  exact ByteArray.ext h
theorem eqL0_spec : ∀ {x y : List Value}, eqL0 x y = true → x = y
  | [], [], _ => rfl
  | x :: xs, y :: ys, h => by
    simp only [eqL0, Bool.and_eq_true] at h
    rw [eqV0_spec h.1, eqL0_spec h.2]
  | [], _ :: _, h => by cases h
  | _ :: _, [], h => by cases h
theorem eqV_spec {x y : Value} (h : eqV x y = true) : x = y := by
  unfold eqV at h
  split at h
  · simp only [Bool.and_eq_true, Nat.beq_eq] at h
    rw [h.1, eqV0_spec h.2]
  · rw [Array.ext' (eqL0_spec h)]
  · rw [Array.ext' (eqL0_spec h)]
  · exact eqV0_spec h
def eqLV : List Value → List Value → Bool
  | [], [] => true
  | x :: xs, y :: ys => eqV x y && eqLV xs ys
  | _, _ => false
theorem eqLV_spec : ∀ {x y : List Value}, eqLV x y = true → x = y
  | [], [], _ => rfl
  | x :: xs, y :: ys, h => by
    simp only [eqLV, Bool.and_eq_true] at h
    rw [eqV_spec h.1, eqLV_spec h.2]
  | [], _ :: _, h => by cases h
  | _ :: _, [], h => by cases h
def eqO : AObj → AObj → Bool
  | .cells cs t g, .cells cs' t' g' => eqLV cs cs' && Nat.beq t t' && decide (g = g')
  | .map [] k, .map [] k' => Nat.beq k k'
  | _, _ => false
theorem eqO_spec {x y : AObj} (h : eqO x y = true) : x = y := by
  unfold eqO at h
  split at h
  · simp only [Bool.and_eq_true, Nat.beq_eq, decide_eq_true_eq] at h
    rw [eqLV_spec h.1.1, h.1.2, h.2]
  · rw [Nat.beq_eq] at h; rw [h]
  · cases h
def stableB (r : Rec) (H : Heap) : Bool := match r.act with
  | .r vs v => match semR r.st.k vs H with
    | some u => eqV u v
    | none => false
  | .a _ ob _ id => match aget H id with
    | some ob' => eqO ob' ob
    | none => false
  | _ => true
theorem stableB_spec {r : Rec} {H : Heap} (h : stableB r H = true) : r.stable H := by
  unfold stableB at h
  unfold Rec.stable
  split <;> rename_i hact <;> simp only [hact] at h
  · split at h
    · rename_i he; rw [he, eqV_spec h]
    · cases h
  · split at h
    · rename_i he; rw [he, eqO_spec h]
    · cases h
  · trivial
section
variable (P : Program) (G : List Nat) (E : Env)
abbrev CallE := FuncId → List Value → Heap → Nat → Option (Value × Heap × Nat)
def stepE (call : CallE) (st : Step) (s : St) : Option St :=
  match wantT s.T st.guard with
  | none => none
  | some false => doneSt st.dst undef s.T s.D s.H s.n
  | some true =>
    match evs G s.T st.args with
    | none => none
    | some vs =>
      match st.k.cls with
      | .P => match semP E st.k vs with
        | some v => doneSt st.dst v s.T s.D s.H s.n
        | none => none
      | .R => match semR st.k vs s.H with
        | some v => doneSt st.dst v s.T s.D s.H s.n
        | none => none
      | .A => match semA st.k vs with
        | some (ob, mk) => bif Nat.blt s.n big then doneSt st.dst (mk.val s.n) s.T s.D (aput s.H s.n ob) (s.n + 1) else none
        | none => none
      | .W => match semW st.k vs s.H s.n with
        | some (v, H, n) => bif Nat.blt s.n big then doneSt st.dst v s.T s.D H n else none
        | none => none
      | .N => none
      | .C => match target E st.k vs with
        | some (f, args) => match call f args s.H s.n with
          | some (v, H, n) => doneSt st.dst v s.T s.D H n
          | none => none
        | none => none
      | .D => match vs with
        | [d] => bif isFn d then doneSt st.dst undef s.T (d :: s.D) s.H s.n else none
        | _ => none
def stepsE (call : CallE) : List Step → St → Option St
  | [], s => some s
  | st :: r, s => match stepE G E call st s with
    | some s => stepsE call r s
    | none => none
def keepE (ms : List Nat) (i : Nat) (recs : List Rec) : List Rec := recs.filter fun x => !isPred ms i x.i
def plansE (call : CallE) (ms : List Nat) : List (Nat × Step) → List Rec → St → Option St
  | [], _, s => some s
  | (i, st) :: r, recs, s =>
    match wantT s.T st.guard with
    | none => none
    | some false => match doneSt st.dst undef s.T s.D s.H s.n with
      | some s => plansE call ms r recs s
      | none => none
    | some true =>
      match evs G s.T st.args with
      | none => none
      | some vs =>
        match st.k.cls with
        | .P => match semP E st.k vs with
          | some v => match doneSt st.dst v s.T s.D s.H s.n with
            | some s => plansE call ms r recs s
            | none => none
          | none => none
        | .R => match semR st.k vs s.H with
          | some v => match doneSt st.dst v s.T s.D s.H s.n with
            | some s => plansE call ms r (recs ++ [⟨i, st, .r vs v⟩]) s
            | none => none
          | none => none
        | .A => match semA st.k vs with
          | some (ob, mk) => bif Nat.blt s.n big then (bif recs.all fun x => stableB x (aput s.H s.n ob) then
              match doneSt st.dst (mk.val s.n) s.T s.D (aput s.H s.n ob) (s.n + 1) with
              | some s' => plansE call ms r (recs ++ [⟨i, st, .a vs ob mk s.n⟩]) s'
              | none => none
              else none) else none
          | none => none
        | .W => match semW st.k vs s.H s.n with
          | some (v, H, n) => bif Nat.blt s.n big then (bif (keepE ms i recs).all fun x => stableB x H then
              match doneSt st.dst v s.T s.D H n with
              | some s => plansE call ms r (keepE ms i recs) s
              | none => none
              else none) else none
          | none => none
        | .N => none
        | .C => match target E st.k vs with
          | some (f, args) => match call f args s.H s.n with
            | some (v, H, n) => bif (keepE ms i recs).all fun x => stableB x H then
                match doneSt st.dst v s.T s.D H n with
                | some s => plansE call ms r (keepE ms i recs) s
                | none => none
                else none
            | none => none
          | none => none
        | .D => none
def planOrder (steps : List Step) (ms : List Nat) : List Nat :=
  let idx := List.range steps.length
  let eff := idx.filter fun i => match steps[i]? with | some st => isEff st | none => false
  let cnt := fun i => (eff.filter fun e => isPred ms i e).length
  ((List.range (eff.length + 1)).map fun j => (idx.filter fun i => !eff.contains i && cnt i == j) ++ eff.filter fun e => cnt e == j).flatten
def iterE (f : St → Option (EX × St)) : Nat → St → Option (EX × St)
  | 0, _ => none
  | k + 1, s => match f s with
    | some (.normal, s') => iterE f k s'
    | r => r
def dstsB (N : Nat) (steps : List Step) : Bool := steps.all fun st => match st.dst with
  | some d => Nat.blt d N
  | none => true
def regionE (call : CallE) (N : Nat) (ops : Array Oper) (draw : Bool) (s : St) : Option St :=
  match ops.toList.mapM (stepOf P ops) with
  | none => none
  | some steps =>
    match draw with
    | false => bif dstsB N steps then stepsE G E call steps s else none
    | true => match planB P N ops steps (planOrder steps (masks ops.toList [])) with
      | some plan => plansE G E call (masks ops.toList []) plan [] s
      | none => none
def execC (call : CallE) (N lim : Nat) : Code → St → Option (EX × St)
  | .skip, s => some (.normal, s)
  | .region _ ops draw, s => match regionE P G E call N ops draw s with
    | some s => some (.normal, s)
    | none => none
  | .seq a b, s => match execC call N lim a s with
    | some (.normal, s') => execC call N lim b s'
    | r => r
  | .cond c a b, s => match ev G s.T c with
    | some (.bool true) => execC call N lim a s
    | some (.bool false) => execC call N lim b s
    | _ => none
  | .block id c, s => match execC call N lim c s with
    | some (.exit i, s') => bif Nat.beq i id then some (.normal, s') else some (.exit i, s')
    | r => r
  | .loop c, s => iterE (execC call N lim c) lim s
  | .exit id, s => some (.exit id, s)
  | .ret, s => some (.ret, s)
  | .scope c, s => execC call N lim c s
  | .label _, s => some (.normal, s)
  | _, _ => none
def defsE (callD : CallE) (rvs : List RV) (T : AL Value) : List Value → Heap → Nat → Option (Value × Heap × Nat)
  | [], H, n => match rvVals T H rvs with
    | some vs => some (packV vs, H, n)
    | none => none
  | d :: ds, H, n => match d with
    | .func (.func f) a b => match callD f (a.toList ++ b.toList) H n with
      | some (_, H, n) => defsE callD rvs T ds H n
      | none => none
    | _ => none
def bodyE (call callD : CallE) (lim : Nat) (f : FuncId) (args : List Value) (H : Heap) (n : Nat) : Option (Value × Heap × Nat) :=
  match P.funcs[f]? with
  | some fn => match fn.body with
    | some c => bif fn.name == "runtime.NumGoroutine" then none else
      bif Nat.ble args.length fn.ntmps then
        match fn.results.toList.mapM (rvOf P) with
        | some rvs => match execC P G E call fn.ntmps lim c (St.init args H n) with
          | some (.normal, s) => defsE callD rvs s.T s.D s.H s.n
          | some (.ret, s) => defsE callD rvs s.T s.D s.H s.n
          | _ => none
        | none => none
      else none
    | none => none
  | none => none
abbrev Nats := FuncId → Option (List Value → Heap → Nat → Option (Value × Heap × Nat))
end
section
variable {P : Program} {G : List Nat} {E : Env} {N n0 : Nat}
def Sound (P : Program) (G : List Nat) (call : CallE) : Prop := ∀ f args H n v H' n', call f args H n = some (v, H', n') → ∀ post : Value → Heap → Nat → Prop, post v H' n' → F P G f args H n post
def SoundD (P : Program) (G : List Nat) (call : CallE) : Prop := ∀ f args H n v H' n', call f args H n = some (v, H', n') → ∀ post : Value → Heap → Nat → Prop, post v H' n' → FD P G f args H n post
theorem stepE_sound {call : CallE} (hc : Sound P G call) {st : Step} {s s' : St} (h : stepE G E call st s = some s') {post : Value → List Value → Heap → Nat → Prop} (hp : ∀ v, s'.T = putT st.dst v s.T → post v s'.D s'.H s'.n) : SW P G E st s post := by
  unfold stepE at h
  unfold SW
  split at h
  · cases h
  · rename_i hw
    rw [doneSt_eq] at h; cases h
    simp only [hw]
    exact hp _ rfl
  · rename_i hw
    simp only [hw]
    split at h
    · cases h
    · rename_i vs hv
      simp only [hv]
      split at h <;> rename_i hcl <;> simp only [hcl]
      · split at h
        · rename_i v hs; rw [doneSt_eq] at h; cases h; exact ⟨v, hs, hp _ rfl⟩
        · cases h
      · split at h
        · rename_i v hs; rw [doneSt_eq] at h; cases h; exact ⟨v, hs, hp _ rfl⟩
        · cases h
      · split at h
        · rename_i ob mk hs
          cases hnb : Nat.blt s.n big with
          | false => rw [hnb] at h; cases h
          | true => rw [hnb, cond_true, doneSt_eq] at h; cases h; exact ⟨ob, mk, hs, by simpa [Nat.blt_eq] using hnb, hp _ rfl⟩
        · cases h
      · split at h
        · rename_i v H n hs
          cases hnb : Nat.blt s.n big with
          | false => rw [hnb] at h; cases h
          | true => rw [hnb, cond_true, doneSt_eq] at h; cases h; exact ⟨by simpa [Nat.blt_eq] using hnb, .inl ⟨v, H, n, hs, hp _ rfl⟩⟩
        · cases h
      · cases h
      · split at h
        · rename_i f args ht
          split at h
          · rename_i v H n hs
            rw [doneSt_eq] at h; cases h
            exact ⟨f, args, ht, hc _ _ _ _ _ _ _ hs _ (hp _ rfl)⟩
          · cases h
        · cases h
      · split at h
        · rename_i d
          cases hd : isFn d with
          | false => rw [hd] at h; cases h
          | true =>
            rw [hd, cond_true, doneSt_eq] at h; cases h
            exact ⟨d, rfl, hd, hp _ rfl⟩
        · cases h
theorem stepsE_sound {call : CallE} (hc : Sound P G call) {Q : St → Prop} : ∀ {steps : List Step} {s s' : St}, stepsE G E call steps s = some s' → Q s' → RS P G E steps Q s
  | [], s, s', h, hq => by simp [stepsE] at h; subst h; exact hq
  | st :: r, s, s', h, hq => by
    simp only [stepsE] at h
    split at h
    · rename_i s1 h1
      refine stepE_sound hc h1 fun v hv => ?_
      rw [← hv]
      exact stepsE_sound hc h hq
    · cases h
def trivR (r : Rec) : Prop := ∀ H, r.stable H
theorem plansE_sound {call : CallE} (hc : Sound P G call) {ms : List Nat} {Q : St → Prop} : ∀ {plan : List (Nat × Step)} {recs recs' : List Rec} {s s' : St}, plansE G E call ms plan recs s = some s' → (∀ x ∈ recs', x ∈ recs ∨ trivR x) → Q s' → RK P G E ms plan recs' Q s
  | [], recs, recs', s, s', h, hr, hq => by simp [plansE] at h; subst h; exact hq
  | (i, st) :: r, recs, recs', s, s', h, hr, hq => by
    unfold plansE at h
    unfold RK
    have snocT : ∀ (y : Rec), trivR y → ∀ x ∈ recs' ++ [y], x ∈ recs ∨ trivR x := by
      intro y hy x hx
      rcases List.mem_append.1 hx with hx | hx
      · exact hr x hx
      · simp at hx; subst hx; exact .inr hy
    have snocM : ∀ (y : Rec), ∀ x ∈ recs' ++ [y], x ∈ recs ++ [y] ∨ trivR x := by
      intro y x hx
      rcases List.mem_append.1 hx with hx | hx
      · exact (hr x hx).imp (List.mem_append_left _) id
      · exact .inl (List.mem_append_right _ hx)
    have stab : ∀ {l : List Rec} {H : Heap}, (l.all fun x => stableB x H) = true → ∀ (l' : List Rec), (∀ x ∈ l', x ∈ l ∨ trivR x) → ∀ x ∈ l', x.stable H := by
      intro l H hl l' hl' x hx
      rw [List.all_eq_true] at hl
      rcases hl' x hx with h1 | h1
      · exact stableB_spec (hl x h1)
      · exact h1 H
    have kept : ∀ x ∈ recs'.filter (fun x => !isPred ms i x.i), x ∈ keepE ms i recs ∨ trivR x := by
      intro x hx
      rw [List.mem_filter] at hx
      rcases hr x hx.1 with h1 | h1
      · exact .inl (List.mem_filter.2 ⟨h1, hx.2⟩)
      · exact .inr h1
    split at h
    · cases h
    · rename_i hw
      simp only [hw]
      rw [doneSt_eq] at h
      exact plansE_sound hc h (snocT _ fun _ => trivial) hq
    · rename_i hw
      simp only [hw]
      split at h
      · cases h
      · rename_i vs hv
        simp only [hv]
        split at h <;> rename_i hcl <;> simp only [hcl]
        · split at h
          · rename_i v hs
            rw [doneSt_eq] at h
            exact ⟨v, hs, plansE_sound hc h (snocT _ fun _ => trivial) hq⟩
          · cases h
        · split at h
          · rename_i v hs
            rw [doneSt_eq] at h
            exact ⟨v, hs, plansE_sound hc h (snocM _) hq⟩
          · cases h
        · split at h
          · rename_i ob mk hs
            cases hnb : Nat.blt s.n big with
            | false => rw [hnb] at h; cases h
            | true =>
            rw [hnb, cond_true] at h
            cases hst : recs.all fun x => stableB x (aput s.H s.n ob) with
            | false => rw [hst] at h; cases h
            | true =>
              rw [hst, cond_true, doneSt_eq] at h
              exact ⟨ob, mk, hs, by simpa [Nat.blt_eq] using hnb, stab hst recs' hr, plansE_sound hc h (snocM _) hq⟩
          · cases h
        · split at h
          · rename_i v H n hs
            cases hnb : Nat.blt s.n big with
            | false => rw [hnb] at h; cases h
            | true =>
            rw [hnb, cond_true] at h
            cases hst : (keepE ms i recs).all fun x => stableB x H with
            | false => rw [hst] at h; cases h
            | true =>
              rw [hst, cond_true, doneSt_eq] at h
              exact ⟨by simpa [Nat.blt_eq] using hnb, .inl ⟨v, H, n, hs, stab hst _ kept, plansE_sound hc h kept hq⟩⟩
          · cases h
        · cases h
        · split at h
          · rename_i f args ht
            split at h
            · rename_i v H n hs
              cases hst : (keepE ms i recs).all fun x => stableB x H with
              | false => rw [hst] at h; cases h
              | true =>
                rw [hst, cond_true, doneSt_eq] at h
                exact ⟨f, args, ht, hc _ _ _ _ _ _ _ hs _ ⟨stab hst _ kept, plansE_sound hc h kept hq⟩⟩
            · cases h
          · cases h
        · cases h
theorem dstsB_spec {steps : List Step} (h : dstsB N steps = true) : ∀ st ∈ steps, ∀ d, st.dst = some d → d < N := by
  intro st hst d hd
  simp only [dstsB, List.all_eq_true] at h
  have := h st hst
  rw [hd] at this
  simpa [Nat.blt_eq] using this
theorem regionE_sound (hE : EnvOk P E) (hm : P.follows .mixedOrders = true) {call : CallE} (hc : Sound P G call) {id : Nat} {ops : Array Oper} {draw : Bool} {s s' : St} (h : regionE P G E call N ops draw s = some s') {Q : EX → St → Prop} (hq : Q .normal s') :
    W P G N n0 (.region id ops draw) Q s := by
  unfold regionE at h
  split at h
  · cases h
  · rename_i steps hst
    split at h
    · cases hd : dstsB N steps with
      | false => rw [hd] at h; cases h
      | true =>
        rw [hd, cond_true] at h
        exact W_region hE hst (dstsB_spec hd) (stepsE_sound hc h hq)
    · split at h
      · rename_i plan hpl
        exact W_region_draw hE hm hst hpl (plansE_sound hc h (by simp) hq)
      · cases h
theorem W_scope {c : Code} {Q : EX → St → Prop} {s : St} (h : W P G N n0 c Q s) : W P G N n0 (.scope c) Q s := by
  intro β0 w0 β a w h0 hr hf
  refine wp_scope_straight (wp_mono (h β0 w0 β a w h0 hr hf) fun e a w hq => ?_)
  cases e with
  | goto l => obtain ⟨x, s', β', hx, _⟩ := hq; cases hx
  | _ => exact hq
theorem W_label {l : Nat} {Q : EX → St → Prop} {s : St} (h : Q .normal s) : W P G N n0 (.label l) Q s :=
  fun _ _ β _ _ _ hr hf => wp_label ⟨.normal, s, β, .normal, hr, hf, h⟩
theorem execC_sound (hE : EnvOk P E) (hm : P.follows .mixedOrders = true) {call : CallE} (hc : Sound P G call) {lim : Nat} : ∀ (c : Code) (s : St) (x : EX) (s' : St), execC P G E call N lim c s = some (x, s') → ∀ Q : EX → St → Prop, Q x s' → W P G N n0 c Q s := by
  intro c
  induction c with
  | skip => intro s x s' h Q hq; simp only [execC] at h; cases h; exact W_skip hq
  | region id ops draw =>
    intro s x s' h Q hq
    simp only [execC] at h
    split at h
    · rename_i s1 h1; cases h; exact regionE_sound hE hm hc h1 hq
    · cases h
  | seq a b iha ihb =>
    intro s x s' h Q hq
    simp only [execC] at h
    refine W_seq ?_
    split at h
    · rename_i s1 h1; exact iha _ _ _ h1 _ (ihb _ _ _ h _ hq)
    · rename_i r hr
      refine iha _ _ _ h _ ?_
      cases x with
      | normal => exact absurd h (by intro h; exact hr _ h)
      | _ => exact hq
  | cond c a b iha ihb =>
    intro s x s' h Q hq
    simp only [execC] at h
    split at h
    · rename_i h1; exact W_cond h1 (iha _ _ _ h _ hq)
    · rename_i h1; exact W_cond h1 (ihb _ _ _ h _ hq)
    · cases h
  | block id c ih =>
    intro s x s' h Q hq
    simp only [execC] at h
    refine W_block ?_
    split at h
    · rename_i i s1 h1
      refine ih _ _ _ h1 _ ?_
      simp only [blockQ]
      cases hb : Nat.beq i id with
      | true => rw [hb, cond_true] at h; cases h; rw [if_pos (Nat.eq_of_beq_eq_true hb)]; exact hq
      | false => rw [hb, cond_false] at h; cases h; rw [if_neg (Nat.ne_of_beq_eq_false hb)]; exact hq
    · rename_i r hr
      refine ih _ _ _ h _ ?_
      cases x with
      | exit i => exact absurd h (by intro h; exact hr _ _ h)
      | _ => exact hq
  | loop c ih =>
    intro s x s' h Q hq
    simp only [execC] at h
    have key : ∀ (k : Nat) (s : St), iterE (execC P G E call N lim c) k s = some (x, s') → WRo P G N n0 k c Q s := by
      intro k
      induction k with
      | zero => intro s h; cases h
      | succ k ihk =>
        intro s h
        simp only [iterE] at h
        refine WRo_succ ?_
        split at h
        · rename_i s1 h1
          exact ih _ _ _ h1 _ (ihk _ h)
        · rename_i r hr
          refine ih _ _ _ h _ ?_
          cases x with
          | normal => exact absurd h (by intro h; exact hr _ h)
          | _ => exact hq
    exact W_loop_rounds (key lim s h)
  | exit id => intro s x s' h Q hq; simp only [execC] at h; cases h; exact W_exit hq
  | ret => intro s x s' h Q hq; simp only [execC] at h; cases h; exact W_ret hq
  | scope c ih => intro s x s' h Q hq; simp only [execC] at h; exact W_scope (ih _ _ _ h _ hq)
  | label l => intro s x s' h Q hq; simp only [execC] at h; cases h; exact W_label hq
  | _ => intro s x s' h Q hq; simp only [execC] at h; cases h
theorem defsE_sound {callD : CallE} (hd : SoundD P G callD) {rvs : List RV} {T : AL Value} {post : Value → Heap → Nat → Prop} : ∀ (D : List Value) (H : Heap) (n : Nat) (v : Value) (H' : Heap) (n' : Nat), defsE callD rvs T D H n = some (v, H', n') → post v H' n' → Defs P G rvs T post D H n
  | [], H, n, v, H', n', h, hp => by
    simp only [defsE] at h
    split at h
    · rename_i vs hv; cases h; exact ⟨vs, hv, hp⟩
    · cases h
  | d :: ds, H, n, v, H', n', h, hp => by
    simp only [defsE] at h
    split at h
    · rename_i f a b
      split at h
      · rename_i u H1 n1 h1
        exact ⟨f, a, b, rfl, hd _ _ _ _ _ _ _ h1 _ (defsE_sound hd ds H1 n1 v H' n' h hp)⟩
      · cases h
    · cases h
structure BodyAt (P : Program) (f : FuncId) (args : List Value) where
  fn : Func
  c : Code
  rvs : List RV
  hf : P.funcs[f]? = some fn
  hb : fn.body = some c
  hn : (fn.name == "runtime.NumGoroutine") = false
  hN : args.length ≤ fn.ntmps
  hrv : fn.results.toList.mapM (rvOf P) = some rvs
theorem bodyE_sound (hE : EnvOk P E) (hm : P.follows .mixedOrders = true) {call callD : CallE} (hc : Sound P G call) (hd : SoundD P G callD) {lim : Nat} {f : FuncId} {args : List Value} {H : Heap} {n : Nat} {v : Value} {H' : Heap} {n' : Nat}
    (h : bodyE P G E call callD lim f args H n = some (v, H', n')) (post : Value → Heap → Nat → Prop) (hp : post v H' n') :
    ∃ b : BodyAt P f args, W P G b.fn.ntmps n b.c (EndsD P G b.rvs post) (St.init args H n) := by
  unfold bodyE at h
  split at h
  case h_2 => cases h
  rename_i fn hf
  split at h
  case h_2 => cases h
  rename_i c hb
  cases hn : fn.name == "runtime.NumGoroutine" with
  | true => rw [hn] at h; cases h
  | false =>
    rw [hn, cond_false] at h
    cases hN : Nat.ble args.length fn.ntmps with
    | false => rw [hN] at h; cases h
    | true =>
      rw [hN, cond_true] at h
      split at h
      case h_2 => cases h
      rename_i rvs hrv
      refine ⟨⟨fn, c, rvs, hf, hb, hn, Nat.le_of_ble_eq_true hN, hrv⟩, ?_⟩
      split at h
      · rename_i s1 h1
        exact execC_sound hE hm hc _ _ _ _ h1 _ (defsE_sound hd _ _ _ _ _ _ h hp)
      · rename_i s1 h1
        exact execC_sound hE hm hc _ _ _ _ h1 _ (defsE_sound hd _ _ _ _ _ _ h hp)
      · cases h
theorem FD_of_bodyD {f : FuncId} {fn : Func} {c : Code} {rvs : List RV} {args : List Value} {H : Heap} {n : Nat} {post : Value → Heap → Nat → Prop} (hf : P.funcs[f]? = some fn) (hb : fn.body = some c) (hn : (fn.name == "runtime.NumGoroutine") = false) (hN : args.length ≤ fn.ntmps)
    (hrv : fn.results.toList.mapM (rvOf P) = some rvs) (h : W P G fn.ntmps n c (fun x s => s.D = [] ∧ EndsD P G rvs post x s) (St.init args H n)) : FD P G f args H n post :=
  FD_of_body hf hb hn hN hrv (h.mono fun x s hq => by
    cases x with
    | exit i => exact hq.2.elim
    | _ =>
      obtain ⟨h1, h2⟩ := hq
      simp only [EndsD, h1] at h2
      exact ⟨h1, h2⟩)
end
end Go.Cs
namespace Go.Cs
structure Ids where
  countString : FuncId
  indexByte : FuncId
  noEscape : FuncId
  clash : FuncId
  counts : FuncId
  push : FuncId
  boxT : TypeId
def nCount : List Value → Heap → Nat → Option (Value × Heap × Nat)
  | [.string s, .int .u8 c], H, n => some (.int .i64 (Lib.countByte s.data.toList c.toNat.toUInt8), H, n)
  | _, _, _ => none
def nIndex : List Value → Heap → Nat → Option (Value × Heap × Nat)
  | [.string s, .int .u8 c], H, n => some (.int .i64 (Lib.indexByte s.data.toList c.toNat.toUInt8), H, n)
  | _, _, _ => none
def nSame : List Value → Heap → Nat → Option (Value × Heap × Nat)
  | [v], H, n => some (v, H, n)
  | _, _, _ => none
def ndN : List Nat → Bool
  | [] => true
  | x :: r => !(r.any fun y => Nat.beq x y) && ndN r
def bornB (es : List MapEntry) (clk : Nat) : Bool := ndN (es.map (·.born)) && es.all fun e => Nat.blt e.born clk
def leastS (o : Int) (e : MapEntry) : Int := match e.key, e.val with
  | .int _ d, .int _ k => if k > 1 then (if o = 0 ∨ d < o then d else o) else o
  | _, _ => o
def leastB (es : List MapEntry) : Bool := es.all fun e => match e.key, e.val with
  | .int .i64 d, .int .i64 _ => decide (0 < d)
  | _, _ => false
def nClash (bt : TypeId) (counts : List Value → Heap → Nat → Option (Value × Heap × Nat)) : List Value → Heap → Nat → Option (Value × Heap × Nat)
  | [.agg a], H, n => match a.toList, aget H n with
    | [x, y], none => bif Nat.blt n big then (match counts [.agg #[x, y]] (aput H n (.cells [x, y] bt none)) (n + 1) with
      | some (.map (some b), H, n) => match aget H b, aget H n with
        | some (.map es clk), none => bif bornB es clk && leastB es && Nat.blt n big then some (.int .i64 (es.foldl leastS 0), H, n + 1) else none
        | _, _ => none
      | _ => none) else none
    | _, _ => none
  | _, _, _ => none
def pushS (o : Nat) (ns : List Value) (e : MapEntry) : List Value := match e.key, e.val with
  | .int _ k, .bool more => match ns[o + k.toNat]? with
    | some (.int kk x) => ns.set (o + k.toNat) (.int kk (kk.wrap (if more then x + 1 else x - 1)))
    | _ => ns
  | _, _ => ns
def pushB (o len : Nat) (ns : List Value) (es : List MapEntry) : Bool := es.all fun e => match e.key, e.val with
  | .int .i64 k, .bool _ => decide (0 ≤ k ∧ k < (len : Int)) && (match ns[o + k.toNat]? with | some (.int .i64 _) => true | _ => false)
  | _, _ => false
def keyN (e : MapEntry) : Nat := match e.key with
  | .int _ k => k.toNat
  | _ => 0
def nPush : List Value → Heap → Nat → Option (Value × Heap × Nat)
  | [.pointer (some ⟨b, o, none⟩), .map (some m)], H, n => match aget H b, aget H m with
    | some (.cells cs _ _), some (.map es clk) => match cs[o + 2]? with
      | some (.slice (some ⟨b2, o2, none⟩) len _) => match aget H b2, aget H n with
        | some (.cells ns t g), none => bif bornB es clk && ndN (es.map keyN) && pushB o2 len ns es && Nat.blt (n + 1) big && !Nat.beq b b2 then some (.tuple #[], aput H b2 (.cells (es.foldl (pushS o2) ns) t g), n + 1) else none
        | _, _ => none
      | _ => none
    | _, _ => none
  | _, _, _ => none
section
variable (P : Program) (G : List Nat) (E : Env) (lim : Nat) (ids : Ids)
def nats0 : Nats := fun f =>
  bif Nat.beq f ids.countString then some nCount else bif Nat.beq f ids.indexByte then some nIndex else bif Nat.beq f ids.noEscape then some nSame else none
def evG (nat : Nats) : Nat → CallE
  | 0 => fun _ _ _ _ => none
  | k + 1 => fun f args H n => match nat f with
    | some g => g args H n
    | none => bodyE P G E (evG nat k) (fun f args H n => match nat f with
      | some _ => none
      | none => bodyE P G E (evG nat k) (fun _ _ _ _ => none) lim f args H n) lim f args H n
def nats (k : Nat) : Nats := fun f =>
  bif Nat.beq f ids.clash then some (nClash ids.boxT fun args H n => evG P G E lim (nats0 ids) k ids.counts args H n)
  else bif Nat.beq f ids.push then some nPush else nats0 ids f
def run (k : Nat) : CallE := evG P G E lim (nats P G E lim ids 12) k
end
end Go.Cs
namespace Go.Cs
section
variable {P : Program} {G : List Nat} {E : Env}
theorem OR.flatRen {β β' : Ren} {e : Bl} {cs : List Value} {t : TypeId} {o : Obj} (hf : flats cs = true) (h : OR β e (.cells cs t none) o) : OR β' e (.cells cs t none) o := by
  cases h with
  | exact a b c d =>
    rename_i c' fr
    refine .exact a b ?_ d
    rw [VRs.flatEq hf c]
    exact VRs.flat hf
def onlyG (G : List Nat) (β : Ren) : Ren := fun i => if i ∈ G then β i else none
def GlobOk (G : List Nat) (H0 : Heap) (n0 : Nat) : Prop := ∀ g ∈ G, g < n0 ∧ ∃ cs t, aget H0 g = some (.cells cs t none) ∧ flats cs = true
theorem onlyG_le {β : Ren} : Ren.le (onlyG G β) β := by
  intro i e h
  unfold onlyG at h
  split at h
  · exact h
  · cases h
theorem onlyG_at {β : Ren} {H : Heap} {n : Nat} {w : World} (hr : HR G β H n w) {i : Nat} {e : Bl} (h : onlyG G β i = some e) : i ∈ G ∧ e = ⟨i, 0, none⟩ := by
  unfold onlyG at h
  split at h
  · rename_i hi
    rw [hr.glob i hi] at h
    exact ⟨hi, (Option.some.inj h).symm⟩
  · cases h
theorem HR.onlyG {β : Ren} {H H0 : Heap} {n n0 : Nat} {w : World} (hG : GlobOk G H0 n0) (hH : ∀ g ∈ G, aget H g = aget H0 g) (hH0 : ∀ i, i ∉ G → aget H0 i = none) (hr : HR G β H n w) : HR G (onlyG G β) H0 n0 w where
  glob := by
    intro g hg
    unfold Cs.onlyG
    rw [if_pos hg]
    exact hr.glob g hg
  dom := by
    intro i e h
    obtain ⟨h1, h2⟩ := onlyG_at hr h
    exact ⟨.inl (hG i h1).1, (hr.dom (onlyG_le _ _ h)).2⟩
  fin := let ⟨M, hM⟩ := hr.fin; ⟨M, fun i e h => hM i e (onlyG_le _ _ h)⟩
  inj := by
    intro i j e f hi hj _ _ he
    obtain ⟨_, rfl⟩ := onlyG_at hr hi
    obtain ⟨_, rfl⟩ := onlyG_at hr hj
    exact he
  obj := by
    intro i e o hi ho
    obtain ⟨h1, h2⟩ := onlyG_at hr hi
    obtain ⟨b, q1, q2⟩ := hr.obj (onlyG_le _ _ hi) ((hH i h1).trans ho)
    obtain ⟨_, cs, t, q3, q4⟩ := hG i h1
    rw [q3] at ho; cases ho
    exact ⟨b, q1, q2.flatRen q4⟩
theorem Ret_closed {β : Ren} {H H0 : Heap} {n n0 : Nat} {w w' : World} {v0 v' : Value} (hG : GlobOk G H0 n0) (hH : ∀ g ∈ G, aget H g = aget H0 g) (hv : flat v0 = true) (hr : HR G β H n w)
    (h : Ret G (onlyG G β) n0 w (fun v H' n' => v = v0 ∧ ∀ g ∈ G, aget H' g = aget H0 g) v' w') : Ret G β n w (fun v H' n' => v = v0 ∧ H' = H ∧ n' = n) v' w' := by
  obtain ⟨v, β', H', n', hv', hr', hf, rfl, hk⟩ := h
  have hval : v' = v := hv'.flatEq hv
  subst hval
  have hkeep : ∀ i e, β i = some e → isLive H i → i ∉ G → w'.heap[e.blk]? = w.heap[e.blk]? := by
    intro i e hi hl hg
    refine hf.keep e.blk (hr.dom hi).2 fun j f hj hb => ?_
    obtain ⟨hj1, rfl⟩ := onlyG_at hr hj
    obtain ⟨_, cs, t, q3, q4⟩ := hG j hj1
    refine hg ?_
    rw [hr.inj hi (hr.glob j hj1) hl ⟨_, (hH j hj1).trans q3, rfl⟩ hb.symm]
    exact hj1
  refine ⟨v', β, H, n, .same hv, ?_, ?_, rfl, rfl, rfl⟩
  · refine ⟨hr.glob, fun h => ⟨(hr.dom h).1, Nat.lt_of_lt_of_le (hr.dom h).2 hf.size⟩, hr.fin, hr.inj, ?_⟩
    intro i e o hi ho
    obtain ⟨b, q1, q2⟩ := hr.obj hi ho
    by_cases hg : i ∈ G
    · have hi' := hr.glob i hg
      rw [hi'] at hi; cases hi
      obtain ⟨_, cs, t, q3, q4⟩ := hG i hg
      have hho := (hH i hg).symm.trans ho
      rw [q3] at hho; cases hho
      obtain ⟨b', r1, r2⟩ := hr'.obj (hf.ext i _ (by unfold onlyG; rw [if_pos hg]; exact hi')) ((hk i hg).trans q3)
      exact ⟨b', r1, r2.flatRen q4⟩
    · by_cases hl : o.live = true
      · exact ⟨b, by rw [hkeep i e hi ⟨o, ho, hl⟩ hg]; exact q1, q2⟩
      · have : o = .dead := by cases o <;> first | rfl | exact absurd rfl hl
        subst this
        have hlt := Nat.lt_of_lt_of_le (hr.dom hi).2 hf.size
        exact ⟨w'.heap[e.blk], by simp [hlt], .dead⟩
  · refine ⟨Ren.le_refl _, fun h => .inl h, Nat.le_refl _, hf.size, fun b hb hno => ?_, hf.os, hf.tape, hf.output⟩
    exact hf.keep b hb fun i e hi => hno i e (onlyG_le _ _ hi)
theorem F_closed {f : FuncId} {args : List Value} {H H0 : Heap} {n n0 : Nat} {v0 : Value} (ha : flats args = true) (hv : flat v0 = true) (hG : GlobOk G H0 n0) (hH0 : ∀ i, i ∉ G → aget H0 i = none) (hH : ∀ g ∈ G, aget H g = aget H0 g)
    (h : F P G f args H0 n0 fun v H' n' => v = v0 ∧ ∀ g ∈ G, aget H' g = aget H0 g) : F P G f args H n fun v H' n' => v = v0 ∧ H' = H ∧ n' = n := by
  intro β w args' hargs hr
  have := VRs.flatEq ha hargs
  subst this
  rcases h (onlyG G β) w args' (VRs.flat ha) (hr.onlyG hG hH hH0) with ⟨h1, h2⟩ | ⟨v', w', h1, h2⟩
  · exact .inl ⟨h1, h2.mono fun e w' ⟨v', he, hv'⟩ => ⟨v', he, Ret_closed hG hH hv hr hv'⟩⟩
  · exact .inr ⟨v', w', h1, Ret_closed hG hH hv hr h2⟩
def NatOk (P : Program) (G : List Nat) (nat : Nats) : Prop := ∀ f g, nat f = some g → ∀ args H n v H' n', g args H n = some (v, H', n') → ∀ post : Value → Heap → Nat → Prop, post v H' n' → F P G f args H n post
theorem defsE_none {rvs : List RV} {T : AL Value} {D : List Value} {H : Heap} {n : Nat} {r : Value × Heap × Nat} (h : defsE (fun _ _ _ _ => none) rvs T D H n = some r) : D = [] := by
  cases D with
  | nil => rfl
  | cons d ds =>
    simp only [defsE] at h
    split at h
    · cases h
    · cases h
theorem bodyE_soundD (hE : EnvOk P E) (hm : P.follows .mixedOrders = true) {call : CallE} (hc : Sound P G call) {lim : Nat} {f : FuncId} {args : List Value} {H : Heap} {n : Nat} {v : Value} {H' : Heap} {n' : Nat}
    (h : bodyE P G E call (fun _ _ _ _ => none) lim f args H n = some (v, H', n')) (post : Value → Heap → Nat → Prop) (hp : post v H' n') : FD P G f args H n post := by
  unfold bodyE at h
  split at h
  case h_2 => cases h
  rename_i fn hf
  split at h
  case h_2 => cases h
  rename_i c hb
  cases hn : fn.name == "runtime.NumGoroutine" with
  | true => rw [hn] at h; cases h
  | false =>
    rw [hn, cond_false] at h
    cases hN : Nat.ble args.length fn.ntmps with
    | false => rw [hN] at h; cases h
    | true =>
      rw [hN, cond_true] at h
      split at h
      case h_2 => cases h
      rename_i rvs hrv
      have hd : SoundD P G (fun _ _ _ _ => none) := fun _ _ _ _ _ _ _ h => by cases h
      refine FD_of_bodyD hf hb hn (Nat.le_of_ble_eq_true hN) hrv ?_
      split at h
      · rename_i s1 h1
        exact execC_sound hE hm hc _ _ _ _ h1 _ ⟨defsE_none h, defsE_sound hd _ _ _ _ _ _ h hp⟩
      · rename_i s1 h1
        exact execC_sound hE hm hc _ _ _ _ h1 _ ⟨defsE_none h, defsE_sound hd _ _ _ _ _ _ h hp⟩
      · cases h
theorem evG_sound (hE : EnvOk P E) (hm : P.follows .mixedOrders = true) {nat : Nats} (hn : NatOk P G nat) {lim : Nat} : ∀ k, Sound P G (evG P G E lim nat k)
  | 0 => fun _ _ _ _ _ _ _ h => by cases h
  | k + 1 => by
    intro f args H n v H' n' h post hp
    have ih := evG_sound hE hm hn (lim := lim) k
    simp only [evG] at h
    split at h
    · rename_i g hg
      exact hn f g hg args H n v H' n' h post hp
    · rename_i hg
      have hd : SoundD P G (fun f args H n => match nat f with
          | some _ => none
          | none => bodyE P G E (evG P G E lim nat k) (fun _ _ _ _ => none) lim f args H n) := by
        intro f args H n v H' n' h post hp
        simp only at h
        split at h
        · cases h
        · exact bodyE_soundD hE hm ih h post hp
      obtain ⟨b, hb⟩ := bodyE_sound hE hm ih hd h post hp
      exact F_of_bodyD b.hf b.hb b.hn b.hN b.hrv hb
end
end Go.Cs
