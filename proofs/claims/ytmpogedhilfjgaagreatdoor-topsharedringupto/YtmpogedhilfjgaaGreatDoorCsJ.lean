/- A part of the proof that the law spadilletop.TopSharedRing answers true and leaves its argument as it was (CsJ) -/
import Derived.Test.YtmpogedhilfjgaaGreatDoorCsG
import Derived.Test.YtmpogedhilfjgaaGreatDoorCsI
set_option linter.all false
namespace Go.Cs
section
variable {P : Program} {G : List Nat} {E : Env}
theorem F_extern {f : FuncId} {fn : Func} {e : Array Value → Sem Value} (hf : P.funcs[f]? = some fn) (hname : (fn.name == "runtime.NumGoroutine") = false)
    (hb : fn.body.isNone = true) (hn : Extern.findNext fn = none) (he : Extern.find fn = some e) {args : List Value} {H : Heap} {n : Nat} {post : Value → Heap → Nat → Prop}
    (h : ∀ β args' w, VRs β args args' → ∃ v v', (e args'.toArray).run P w = .ok v' w ∧ VR β v v' ∧ post v H n) : F P G f args H n post := by
  intro β w args' ha hr
  obtain ⟨v, v', h1, h2, h3⟩ := h β args' w ha
  exact .inr ⟨v', w, by rw [run_callFunc_extern hf hname hb hn he, h1]; rfl, v, β, H, n, h2, hr, .refl _ _ _, h3⟩
theorem nCount_ok {f : FuncId} {fn : Func} (hf : P.funcs[f]? = some fn) (hname : (fn.name == "runtime.NumGoroutine") = false) (hb : fn.body.isNone = true) (hn : Extern.findNext fn = none) (he : Extern.find fn = some Extern.BytealgCount.count)
    {args : List Value} {H : Heap} {n : Nat} {v : Value} {H' : Heap} {n' : Nat} (h : nCount args H n = some (v, H', n')) {post : Value → Heap → Nat → Prop} (hp : post v H' n') : F P G f args H n post := by
  unfold nCount at h
  split at h
  · cases h
    refine F_extern hf hname hb hn he fun β args' w ha => ?_
    have := VRs.flatEq rfl ha
    subst this
    exact ⟨_, _, Lib.run_countString _ _ w, .same rfl, hp⟩
  · cases h
theorem nIndex_ok {f : FuncId} {fn : Func} (hf : P.funcs[f]? = some fn) (hname : (fn.name == "runtime.NumGoroutine") = false) (hb : fn.body.isNone = true) (hn : Extern.findNext fn = none) (he : Extern.find fn = some Extern.BytealgIndexByte.indexByte)
    {args : List Value} {H : Heap} {n : Nat} {v : Value} {H' : Heap} {n' : Nat} (h : nIndex args H n = some (v, H', n')) {post : Value → Heap → Nat → Prop} (hp : post v H' n') : F P G f args H n post := by
  unfold nIndex at h
  split at h
  · cases h
    refine F_extern hf hname hb hn he fun β args' w ha => ?_
    have := VRs.flatEq rfl ha
    subst this
    exact ⟨_, _, Lib.run_indexByteString _ _ w, .same rfl, hp⟩
  · cases h
theorem nSame_ok {f : FuncId} {fn : Func} (hf : P.funcs[f]? = some fn) (hname : (fn.name == "runtime.NumGoroutine") = false) (hb : fn.body.isNone = true) (hn : Extern.findNext fn = none) (he : Extern.find fn = some Extern.AbiNoEscape.same)
    {args : List Value} {H : Heap} {n : Nat} {v : Value} {H' : Heap} {n' : Nat} (h : nSame args H n = some (v, H', n')) {post : Value → Heap → Nat → Prop} (hp : post v H' n') : F P G f args H n post := by
  unfold nSame at h
  split at h
  · cases h
    refine F_extern hf hname hb hn he fun β args' w ha => ?_
    match args', ha with
    | [x'], ha => exact ⟨_, x', rfl, ha.hd.1, hp⟩
  · cases h
theorem nClosed_ok {f : FuncId} {gl : AObj} {H0 : Heap} (hG : GlobOk [0] H0 1) (h0 : aget H0 0 = some gl) (hH0 : ∀ i, i ∉ [0] → aget H0 i = none) (hf : F P [0] f [] H0 1 fun v H' n' => v = .bool true ∧ aget H' 0 = some gl)
    {args : List Value} {H : Heap} {n : Nat} {v : Value} {H' : Heap} {n' : Nat} (h : nClosed gl args H n = some (v, H', n')) {post : Value → Heap → Nat → Prop} (hp : post v H' n') : F P [0] f args H n post := by
  unfold nClosed at h
  split at h
  · split at h
    · rename_i o ho
      cases he : eqO o gl with
      | false => rw [he] at h; cases h
      | true =>
        rw [he] at h; cases h
        have := eqO_spec he
        subst this
        have hg : ∀ g ∈ [0], aget H g = aget H0 g := by
          intro g hg
          simp only [List.mem_cons, List.not_mem_nil, or_false] at hg
          subst hg; rw [ho, h0]
        have hcl : F P [0] f [] H n fun v H' n' => v = .bool true ∧ H' = H ∧ n' = n := F_closed (v0 := .bool true) rfl rfl hG hH0 hg (hf.mono fun v H' n' ⟨h1, h2⟩ => ⟨h1, fun g hg => by
          simp only [List.mem_cons, List.not_mem_nil, or_false] at hg
          subst hg; rw [h2, h0]⟩)
        refine hcl.mono ?_
        rintro v H' n' ⟨rfl, rfl, rfl⟩; exact hp
    · cases h
  · cases h
end
end Go.Cs
namespace Go.Cs
section
variable {σ : Type} {step : σ → MapEntry → σ} {s0 : σ} {es : List MapEntry} {seen : List Nat} {e : MapEntry}
def seenOf (es : List MapEntry) (seen : List Nat) : List MapEntry := es.filter fun e => decide (e.born ∈ seen)
theorem seenOf_nil : seenOf es [] = [] := by simp [seenOf]
theorem seenOf_all (h : ∀ e ∈ es, e.born ∈ seen) : seenOf es seen = es := by
  unfold seenOf
  rw [List.filter_eq_self]
  intro a ha
  simpa using h a ha
theorem foldl_out : ∀ (l : List MapEntry) (s : σ), (∀ a ∈ l, ∀ s, step (step s e) a = step (step s a) e) → l.foldl step (step s e) = step (l.foldl step s) e
  | [], s, _ => rfl
  | a :: l, s, h => by
    simp only [List.foldl_cons]
    rw [h a List.mem_cons_self, foldl_out l _ fun a ha => h a (List.mem_cons_of_mem _ ha)]
theorem seenOf_next (hc : ∀ a ∈ es, ∀ b ∈ es, a.born ≠ b.born → ∀ s, step (step s a) b = step (step s b) a) (hnd : (es.map (·.born)).Nodup) (he : e ∈ es) (hn : e.born ∉ seen) :
    (seenOf es (seen ++ [e.born])).foldl step s0 = step ((seenOf es seen).foldl step s0) e := by
  obtain ⟨l1, l2, rfl⟩ := List.append_of_mem he
  have hb1 : ∀ a ∈ l1, a.born ≠ e.born := by
    intro a ha hb
    rw [List.map_append, List.map_cons, List.nodup_append] at hnd
    exact hnd.2.2 a.born (List.mem_map_of_mem ha) e.born List.mem_cons_self hb
  have hb2 : ∀ a ∈ l2, a.born ≠ e.born := by
    intro a ha hb
    rw [List.map_append, List.map_cons, List.nodup_append] at hnd
    have := (List.nodup_cons.1 hnd.2.1).1
    rw [← hb] at this
    exact this (List.mem_map_of_mem ha)
  have f : ∀ l : List MapEntry, (∀ a ∈ l, a.born ≠ e.born) → seenOf l (seen ++ [e.born]) = seenOf l seen := by
    intro l hl
    unfold seenOf
    apply List.filter_congr
    intro a ha
    simp [hl a ha]
  have g : ∀ (a b : List MapEntry) (s : List Nat), seenOf (a ++ b) s = seenOf a s ++ seenOf b s := fun a b s => by simp [seenOf]
  have g1 : seenOf (e :: l2) (seen ++ [e.born]) = e :: seenOf l2 (seen ++ [e.born]) := by simp [seenOf]
  have g2 : seenOf (e :: l2) seen = seenOf l2 seen := by simp [seenOf, hn]
  rw [g, g, g1, g2, f l1 hb1, f l2 hb2, List.foldl_append, List.foldl_append, List.foldl_cons]
  refine foldl_out _ _ fun a ha s => ?_
  have ha' : a ∈ l2 := (List.mem_filter.1 ha).1
  exact hc e (by simp) a (by simp [ha']) (Ne.symm (hb2 a ha')) s
theorem seenOf_sub {a : MapEntry} (h : a ∈ seenOf es seen) : a ∈ es := (List.mem_filter.1 h).1
end
def leftN (es : List MapEntry) (seen : List Nat) : Nat := (es.filter fun e => !decide (e.born ∈ seen)).length
theorem leftN_next {es : List MapEntry} {seen : List Nat} {e : MapEntry} (he : e ∈ es) (hn : e.born ∉ seen) : leftN es (seen ++ [e.born]) < leftN es seen := by
  unfold leftN
  obtain ⟨l1, l2, rfl⟩ := List.append_of_mem he
  have f : ∀ l : List MapEntry, (l.filter fun x => !decide (x.born ∈ seen ++ [e.born])).length ≤ (l.filter fun x => !decide (x.born ∈ seen)).length := by
    intro l
    induction l with
    | nil => simp
    | cons a l ih =>
      simp only [List.filter_cons]
      by_cases h1 : a.born ∈ seen
      · have h1' : a.born ∈ seen ++ [e.born] := List.mem_append_left _ h1
        simp only [h1, h1', decide_true, Bool.not_true, Bool.false_eq_true, if_false]; exact ih
      · by_cases h2 : a.born ∈ seen ++ [e.born]
        · simp only [h1, h2, decide_true, decide_false, Bool.not_true, Bool.not_false, Bool.false_eq_true, if_false, if_true, List.length_cons]; omega
        · simp only [h1, h2, decide_false, Bool.not_false, if_true, List.length_cons]; omega
  have h1 := f l1
  have h2 := f l2
  simp only [List.filter_append, List.filter_cons, List.length_append]
  simp [hn] at h1 h2 ⊢
  omega
end Go.Cs
set_option maxRecDepth 1000000
namespace Go.Cs
theorem ndN_spec : ∀ {l : List Nat}, ndN l = true → l.Nodup
  | [], _ => List.nodup_nil
  | x :: r, h => by
    simp only [ndN, Bool.and_eq_true, Bool.not_eq_true', List.any_eq_false] at h
    exact List.nodup_cons.2 ⟨fun hx => h.1 x hx (Nat.beq_refl x), ndN_spec h.2⟩
def cClash (bt : TypeId) (cnt : FuncId) : FC := FC.mk 27 (.seq (.steps [⟨.box bt, [.tmp 0], some 1, none⟩,⟨.move, [.const (.int .i64 0)], some 2, none⟩]) (.seq (.steps [⟨.move, [.const (.int .i64 0)], some 3, none⟩]) (.seq (.seq (.steps [⟨.loadN 2, [.tmp 1], some 6, none⟩,⟨.callF cnt, [.tmp 6], some 7, none⟩,⟨.rangeMap, [.tmp 7], some 8, none⟩]) (.block 0 (.loop (.seq (.steps [⟨.nextMap, [.tmp 8], some 9, none⟩,⟨.extract 0, [.tmp 9], some 10, none⟩]) (.seq (.cond (.tmp 10) (.skip) (.exit 0)) (.block 1 (.seq (.steps [⟨.entry, [.tmp 8], some 11, none⟩,⟨.extract 0, [.tmp 11], some 12, none⟩,⟨.extract 1, [.tmp 11], some 13, none⟩,⟨.move, [.tmp 12], some 4, none⟩,⟨.move, [.tmp 13], some 5, none⟩]) (.seq (.steps [⟨.move, [.tmp 5], some 14, none⟩,⟨.bin .gtr, [.tmp 14, .const (.int .i64 1)], some 15, none⟩,⟨.move, [.tmp 15], some 16, none⟩,⟨.move, [.tmp 3], some 17, some (16, true)⟩,⟨.bin .eql, [.tmp 17, .const (.int .i64 0)], some 18, some (16, true)⟩,⟨.move, [.tmp 18], some 19, some (16, true)⟩,⟨.move, [.tmp 4], some 20, some (19, false)⟩,⟨.move, [.tmp 3], some 21, some (19, false)⟩,⟨.bin .lss, [.tmp 20, .tmp 21], some 22, some (19, false)⟩,⟨.pick, [.tmp 19, .const (.bool true), .tmp 22], some 23, some (16, true)⟩,⟨.pick, [.tmp 16, .tmp 23, .const (.bool false)], some 24, none⟩]) (.cond (.tmp 24) (.steps [⟨.move, [.tmp 4], some 25, none⟩,⟨.move, [.tmp 25], some 3, none⟩]) (.skip)))))))))) (.seq (.steps [⟨.move, [.tmp 3], some 26, none⟩,⟨.move, [.tmp 26], some 2, none⟩]) (.ret))))) [.tmp 2]
def cPush : FC := FC.mk 32 (.seq (.steps [⟨.move, [.tmp 1], some 6, none⟩,⟨.rangeMap, [.tmp 6], some 7, none⟩]) (.block 0 (.loop (.seq (.steps [⟨.nextMap, [.tmp 7], some 8, none⟩,⟨.extract 0, [.tmp 8], some 9, none⟩]) (.seq (.cond (.tmp 9) (.skip) (.exit 0)) (.block 1 (.seq (.steps [⟨.entry, [.tmp 7], some 10, none⟩,⟨.extract 0, [.tmp 10], some 11, none⟩,⟨.extract 1, [.tmp 10], some 12, none⟩,⟨.move, [.tmp 11], some 4, none⟩,⟨.move, [.tmp 12], some 5, none⟩]) (.seq (.steps [⟨.move, [.tmp 5], some 13, none⟩]) (.cond (.tmp 13) (.steps [⟨.move, [.tmp 0], some 14, none⟩,⟨.nilCheck, [.tmp 14], some 15, none⟩,⟨.fieldAddr 2, [.tmp 15], some 16, none⟩,⟨.load1, [.tmp 16], some 17, none⟩,⟨.move, [.tmp 4], some 18, none⟩,⟨.indexAddrS 1, [.tmp 17, .tmp 18], some 19, none⟩,⟨.load1, [.tmp 19], some 20, none⟩,⟨.bin .add, [.tmp 20, .const (.int .i64 1)], some 21, none⟩,⟨.indexAddrS 1, [.tmp 17, .tmp 18], some 22, none⟩,⟨.store 1, [.tmp 22, .tmp 21], none, none⟩]) (.steps [⟨.move, [.tmp 0], some 23, none⟩,⟨.nilCheck, [.tmp 23], some 24, none⟩,⟨.fieldAddr 2, [.tmp 24], some 25, none⟩,⟨.load1, [.tmp 25], some 26, none⟩,⟨.move, [.tmp 4], some 27, none⟩,⟨.indexAddrS 1, [.tmp 26, .tmp 27], some 28, none⟩,⟨.load1, [.tmp 28], some 29, none⟩,⟨.bin .sub, [.tmp 29, .const (.int .i64 1)], some 30, none⟩,⟨.indexAddrS 1, [.tmp 26, .tmp 27], some 31, none⟩,⟨.store 1, [.tmp 31, .tmp 30], none, none⟩])))))))))) []
theorem bornB_spec {es : List MapEntry} {clk : Nat} (h : bornB es clk = true) : (es.map (·.born)).Nodup ∧ ∀ e ∈ es, e.born < clk := by
  simp only [bornB, Bool.and_eq_true, List.all_eq_true, Nat.blt_eq] at h
  exact ⟨ndN_spec h.1, h.2⟩
section
variable {P : Program} {G : List Nat} {E : Env}
theorem leastB_at {es : List MapEntry} (h : leastB es = true) {e : MapEntry} (he : e ∈ es) : ∃ d k, e.key = .int .i64 d ∧ e.val = .int .i64 k ∧ 0 < d := by
  simp only [leastB, List.all_eq_true] at h
  have := h e he
  split at this
  · rename_i d k h1 h2; exact ⟨d, k, h1, h2, by simpa using this⟩
  · cases this
theorem leastS_comm {es : List MapEntry} (h : leastB es = true) : ∀ a ∈ es, ∀ b ∈ es, a.born ≠ b.born → ∀ s, leastS (leastS s a) b = leastS (leastS s b) a := by
  intro a ha b hb _ s
  obtain ⟨d, k, h1, h2, h3⟩ := leastB_at h ha
  obtain ⟨d', k', h1', h2', h3'⟩ := leastB_at h hb
  simp only [leastS, h1, h2, h1', h2']
  split <;> split <;> (try split) <;> (try split) <;> (try split) <;> (try split) <;> omega
theorem nClash_ok (hE : EnvOk P E) (hm : P.follows .mixedOrders = true) {f cnt : FuncId} {bt : TypeId} (hc : compF P f = some (cClash bt cnt)) {counts : List Value → Heap → Nat → Option (Value × Heap × Nat)}
    (hs : ∀ args H n v H' n', counts args H n = some (v, H', n') → ∀ post : Value → Heap → Nat → Prop, post v H' n' → F P G cnt args H n post) (hG : ∀ g ∈ G, g = 0)
    {args : List Value} {H : Heap} {n : Nat} {v : Value} {H' : Heap} {n' : Nat} (h : nClash bt counts args H n = some (v, H', n')) {post : Value → Heap → Nat → Prop} (hp : post v H' n') : F P G f args H n post := by
  unfold nClash at h
  split at h
  case h_2 => cases h
  rename_i a
  split at h
  case h_2 => cases h
  rename_i x y hxy hf
  obtain rfl : a = #[x, y] := by cases a; simp at hxy; simp [hxy]
  cases hb : Nat.blt n big with
  | false => rw [hb] at h; cases h
  | true =>
    rw [hb, cond_true] at h
    split at h
    case h_2 => cases h
    rename_i b Hc n1 hcount
    split at h
    case h_2 => cases h
    rename_i es clk hm1 hf1
    cases hk : (bornB es clk && leastB es && Nat.blt n1 big) with
    | false => rw [hk] at h; cases h
    | true =>
      rw [hk, cond_true] at h
      simp only [Option.some.injEq, Prod.mk.injEq] at h
      obtain ⟨rfl, hH, rfl⟩ := h
      subst hH
      simp only [Bool.and_eq_true] at hk
      obtain ⟨⟨k1, k2⟩, k3⟩ := hk
      obtain ⟨k4, k5⟩ := bornB_spec k1
      have hbn : b ≠ n1 := by rintro rfl; rw [hm1] at hf1; cases hf1
      refine F_of_comp hc rfl ?_
      refine WC_go hE hm ?_
      refine xA (ob := .cells [x, y] bt none) (mk := .ptr) rfl rfl rfl rfl hf hb ?_
      refine xP rfl rfl rfl rfl ?_
      refine RXn ?_
      refine WLv (lv1 1 rfl lv0) ?_
      refine WC_go hE hm ?_
      refine xP rfl rfl rfl rfl ?_
      refine RXn ?_
      refine WLv (lv1 1 rfl (lv1 3 rfl lv0)) ?_
      refine WC_seq ?_
      refine WC_go hE hm ?_
      refine xLoadN [x, y] rfl rfl (by simp [semR, rLoadN, aget_aput, Mk.val, ptrTo]) ?_
      refine xC rfl rfl rfl rfl (hs _ _ _ _ _ _ hcount (fun v H' n' => v = .map (some b) ∧ H' = Hc ∧ n' = n1) ⟨rfl, rfl, rfl⟩) ?_
      rintro _ Hc n1 ⟨rfl, rfl, rfl⟩
      refine xN rfl rfl rfl ⟨by simpa [Nat.blt_eq] using k3, es, clk, hm1, ?_⟩
      refine RXn ?_
      refine WLv (lv1 3 rfl (lv1 8 rfl lv0)) ?_
      refine WC_block ?_
      refine WC_loopX (X := List Nat × Int) (fun y => { T := ofL [(3, .int .i64 y.2), (8, ptrTo n1)], D := [], H := aput Hc n1 (.miter (some b) clk y.1 clk), n := n1 + 1 }) (fun y => y.2 = (seenOf es y.1).foldl leastS 0) (fun y => leftN es y.1) ([], 0) (by rw [seenOf_nil]; rfl) ?_
      rintro ⟨s, cur⟩ hcur
      dsimp only at *
      refine WC_go hE hm ?_
      refine xN rfl rfl rfl (.inr ⟨b, clk, s, clk, es, clk, by simp [aget_aput], by simp [aget_aput, Ne.symm hbn, hm1], k5, Nat.le_refl _, fun hall => ?_, fun e he hne => ?_⟩)
      · refine xP (v := .bool false) rfl rfl rfl rfl ?_
        refine RXn ?_
        refine WLv (lv1 3 rfl (lv1 8 rfl (lv1 10 rfl lv0))) ?_
        refine WC_seq ?_
        refine WC_condF rfl ?_
        refine WC_exit ?_
        refine thenE ?_
        refine thenE ?_
        refine blockE ?_
        refine thenN ?_
        rw [seenOf_all hall] at hcur
        subst hcur
        refine WLv (lv1 3 rfl lv0) ?_
        refine WC_go hE hm ?_
        refine xP rfl rfl rfl rfl ?_
        refine xP rfl rfl rfl rfl ?_
        refine RXn ?_
        refine WC_le (s2 := { T := ofL [(2, .int .i64 (es.foldl leastS 0))], D := [], H := Hc, n := n1 + 1 }) (Le.weak (fun k v hk => ?_) (fun i o ho => ?_)) ?_
        · rw [aget_ofL] at hk
          have := mem_of_lookup hk
          simp only [List.mem_cons, List.not_mem_nil, or_false, Prod.mk.injEq] at this
          obtain ⟨rfl, rfl⟩ := this; rfl
        · right
          rw [aget_aput]
          by_cases hi : n1 = i
          · subst hi; rw [hf1] at ho; cases ho
          · rw [if_neg hi]; exact ho
        refine WC_ret ?_
        refine endR rfl ?_
        exact hp
      · obtain ⟨d, k, e1, e2, e3⟩ := leastB_at k2 he
        rw [e1, e2]
        refine xP (v := .bool true) rfl rfl rfl rfl ?_
        refine RXn ?_
        refine WLv (lv1 3 rfl (lv1 8 rfl (lv1 10 rfl lv0))) ?_
        refine WC_seq ?_
        refine WC_condT rfl ?_
        refine WC_skip ?_
        refine thenN ?_
        refine WLv (lv1 3 rfl (lv1 8 rfl lv0)) ?_
        refine WC_block ?_
        refine WC_go hE hm ?_
        have hnext := seenOf_next (s0 := (0 : Int)) (leastS_comm k2) k4 he hne
        rw [← hcur] at hnext
        have done : ∀ {T : AL Value} {o : Int}, aget T 3 = some (.int .i64 o) → aget T 8 = some (ptrTo n1) →
            Le P G 27 n { T := T, D := [], H := aput (aput Hc n1 (.miter (some b) clk s clk)) n1 (.miter (some b) clk (s ++ [e.born]) clk), n := n1 + 1 } { T := ofL [(3, .int .i64 o), (8, ptrTo n1)], D := [], H := aput Hc n1 (.miter (some b) clk (s ++ [e.born]) clk), n := n1 + 1 } := by
          intro T o h3 h8
          refine Le.weak (fun k v hk => ?_) (fun i ob hob => .inr ?_)
          · rw [aget_ofL] at hk
            have := mem_of_lookup hk
            simp only [List.mem_cons, List.not_mem_nil, or_false, Prod.mk.injEq] at this
            rcases this with ⟨rfl, rfl⟩ | ⟨rfl, rfl⟩
            · exact h3
            · exact h8
          · rw [aget_aput] at hob
            rw [aget_aput]
            by_cases hi : n1 = i
            · rw [if_pos hi] at hob ⊢; exact hob
            · rw [if_neg hi] at hob ⊢; rw [aget_aput, if_neg hi]; exact hob
        have hl : leastS cur e = if k > 1 then (if cur = 0 ∨ d < cur then d else cur) else cur := by simp only [leastS, e1, e2]
        rw [hl] at hnext
        refine xN rfl rfl rfl ⟨b, clk, s, clk, es, e, by simp [aget_aput, ptrTo], by simp [aget_aput, Ne.symm hbn, hm1], k4, he, ?_⟩
        rw [e1, e2]
        refine xP rfl rfl rfl rfl ?_
        refine xP rfl rfl rfl rfl ?_
        refine xP rfl rfl rfl rfl ?_
        refine xP rfl rfl rfl rfl ?_
        refine RXn ?_
        refine WLv (lv1 3 rfl (lv1 4 rfl (lv1 5 rfl (lv1 8 rfl lv0)))) ?_
        refine WC_go hE hm ?_
        refine xP rfl rfl rfl rfl ?_
        refine xCmp (p := k > 1) rfl rfl rfl rfl ?_ ?_ <;> intro h1
        ·
          refine xP rfl rfl rfl rfl ?_
          refine xP rfl rfl rfl rfl ?_
          refine xEq rfl rfl ?_ ?_ <;> intro h2
          ·
            refine xP rfl rfl rfl rfl ?_
            refine xS rfl ?_
            refine xS rfl ?_
            refine xS rfl ?_
            refine xP rfl rfl rfl rfl ?_
            refine xP rfl rfl rfl rfl ?_
            refine RXn ?_
            refine WLv (lv1 3 rfl (lv1 4 rfl (lv1 8 rfl (lv1 24 rfl lv0)))) ?_
            refine WC_condT rfl ?_
            refine WC_steps hE hm ?_
            refine xP rfl rfl rfl rfl ?_
            refine xP rfl rfl rfl rfl ?_
            refine RXn ?_
            refine blockN ?_
            refine thenN ⟨(s ++ [e.born], d), ?_, leftN_next he hne, done (o := d) rfl rfl⟩
            rw [hnext, if_pos h1, if_pos (.inl h2)]
          ·
            refine xP rfl rfl rfl rfl ?_
            refine xP rfl rfl rfl rfl ?_
            refine xP rfl rfl rfl rfl ?_
            refine xCmp (p := d < cur) rfl rfl rfl rfl ?_ ?_ <;> intro h3
            ·
              refine xP rfl rfl rfl rfl ?_
              refine xP rfl rfl rfl rfl ?_
              refine RXn ?_
              refine WLv (lv1 3 rfl (lv1 4 rfl (lv1 8 rfl (lv1 24 rfl lv0)))) ?_
              refine WC_condT rfl ?_
              refine WC_steps hE hm ?_
              refine xP rfl rfl rfl rfl ?_
              refine xP rfl rfl rfl rfl ?_
              refine RXn ?_
              refine blockN ?_
              refine thenN ⟨(s ++ [e.born], d), ?_, leftN_next he hne, done (o := d) rfl rfl⟩
              rw [hnext, if_pos h1, if_pos (.inr h3)]
            ·
              refine xP rfl rfl rfl rfl ?_
              refine xP rfl rfl rfl rfl ?_
              refine RXn ?_
              refine WLv (lv1 3 rfl (lv1 4 rfl (lv1 8 rfl (lv1 24 rfl lv0)))) ?_
              refine WC_condF rfl ?_
              refine WC_skip ?_
              refine blockN ?_
              refine thenN ⟨(s ++ [e.born], cur), ?_, leftN_next he hne, done (o := cur) rfl rfl⟩
              rw [hnext, if_pos h1, if_neg (by omega)]
        ·
          refine xP rfl rfl rfl rfl ?_
          refine xS rfl ?_
          refine xS rfl ?_
          refine xS rfl ?_
          refine xS rfl ?_
          refine xS rfl ?_
          refine xS rfl ?_
          refine xS rfl ?_
          refine xP rfl rfl rfl rfl ?_
          refine RXn ?_
          refine WLv (lv1 3 rfl (lv1 4 rfl (lv1 8 rfl (lv1 24 rfl lv0)))) ?_
          refine WC_condF rfl ?_
          refine WC_skip ?_
          refine blockN ?_
          refine thenN ⟨(s ++ [e.born], cur), ?_, leftN_next he hne, done (o := cur) rfl rfl⟩
          rw [hnext, if_neg h1]
theorem pushB_at {o len : Nat} {ns : List Value} {es : List MapEntry} (h : pushB o len ns es = true) {e : MapEntry} (he : e ∈ es) :
    ∃ k b x, e.key = .int .i64 k ∧ e.val = .bool b ∧ 0 ≤ k ∧ k < (len : Int) ∧ ns[o + k.toNat]? = some (.int .i64 x) := by
  simp only [pushB, List.all_eq_true] at h
  have := h e he
  split at this
  · rename_i k b h1 h2
    simp only [Bool.and_eq_true, decide_eq_true_eq] at this
    obtain ⟨⟨h3, h4⟩, h5⟩ := this
    split at h5
    · rename_i x hx; exact ⟨k, b, x, h1, h2, h3, h4, hx⟩
    · cases h5
  · cases this
def PushInv (o : Nat) (es : List MapEntry) (ns : List Value) (l : List Value) : Prop := l.length = ns.length ∧ ∀ e ∈ es, ∃ x, l[o + keyN e]? = some (.int .i64 x)
theorem pushS_eq {o : Nat} {l : List Value} {e : MapEntry} {k x : Int} {b : Bool} (h1 : e.key = .int .i64 k) (h2 : e.val = .bool b) (h3 : l[o + k.toNat]? = some (.int .i64 x)) :
    pushS o l e = l.set (o + k.toNat) (.int .i64 (IntKind.i64.wrap (if b then x + 1 else x - 1))) := by
  simp only [pushS, h1, h2, h3]
theorem pushInv_step {o len : Nat} {ns l : List Value} {es : List MapEntry} (h : pushB o len ns es = true) (hl : PushInv o es ns l) {e : MapEntry} (he : e ∈ es) : PushInv o es ns (pushS o l e) := by
  obtain ⟨k, b, x, h1, h2, h3, h4, h5⟩ := pushB_at h he
  obtain ⟨y, hy⟩ := hl.2 e he
  have hk : keyN e = k.toNat := by simp [keyN, h1]
  rw [hk] at hy
  rw [pushS_eq h1 h2 hy]
  refine ⟨by simp [hl.1], fun e' he' => ?_⟩
  obtain ⟨z, hz⟩ := hl.2 e' he'
  rw [List.getElem?_set]
  split
  · rename_i heq
    have hlt : o + k.toNat < l.length := (List.getElem?_eq_some_iff.1 hy).1
    rw [if_pos hlt]
    exact ⟨_, rfl⟩
  · exact ⟨z, hz⟩
theorem pushInv_fold {o len : Nat} {ns : List Value} {es : List MapEntry} (h : pushB o len ns es = true) : ∀ (q : List MapEntry) (l : List Value), (∀ e ∈ q, e ∈ es) → PushInv o es ns l → PushInv o es ns (q.foldl (pushS o) l)
  | [], l, _, hl => hl
  | e :: q, l, hq, hl => pushInv_fold h q _ (fun e he => hq e (List.mem_cons_of_mem _ he)) (pushInv_step h hl (hq e List.mem_cons_self))
theorem pushInv_0 {o len : Nat} {ns : List Value} {es : List MapEntry} (h : pushB o len ns es = true) : PushInv o es ns ns :=
  ⟨rfl, fun e he => let ⟨k, b, x, h1, _, _, _, h5⟩ := pushB_at h he; ⟨x, by simp [keyN, h1, h5]⟩⟩
theorem pushS_comm {o : Nat} {a b : MapEntry} (hab : keyN a ≠ keyN b) (l : List Value) : pushS o (pushS o l a) b = pushS o (pushS o l b) a := by
  have key : ∀ (l : List Value) (e : MapEntry), pushS o l e = l ∨ ∃ u, pushS o l e = l.set (o + keyN e) u ∧ ∀ l' : List Value, l'[o + keyN e]? = l[o + keyN e]? → pushS o l' e = l'.set (o + keyN e) u := by
    intro l e
    unfold pushS
    split
    · rename_i q k more h1 h2
      split
      · rename_i kk x hx
        refine .inr ⟨.int kk (kk.wrap (if more then x + 1 else x - 1)), by simp [keyN, h1], fun l' hl' => ?_⟩
        have : keyN e = k.toNat := by simp [keyN, h1]
        rw [this] at hl' ⊢
        rw [hx] at hl'
        simp only [hl']
      · exact .inl rfl
    · exact .inl rfl
  have stay : ∀ (l : List Value) (e : MapEntry) (i : Nat) (u : Value), i ≠ o + keyN e → pushS o l e = l → pushS o (l.set i u) e = l.set i u := by
    intro l e i u hi h
    have hget : (l.set i u)[o + keyN e]? = l[o + keyN e]? := List.getElem?_set_ne hi
    unfold pushS at h ⊢
    split
    · rename_i q k more h1 h2
      have hk : keyN e = k.toNat := by simp [keyN, h1]
      rw [hk] at hget
      rw [hget]
      simp only [h1, h2] at h
      split
      · rename_i kk x hx
        simp only [hx] at h
        rw [List.set_comm _ _ (by rw [← hk]; exact hi), h]
      · rfl
    · rfl
  have hne : o + keyN a ≠ o + keyN b := by omega
  rcases key l a with ha | ⟨u, ha, ha'⟩ <;> rcases key l b with hb | ⟨v, hb, hb'⟩
  · rw [ha, hb, ha]
  · rw [ha, hb, stay l a _ v (Ne.symm hne) ha]
  · rw [ha, hb, stay l b _ u hne hb, ha]
  · rw [ha, hb, hb' _ (List.getElem?_set_ne hne), ha' _ (List.getElem?_set_ne (Ne.symm hne)), List.set_comm _ _ hne]
theorem nd_key {es : List MapEntry} (h : (es.map keyN).Nodup) {a b : MapEntry} (ha : a ∈ es) (hb : b ∈ es) (hab : a.born ≠ b.born) : keyN a ≠ keyN b := by
  intro e
  obtain ⟨i, hi, rfl⟩ := List.getElem_of_mem ha
  obtain ⟨j, hj, rfl⟩ := List.getElem_of_mem hb
  have : i = j := by
    refine (List.getElem_inj (i := i) (j := j) (h₀ := by simpa using hi) (h₁ := by simpa using hj) h).1 ?_
    simpa using e
  subst this
  exact hab rfl
theorem splice_set {l : List Value} {j : Nat} {y : Value} (h : j < l.length) : splice l j [y] = l.set j y := by
  apply List.ext_getElem?
  intro i
  simp only [splice, List.length_cons, List.length_nil]
  by_cases h1 : i < j
  · rw [List.append_assoc, List.getElem?_append_left (by simp; omega), List.getElem?_take_of_lt h1]
    simp [List.getElem?_set, Nat.ne_of_gt h1]
  · by_cases h2 : i = j
    · subst h2
      rw [List.append_assoc, List.getElem?_append_right (by simp; omega)]
      simp [List.getElem?_set, h, Nat.min_eq_left (Nat.le_of_lt h)]
    · rw [List.getElem?_append_right (by simp; omega)]
      simp only [List.length_append, List.length_take, List.length_cons, List.length_nil, List.getElem?_drop, List.getElem?_set]
      rw [if_neg (Ne.symm h2), Nat.min_eq_left (Nat.le_of_lt h)]
      congr 1
      omega
theorem nPush_ok (hE : EnvOk P E) (hm : P.follows .mixedOrders = true) {f : FuncId} (hc : compF P f = some cPush)
    {args : List Value} {H : Heap} {n : Nat} {v : Value} {H' : Heap} {n' : Nat} (h : nPush args H n = some (v, H', n')) {post : Value → Heap → Nat → Prop} (hp : post v H' n') : F P G f args H n post := by
  unfold nPush at h
  split at h
  case h_2 => cases h
  rename_i b o m
  split at h
  case h_2 => cases h
  rename_i cs ct cg es clk hbc hmm
  split at h
  case h_2 => cases h
  rename_i b2 o2 len cap hsl
  split at h
  case h_2 => cases h
  rename_i ns t g hns hf
  cases hk : (bornB es clk && ndN (es.map keyN) && pushB o2 len ns es && Nat.blt (n + 1) big && !Nat.beq b b2) with
  | false => rw [hk] at h; cases h
  | true =>
    rw [hk, cond_true] at h
    simp only [Option.some.injEq, Prod.mk.injEq] at h
    obtain ⟨rfl, hH, rfl⟩ := h
    subst hH
    simp only [Bool.and_eq_true, Bool.not_eq_true'] at hk
    obtain ⟨⟨⟨⟨k1, k2⟩, k3⟩, k4⟩, k6⟩ := hk
    have hb2 : b ≠ b2 := Nat.ne_of_beq_eq_false k6
    have hkeys := ndN_spec k2
    obtain ⟨k7, k8⟩ := bornB_spec k1
    have hbn : b ≠ n := by rintro rfl; rw [hbc] at hf; cases hf
    have hb2n : b2 ≠ n := by rintro rfl; rw [hns] at hf; cases hf
    have hmn : m ≠ n := by rintro rfl; rw [hmm] at hf; cases hf
    have hmb2 : m ≠ b2 := by rintro rfl; rw [hmm] at hns; cases hns
    generalize hHS : (fun s : List Nat => aput (aput H b2 (.cells ((seenOf es s).foldl (pushS o2) ns) t g)) n (.miter (some m) clk s clk)) = HS
    have gS : ∀ s, aget (HS s) n = some (.miter (some m) clk s clk) := by intro s; rw [← hHS]; simp [aget_aput]
    have gM : ∀ s, aget (HS s) m = some (.map es clk) := by intro s; rw [← hHS]; simp [aget_aput, Ne.symm hmn, Ne.symm hmb2, hmm]
    have gB : ∀ s, aget (HS s) b = some (.cells cs ct cg) := by intro s; rw [← hHS]; simp [aget_aput, Ne.symm hbn, Ne.symm hb2, hbc]
    have gN : ∀ s, aget (HS s) b2 = some (.cells ((seenOf es s).foldl (pushS o2) ns) t g) := by intro s; rw [← hHS]; simp [aget_aput, Ne.symm hb2n]
    have gO : ∀ s q, q ≠ n → q ≠ b2 → aget (HS s) q = aget H q := by intro s q h1 h2; rw [← hHS]; simp [aget_aput, Ne.symm h1, Ne.symm h2]
    refine F_of_comp hc rfl ?_
    refine WC_go hE hm ?_
    refine xP rfl rfl rfl rfl ?_
    refine xN rfl rfl rfl ⟨Nat.lt_of_succ_lt (by simpa [Nat.blt_eq] using k4), es, clk, hmm, ?_⟩
    refine RXn ?_
    refine WLv (lv1 0 rfl (lv1 7 rfl lv0)) ?_
    refine WC_block ?_
    refine WC_le (s2 := { T := ofL [(0, .pointer (some ⟨b, o, none⟩)), (7, ptrTo n)], D := [], H := HS [], n := n + 1 }) (Le.weak (fun k v hk => hk) (fun i ob hob => .inr ?_)) ?_
    · rw [← hHS] at hob
      rw [aget_aput] at hob ⊢
      by_cases hi : n = i
      · rw [if_pos hi] at hob ⊢; exact hob
      · rw [if_neg hi] at hob ⊢
        rw [aget_aput] at hob
        by_cases hi2 : b2 = i
        · subst hi2; rw [if_pos rfl, seenOf_nil] at hob; rw [hns]; exact hob
        · rw [if_neg hi2] at hob; exact hob
    refine WC_loopX (X := List Nat) (fun s => { T := ofL [(0, .pointer (some ⟨b, o, none⟩)), (7, ptrTo n)], D := [], H := HS s, n := n + 1 }) (fun s => True) (fun s => leftN es s) [] trivial ?_
    rintro s _
    refine WC_go hE hm ?_
    refine xN rfl rfl rfl (.inr ⟨m, clk, s, clk, es, clk, gS s, gM s, k8, Nat.le_refl _, fun hall => ?_, fun e he hne => ?_⟩)
    · refine xP (v := .bool false) rfl rfl rfl rfl ?_
      refine RXn ?_
      refine WLv (lv1 0 rfl (lv1 7 rfl (lv1 9 rfl lv0))) ?_
      refine WC_seq ?_
      refine WC_condF rfl ?_
      have hN := gN s
      rw [seenOf_all hall] at hN
      refine WC_le (s2 := { T := ofL [], D := [], H := aput H b2 (.cells (es.foldl (pushS o2) ns) t g), n := n + 1 }) (Le.weak (fun k v hk => by cases hk) (fun i ob hob => .inr ?_)) ?_
      · rw [aget_aput] at hob
        by_cases hi : b2 = i
        · subst hi; rw [if_pos rfl] at hob; rw [hN]; exact hob
        · rw [if_neg hi] at hob
          rw [gO s i (by rintro rfl; rw [hf] at hob; cases hob) (Ne.symm hi)]; exact hob
      refine WC_exit ?_
      refine thenE ?_
      refine thenE ?_
      refine blockE ?_
      refine endN rfl ?_
      exact hp
    · obtain ⟨k, more, x0, e1, e2, e3, e4, e5⟩ := pushB_at k3 he
      have hinv := pushInv_fold k3 (seenOf es s) ns (fun e he => seenOf_sub he) (pushInv_0 k3)
      have hnext := seenOf_next (s0 := ns) (step := pushS o2) (fun a ha b hb hab l => pushS_comm (nd_key hkeys ha hb hab) l) k7 he hne
      have hN := gN s
      have hO : ∀ q, q ≠ n → q ≠ b2 → aget (HS (s ++ [e.born])) q = aget (HS s) q := fun q h1 h2 => (gO _ q h1 h2).trans (gO s q h1 h2).symm
      have hN' := gN (s ++ [e.born])
      rw [hnext] at hN'
      generalize (seenOf es s).foldl (pushS o2) ns = l at hinv hN hN'
      obtain ⟨x, hx⟩ := hinv.2 e he
      have hkk : keyN e = k.toNat := by simp [keyN, e1]
      rw [hkk] at hx
      rw [pushS_eq e1 e2 hx] at hN'
      have hlt : o2 + k.toNat < l.length := (List.getElem?_eq_some_iff.1 hx).1
      rw [e1, e2]
      refine xP (v := .bool true) rfl rfl rfl rfl ?_
      refine RXn ?_
      refine WLv (lv1 0 rfl (lv1 7 rfl (lv1 9 rfl lv0))) ?_
      refine WC_seq ?_
      refine WC_condT rfl ?_
      refine WC_skip ?_
      refine thenN ?_
      refine WLv (lv1 0 rfl (lv1 7 rfl lv0)) ?_
      refine WC_block ?_
      refine WC_go hE hm ?_
      refine xN rfl rfl rfl ⟨m, clk, s, clk, es, e, by simp [aget_aput, ptrTo], by rw [aget_aput, if_neg (Ne.symm hmn)]; exact gM s, k7, he, ?_⟩
      rw [e1, e2]
      refine xP rfl rfl rfl rfl ?_
      refine xP rfl rfl rfl rfl ?_
      refine xP rfl rfl rfl rfl ?_
      refine xP rfl rfl rfl rfl ?_
      refine RXn ?_
      refine WLv (lv1 0 rfl (lv1 4 rfl (lv1 5 rfl (lv1 7 rfl lv0)))) ?_
      refine WC_go hE hm ?_
      refine xP rfl rfl rfl rfl ?_
      refine RXn ?_
      refine WLv (lv1 0 rfl (lv1 4 rfl (lv1 7 rfl (lv1 13 rfl lv0)))) ?_
      have qb : aget (aput (HS s) n (.miter (some m) clk (s ++ [e.born]) clk)) b = some (.cells cs ct cg) := by rw [aget_aput, if_neg (Ne.symm hbn)]; exact gB s
      have q2 : aget (aput (HS s) n (.miter (some m) clk (s ++ [e.born]) clk)) b2 = some (.cells l t g) := by rw [aget_aput, if_neg (Ne.symm hb2n)]; exact hN
      have done : ∀ {T : AL Value} {u : Value}, u = .int .i64 (IntKind.i64.wrap (if more then x + 1 else x - 1)) → aget T 0 = some (.pointer (some ⟨b, o, none⟩)) → aget T 7 = some (ptrTo n) →
          Le P G 32 n { T := T, D := [], H := aput (aput (HS s) n (.miter (some m) clk (s ++ [e.born]) clk)) b2 (.cells (splice l (o2 + k.toNat * 1) [u]) t g), n := n + 1 } { T := ofL [(0, .pointer (some ⟨b, o, none⟩)), (7, ptrTo n)], D := [], H := HS (s ++ [e.born]), n := n + 1 } := by
        intro T u hu h3 h8
        refine Le.weak (fun k v hk => ?_) (fun i ob hob => .inr ?_)
        · rw [aget_ofL] at hk
          have := mem_of_lookup hk
          simp only [List.mem_cons, List.not_mem_nil, or_false, Prod.mk.injEq] at this
          rcases this with ⟨rfl, rfl⟩ | ⟨rfl, rfl⟩
          · exact h3
          · exact h8
        · rw [aget_aput, aget_aput]
          by_cases hi : b2 = i
          · subst hi
            rw [if_pos rfl, Nat.mul_one, splice_set hlt, hu]
            rw [hN'] at hob; exact hob
          · rw [if_neg hi]
            by_cases hi2 : n = i
            · subst hi2; rw [if_pos rfl]; rw [gS] at hob; exact hob
            · rw [if_neg hi2, ← hO i (Ne.symm hi2) (Ne.symm hi)]; exact hob
      cases more with
      | true =>
        refine WC_condT rfl ?_
        refine WC_steps hE hm ?_
        refine xP rfl rfl rfl rfl ?_
        refine xP rfl rfl rfl rfl ?_
        refine xP rfl rfl rfl rfl ?_
        refine xLd rfl rfl qb hsl ?_
        refine xP rfl rfl rfl rfl ?_
        refine xIdx rfl rfl ⟨e3, e4⟩ ?_
        refine xLd (v := .int .i64 x) rfl rfl q2 (by rw [Nat.mul_one]; exact hx) ?_
        refine xP (v := .int .i64 (IntKind.i64.wrap (x + 1))) rfl rfl rfl rfl ?_
        refine xIdx rfl rfl ⟨e3, e4⟩ ?_
        refine xSt rfl rfl q2 (by omega) rfl rfl k4 ?_
        refine RXn ?_
        refine blockN ?_
        refine thenN ⟨s ++ [e.born], trivial, leftN_next he hne, done rfl rfl rfl⟩
      | false =>
        refine WC_condF rfl ?_
        refine WC_steps hE hm ?_
        refine xP rfl rfl rfl rfl ?_
        refine xP rfl rfl rfl rfl ?_
        refine xP rfl rfl rfl rfl ?_
        refine xLd rfl rfl qb hsl ?_
        refine xP rfl rfl rfl rfl ?_
        refine xIdx rfl rfl ⟨e3, e4⟩ ?_
        refine xLd (v := .int .i64 x) rfl rfl q2 (by rw [Nat.mul_one]; exact hx) ?_
        refine xP (v := .int .i64 (IntKind.i64.wrap (x - 1))) rfl rfl rfl rfl ?_
        refine xIdx rfl rfl ⟨e3, e4⟩ ?_
        refine xSt rfl rfl q2 (by omega) rfl rfl k4 ?_
        refine RXn ?_
        refine blockN ?_
        refine thenN ⟨s ++ [e.born], trivial, leftN_next he hne, done rfl rfl rfl⟩
end
end Go.Cs
namespace Go.Cs
section
variable {P : Program} {E : Env} {lim : Nat} {ids : Ids} {gl : AObj} {H0 : Heap}
def IsExt (P : Program) (f : FuncId) (e : Array Value → Sem Value) : Prop := ∃ fn, P.funcs[f]? = some fn ∧ (fn.name == "runtime.NumGoroutine") = false ∧ fn.body.isNone = true ∧ Extern.findNext fn = none ∧ Extern.find fn = some e
structure Nat0 (P : Program) (ids : Ids) : Prop where
  cs : IsExt P ids.countString Extern.BytealgCount.count
  ib : IsExt P ids.indexByte Extern.BytealgIndexByte.indexByte
  ne : IsExt P ids.noEscape Extern.AbiNoEscape.same
  cl : compF P ids.clash = some (cClash ids.boxT ids.counts)
  pu : compF P ids.push = some cPush
theorem nat0_ok {G : List Nat} (h : Nat0 P ids) : NatOk P G (nats0 ids) := by
  intro f g hg args H n v H' n' hr post hp
  unfold nats0 at hg
  cases h1 : Nat.beq f ids.countString with
  | true =>
    rw [h1, cond_true] at hg; cases hg
    have := Nat.eq_of_beq_eq_true h1; subst this
    obtain ⟨fn, a, b, c, d, e⟩ := h.cs
    exact nCount_ok a b c d e hr hp
  | false =>
    rw [h1, cond_false] at hg
    cases h2 : Nat.beq f ids.indexByte with
    | true =>
      rw [h2, cond_true] at hg; cases hg
      have := Nat.eq_of_beq_eq_true h2; subst this
      obtain ⟨fn, a, b, c, d, e⟩ := h.ib
      exact nIndex_ok a b c d e hr hp
    | false =>
      rw [h2, cond_false] at hg
      cases h3 : Nat.beq f ids.noEscape with
      | true =>
        rw [h3, cond_true] at hg; cases hg
        have := Nat.eq_of_beq_eq_true h3; subst this
        obtain ⟨fn, a, b, c, d, e⟩ := h.ne
        exact nSame_ok a b c d e hr hp
      | false => rw [h3] at hg; cases hg
def Known (P : Program) (gl : AObj) (H0 : Heap) (f : FuncId) : Prop := F P [0] f [] H0 1 fun v H' n' => v = .bool true ∧ aget H' 0 = some gl
theorem natK_ok (hE : EnvOk P E) (hm : P.follows .mixedOrders = true) (h : Nat0 P ids) (hG : GlobOk [0] H0 1) (h0 : aget H0 0 = some gl) (hH0 : ∀ i, i ∉ [0] → aget H0 i = none) {known : List FuncId} (hk : ∀ g ∈ known, Known P gl H0 g) (k : Nat) : NatOk P [0] (natsK P [0] E lim ids gl known k) := by
  intro f g hg args H n v H' n' hr post hp
  unfold natsK at hg
  rw [iteB_eq] at hg
  cases h1 : known.any fun g => Nat.beq f g with
  | true =>
    rw [h1, cond_true] at hg; cases hg
    obtain ⟨q, hq, he⟩ := List.any_eq_true.1 h1
    have := Nat.eq_of_beq_eq_true he; subst this
    exact nClosed_ok hG h0 hH0 (hk f hq) hr hp
  | false =>
    rw [h1, cond_false] at hg
    unfold natsO at hg
    simp only [iteB_eq] at hg
    cases h2 : Nat.beq f ids.clash with
    | true =>
      rw [h2, cond_true] at hg; cases hg
      have := Nat.eq_of_beq_eq_true h2; subst this
      refine nClash_ok hE hm h.cl (fun args H n v H' n' hr post hp => ?_) (by simp) hr hp
      rw [callO_eq] at hr
      exact evG_sound hE hm (nat0_ok h) k _ _ _ _ _ _ _ hr _ hp
    | false =>
      rw [h2, cond_false] at hg
      cases h3 : Nat.beq f ids.push with
      | true =>
        rw [h3, cond_true] at hg; cases hg
        have := Nat.eq_of_beq_eq_true h3; subst this
        exact nPush_ok hE hm h.pu hr hp
      | false =>
        rw [h3, cond_false] at hg
        exact nat0_ok h f g hg args H n v H' n' hr post hp
theorem runK_ok (hE : EnvOk P E) (hm : P.follows .mixedOrders = true) (h : Nat0 P ids) (hG : GlobOk [0] H0 1) (h0 : aget H0 0 = some gl) (hH0 : ∀ i, i ∉ [0] → aget H0 i = none) {known : List FuncId} (hk : ∀ g ∈ known, Known P gl H0 g) {k : Nat} {f : FuncId}
    (hr : okK gl (runK P [0] E lim ids gl known k f [] H0 1) = true) : Known P gl H0 f := by
  unfold okK at hr
  split at hr
  · rename_i H' n' hv
    split at hr
    · rename_i o ho
      have := eqO_spec hr
      subst this
      unfold runK at hv
      rw [callO_eq] at hv
      exact evG_sound hE hm (natK_ok hE hm h hG h0 hH0 hk 12) k _ _ _ _ _ _ _ hv _ ⟨rfl, ho⟩
    · cases hr
  · cases hr
theorem Known.any (hG : GlobOk [0] H0 1) (h0 : aget H0 0 = some gl) (hH0 : ∀ i, i ∉ [0] → aget H0 i = none) {f : FuncId} (h : Known P gl H0 f) {H : Heap} {n : Nat} (hg : aget H 0 = some gl) : F P [0] f [] H n fun v H' n' => v = .bool true ∧ H' = H ∧ n' = n := by
  have hg' : ∀ g ∈ [0], aget H g = aget H0 g := by
    intro g hg
    simp only [List.mem_cons, List.not_mem_nil, or_false] at hg
    subst hg; rw [h0]; assumption
  exact F_closed (v0 := .bool true) rfl rfl hG hH0 hg' (h.mono fun v H' n' ⟨h1, h2⟩ => ⟨h1, fun g hg => by
    simp only [List.mem_cons, List.not_mem_nil, or_false] at hg
    subst hg; rw [h2, h0]⟩)
end
end Go.Cs
