/- A part of the proof that spadilletop.TopSharedCut answers true and leaves its argument as it was (bulk at most 1048576): C2. -/
import Derived.Test.YtnagcnlldllagaaGreatDoorC1
set_option linter.all false
/- How many ways there are to fill a board: it ends, and keeps what it knows. -/
set_option maxRecDepth 1000000
set_option maxHeartbeats 4000000
open Go Go.Cs
namespace Go.Proofs.YtnagcnlldllagaaGreatDoor
/-- A map from boards to numbers. -/
def MapOk (es : List MapEntry) : Prop := ∀ e ∈ es, (∃ k : Int, e.key = .int .u64 k) ∧ ∃ x : Int, e.val = .int .i64 x
theorem renE_ok {σ : Nat → Nat} {e : MapEntry} (h : (∃ k : Int, e.key = .int .u64 k) ∧ ∃ x : Int, e.val = .int .i64 x) : renE σ e = e := by
  obtain ⟨key, val, born⟩ := e
  obtain ⟨⟨k, rfl⟩, ⟨x, rfl⟩⟩ := h
  rfl
theorem renMap {es : List MapEntry} (h : MapOk es) (σ : Nat → Nat) (k : Nat) : renO σ (.map es k) = .map es k := by
  simp only [renO, AObj.map.injEq, and_true]
  calc es.map (renE σ) = es.map id := List.map_congr_left fun e he => renE_ok (h e he)
    _ = es := List.map_id _
theorem idsMap {es : List MapEntry} (h : MapOk es) (k : Nat) : idsO (.map es k) = [] := by
  simp only [idsO, List.flatMap_eq_nil_iff]
  intro e he
  obtain ⟨⟨k, h1⟩, ⟨x, h2⟩⟩ := h e he
  rw [h1, h2]; rfl
theorem renO_gl (σ : Nat → Nat) : renO σ gl = gl := rfl
theorem findOk {es : List MapEntry} (h : MapOk es) (k : Int) : ∀ i, findE (.int .u64 k) es i = some none ∨ ∃ (j : Nat) (x : Int), findE (.int .u64 k) es i = some (some (j, .int .i64 x)) := by
  induction es with
  | nil => intro i; exact .inl rfl
  | cons e es ih =>
    intro i
    obtain ⟨⟨k', h1⟩, ⟨x, h2⟩⟩ := h e List.mem_cons_self
    unfold findE
    rw [h1, h2]
    have : keyEq (.int .u64 k) (.int .u64 k') = some (k == k') := by simp [keyEq]
    rw [this]
    cases hk : k == k' with
    | true => exact .inr ⟨i, x, rfl⟩
    | false => exact ih (fun e he => h e (List.mem_cons_of_mem _ he)) (i + 1)
theorem mapOk_set {es : List MapEntry} (h : MapOk es) (i : Nat) (k x : Int) : MapOk (es.modify i fun e => { e with key := .int .u64 k, val := .int .i64 x }) := by
  intro e he
  obtain ⟨j, hj, hlt⟩ := List.mem_iff_getElem?.1 he |>.imp fun j hj => (⟨hj, trivial⟩ : _ ∧ True)
  rw [List.getElem?_modify] at hj
  cases he' : es[j]? with
  | none => rw [he'] at hj; simp at hj
  | some e' =>
    rw [he'] at hj
    by_cases hij : i = j
    · simp [hij] at hj; subst hj; exact ⟨⟨k, rfl⟩, ⟨x, rfl⟩⟩
    · simp [hij] at hj; subst hj; exact h _ (List.mem_of_getElem? he')
theorem mapOk_add {es : List MapEntry} (h : MapOk es) (b : Nat) (k x : Int) : MapOk (es ++ [{ key := .int .u64 k, val := .int .i64 x, born := b }]) := by
  intro e he
  rcases List.mem_append.1 he with he | he
  · exact h e he
  · simp at he; subst he; exact ⟨⟨k, rfl⟩, ⟨x, rfl⟩⟩
theorem hGn {n : Nat} (h : Nat.ble 1 n = true) : ∀ g ∈ [0], g < n := by
  intro g hg; simp at hg; subst hg; exact Nat.le_of_ble_eq_true h
theorem hGs {S : List Nat} {L : List (Nat × AObj)} {n : Nat} (h : Nat.ble 1 n = true) (h2 : sigL S 0 = 0) (h3 : lvB L 0 = true) : ∀ g ∈ [0], g < n ∧ sigL S g = g ∧ lvB L g = true := by
  intro g hg; simp at hg; subst hg; exact ⟨Nat.le_of_ble_eq_true h, h2, h3⟩
theorem hh0 {σ : Nat → Nat} {H : Heap} : ∀ p ∈ ([] : List (Nat × AObj)), p.2 = .dead ∨ aget H (σ p.1) = some (renO σ p.2) := fun p h => by cases h
theorem hh1 {σ : Nat → Nat} {H : Heap} {k : Nat} {o o' : AObj} {L : List (Nat × AObj)} (h : aget H (σ k) = some o') (e : renO σ o = o') (r : ∀ p ∈ L, p.2 = .dead ∨ aget H (σ p.1) = some (renO σ p.2)) : ∀ p ∈ (k, o) :: L, p.2 = .dead ∨ aget H (σ p.1) = some (renO σ p.2) := by
  intro p hp
  rcases List.mem_cons.1 hp with h1 | h1
  · subst h1; rw [e]; exact .inr h
  · exact r p h1
theorem hhD {σ : Nat → Nat} {H : Heap} {k : Nat} {L : List (Nat × AObj)} (r : ∀ p ∈ L, p.2 = .dead ∨ aget H (σ p.1) = some (renO σ p.2)) : ∀ p ∈ (k, AObj.dead) :: L, p.2 = .dead ∨ aget H (σ p.1) = some (renO σ p.2) := by
  intro p hp
  rcases List.mem_cons.1 hp with h1 | h1
  · subst h1; exact .inl rfl
  · exact r p h1
theorem stabOne {H H' : Heap} {l : List Rec} (r : Rec) (h : l = [r]) (hr : r.stable H') : StabOk H H' l := .inr fun x hx => by rw [h] at hx; simp at hx; subst hx; exact hr
/-- A small heap's objects name only what is there. -/
def Named (L : List (Nat × AObj)) (ok : Nat → Bool) : Prop := ∀ p ∈ L, ((idsO p.2).all ok) = true
theorem nm0 {ok : Nat → Bool} : Named [] ok := fun p h => by cases h
theorem nm1 {ok : Nat → Bool} {L : List (Nat × AObj)} {k : Nat} {o : AObj} {l : List Nat} (h : idsO o = l) (h2 : l.all ok = true) (r : Named L ok) : Named ((k, o) :: L) ok := by
  intro p hp
  rcases List.mem_cons.1 hp with e | e
  · subst e; rw [h]; exact h2
  · exact r p e
theorem shut_of {args : List Value} {L : List (Nat × AObj)} {n : Nat} (h2 : ((idsL args).all fun i => Nat.blt i n && lvB L i) = true) (h3 : Named L fun i => Nat.blt i n && lvB L i) : Shut args L n where
  args := by intro i hi; rw [List.all_eq_true] at h2; have := h2 i hi; simpa only [Bool.and_eq_true, Nat.blt_eq] using this
  objs := by intro p hp i hi; have := h3 p hp; rw [List.all_eq_true] at this; have := this i hi; simpa only [Bool.and_eq_true, Nat.blt_eq] using this
theorem shutR_of {v : Value} {L : List (Nat × AObj)} {n0 n : Nat} (h1 : (L.all fun p => Nat.blt p.1 n) = true) (h2 : ((List.range n0).all fun i => inL L i) = true) (h3 : ((idsV v).all fun i => inL L i) = true) (h4 : Named L fun i => inL L i) : ShutR v L n0 n where
  keys := by intro p hp; rw [List.all_eq_true] at h1; have := h1 p hp; rwa [Nat.blt_eq] at this
  old := by intro i hi; rw [List.all_eq_true] at h2; exact h2 i (List.mem_range.2 hi)
  val := by intro i hi; rw [List.all_eq_true] at h3; exact h3 i hi
  objs := by intro p hp i hi; have := h4 p hp; rw [List.all_eq_true] at this; exact this i hi

/-- The heap of a count: a number, a table, what is known. -/
def tcells (r c l w : Int) (p q f : Nat) : List Value := [.int .i64 r, .int .i64 c, .int .i64 l, .int .i64 w, .int .u64 (p : Int), .int .u64 (q : Int), .int .u64 (f : Int)]
def hN (r c l w : Int) (p q f : Nat) (x : Int) (es : List MapEntry) (k : Nat) : List (Nat × AObj) := [(0, gl), (1, .cells [.int .i64 x] 3 none), (2, .cells (tcells r c l w p q f) 73 none), (3, .cells [.map (some 4)] 78 none), (4, .map es k)]
def hM (es : List MapEntry) (k : Nat) : List (Nat × AObj) := [(0, gl), (1, .map es k)]
def hA (r c l w : Int) (p q f b : Nat) (es : List MapEntry) (k : Nat) : List (Nat × AObj) := [(0, gl), (1, .map es k), (2, .cells (tcells r c l w p q f) 73 none), (3, .cells [.int .u64 (b : Int)] 70 none), (4, .cells [.map (some 1)] 78 none)]
theorem idsGl : idsO gl = [] := rfl
theorem idsT (r c l w : Int) (p q f : Nat) : idsL (tcells r c l w p q f) = [] := rfl

def C39 (r c l w : Int) (p q f b : Nat) : Prop := ∀ es k, MapOk es → CT Tryz.prog [0] 39 [tableV r c l w p q f, .int .u64 (b : Int), .agg #[.map (some 1)]] (hM es k) 2
  (fun v L' n' => ∃ (x : Int) (es' : List MapEntry) (k' : Nat), MapOk es' ∧ v = .int .i64 x ∧ L' = hM es' k' ∧ n' = 2)
def C61 (r c l w : Int) (p q f b : Nat) : Prop := ∀ (row col : Int) (t : Bool) (x : Int) es k, MapOk es → CT Tryz.prog [0] 61 [.agg #[.int .i64 row, .int .i64 col, .bool t], .int .u64 (b : Int), .pointer (some ⟨1, 0, none⟩), .pointer (some ⟨2, 0, none⟩), .pointer (some ⟨3, 0, none⟩)] (hN r c l w p q f x es k) 5
  (fun v L' n' => ∃ (x' : Int) (es' : List MapEntry) (k' : Nat), MapOk es' ∧ v = .bool true ∧ L' = hN r c l w p q f x' es' k' ∧ n' = 5)
theorem shut61 (r c l w : Int) (p q f b : Nat) (row col : Int) (t : Bool) (x : Int) {es : List MapEntry} (k : Nat) (h : MapOk es) : Shut [.agg #[.int .i64 row, .int .i64 col, .bool t], .int .u64 (b : Int), .pointer (some ⟨1, 0, none⟩), .pointer (some ⟨2, 0, none⟩), .pointer (some ⟨3, 0, none⟩)] (hN r c l w p q f x es k) 5 := by
  exact shut_of rfl (nm1 rfl rfl (nm1 rfl rfl (nm1 rfl rfl (nm1 rfl rfl (nm1 (idsMap h k) rfl nm0)))))
theorem shutRN (r c l w : Int) (p q f : Nat) (x : Int) {es : List MapEntry} (k : Nat) (h : MapOk es) {v : Value} (hv : idsV v = []) : ShutR v (hN r c l w p q f x es k) 5 5 := by
  exact shutR_of rfl rfl (by rw [hv]; rfl) (nm1 rfl rfl (nm1 rfl rfl (nm1 rfl rfl (nm1 rfl rfl (nm1 (idsMap h k) rfl nm0)))))
def c61 : FC := FC.mk 14 (
  .seq (.steps [⟨.box 64, [.tmp 0], some 5, none⟩,
    ⟨.move, [.const (.bool false)], some 7, none⟩]) (
  .seq (.drawn [(0, ⟨.load1, [.tmp 2], some 8, none⟩),
    (1, ⟨.loadN 7, [.tmp 3], some 9, none⟩),
    (2, ⟨.move, [.tmp 1], some 10, none⟩),
    (3, ⟨.loadN 1, [.tmp 4], some 11, none⟩),
    (4, ⟨.callF 39, [.tmp 9, .tmp 10, .tmp 11], some 12, none⟩),
    (5, ⟨.bin .add, [.tmp 8, .tmp 12], some 13, none⟩),
    (6, ⟨.store 1, [.tmp 2, .tmp 13], none, none⟩)] [0, 0, 0, 0, 14, 31, 63]) (
  .seq (.steps [⟨.move, [.const (.bool true)], some 7, none⟩]) (
  .ret)))) [.tmp 7]
theorem c61_ok : compF Tryz.prog 61 = some c61 := by kernel_rfl
/-- (spadille/cut.table).count$1$1 -/
theorem f61 (r c l w : Int) (p q f b : Nat) (h39 : C39 r c l w p q f b) : C61 r c l w p q f b := by
  intro row col t x es k hes
  refine ⟨shut61 r c l w p q f b row col t x k hes, ?_⟩
  refine F_of_comp c61_ok rfl ?_
  refine WC_go hE hm ?_
  refine xA rfl rfl rfl rfl rfl rfl ?_
  refine xP rfl rfl rfl rfl ?_
  refine RX_nil ?_
  refine WC_live (live1 1 rfl (live1 2 rfl (live1 3 rfl (live1 4 rfl live0)))) ?_
  refine WC_goD hE hm ?_
  refine dR rfl rfl rfl rfl ?_
  refine dR rfl rfl rfl rfl ?_
  refine dX rfl (xP rfl rfl rfl rfl (RX_nil ?_))
  refine dR rfl rfl rfl rfl ?_
  refine dC rfl rfl rfl rfl ((h39 es k hes).call [0, 4] rfl (hGs rfl rfl rfl) rfl rfl (by decide) (hh1 rfl rfl (hh1 rfl (renMap hes _ _) hh0)) (by rintro _ _ _ ⟨_, _, _, _, _, _, rfl⟩; decide)) ?_
  rintro _ _ _ ⟨_, _, _, ⟨y, es', k', hes', rfl, rfl, rfl⟩, rfl, rfl, rfl⟩
  simp only [hM, mergeH, renMap hes', renO_gl]
  refine ⟨stabOne ⟨0, ⟨.load1, [.tmp 2], some 8, none⟩, .r [.pointer (some ⟨1, 0, none⟩)] (.int .i64 x)⟩ (by kernel_rfl) rfl, ?_⟩
  refine dX rfl (xP rfl rfl rfl rfl (RX_nil ?_))
  refine dW rfl rfl rfl rfl rfl (stabE (by kernel_rfl)) ?_
  refine dNil ?_
  refine WC_live live0 ?_
  refine WC_go hE hm ?_
  refine xP rfl rfl rfl rfl ?_
  refine RX_nil ?_
  refine WC_live (live1 7 rfl live0) ?_
  refine WC_le (Le.canon [] (n2 := 5) (lrS 7 rfl rfl lr0) (hrS 0 rfl rfl (hr1 1 (.cells [.int .i64 _] 3 none) rfl rfl (hrS 2 rfl rfl (hrS 3 rfl rfl (hr1 4 (.map es' k') rfl (renMap hes' _ _) hr0))))) rfl rfl rfl rfl rfl (hGn rfl)) ?_
  refine WC_ret ?_
  refine endR rfl ?_
  exact ⟨_, rfl, ⟨_, es', k', hes', rfl, rfl, rfl⟩, shutRN r c l w p q f _ k' hes' rfl⟩

def C37 (r c l w : Int) (p q f b : Nat) : Prop := ∀ (x : Int) es k, MapOk es → CT Tryz.prog [0] 37 [tableV r c l w p q f, .int .u64 (b : Int), .func (.func 61) #[] #[.pointer (some ⟨1, 0, none⟩), .pointer (some ⟨2, 0, none⟩), .pointer (some ⟨3, 0, none⟩)]] (hN r c l w p q f x es k) 5
  (fun v L' n' => ∃ (x' : Int) (es' : List MapEntry) (k' : Nat), MapOk es' ∧ v = .tuple #[] ∧ L' = hN r c l w p q f x' es' k' ∧ n' = 5)
theorem divB {i c : Int} (h : 0 ≤ i ∧ i ≤ 64) (hc : 1 ≤ c ∧ c ≤ 6) : (0 ≤ i / c ∧ i / c ≤ 64) ∧ 0 ≤ i % c ∧ i % c ≤ 64 := by
  have h1 : 0 ≤ i / c := Int.ediv_nonneg h.1 (by omega)
  have h2 : i / c ≤ i := Int.ediv_le_self c h.1
  have h3 := Int.emod_nonneg i (show c ≠ 0 by omega)
  have h4 := Int.emod_lt_of_pos i (show 0 < c by omega)
  omega
def c37 : FC := FC.mk 55 (
  .seq (.steps [⟨.box 73, [.tmp 0], some 3, none⟩]) (
  .seq (.steps [⟨.loadN 7, [.tmp 3], some 14, none⟩,
    ⟨.move, [.tmp 1], some 15, none⟩,
    ⟨.callF 58, [.tmp 14, .tmp 15], some 16, none⟩,
    ⟨.move, [.tmp 16], some 13, none⟩,
    ⟨.extract 0, [.tmp 13], some 17, none⟩,
    ⟨.extract 1, [.tmp 13], some 18, none⟩,
    ⟨.move, [.tmp 17], some 6, none⟩,
    ⟨.move, [.tmp 18], some 7, none⟩]) (
  .seq (.steps [⟨.buildSlice 4 2 [.bool false, .bool false] [(0, 1), (1, 1)], [.const (.bool false), .const (.bool true)], some 19, none⟩,
    ⟨.lenS, [.tmp 19], some 20, none⟩,
    ⟨.move, [.const (.int .i64 0)], some 21, none⟩]) (
  .block 0 (
    .loop (
      .seq (.steps [⟨.bin .lss, [.tmp 21, .tmp 20], some 22, none⟩]) (
      .seq (.cond (.tmp 22) (
        .skip) (
        .exit 0)) (
      .seq (.block 1 (
        .seq (.steps [⟨.indexAddrS 1, [.tmp 19, .tmp 21], some 23, none⟩,
          ⟨.load1, [.tmp 23], some 24, none⟩,
          ⟨.move, [.tmp 24], some 9, none⟩]) (
        .seq (.steps [⟨.move, [.tmp 6], some 25, none⟩,
          ⟨.move, [.tmp 7], some 26, none⟩,
          ⟨.move, [.tmp 9], some 27, none⟩,
          ⟨.build [.int .i64 0, .int .i64 0, .bool false] [(0, 1), (1, 1), (2, 1)], [.tmp 25, .tmp 26, .tmp 27], some 28, none⟩,
          ⟨.alloc 64 [.int .i64 0, .int .i64 0, .bool false], [], some 10, none⟩,
          ⟨.store 3, [.tmp 10, .tmp 28], none, none⟩]) (
        .seq (.seq (.steps [⟨.move, [.tmp 9], some 29, none⟩,
          ⟨.move, [.tmp 29], some 30, none⟩,
          ⟨.fieldAddr 0, [.tmp 3], some 31, some (30, true)⟩,
          ⟨.fieldAddr 2, [.tmp 31], some 32, some (30, true)⟩,
          ⟨.load1, [.tmp 32], some 33, some (30, true)⟩,
          ⟨.fieldAddr 0, [.tmp 3], some 34, some (30, true)⟩,
          ⟨.fieldAddr 3, [.tmp 34], some 35, some (30, true)⟩,
          ⟨.load1, [.tmp 35], some 36, some (30, true)⟩,
          ⟨.bin .eql, [.tmp 33, .tmp 36], some 37, some (30, true)⟩,
          ⟨.pick, [.tmp 30, .tmp 37, .const (.bool false)], some 38, none⟩]) (
        .cond (.tmp 38) (
          .ret) (
          .skip))) (
        .seq (.steps [⟨.loadN 7, [.tmp 3], some 40, none⟩,
          ⟨.move, [.tmp 1], some 41, none⟩,
          ⟨.loadN 3, [.tmp 10], some 42, none⟩,
          ⟨.callF 43, [.tmp 40, .tmp 41, .tmp 42], some 43, none⟩,
          ⟨.move, [.tmp 43], some 39, none⟩,
          ⟨.extract 0, [.tmp 39], some 44, none⟩,
          ⟨.extract 1, [.tmp 39], some 45, none⟩,
          ⟨.move, [.tmp 44], some 11, none⟩,
          ⟨.move, [.tmp 45], some 12, none⟩]) (
        .seq (.steps [⟨.move, [.tmp 12], some 46, none⟩,
          ⟨.move, [.tmp 46], some 47, none⟩,
          ⟨.move, [.tmp 2], some 48, some (47, true)⟩,
          ⟨.loadN 3, [.tmp 10], some 49, some (47, true)⟩,
          ⟨.move, [.tmp 11], some 50, some (47, true)⟩,
          ⟨.callV, [.tmp 48, .tmp 49, .tmp 50], some 51, some (47, true)⟩,
          ⟨.un .not, [.tmp 51], some 52, some (47, true)⟩,
          ⟨.pick, [.tmp 47, .tmp 52, .const (.bool false)], some 53, none⟩]) (
        .cond (.tmp 53) (
          .ret) (
          .skip)))))))) (
      .steps [⟨.bin .add, [.tmp 21, .const (.int .i64 1)], some 54, none⟩,
        ⟨.move, [.tmp 54], some 21, none⟩]))))))))) []
theorem c37_ok : compF Tryz.prog 37 = some c37 := by kernel_rfl
/-- (spadille/cut.table).next -/
theorem f37 (r c l w : Int) (p q f b : Nat) (ok : OkTable r c l w p q f) (hb : b < 2 ^ 64) (h61 : ∀ b', b < b' → b' < 2 ^ 64 → C61 r c l w p q f b') : C37 r c l w p q f b := by
  intro x es k hes
  refine ⟨shut_of rfl (nm1 rfl rfl (nm1 rfl rfl (nm1 rfl rfl (nm1 rfl rfl (nm1 (idsMap hes k) rfl nm0))))), ?_⟩
  refine F_of_comp c37_ok rfl ?_
  refine WC_go hE hm ?_
  refine xA rfl rfl rfl rfl rfl rfl ?_
  refine RX_nil ?_
  refine WC_live (live1 1 rfl (live1 2 rfl (live1 3 rfl live0))) ?_
  refine WC_go hE hm ?_
  refine xLoadN [_, _, _, _, _, _, _] rfl rfl rfl ?_
  refine xP rfl rfl rfl rfl ?_
  refine xC rfl rfl rfl rfl (f58 r c l w p q f b ok.sheet.2.1.1 hb rfl) ?_
  rintro _ _ _ ⟨⟨i, i1, i2, i3, i4, rfl⟩, rfl, rfl⟩
  have hdv := divB ⟨i1, i2⟩ ok.sheet.2.1
  refine xP rfl rfl rfl rfl ?_
  refine xP rfl rfl rfl rfl ?_
  refine xP rfl rfl rfl rfl ?_
  refine xP rfl rfl rfl rfl ?_
  refine xP rfl rfl rfl rfl ?_
  refine RX_nil ?_
  refine WC_live (live1 1 rfl (live1 2 rfl (live1 3 rfl (live1 6 rfl (live1 7 rfl live0))))) ?_
  refine WC_go hE hm ?_
  refine xBSlice [_, _] rfl rfl rfl rfl rfl ?_
  refine xP rfl rfl rfl rfl ?_
  refine xP rfl rfl rfl rfl ?_
  refine RX_nil ?_
  refine WC_live (live1 1 rfl (live1 2 rfl (live1 3 rfl (live1 6 rfl (live1 7 rfl (live1 19 rfl (live1 20 rfl (live1 21 rfl live0)))))))) ?_
  refine WC_block ?_
  refine WC_loopK 3 ?_
  refine WCR_succ ?_
  refine WC_go hE hm ?_
  refine xP rfl rfl rfl rfl ?_
  refine RX_nil ?_
  refine WC_live (live1 1 rfl (live1 2 rfl (live1 3 rfl (live1 6 rfl (live1 7 rfl (live1 19 rfl (live1 20 rfl (live1 21 rfl (live1 22 rfl live0))))))))) ?_
  refine WC_seq ?_
  refine WC_condT rfl ?_
  refine WC_skip ?_
  refine thenN ?_
  refine WC_live (live1 1 rfl (live1 2 rfl (live1 3 rfl (live1 6 rfl (live1 7 rfl (live1 19 rfl (live1 20 rfl (live1 21 rfl live0)))))))) ?_
  refine WC_seq ?_
  refine WC_block ?_
  refine WC_go hE hm ?_
  refine xP rfl rfl rfl rfl ?_
  refine xR rfl rfl rfl rfl ?_
  refine xP rfl rfl rfl rfl ?_
  refine RX_nil ?_
  refine WC_live (live1 1 rfl (live1 2 rfl (live1 3 rfl (live1 6 rfl (live1 7 rfl (live1 9 rfl (live1 19 rfl (live1 20 rfl (live1 21 rfl live0))))))))) ?_
  refine WC_go hE hm ?_
  refine xP rfl rfl rfl rfl ?_
  refine xP rfl rfl rfl rfl ?_
  refine xP rfl rfl rfl rfl ?_
  refine xBuild [_, _, _] rfl rfl rfl ?_
  refine xA rfl rfl rfl rfl rfl rfl ?_
  refine xStN [_, _, _] rfl rfl rfl rfl rfl rfl rfl rfl ?_
  refine RX_nil ?_
  refine WC_live (live1 1 rfl (live1 2 rfl (live1 3 rfl (live1 6 rfl (live1 7 rfl (live1 9 rfl (live1 10 rfl (live1 19 rfl (live1 20 rfl (live1 21 rfl live0)))))))))) ?_
  refine WC_seq ?_
  refine WC_go hE hm ?_
  refine xP rfl rfl rfl rfl ?_
  refine xP rfl rfl rfl rfl ?_
  refine xS rfl ?_
  refine xS rfl ?_
  refine xS rfl ?_
  refine xS rfl ?_
  refine xS rfl ?_
  refine xS rfl ?_
  refine xS rfl ?_
  refine xP rfl rfl rfl rfl ?_
  refine RX_nil ?_
  refine WC_live (live1 1 rfl (live1 2 rfl (live1 3 rfl (live1 6 rfl (live1 7 rfl (live1 10 rfl (live1 19 rfl (live1 20 rfl (live1 21 rfl (live1 38 rfl live0)))))))))) ?_
  refine WC_condF rfl ?_
  refine WC_skip ?_
  refine thenN ?_
  refine WC_live (live1 1 rfl (live1 2 rfl (live1 3 rfl (live1 6 rfl (live1 7 rfl (live1 10 rfl (live1 19 rfl (live1 20 rfl (live1 21 rfl live0))))))))) ?_
  refine WC_go hE hm ?_
  refine xLoadN [_, _, _, _, _, _, _] rfl rfl rfl ?_
  refine xP rfl rfl rfl rfl ?_
  refine xLoadN [_, _, _] rfl rfl rfl ?_
  refine xC rfl rfl rfl rfl (f43 r c l w p q f b (i / c) (i % c) false ok hb hdv.1 hdv.2 rfl) ?_
  rintro _ _ _ ⟨⟨bA, isA, hbA, rfl, hgoA⟩, rfl, rfl⟩
  refine xP rfl rfl rfl rfl ?_
  refine xP rfl rfl rfl rfl ?_
  refine xP rfl rfl rfl rfl ?_
  refine xP rfl rfl rfl rfl ?_
  refine xP rfl rfl rfl rfl ?_
  refine RX_nil ?_
  refine WC_live (live1 1 rfl (live1 2 rfl (live1 3 rfl (live1 6 rfl (live1 7 rfl (live1 10 rfl (live1 11 rfl (live1 12 rfl (live1 19 rfl (live1 20 rfl (live1 21 rfl live0))))))))))) ?_
  refine WC_go hE hm ?_
  refine xP rfl rfl rfl rfl ?_
  refine xP rfl rfl rfl rfl ?_
  cases isA
  ·
    refine xS rfl ?_
    refine xS rfl ?_
    refine xS rfl ?_
    refine xS rfl ?_
    refine xS rfl ?_
    refine xP rfl rfl rfl rfl ?_
    refine RX_nil ?_
    refine WC_live (live1 1 rfl (live1 2 rfl (live1 3 rfl (live1 6 rfl (live1 7 rfl (live1 19 rfl (live1 20 rfl (live1 21 rfl (live1 53 rfl live0))))))))) ?_
    refine WC_condF rfl ?_
    refine WC_skip ?_
    refine blockN ?_
    refine thenN ?_
    refine WC_live (live1 1 rfl (live1 2 rfl (live1 3 rfl (live1 6 rfl (live1 7 rfl (live1 19 rfl (live1 20 rfl (live1 21 rfl live0)))))))) ?_
    refine WC_steps hE hm ?_
    refine xAdd rfl rfl (by omega) ?_
    refine xP rfl rfl rfl rfl ?_
    refine RX_nil ?_
    refine thenN ?_
    refine WCR_live (live1 1 rfl (live1 2 rfl (live1 3 rfl (live1 6 rfl (live1 7 rfl (live1 19 rfl (live1 20 rfl (live1 21 rfl live0)))))))) ?_
    refine WCR_succ ?_
    refine WC_go hE hm ?_
    refine xP rfl rfl rfl rfl ?_
    refine RX_nil ?_
    refine WC_live (live1 1 rfl (live1 2 rfl (live1 3 rfl (live1 6 rfl (live1 7 rfl (live1 19 rfl (live1 20 rfl (live1 21 rfl (live1 22 rfl live0))))))))) ?_
    refine WC_seq ?_
    refine WC_condT rfl ?_
    refine WC_skip ?_
    refine thenN ?_
    refine WC_live (live1 1 rfl (live1 2 rfl (live1 3 rfl (live1 6 rfl (live1 7 rfl (live1 19 rfl (live1 20 rfl (live1 21 rfl live0)))))))) ?_
    refine WC_seq ?_
    refine WC_block ?_
    refine WC_go hE hm ?_
    refine xP rfl rfl rfl rfl ?_
    refine xR rfl rfl rfl rfl ?_
    refine xP rfl rfl rfl rfl ?_
    refine RX_nil ?_
    refine WC_live (live1 1 rfl (live1 2 rfl (live1 3 rfl (live1 6 rfl (live1 7 rfl (live1 9 rfl (live1 19 rfl (live1 20 rfl (live1 21 rfl live0))))))))) ?_
    refine WC_go hE hm ?_
    refine xP rfl rfl rfl rfl ?_
    refine xP rfl rfl rfl rfl ?_
    refine xP rfl rfl rfl rfl ?_
    refine xBuild [_, _, _] rfl rfl rfl ?_
    refine xA rfl rfl rfl rfl rfl rfl ?_
    refine xStN [_, _, _] rfl rfl rfl rfl rfl rfl rfl rfl ?_
    refine RX_nil ?_
    refine WC_live (live1 1 rfl (live1 2 rfl (live1 3 rfl (live1 6 rfl (live1 7 rfl (live1 9 rfl (live1 10 rfl (live1 19 rfl (live1 20 rfl (live1 21 rfl live0)))))))))) ?_
    refine WC_seq ?_
    refine WC_go hE hm ?_
    refine xP rfl rfl rfl rfl ?_
    refine xP rfl rfl rfl rfl ?_
    refine xP rfl rfl rfl rfl ?_
    refine xP rfl rfl rfl rfl ?_
    refine xR rfl rfl rfl rfl ?_
    refine xP rfl rfl rfl rfl ?_
    refine xP rfl rfl rfl rfl ?_
    refine xR rfl rfl rfl rfl ?_
    refine xEq rfl rfl ?_ ?_ <;> intro h
    ·
      refine xP rfl rfl rfl rfl ?_
      refine RX_nil ?_
      refine WC_live (live1 1 rfl (live1 2 rfl (live1 3 rfl (live1 6 rfl (live1 7 rfl (live1 10 rfl (live1 19 rfl (live1 20 rfl (live1 21 rfl (live1 38 rfl live0)))))))))) ?_
      refine WC_condT rfl ?_
      refine WC_le (Le.canon [] (n2 := 5) lr0 (hrS 0 rfl rfl (hr1 1 (.cells [.int .i64 _] 3 none) rfl rfl (hrS 2 rfl rfl (hrS 3 rfl rfl (hr1 4 (.map es k) rfl (renMap hes _ _) hr0))))) rfl rfl rfl rfl rfl (hGn rfl)) ?_
      refine WC_ret ?_
      refine thenR ?_
      refine blockR ?_
      refine thenR ?_
      refine thenR ?_
      refine blockR ?_
      refine endR rfl ?_
      exact ⟨_, rfl, ⟨_, es, k, hes, rfl, rfl, rfl⟩, shutRN r c l w p q f _ k hes rfl⟩
    ·
      refine xP rfl rfl rfl rfl ?_
      refine RX_nil ?_
      refine WC_live (live1 1 rfl (live1 2 rfl (live1 3 rfl (live1 6 rfl (live1 7 rfl (live1 10 rfl (live1 19 rfl (live1 20 rfl (live1 21 rfl (live1 38 rfl live0)))))))))) ?_
      refine WC_condF rfl ?_
      refine WC_skip ?_
      refine thenN ?_
      refine WC_live (live1 1 rfl (live1 2 rfl (live1 3 rfl (live1 6 rfl (live1 7 rfl (live1 10 rfl (live1 19 rfl (live1 20 rfl (live1 21 rfl live0))))))))) ?_
      refine WC_go hE hm ?_
      refine xLoadN [_, _, _, _, _, _, _] rfl rfl rfl ?_
      refine xP rfl rfl rfl rfl ?_
      refine xLoadN [_, _, _] rfl rfl rfl ?_
      refine xC rfl rfl rfl rfl (f43 r c l w p q f b (i / c) (i % c) true ok hb hdv.1 hdv.2 rfl) ?_
      rintro _ _ _ ⟨⟨bB, isB, hbB, rfl, hgoB⟩, rfl, rfl⟩
      refine xP rfl rfl rfl rfl ?_
      refine xP rfl rfl rfl rfl ?_
      refine xP rfl rfl rfl rfl ?_
      refine xP rfl rfl rfl rfl ?_
      refine xP rfl rfl rfl rfl ?_
      refine RX_nil ?_
      refine WC_live (live1 1 rfl (live1 2 rfl (live1 3 rfl (live1 6 rfl (live1 7 rfl (live1 10 rfl (live1 11 rfl (live1 12 rfl (live1 19 rfl (live1 20 rfl (live1 21 rfl live0))))))))))) ?_
      refine WC_go hE hm ?_
      refine xP rfl rfl rfl rfl ?_
      refine xP rfl rfl rfl rfl ?_
      cases isB
      ·
        refine xS rfl ?_
        refine xS rfl ?_
        refine xS rfl ?_
        refine xS rfl ?_
        refine xS rfl ?_
        refine xP rfl rfl rfl rfl ?_
        refine RX_nil ?_
        refine WC_live (live1 1 rfl (live1 2 rfl (live1 3 rfl (live1 6 rfl (live1 7 rfl (live1 19 rfl (live1 20 rfl (live1 21 rfl (live1 53 rfl live0))))))))) ?_
        refine WC_condF rfl ?_
        refine WC_skip ?_
        refine blockN ?_
        refine thenN ?_
        refine WC_live (live1 1 rfl (live1 2 rfl (live1 3 rfl (live1 6 rfl (live1 7 rfl (live1 19 rfl (live1 20 rfl (live1 21 rfl live0)))))))) ?_
        refine WC_steps hE hm ?_
        refine xAdd rfl rfl (by omega) ?_
        refine xP rfl rfl rfl rfl ?_
        refine RX_nil ?_
        refine thenN ?_
        refine WCR_live (live1 1 rfl (live1 2 rfl (live1 3 rfl (live1 6 rfl (live1 7 rfl (live1 19 rfl (live1 20 rfl (live1 21 rfl live0)))))))) ?_
        refine WCR_succ ?_
        refine WC_go hE hm ?_
        refine xP rfl rfl rfl rfl ?_
        refine RX_nil ?_
        refine WC_live (live1 1 rfl (live1 2 rfl (live1 3 rfl (live1 6 rfl (live1 7 rfl (live1 19 rfl (live1 20 rfl (live1 21 rfl (live1 22 rfl live0))))))))) ?_
        refine WC_seq ?_
        refine WC_condF rfl ?_
        refine WC_le (Le.canon [] (n2 := 5) lr0 (hrS 0 rfl rfl (hr1 1 (.cells [.int .i64 _] 3 none) rfl rfl (hrS 2 rfl rfl (hrS 3 rfl rfl (hr1 4 (.map es k) rfl (renMap hes _ _) hr0))))) rfl rfl rfl rfl rfl (hGn rfl)) ?_
        refine WC_exit ?_
        refine thenE ?_
        refine thenE ?_
        refine blockE ?_
        refine endN rfl ?_
        exact ⟨_, rfl, ⟨_, es, k, hes, rfl, rfl, rfl⟩, shutRN r c l w p q f _ k hes rfl⟩
      ·
        refine xP rfl rfl rfl rfl ?_
        refine xLoadN [_, _, _] rfl rfl rfl ?_
        refine xP rfl rfl rfl rfl ?_
        refine xC rfl rfl rfl rfl ((h61 bB (hgoB rfl).1 hbB (i / c) (i % c) _ _ _ _ hes).call [0, 1, 2, 3, 4] rfl (hGs rfl rfl rfl) rfl rfl (by decide) (hh1 rfl rfl (hh1 rfl rfl (hh1 rfl rfl (hh1 rfl rfl (hh1 rfl (renMap hes _ _) hh0))))) (by rintro _ _ _ ⟨_, _, _, _, _, _, rfl⟩; decide)) ?_
        rintro _ _ _ ⟨_, _, _, ⟨x1, es1, k1, hes1, rfl, rfl, rfl⟩, rfl, rfl, rfl⟩
        simp only [hN, mergeH, renMap hes1, renO_gl]
        refine xP rfl rfl rfl rfl ?_
        refine xP rfl rfl rfl rfl ?_
        refine RX_nil ?_
        refine WC_liveH (live1 1 rfl (live1 2 rfl (live1 3 rfl (live1 6 rfl (live1 7 rfl (live1 19 rfl (live1 20 rfl (live1 21 rfl (live1 53 rfl live0))))))))) (liveHo 0 gl rfl (liveHo 1 (.cells [.int .i64 _] 3 none) rfl (liveHo 2 (.cells (tcells r c l w p q f) 73 none) rfl (liveHo 3 (.cells [.map (some 4)] 78 none) rfl (liveHo 4 (.map es1 k1) rfl (liveHo 5 (.cells (tcells r c l w p q f) 73 none) rfl (liveH1 6 rfl liveH0))))))) ?_
        refine WC_cond rfl (fun h => ?_) (fun h => ?_)
        ·
          refine WC_le (Le.canon [] (n2 := 5) lr0 (hrS 0 rfl rfl (hr1 1 (.cells [.int .i64 _] 3 none) rfl rfl (hrS 2 rfl rfl (hrS 3 rfl rfl (hr1 4 (.map es1 k1) rfl (renMap hes1 _ _) hr0))))) rfl rfl rfl rfl rfl (hGn rfl)) ?_
          refine WC_ret ?_
          refine blockR ?_
          refine thenR ?_
          refine thenR ?_
          refine blockR ?_
          refine endR rfl ?_
          exact ⟨_, rfl, ⟨_, es1, k1, hes1, rfl, rfl, rfl⟩, shutRN r c l w p q f _ k1 hes1 rfl⟩
        ·
          refine WC_skip ?_
          refine blockN ?_
          refine thenN ?_
          refine WC_live (live1 1 rfl (live1 2 rfl (live1 3 rfl (live1 6 rfl (live1 7 rfl (live1 19 rfl (live1 20 rfl (live1 21 rfl live0)))))))) ?_
          refine WC_steps hE hm ?_
          refine xAdd rfl rfl (by omega) ?_
          refine xP rfl rfl rfl rfl ?_
          refine RX_nil ?_
          refine thenN ?_
          refine WCR_live (live1 1 rfl (live1 2 rfl (live1 3 rfl (live1 6 rfl (live1 7 rfl (live1 19 rfl (live1 20 rfl (live1 21 rfl live0)))))))) ?_
          refine WCR_succ ?_
          refine WC_go hE hm ?_
          refine xP rfl rfl rfl rfl ?_
          refine RX_nil ?_
          refine WC_live (live1 1 rfl (live1 2 rfl (live1 3 rfl (live1 6 rfl (live1 7 rfl (live1 19 rfl (live1 20 rfl (live1 21 rfl (live1 22 rfl live0))))))))) ?_
          refine WC_seq ?_
          refine WC_condF rfl ?_
          refine WC_le (Le.canon [] (n2 := 5) lr0 (hrS 0 rfl rfl (hr1 1 (.cells [.int .i64 _] 3 none) rfl rfl (hrS 2 rfl rfl (hrS 3 rfl rfl (hr1 4 (.map es1 k1) rfl (renMap hes1 _ _) hr0))))) rfl rfl rfl rfl rfl (hGn rfl)) ?_
          refine WC_exit ?_
          refine thenE ?_
          refine thenE ?_
          refine blockE ?_
          refine endN rfl ?_
          exact ⟨_, rfl, ⟨_, es1, k1, hes1, rfl, rfl, rfl⟩, shutRN r c l w p q f _ k1 hes1 rfl⟩
  ·
    refine xP rfl rfl rfl rfl ?_
    refine xLoadN [_, _, _] rfl rfl rfl ?_
    refine xP rfl rfl rfl rfl ?_
    refine xC rfl rfl rfl rfl ((h61 bA (hgoA rfl).1 hbA (i / c) (i % c) _ _ _ _ hes).call [0, 1, 2, 3, 4] rfl (hGs rfl rfl rfl) rfl rfl (by decide) (hh1 rfl rfl (hh1 rfl rfl (hh1 rfl rfl (hh1 rfl rfl (hh1 rfl (renMap hes _ _) hh0))))) (by rintro _ _ _ ⟨_, _, _, _, _, _, rfl⟩; decide)) ?_
    rintro _ _ _ ⟨_, _, _, ⟨x1, es1, k1, hes1, rfl, rfl, rfl⟩, rfl, rfl, rfl⟩
    simp only [hN, mergeH, renMap hes1, renO_gl]
    refine xP rfl rfl rfl rfl ?_
    refine xP rfl rfl rfl rfl ?_
    refine RX_nil ?_
    refine WC_liveH (live1 1 rfl (live1 2 rfl (live1 3 rfl (live1 6 rfl (live1 7 rfl (live1 19 rfl (live1 20 rfl (live1 21 rfl (live1 53 rfl live0))))))))) (liveHo 0 gl rfl (liveHo 1 (.cells [.int .i64 _] 3 none) rfl (liveHo 2 (.cells (tcells r c l w p q f) 73 none) rfl (liveHo 3 (.cells [.map (some 4)] 78 none) rfl (liveHo 4 (.map es1 k1) rfl (liveHo 5 (.cells (tcells r c l w p q f) 73 none) rfl (liveH1 6 rfl liveH0))))))) ?_
    refine WC_cond rfl (fun h => ?_) (fun h => ?_)
    ·
      refine WC_le (Le.canon [] (n2 := 5) lr0 (hrS 0 rfl rfl (hr1 1 (.cells [.int .i64 _] 3 none) rfl rfl (hrS 2 rfl rfl (hrS 3 rfl rfl (hr1 4 (.map es1 k1) rfl (renMap hes1 _ _) hr0))))) rfl rfl rfl rfl rfl (hGn rfl)) ?_
      refine WC_ret ?_
      refine blockR ?_
      refine thenR ?_
      refine thenR ?_
      refine blockR ?_
      refine endR rfl ?_
      exact ⟨_, rfl, ⟨_, es1, k1, hes1, rfl, rfl, rfl⟩, shutRN r c l w p q f _ k1 hes1 rfl⟩
    ·
      refine WC_skip ?_
      refine blockN ?_
      refine thenN ?_
      refine WC_live (live1 1 rfl (live1 2 rfl (live1 3 rfl (live1 6 rfl (live1 7 rfl (live1 19 rfl (live1 20 rfl (live1 21 rfl live0)))))))) ?_
      refine WC_steps hE hm ?_
      refine xAdd rfl rfl (by omega) ?_
      refine xP rfl rfl rfl rfl ?_
      refine RX_nil ?_
      refine thenN ?_
      refine WCR_live (live1 1 rfl (live1 2 rfl (live1 3 rfl (live1 6 rfl (live1 7 rfl (live1 19 rfl (live1 20 rfl (live1 21 rfl live0)))))))) ?_
      refine WCR_succ ?_
      refine WC_go hE hm ?_
      refine xP rfl rfl rfl rfl ?_
      refine RX_nil ?_
      refine WC_live (live1 1 rfl (live1 2 rfl (live1 3 rfl (live1 6 rfl (live1 7 rfl (live1 19 rfl (live1 20 rfl (live1 21 rfl (live1 22 rfl live0))))))))) ?_
      refine WC_seq ?_
      refine WC_condT rfl ?_
      refine WC_skip ?_
      refine thenN ?_
      refine WC_live (live1 1 rfl (live1 2 rfl (live1 3 rfl (live1 6 rfl (live1 7 rfl (live1 19 rfl (live1 20 rfl (live1 21 rfl live0)))))))) ?_
      refine WC_seq ?_
      refine WC_block ?_
      refine WC_go hE hm ?_
      refine xP rfl rfl rfl rfl ?_
      refine xR rfl rfl rfl rfl ?_
      refine xP rfl rfl rfl rfl ?_
      refine RX_nil ?_
      refine WC_live (live1 1 rfl (live1 2 rfl (live1 3 rfl (live1 6 rfl (live1 7 rfl (live1 9 rfl (live1 19 rfl (live1 20 rfl (live1 21 rfl live0))))))))) ?_
      refine WC_go hE hm ?_
      refine xP rfl rfl rfl rfl ?_
      refine xP rfl rfl rfl rfl ?_
      refine xP rfl rfl rfl rfl ?_
      refine xBuild [_, _, _] rfl rfl rfl ?_
      refine xA rfl rfl rfl rfl rfl rfl ?_
      refine xStN [_, _, _] rfl rfl rfl rfl rfl rfl rfl rfl ?_
      refine RX_nil ?_
      refine WC_live (live1 1 rfl (live1 2 rfl (live1 3 rfl (live1 6 rfl (live1 7 rfl (live1 9 rfl (live1 10 rfl (live1 19 rfl (live1 20 rfl (live1 21 rfl live0)))))))))) ?_
      refine WC_seq ?_
      refine WC_go hE hm ?_
      refine xP rfl rfl rfl rfl ?_
      refine xP rfl rfl rfl rfl ?_
      refine xP rfl rfl rfl rfl ?_
      refine xP rfl rfl rfl rfl ?_
      refine xR rfl rfl rfl rfl ?_
      refine xP rfl rfl rfl rfl ?_
      refine xP rfl rfl rfl rfl ?_
      refine xR rfl rfl rfl rfl ?_
      refine xEq rfl rfl ?_ ?_ <;> intro h
      ·
        refine xP rfl rfl rfl rfl ?_
        refine RX_nil ?_
        refine WC_live (live1 1 rfl (live1 2 rfl (live1 3 rfl (live1 6 rfl (live1 7 rfl (live1 10 rfl (live1 19 rfl (live1 20 rfl (live1 21 rfl (live1 38 rfl live0)))))))))) ?_
        refine WC_condT rfl ?_
        refine WC_le (Le.canon [] (n2 := 5) lr0 (hrS 0 rfl rfl (hr1 1 (.cells [.int .i64 _] 3 none) rfl rfl (hrS 2 rfl rfl (hrS 3 rfl rfl (hr1 4 (.map es1 k1) rfl (renMap hes1 _ _) hr0))))) rfl rfl rfl rfl rfl (hGn rfl)) ?_
        refine WC_ret ?_
        refine thenR ?_
        refine blockR ?_
        refine thenR ?_
        refine thenR ?_
        refine blockR ?_
        refine endR rfl ?_
        exact ⟨_, rfl, ⟨_, es1, k1, hes1, rfl, rfl, rfl⟩, shutRN r c l w p q f _ k1 hes1 rfl⟩
      ·
        refine xP rfl rfl rfl rfl ?_
        refine RX_nil ?_
        refine WC_live (live1 1 rfl (live1 2 rfl (live1 3 rfl (live1 6 rfl (live1 7 rfl (live1 10 rfl (live1 19 rfl (live1 20 rfl (live1 21 rfl (live1 38 rfl live0)))))))))) ?_
        refine WC_condF rfl ?_
        refine WC_skip ?_
        refine thenN ?_
        refine WC_live (live1 1 rfl (live1 2 rfl (live1 3 rfl (live1 6 rfl (live1 7 rfl (live1 10 rfl (live1 19 rfl (live1 20 rfl (live1 21 rfl live0))))))))) ?_
        refine WC_go hE hm ?_
        refine xLoadN [_, _, _, _, _, _, _] rfl rfl rfl ?_
        refine xP rfl rfl rfl rfl ?_
        refine xLoadN [_, _, _] rfl rfl rfl ?_
        refine xC rfl rfl rfl rfl (f43 r c l w p q f b (i / c) (i % c) true ok hb hdv.1 hdv.2 rfl) ?_
        rintro _ _ _ ⟨⟨bB, isB, hbB, rfl, hgoB⟩, rfl, rfl⟩
        refine xP rfl rfl rfl rfl ?_
        refine xP rfl rfl rfl rfl ?_
        refine xP rfl rfl rfl rfl ?_
        refine xP rfl rfl rfl rfl ?_
        refine xP rfl rfl rfl rfl ?_
        refine RX_nil ?_
        refine WC_live (live1 1 rfl (live1 2 rfl (live1 3 rfl (live1 6 rfl (live1 7 rfl (live1 10 rfl (live1 11 rfl (live1 12 rfl (live1 19 rfl (live1 20 rfl (live1 21 rfl live0))))))))))) ?_
        refine WC_go hE hm ?_
        refine xP rfl rfl rfl rfl ?_
        refine xP rfl rfl rfl rfl ?_
        cases isB
        ·
          refine xS rfl ?_
          refine xS rfl ?_
          refine xS rfl ?_
          refine xS rfl ?_
          refine xS rfl ?_
          refine xP rfl rfl rfl rfl ?_
          refine RX_nil ?_
          refine WC_live (live1 1 rfl (live1 2 rfl (live1 3 rfl (live1 6 rfl (live1 7 rfl (live1 19 rfl (live1 20 rfl (live1 21 rfl (live1 53 rfl live0))))))))) ?_
          refine WC_condF rfl ?_
          refine WC_skip ?_
          refine blockN ?_
          refine thenN ?_
          refine WC_live (live1 1 rfl (live1 2 rfl (live1 3 rfl (live1 6 rfl (live1 7 rfl (live1 19 rfl (live1 20 rfl (live1 21 rfl live0)))))))) ?_
          refine WC_steps hE hm ?_
          refine xAdd rfl rfl (by omega) ?_
          refine xP rfl rfl rfl rfl ?_
          refine RX_nil ?_
          refine thenN ?_
          refine WCR_live (live1 1 rfl (live1 2 rfl (live1 3 rfl (live1 6 rfl (live1 7 rfl (live1 19 rfl (live1 20 rfl (live1 21 rfl live0)))))))) ?_
          refine WCR_succ ?_
          refine WC_go hE hm ?_
          refine xP rfl rfl rfl rfl ?_
          refine RX_nil ?_
          refine WC_live (live1 1 rfl (live1 2 rfl (live1 3 rfl (live1 6 rfl (live1 7 rfl (live1 19 rfl (live1 20 rfl (live1 21 rfl (live1 22 rfl live0))))))))) ?_
          refine WC_seq ?_
          refine WC_condF rfl ?_
          refine WC_le (Le.canon [] (n2 := 5) lr0 (hrS 0 rfl rfl (hr1 1 (.cells [.int .i64 _] 3 none) rfl rfl (hrS 2 rfl rfl (hrS 3 rfl rfl (hr1 4 (.map es1 k1) rfl (renMap hes1 _ _) hr0))))) rfl rfl rfl rfl rfl (hGn rfl)) ?_
          refine WC_exit ?_
          refine thenE ?_
          refine thenE ?_
          refine blockE ?_
          refine endN rfl ?_
          exact ⟨_, rfl, ⟨_, es1, k1, hes1, rfl, rfl, rfl⟩, shutRN r c l w p q f _ k1 hes1 rfl⟩
        ·
          refine xP rfl rfl rfl rfl ?_
          refine xLoadN [_, _, _] rfl rfl rfl ?_
          refine xP rfl rfl rfl rfl ?_
          refine xC rfl rfl rfl rfl ((h61 bB (hgoB rfl).1 hbB (i / c) (i % c) _ _ _ _ hes1).call [0, 1, 2, 3, 4] rfl (hGs rfl rfl rfl) rfl rfl (by decide) (hh1 rfl rfl (hh1 rfl rfl (hh1 rfl rfl (hh1 rfl rfl (hh1 rfl (renMap hes1 _ _) hh0))))) (by rintro _ _ _ ⟨_, _, _, _, _, _, rfl⟩; decide)) ?_
          rintro _ _ _ ⟨_, _, _, ⟨x2, es2, k2, hes2, rfl, rfl, rfl⟩, rfl, rfl, rfl⟩
          simp only [hN, mergeH, renMap hes2, renO_gl]
          refine xP rfl rfl rfl rfl ?_
          refine xP rfl rfl rfl rfl ?_
          refine RX_nil ?_
          refine WC_liveH (live1 1 rfl (live1 2 rfl (live1 3 rfl (live1 6 rfl (live1 7 rfl (live1 19 rfl (live1 20 rfl (live1 21 rfl (live1 53 rfl live0))))))))) (liveHo 0 gl rfl (liveHo 1 (.cells [.int .i64 _] 3 none) rfl (liveHo 2 (.cells (tcells r c l w p q f) 73 none) rfl (liveHo 3 (.cells [.map (some 4)] 78 none) rfl (liveHo 4 (.map es2 k2) rfl (liveHo 5 (.cells (tcells r c l w p q f) 73 none) rfl (liveH1 6 rfl liveH0))))))) ?_
          refine WC_cond rfl (fun h => ?_) (fun h => ?_)
          ·
            refine WC_le (Le.canon [] (n2 := 5) lr0 (hrS 0 rfl rfl (hr1 1 (.cells [.int .i64 _] 3 none) rfl rfl (hrS 2 rfl rfl (hrS 3 rfl rfl (hr1 4 (.map es2 k2) rfl (renMap hes2 _ _) hr0))))) rfl rfl rfl rfl rfl (hGn rfl)) ?_
            refine WC_ret ?_
            refine blockR ?_
            refine thenR ?_
            refine thenR ?_
            refine blockR ?_
            refine endR rfl ?_
            exact ⟨_, rfl, ⟨_, es2, k2, hes2, rfl, rfl, rfl⟩, shutRN r c l w p q f _ k2 hes2 rfl⟩
          ·
            refine WC_skip ?_
            refine blockN ?_
            refine thenN ?_
            refine WC_live (live1 1 rfl (live1 2 rfl (live1 3 rfl (live1 6 rfl (live1 7 rfl (live1 19 rfl (live1 20 rfl (live1 21 rfl live0)))))))) ?_
            refine WC_steps hE hm ?_
            refine xAdd rfl rfl (by omega) ?_
            refine xP rfl rfl rfl rfl ?_
            refine RX_nil ?_
            refine thenN ?_
            refine WCR_live (live1 1 rfl (live1 2 rfl (live1 3 rfl (live1 6 rfl (live1 7 rfl (live1 19 rfl (live1 20 rfl (live1 21 rfl live0)))))))) ?_
            refine WCR_succ ?_
            refine WC_go hE hm ?_
            refine xP rfl rfl rfl rfl ?_
            refine RX_nil ?_
            refine WC_live (live1 1 rfl (live1 2 rfl (live1 3 rfl (live1 6 rfl (live1 7 rfl (live1 19 rfl (live1 20 rfl (live1 21 rfl (live1 22 rfl live0))))))))) ?_
            refine WC_seq ?_
            refine WC_condF rfl ?_
            refine WC_le (Le.canon [] (n2 := 5) lr0 (hrS 0 rfl rfl (hr1 1 (.cells [.int .i64 _] 3 none) rfl rfl (hrS 2 rfl rfl (hrS 3 rfl rfl (hr1 4 (.map es2 k2) rfl (renMap hes2 _ _) hr0))))) rfl rfl rfl rfl rfl (hGn rfl)) ?_
            refine WC_exit ?_
            refine thenE ?_
            refine thenE ?_
            refine blockE ?_
            refine endN rfl ?_
            exact ⟨_, rfl, ⟨_, es2, k2, hes2, rfl, rfl, rfl⟩, shutRN r c l w p q f _ k2 hes2 rfl⟩

def C60 (r c l w : Int) (p q f b : Nat) : Prop := ∀ es k, MapOk es → CT Tryz.prog [0] 60 [.pointer (some ⟨2, 0, none⟩), .pointer (some ⟨3, 0, none⟩), .pointer (some ⟨4, 0, none⟩)] (hA r c l w p q f b es k) 5
  (fun v L' n' => ∃ (x : Int) (es' : List MapEntry) (k' : Nat), MapOk es' ∧ v = .int .i64 x ∧ L' = hA r c l w p q f b es' k' ∧ n' = 5)
def C59 (r c l w : Int) (p q f b : Nat) : Prop := ∀ es k, MapOk es → CT Tryz.prog [0] 59 [.agg #[.map (some 1)], .int .u64 (b : Int), .func (.func 60) #[] #[.pointer (some ⟨2, 0, none⟩), .pointer (some ⟨3, 0, none⟩), .pointer (some ⟨4, 0, none⟩)]] (hA r c l w p q f b es k) 5
  (fun v L' n' => ∃ (x : Int) (es' : List MapEntry) (k' : Nat), MapOk es' ∧ v = .int .i64 x ∧ L' = hA r c l w p q f b es' k' ∧ n' = 5)
theorem shutRA (r c l w : Int) (p q f b : Nat) {es : List MapEntry} (k : Nat) (h : MapOk es) {v : Value} (hv : idsV v = []) : ShutR v (hA r c l w p q f b es k) 5 5 :=
  shutR_of rfl rfl (by rw [hv]; rfl) (nm1 rfl rfl (nm1 (idsMap h k) rfl (nm1 rfl rfl (nm1 rfl rfl (nm1 rfl rfl nm0)))))
theorem namedA (r c l w : Int) (p q f b : Nat) {es : List MapEntry} (k : Nat) (h : MapOk es) : Named (hA r c l w p q f b es k) fun i => Nat.blt i 5 && lvB (hA r c l w p q f b es k) i :=
  nm1 rfl rfl (nm1 (idsMap h k) rfl (nm1 rfl rfl (nm1 rfl rfl (nm1 rfl rfl nm0))))
theorem lookOk {H : Heap} {m k0 : Nat} {es : List MapEntry} (h : MapOk es) (hm : aget H m = some (.map es k0)) (b : Int) : ∃ (y : Int) (is : Bool), semR (.lookup 0 (.int .i64 0) true) [.map (some m), .int .u64 b] H = some (.tuple #[.int .i64 y, .bool is]) := by
  rcases findOk h b 0 with hf | ⟨j, y, hf⟩
  · exact ⟨0, false, by simp [semR, rLookup, hm, hf, keyFits]⟩
  · exact ⟨y, true, by simp [semR, rLookup, hm, hf, keyFits]⟩
theorem updOk {H : Heap} {n m k0 : Nat} {es : List MapEntry} (h : MapOk es) (hm : aget H m = some (.map es k0)) (b y : Int) : ∃ (es' : List MapEntry) (k' : Nat), MapOk es' ∧ semW (.mapUpdate 0) [.map (some m), .int .u64 b, .int .i64 y] H n = some (undef, aput H m (.map es' k'), n) := by
  rcases findOk h b 0 with hf | ⟨j, z, hf⟩
  · exact ⟨_, k0 + 1, mapOk_add h k0 b y, by simp [semW, wMapUpdate, hm, hf, keyFits]⟩
  · exact ⟨_, k0, mapOk_set h j b y, by simp [semW, wMapUpdate, hm, hf, keyFits]⟩
def c60 : FC := FC.mk 10 (
  .seq (.steps [⟨.move, [.const (.int .i64 0)], some 3, none⟩]) (
  .seq (.steps [⟨.alloc 3 [.int .i64 0], [], some 4, none⟩,
    ⟨.store 1, [.tmp 4, .const (.int .i64 0)], none, none⟩]) (
  .seq (.steps [⟨.loadN 7, [.tmp 0], some 5, none⟩,
    ⟨.load1, [.tmp 1], some 6, none⟩,
    ⟨.mkFunc (.func 61) 0, [.tmp 4, .tmp 0, .tmp 2], some 7, none⟩,
    ⟨.callF 37, [.tmp 5, .tmp 6, .tmp 7], some 8, none⟩]) (
  .seq (.steps [⟨.load1, [.tmp 4], some 9, none⟩,
    ⟨.move, [.tmp 9], some 3, none⟩]) (
  .ret))))) [.tmp 3]
theorem c60_ok : compF Tryz.prog 60 = some c60 := by kernel_rfl
/-- (spadille/cut.table).count$1 -/
theorem f60 (r c l w : Int) (p q f b : Nat) (h37 : C37 r c l w p q f b) : C60 r c l w p q f b := by
  intro es k hes
  refine ⟨shut_of rfl (namedA r c l w p q f b k hes), ?_⟩
  refine F_of_comp c60_ok rfl ?_
  refine WC_go hE hm ?_
  refine xP rfl rfl rfl rfl ?_
  refine RX_nil ?_
  refine WC_live (live1 0 rfl (live1 1 rfl (live1 2 rfl live0))) ?_
  refine WC_go hE hm ?_
  refine xA rfl rfl rfl rfl rfl rfl ?_
  refine xW rfl rfl rfl rfl rfl ?_
  refine RX_nil ?_
  refine WC_live (live1 0 rfl (live1 1 rfl (live1 2 rfl (live1 4 rfl live0)))) ?_
  refine WC_go hE hm ?_
  refine xLoadN [_, _, _, _, _, _, _] rfl rfl rfl ?_
  refine xR rfl rfl rfl rfl ?_
  refine xP rfl rfl rfl rfl ?_
  refine xC rfl rfl rfl rfl ((h37 0 es k hes).call [0, 5, 2, 4, 1] rfl (hGs rfl rfl rfl) rfl rfl (by decide) (hh1 rfl rfl (hh1 rfl rfl (hh1 rfl rfl (hh1 rfl rfl (hh1 rfl (renMap hes _ _) hh0))))) (by rintro _ _ _ ⟨_, _, _, _, _, _, rfl⟩; decide)) ?_
  rintro _ _ _ ⟨_, _, _, ⟨x', es', k', hes', rfl, rfl, rfl⟩, rfl, rfl, rfl⟩
  simp only [hN, mergeH, renMap hes', renO_gl]
  refine RX_nil ?_
  refine WC_live (live1 4 rfl live0) ?_
  refine WC_go hE hm ?_
  refine xR rfl rfl rfl rfl ?_
  refine xP rfl rfl rfl rfl ?_
  refine RX_nil ?_
  refine WC_live (live1 3 rfl live0) ?_
  refine WC_le (Le.canon [] (n2 := 5) (lrS 3 rfl rfl lr0) (hrS 0 rfl rfl (hr1 1 (.map es' k') rfl (renMap hes' _ _) (hrS 2 rfl rfl (hrS 3 rfl rfl (hrS 4 rfl rfl hr0))))) rfl rfl rfl rfl rfl (hGn rfl)) ?_
  refine WC_ret ?_
  refine endR rfl ?_
  exact ⟨_, rfl, ⟨_, es', k', hes', rfl, rfl, rfl⟩, shutRA r c l w p q f b k' hes' rfl⟩
def c59 : FC := FC.mk 26 (
  .seq (.steps [⟨.box 78, [.tmp 0], some 3, none⟩,
    ⟨.move, [.const (.int .i64 0)], some 6, none⟩]) (
  .seq (.seq (.steps [⟨.fieldAddr 0, [.tmp 3], some 11, none⟩,
    ⟨.load1, [.tmp 11], some 12, none⟩,
    ⟨.move, [.tmp 1], some 13, none⟩,
    ⟨.lookup 0 (.int .i64 0) true, [.tmp 12, .tmp 13], some 14, none⟩,
    ⟨.move, [.tmp 14], some 10, none⟩,
    ⟨.extract 0, [.tmp 10], some 15, none⟩,
    ⟨.extract 1, [.tmp 10], some 16, none⟩,
    ⟨.move, [.tmp 15], some 7, none⟩,
    ⟨.move, [.tmp 16], some 8, none⟩]) (
  .seq (.steps [⟨.move, [.tmp 8], some 17, none⟩]) (
  .cond (.tmp 17) (
    .seq (.steps [⟨.move, [.tmp 7], some 18, none⟩,
      ⟨.move, [.tmp 18], some 6, none⟩]) (
    .ret)) (
    .skip)))) (
  .seq (.steps [⟨.move, [.tmp 2], some 19, none⟩,
    ⟨.callV, [.tmp 19], some 20, none⟩,
    ⟨.move, [.tmp 20], some 9, none⟩]) (
  .seq (.steps [⟨.fieldAddr 0, [.tmp 3], some 21, none⟩,
    ⟨.load1, [.tmp 21], some 22, none⟩,
    ⟨.move, [.tmp 1], some 23, none⟩,
    ⟨.move, [.tmp 9], some 24, none⟩,
    ⟨.mapUpdate 0, [.tmp 22, .tmp 23, .tmp 24], none, none⟩]) (
  .seq (.steps [⟨.move, [.tmp 9], some 25, none⟩,
    ⟨.move, [.tmp 25], some 6, none⟩]) (
  .ret)))))) [.tmp 6]
theorem c59_ok : compF Tryz.prog 59 = some c59 := by kernel_rfl
/-- (spadille/cut.known[int]).ask -/
theorem f59 (r c l w : Int) (p q f b : Nat) (h60 : C60 r c l w p q f b) : C59 r c l w p q f b := by
  intro es k hes
  refine ⟨shut_of rfl (namedA r c l w p q f b k hes), ?_⟩
  refine F_of_comp c59_ok rfl ?_
  refine WC_go hE hm ?_
  refine xA rfl rfl rfl rfl rfl rfl ?_
  refine xP rfl rfl rfl rfl ?_
  refine RX_nil ?_
  refine WC_live (live1 1 rfl (live1 2 rfl (live1 3 rfl live0))) ?_
  refine WC_seq ?_
  refine WC_go hE hm ?_
  refine xP rfl rfl rfl rfl ?_
  refine xR rfl rfl rfl rfl ?_
  refine xP rfl rfl rfl rfl ?_
  obtain ⟨y, is, hlook⟩ := lookOk (H := aput (ofL (hA r c l w p q f b es k)) 5 (.cells [.map (some 1)] 78 none)) (m := 1) (k0 := k) hes rfl (b : Int)
  refine xR rfl rfl rfl hlook ?_
  refine xP rfl rfl rfl rfl ?_
  refine xP rfl rfl rfl rfl ?_
  refine xP rfl rfl rfl rfl ?_
  refine xP rfl rfl rfl rfl ?_
  refine xP rfl rfl rfl rfl ?_
  refine RX_nil ?_
  refine WC_live (live1 1 rfl (live1 2 rfl (live1 3 rfl (live1 7 rfl (live1 8 rfl live0))))) ?_
  refine WC_go hE hm ?_
  refine xP rfl rfl rfl rfl ?_
  refine RX_nil ?_
  refine WC_live (live1 1 rfl (live1 2 rfl (live1 3 rfl (live1 7 rfl (live1 17 rfl live0))))) ?_
  refine WC_cond rfl (fun h => ?_) (fun h => ?_)
  ·
    refine WC_go hE hm ?_
    refine xP rfl rfl rfl rfl ?_
    refine xP rfl rfl rfl rfl ?_
    refine RX_nil ?_
    refine WC_live (live1 6 rfl live0) ?_
    refine WC_le (Le.canon [] (n2 := 5) (lrS 6 rfl rfl lr0) (hrS 0 rfl rfl (hr1 1 (.map es k) rfl (renMap hes _ _) (hrS 2 rfl rfl (hrS 3 rfl rfl (hrS 4 rfl rfl hr0))))) rfl rfl rfl rfl rfl (hGn rfl)) ?_
    refine WC_ret ?_
    refine thenR ?_
    refine endR rfl ?_
    exact ⟨_, rfl, ⟨_, es, k, hes, rfl, rfl, rfl⟩, shutRA r c l w p q f b k hes rfl⟩
  ·
    refine WC_skip ?_
    refine thenN ?_
    refine WC_live (live1 1 rfl (live1 2 rfl (live1 3 rfl live0))) ?_
    refine WC_go hE hm ?_
    refine xP rfl rfl rfl rfl ?_
    refine xC rfl rfl rfl rfl ((h60 es k hes).call [0, 1, 2, 3, 4] rfl (hGs rfl rfl rfl) rfl rfl (by decide) (hh1 rfl rfl (hh1 rfl (renMap hes _ _) (hh1 rfl rfl (hh1 rfl rfl (hh1 rfl rfl hh0))))) (by rintro _ _ _ ⟨_, _, _, _, _, _, rfl⟩; decide)) ?_
    rintro _ _ _ ⟨_, _, _, ⟨x', es', k', hes', rfl, rfl, rfl⟩, rfl, rfl, rfl⟩
    simp only [hA, mergeH, renMap hes', renO_gl]
    refine xP rfl rfl rfl rfl ?_
    refine RX_nil ?_
    refine WC_liveH (live1 1 rfl (live1 3 rfl (live1 9 rfl live0))) (liveHo 0 gl rfl (liveHo 1 (.map es' k') rfl (liveHo 2 (.cells (tcells r c l w p q f) 73 none) rfl (liveHo 3 (.cells [.int .u64 (b : Int)] 70 none) rfl (liveHo 4 (.cells [.map (some 1)] 78 none) rfl (liveHo 5 (.cells [.map (some 1)] 78 none) rfl liveH0)))))) ?_
    obtain ⟨es2, k2, hes2, hupd⟩ := updOk (H := ofL [(0, gl), (1, .map es' k'), (2, .cells (tcells r c l w p q f) 73 none), (3, .cells [.int .u64 (b : Int)] 70 none), (4, .cells [.map (some 1)] 78 none), (5, .cells [.map (some 1)] 78 none)]) (n := 5 + 1 + (5 - 5)) (m := 1) (k0 := k') hes' rfl (b : Int) x'
    refine WC_go hE hm ?_
    refine xP rfl rfl rfl rfl ?_
    refine xR rfl rfl rfl rfl ?_
    refine xP rfl rfl rfl rfl ?_
    refine xP rfl rfl rfl rfl ?_
    refine xW rfl rfl rfl hupd rfl ?_
    refine RX_nil ?_
    refine WC_live (live1 9 rfl live0) ?_
    refine WC_go hE hm ?_
    refine xP rfl rfl rfl rfl ?_
    refine xP rfl rfl rfl rfl ?_
    refine RX_nil ?_
    refine WC_live (live1 6 rfl live0) ?_
    refine WC_le (Le.canon [] (n2 := 5) (lrS 6 rfl rfl lr0) (hrS 0 rfl rfl (hr1 1 (.map es2 k2) rfl (renMap hes2 _ _) (hrS 2 rfl rfl (hrS 3 rfl rfl (hrS 4 rfl rfl hr0))))) rfl rfl rfl rfl rfl (hGn rfl)) ?_
    refine WC_ret ?_
    refine endR rfl ?_
    exact ⟨_, rfl, ⟨_, es2, k2, hes2, rfl, rfl, rfl⟩, shutRA r c l w p q f b k2 hes2 rfl⟩
def c39 : FC := FC.mk 15 (
  .seq (.steps [⟨.box 73, [.tmp 0], some 3, none⟩,
    ⟨.box 70, [.tmp 1], some 4, none⟩,
    ⟨.box 78, [.tmp 2], some 5, none⟩,
    ⟨.move, [.const (.int .i64 0)], some 6, none⟩]) (
  .seq (.seq (.steps [⟨.load1, [.tmp 4], some 7, none⟩,
    ⟨.fieldAddr 6, [.tmp 3], some 8, none⟩,
    ⟨.load1, [.tmp 8], some 9, none⟩,
    ⟨.bin .eql, [.tmp 7, .tmp 9], some 10, none⟩]) (
  .cond (.tmp 10) (
    .seq (.steps [⟨.move, [.const (.int .i64 1)], some 6, none⟩]) (
    .ret)) (
    .skip))) (
  .seq (.steps [⟨.loadN 1, [.tmp 5], some 11, none⟩,
    ⟨.load1, [.tmp 4], some 12, none⟩,
    ⟨.mkFunc (.func 60) 0, [.tmp 3, .tmp 4, .tmp 5], some 13, none⟩,
    ⟨.callF 59, [.tmp 11, .tmp 12, .tmp 13], some 14, none⟩,
    ⟨.move, [.tmp 14], some 6, none⟩]) (
  .ret)))) [.tmp 6]
theorem c39_ok : compF Tryz.prog 39 = some c39 := by kernel_rfl
/-- (spadille/cut.table).count -/
theorem f39 (r c l w : Int) (p q f b : Nat) (h59 : C59 r c l w p q f b) : C39 r c l w p q f b := by
  intro es k hes
  refine ⟨shut_of rfl (nm1 rfl rfl (nm1 (idsMap hes k) rfl nm0)), ?_⟩
  refine F_of_comp c39_ok rfl ?_
  refine WC_go hE hm ?_
  refine xA rfl rfl rfl rfl rfl rfl ?_
  refine xA rfl rfl rfl rfl rfl rfl ?_
  refine xA rfl rfl rfl rfl rfl rfl ?_
  refine xP rfl rfl rfl rfl ?_
  refine RX_nil ?_
  refine WC_live (live1 3 rfl (live1 4 rfl (live1 5 rfl live0))) ?_
  refine WC_seq ?_
  refine WC_go hE hm ?_
  refine xR rfl rfl rfl rfl ?_
  refine xP rfl rfl rfl rfl ?_
  refine xR rfl rfl rfl rfl ?_
  refine xEq rfl rfl ?_ ?_ <;> intro h
  ·
    refine RX_nil ?_
    refine WC_live (live1 3 rfl (live1 4 rfl (live1 5 rfl (live1 10 rfl live0)))) ?_
    refine WC_condT rfl ?_
    refine WC_go hE hm ?_
    refine xP rfl rfl rfl rfl ?_
    refine RX_nil ?_
    refine WC_live (live1 6 rfl live0) ?_
    refine WC_le (Le.canon [] (n2 := 2) (lrS 6 rfl rfl lr0) (hrS 0 rfl rfl (hr1 1 (.map es k) rfl (renMap hes _ _) hr0)) rfl rfl rfl rfl rfl (hGn rfl)) ?_
    refine WC_ret ?_
    refine thenR ?_
    refine endR rfl ?_
    exact ⟨_, rfl, ⟨_, es, k, hes, rfl, rfl, rfl⟩, shutR_of rfl rfl rfl (nm1 rfl rfl (nm1 (idsMap hes k) rfl nm0))⟩
  ·
    refine RX_nil ?_
    refine WC_live (live1 3 rfl (live1 4 rfl (live1 5 rfl (live1 10 rfl live0)))) ?_
    refine WC_condF rfl ?_
    refine WC_skip ?_
    refine thenN ?_
    refine WC_live (live1 3 rfl (live1 4 rfl (live1 5 rfl live0))) ?_
    refine WC_go hE hm ?_
    refine xLoadN [_] rfl rfl rfl ?_
    refine xR rfl rfl rfl rfl ?_
    refine xP rfl rfl rfl rfl ?_
    refine xC rfl rfl rfl rfl ((h59 es k hes).call [0, 1, 2, 3, 4] rfl (hGs rfl rfl rfl) rfl rfl (by decide) (hh1 rfl rfl (hh1 rfl (renMap hes _ _) (hh1 rfl rfl (hh1 rfl rfl (hh1 rfl rfl hh0))))) (by rintro _ _ _ ⟨_, _, _, _, _, _, rfl⟩; decide)) ?_
    rintro _ _ _ ⟨_, _, _, ⟨x', es', k', hes', rfl, rfl, rfl⟩, rfl, rfl, rfl⟩
    simp only [hA, mergeH, renMap hes', renO_gl]
    refine xP rfl rfl rfl rfl ?_
    refine RX_nil ?_
    refine WC_live (live1 6 rfl live0) ?_
    refine WC_le (Le.canon [] (n2 := 2) (lrS 6 rfl rfl lr0) (hrS 0 rfl rfl (hr1 1 (.map es' k') rfl (renMap hes' _ _) hr0)) rfl rfl rfl rfl rfl (hGn rfl)) ?_
    refine WC_ret ?_
    refine endR rfl ?_
    exact ⟨_, rfl, ⟨_, es', k', hes', rfl, rfl, rfl⟩, shutR_of rfl rfl rfl (nm1 rfl rfl (nm1 (idsMap hes' k') rfl nm0))⟩

/-- How many ways: for each board. -/
theorem count_ok (r c l w : Int) (p q f : Nat) (ok : OkTable r c l w p q f) : ∀ (m b : Nat), b < 2 ^ 64 → 2 ^ 64 - b ≤ m → C39 r c l w p q f b
  | 0, b, hb, hm => by omega
  | m + 1, b, hb, hm => f39 r c l w p q f b (f59 r c l w p q f b (f60 r c l w p q f b (f37 r c l w p q f b ok hb fun b' h1 h2 => f61 r c l w p q f b' (count_ok r c l w p q f ok m b' h2 (by omega)))))
end Go.Proofs.YtnagcnlldllagaaGreatDoor
