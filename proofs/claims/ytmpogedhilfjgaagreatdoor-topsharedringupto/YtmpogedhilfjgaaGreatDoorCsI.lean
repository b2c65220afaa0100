/- A part of the proof that the law spadilletop.TopSharedRing answers true and leaves its argument as it was (CsI) -/
import Derived.Test.YtmpogedhilfjgaaGreatDoorCsH
set_option linter.all false
namespace Go.Cs
section
variable {P : Program} {G : List Nat} {E : Env} {N n0 : Nat} {s : St} {st : Step} {r : List Step} {Q : St → Prop} {vs : List Value} {v : Value}
def Live (T : AL Value) (L : List (Nat × Value)) : Prop := ∀ p ∈ L, aget T p.1 = some p.2
theorem lv0 {T : AL Value} : Live T [] := fun p h => by cases h
theorem lv1 {T : AL Value} {L : List (Nat × Value)} (k : Nat) {v : Value} (h : aget T k = some v) (r : Live T L) : Live T ((k, v) :: L) := by
  intro p hp
  rcases List.mem_cons.1 hp with e | e
  · subst e; exact h
  · exact r p e
def Le (P : Program) (G : List Nat) (N n0 : Nat) (s s2 : St) : Prop := ∀ β0 w0 β a w, Dom0 β0 n0 → Rel G N β s a w → Fr β0 n0 w0 β s.n w → ∃ β2, Rel G N β2 s2 a w ∧ Fr β0 n0 w0 β2 s2.n w
theorem Le.refl : Le P G N n0 s s := fun β0 w0 β a w h0 hr hf => ⟨β, hr, hf⟩
theorem Le.trans {s1 s2 s3 : St} (h : Le P G N n0 s1 s2) (k : Le P G N n0 s2 s3) : Le P G N n0 s1 s3 := fun β0 w0 β a w h0 hr hf =>
  let ⟨β2, h1, h2⟩ := h β0 w0 β a w h0 hr hf
  k β0 w0 β2 a w h0 h1 h2
theorem W_le {c : Code} {Q : EX → St → Prop} {s2 : St} (hl : Le P G N n0 s s2) (h : W P G N n0 c Q s2) : W P G N n0 c Q s := fun β0 w0 β a w h0 hr hf =>
  let ⟨β2, h1, h2⟩ := hl β0 w0 β a w h0 hr hf
  h β0 w0 β2 a w h0 h1 h2
theorem WRo_le {k : Nat} {c : Code} {Q : EX → St → Prop} {s2 : St} (hl : Le P G N n0 s s2) (h : WRo P G N n0 k c Q s2) : WRo P G N n0 k c Q s := fun β0 w0 β a w h0 hr hf =>
  let ⟨β2, h1, h2⟩ := hl β0 w0 β a w h0 hr hf
  h β0 w0 β2 a w h0 h1 h2
theorem WC_le {c : SC} {Q : EX → St → Prop} {s2 : St} (hl : Le P G N n0 s s2) (h : WC P G N n0 c Q s2) : WC P G N n0 c Q s := fun x hx => W_le hl (h x hx)
theorem Sub.le {σ : Nat → Nat} {s s2 : St} (h : Sub n0 σ s s2) (hG : ∀ g ∈ G, g < n0) : Le P G N n0 s s2 := fun β0 w0 β a w h0 hr hf => ⟨_, h.rel hG h0 hr hf⟩
theorem Le.weak {T T2 : AL Value} {D : List Value} {H H2 : Heap} {n : Nat} (hT : ∀ k v, aget T2 k = some v → aget T k = some v) (hH : ∀ i o, aget H2 i = some o → o = .dead ∨ aget H i = some o) :
    Le P G N n0 { T := T, D := D, H := H, n := n } { T := T2, D := D, H := H2, n := n } := by
  intro β0 w0 β a w h0 hr hf
  refine ⟨β, ⟨⟨hr.t.1, fun k v hk => hr.t.2 k v (hT k v hk)⟩, hr.d, ?_⟩, hf⟩
  have live : ∀ {i}, isLive H2 i → isLive H i := fun {i} ⟨o, h1, h2⟩ => by
    rcases hH i o h1 with h | h
    · subst h; cases h2
    · exact ⟨o, h, h2⟩
  refine ⟨hr.h.glob, hr.h.dom, hr.h.fin, fun hi hj li lj => hr.h.inj hi hj (live li) (live lj), fun {i e o} hi ho => ?_⟩
  rcases hH i o ho with h | h
  · subst h
    have hlt := (hr.h.dom hi).2
    exact ⟨w.heap[e.blk], by simp [hlt], .dead⟩
  · exact hr.h.obj hi h
theorem Le.live {T : AL Value} {D : List Value} {H : Heap} {n : Nat} {L : List (Nat × Value)} (hT : Live T L) : Le P G N n0 { T := T, D := D, H := H, n := n } { T := ofL L, D := D, H := H, n := n } :=
  Le.weak (fun k v hk => by rw [aget_ofL] at hk; exact hT _ (mem_of_lookup hk)) (fun i o h => .inr h)
theorem WLv {c : SC} {Q : EX → St → Prop} {T : AL Value} {D : List Value} {H : Heap} {n : Nat} {L : List (Nat × Value)} (hT : Live T L) (h : WC P G N n0 c Q { T := ofL L, D := D, H := H, n := n }) : WC P G N n0 c Q { T := T, D := D, H := H, n := n } :=
  WC_le (.live hT) h
def putL (d : Option Tmp) (v : Value) (L : List (Nat × Value)) : List (Nat × Value) := match d with
  | some k => (k, v) :: L
  | none => L
theorem putT_lst (d : Option Tmp) (v : Value) (L : List (Nat × Value)) : putT d v (.lst L) = .lst (putL d v L) := by cases d <;> rfl
section
variable {k : Kind} {as : List Operand} {d : Option Tmp} {g : Option (Tmp × Bool)} {L : List (Nat × Value)} {D : List Value} {H : Heap} {n : Nat}
theorem xP (hc : k.cls = .P) (hw : wantT (.lst L) g = some true) (ha : evs G (.lst L) as = some vs) (hv : semP E k vs = some v) (h : RX P G E r Q { T := .lst (putL d v L), D := D, H := H, n := n }) : RX P G E (⟨k, as, d, g⟩ :: r) Q { T := .lst L, D := D, H := H, n := n } := by
  simp only [← putT_lst] at h
  exact RX_P (s := ⟨.lst L, D, H, n⟩) hc hw ha hv h
theorem xR (hc : k.cls = .R) (hw : wantT (.lst L) g = some true) (ha : evs G (.lst L) as = some vs) (hv : semR k vs H = some v) (h : RX P G E r Q { T := .lst (putL d v L), D := D, H := H, n := n }) : RX P G E (⟨k, as, d, g⟩ :: r) Q { T := .lst L, D := D, H := H, n := n } := by
  simp only [← putT_lst] at h
  exact RX_R (s := ⟨.lst L, D, H, n⟩) hc hw ha hv h
theorem xA {ob : AObj} {mk : Mk} (hc : k.cls = .A) (hw : wantT (.lst L) g = some true) (ha : evs G (.lst L) as = some vs) (hv : semA k vs = some (ob, mk)) (hf : aget H n = none) (hn : Nat.blt n big = true)
    (h : RX P G E r Q { T := .lst (putL d (mk.val n) L), D := D, H := aput H n ob, n := n + 1 }) : RX P G E (⟨k, as, d, g⟩ :: r) Q { T := .lst L, D := D, H := H, n := n } := by
  simp only [← putT_lst] at h
  exact RX_A (s := ⟨.lst L, D, H, n⟩) hc hw ha hv hf hn h
theorem xW {H' : Heap} {n' : Nat} (hc : k.cls = .W) (hw : wantT (.lst L) g = some true) (ha : evs G (.lst L) as = some vs) (hv : semW k vs H n = some (v, H', n')) (hn : Nat.blt n big = true) (h : RX P G E r Q { T := .lst (putL d v L), D := D, H := H', n := n' }) : RX P G E (⟨k, as, d, g⟩ :: r) Q { T := .lst L, D := D, H := H, n := n } := by
  simp only [← putT_lst] at h
  exact RX_W (s := ⟨.lst L, D, H, n⟩) hc hw ha hv hn h
theorem xN (hc : k.cls = .N) (hw : wantT (.lst L) g = some true) (ha : evs G (.lst L) as = some vs) (h : SN k vs H n fun v H n => RX P G E r Q { T := .lst (putL d v L), D := D, H := H, n := n }) : RX P G E (⟨k, as, d, g⟩ :: r) Q { T := .lst L, D := D, H := H, n := n } := by
  simp only [← putT_lst] at h
  exact RX_N (s := ⟨.lst L, D, H, n⟩) hc hw ha h
theorem xC {f : FuncId} {args : List Value} {post : Value → Heap → Nat → Prop} (hc : k.cls = .C) (hw : wantT (.lst L) g = some true) (ha : evs G (.lst L) as = some vs) (ht : target E k vs = some (f, args)) (hf : F P G f args H n post)
    (h : ∀ v H n, post v H n → RX P G E r Q { T := .lst (putL d v L), D := D, H := H, n := n }) : RX P G E (⟨k, as, d, g⟩ :: r) Q { T := .lst L, D := D, H := H, n := n } := by
  simp only [← putT_lst] at h
  exact RX_C (s := ⟨.lst L, D, H, n⟩) hc hw ha ht hf h
theorem xD {c : Value} (hc : k.cls = .D) (hw : wantT (.lst L) g = some true) (ha : evs G (.lst L) as = some [c]) (hd : isFn c = true) (h : RX P G E r Q { T := .lst (putL d undef L), D := c :: D, H := H, n := n }) : RX P G E (⟨k, as, d, g⟩ :: r) Q { T := .lst L, D := D, H := H, n := n } := by
  simp only [← putT_lst] at h
  exact RX_D (s := ⟨.lst L, D, H, n⟩) hc hw ha hd h
theorem xS (hw : wantT (.lst L) g = some false) (h : RX P G E r Q { T := .lst (putL d undef L), D := D, H := H, n := n }) : RX P G E (⟨k, as, d, g⟩ :: r) Q { T := .lst L, D := D, H := H, n := n } := by
  simp only [← putT_lst] at h
  exact RX_skip (s := ⟨.lst L, D, H, n⟩) hw h
theorem xCmp {p : Prop} [Decidable p] (hc : k.cls = .P) (hw : wantT (.lst L) g = some true) (ha : evs G (.lst L) as = some vs) (hv : semP E k vs = some (.bool (decide p)))
    (h1 : p → RX P G E r Q { T := .lst (putL d (.bool true) L), D := D, H := H, n := n }) (h2 : ¬ p → RX P G E r Q { T := .lst (putL d (.bool false) L), D := D, H := H, n := n }) : RX P G E (⟨k, as, d, g⟩ :: r) Q { T := .lst L, D := D, H := H, n := n } := by
  refine xP hc hw ha hv ?_
  by_cases h : p
  · simp only [h, decide_true]; exact h1 h
  · simp only [h, decide_false]; exact h2 h
theorem xEq {q : IntKind} {a b : Int} (hw : wantT (.lst L) g = some true) (ha : evs G (.lst L) as = some [.int q a, .int q b])
    (h1 : a = b → RX P G E r Q { T := .lst (putL d (.bool true) L), D := D, H := H, n := n }) (h2 : a ≠ b → RX P G E r Q { T := .lst (putL d (.bool false) L), D := D, H := H, n := n }) : RX P G E (⟨.bin .eql, as, d, g⟩ :: r) Q { T := .lst L, D := D, H := H, n := n } := by
  by_cases h : a = b
  · exact xP (v := .bool true) rfl hw ha (by subst h; show (if q ≠ q then none else some (Value.bool (a == a))) = _; rw [if_neg (by simp)]; simp) (h1 h)
  · exact xP (v := .bool false) rfl hw ha (by show (if q ≠ q then none else some (Value.bool (a == b))) = _; rw [if_neg (by simp)]; simp [h]) (h2 h)
theorem xNe {q : IntKind} {a b : Int} (hw : wantT (.lst L) g = some true) (ha : evs G (.lst L) as = some [.int q a, .int q b])
    (h1 : a ≠ b → RX P G E r Q { T := .lst (putL d (.bool true) L), D := D, H := H, n := n }) (h2 : a = b → RX P G E r Q { T := .lst (putL d (.bool false) L), D := D, H := H, n := n }) : RX P G E (⟨.bin .neq, as, d, g⟩ :: r) Q { T := .lst L, D := D, H := H, n := n } := by
  by_cases h : a = b
  · exact xP (v := .bool false) rfl hw ha (by subst h; show (if q ≠ q then none else some (Value.bool (a != a))) = _; rw [if_neg (by simp)]; simp) (h2 h)
  · exact xP (v := .bool true) rfl hw ha (by show (if q ≠ q then none else some (Value.bool (a != b))) = _; rw [if_neg (by simp)]; simp [h]) (h1 h)
theorem wrap64 {x : Int} (h : -9223372036854775808 ≤ x ∧ x ≤ 9223372036854775807) : IntKind.i64.wrap x = x := by
  unfold IntKind.wrap; simp [IntKind.bits, IntKind.signed]; omega
theorem wrapU {k : IntKind} (hk : k.signed = false) {x : Nat} (h : x < 2 ^ k.bits) : k.wrap (x : Int) = (x : Int) := by
  unfold IntKind.wrap
  cases k <;> simp [IntKind.bits, IntKind.signed] at hk h ⊢ <;> omega
theorem ofIntU {k : IntKind} {m : Nat} (h : m < 2 ^ k.bits) : (BitVec.ofInt k.bits (m : Int)).toNat = m := by
  simp only [BitVec.toNat_ofInt]
  have e : ((m : Int) % ((2 ^ k.bits : Nat) : Int)).toNat = m := by
    rw [← Int.natCast_emod, Int.toNat_natCast, Nat.mod_eq_of_lt h]
  exact_mod_cast e
theorem xAdd {a b : Int} (hw : wantT (.lst L) g = some true) (ha : evs G (.lst L) as = some [.int .i64 a, .int .i64 b]) (hr : -9223372036854775808 ≤ a + b ∧ a + b ≤ 9223372036854775807)
    (h : RX P G E r Q { T := .lst (putL d (.int .i64 (a + b)) L), D := D, H := H, n := n }) : RX P G E (⟨.bin .add, as, d, g⟩ :: r) Q { T := .lst L, D := D, H := H, n := n } :=
  xP (v := .int .i64 (a + b)) rfl hw ha (by show some (Value.int .i64 (IntKind.i64.wrap (a + b))) = _; rw [wrap64 hr]) h
theorem xSub {a b : Int} (hw : wantT (.lst L) g = some true) (ha : evs G (.lst L) as = some [.int .i64 a, .int .i64 b]) (hr : -9223372036854775808 ≤ a - b ∧ a - b ≤ 9223372036854775807)
    (h : RX P G E r Q { T := .lst (putL d (.int .i64 (a - b)) L), D := D, H := H, n := n }) : RX P G E (⟨.bin .sub, as, d, g⟩ :: r) Q { T := .lst L, D := D, H := H, n := n } :=
  xP (v := .int .i64 (a - b)) rfl hw ha (by show some (Value.int .i64 (IntKind.i64.wrap (a - b))) = _; rw [wrap64 hr]) h
theorem xMul {a b : Int} (hw : wantT (.lst L) g = some true) (ha : evs G (.lst L) as = some [.int .i64 a, .int .i64 b]) (hr : -9223372036854775808 ≤ a * b ∧ a * b ≤ 9223372036854775807)
    (h : RX P G E r Q { T := .lst (putL d (.int .i64 (a * b)) L), D := D, H := H, n := n }) : RX P G E (⟨.bin .mul, as, d, g⟩ :: r) Q { T := .lst L, D := D, H := H, n := n } :=
  xP (v := .int .i64 (a * b)) rfl hw ha (by show some (Value.int .i64 (IntKind.i64.wrap (a * b))) = _; rw [wrap64 hr]) h
theorem xRem {a b : Int} (hw : wantT (.lst L) g = some true) (ha : evs G (.lst L) as = some [.int .i64 a, .int .i64 b]) (h0 : 0 ≤ a ∧ b ≠ 0)
    (h : RX P G E r Q { T := .lst (putL d (.int .i64 (a % b)) L), D := D, H := H, n := n }) : RX P G E (⟨.bin .rem, as, d, g⟩ :: r) Q { T := .lst L, D := D, H := H, n := n } := by
  refine xP (v := .int .i64 (a % b)) rfl hw ha ?_ h
  show (if b = 0 then none else some (Value.int .i64 (a.tmod b))) = _
  rw [if_neg h0.2, Int.tmod_eq_emod_of_nonneg h0.1]
theorem xOr {q : IntKind} {x y : Nat} (hq : q.signed = false) (hw : wantT (.lst L) g = some true) (ha : evs G (.lst L) as = some [.int q (x : Int), .int q (y : Int)]) (hx : x < 2 ^ q.bits) (hy : y < 2 ^ q.bits)
    (h : RX P G E r Q { T := .lst (putL d (.int q ((x ||| y : Nat) : Int)) L), D := D, H := H, n := n }) : RX P G E (⟨.bin .or, as, d, g⟩ :: r) Q { T := .lst L, D := D, H := H, n := n } := by
  refine xP (v := .int q ((x ||| y : Nat) : Int)) rfl hw ha ?_ h
  show (if q ≠ q then none else some (Value.int q (bits .or q x y))) = _
  rw [if_neg (by simp)]
  unfold bits
  simp only [BitVec.toNat_or, ofIntU hx, ofIntU hy]
  rw [wrapU hq (Nat.or_lt_two_pow hx hy)]
theorem xAnd {q : IntKind} {x y : Nat} (hq : q.signed = false) (hw : wantT (.lst L) g = some true) (ha : evs G (.lst L) as = some [.int q (x : Int), .int q (y : Int)]) (hx : x < 2 ^ q.bits) (hy : y < 2 ^ q.bits)
    (h : RX P G E r Q { T := .lst (putL d (.int q ((x &&& y : Nat) : Int)) L), D := D, H := H, n := n }) : RX P G E (⟨.bin .and, as, d, g⟩ :: r) Q { T := .lst L, D := D, H := H, n := n } := by
  refine xP (v := .int q ((x &&& y : Nat) : Int)) rfl hw ha ?_ h
  show (if q ≠ q then none else some (Value.int q (bits .and q x y))) = _
  rw [if_neg (by simp)]
  unfold bits
  simp only [BitVec.toNat_and, ofIntU hx, ofIntU hy]
  rw [wrapU hq (Nat.lt_of_le_of_lt Nat.and_le_left hx)]
theorem xShr {q p : IntKind} {x : Nat} {j : Int} (hq : q.signed = false) (hw : wantT (.lst L) g = some true) (ha : evs G (.lst L) as = some [.int q (x : Int), .int p j]) (hj : 0 ≤ j)
    (h : RX P G E r Q { T := .lst (putL d (.int q ((x >>> min j.toNat q.bits : Nat) : Int)) L), D := D, H := H, n := n }) : RX P G E (⟨.bin .shr, as, d, g⟩ :: r) Q { T := .lst L, D := D, H := H, n := n } := by
  refine xP (v := .int q ((x >>> min j.toNat q.bits : Nat) : Int)) rfl hw ha ?_ h
  show (if j < 0 then none else some (Value.int q (Int.fdiv (x : Int) (2 ^ (min j.toNat q.bits))))) = _
  rw [if_neg (by omega)]
  have : ((2 : Int) ^ (min j.toNat q.bits)) = ((2 ^ (min j.toNat q.bits) : Nat) : Int) := by norm_cast
  rw [this, Int.fdiv_eq_ediv_of_nonneg _ (by exact_mod_cast Nat.zero_le _), ← Int.natCast_ediv, ← Nat.shiftRight_eq_div_pow]
theorem xShl {q p : IntKind} {x : Nat} {j : Int} (hq : q.signed = false) (hw : wantT (.lst L) g = some true) (ha : evs G (.lst L) as = some [.int q (x : Int), .int p j]) (hj : 0 ≤ j)
    (h : RX P G E r Q { T := .lst (putL d (.int q (((x <<< min j.toNat q.bits) % 2 ^ q.bits : Nat) : Int)) L), D := D, H := H, n := n }) : RX P G E (⟨.bin .shl, as, d, g⟩ :: r) Q { T := .lst L, D := D, H := H, n := n } := by
  refine xP (v := .int q (((x <<< min j.toNat q.bits) % 2 ^ q.bits : Nat) : Int)) rfl hw ha ?_ h
  show (if j < 0 then none else some (Value.int q (q.wrap ((x : Int) * 2 ^ (min j.toNat q.bits))))) = _
  rw [if_neg (by omega)]
  have : ((x : Int) * 2 ^ (min j.toNat q.bits)) = ((x <<< min j.toNat q.bits : Nat) : Int) := by
    rw [Nat.shiftLeft_eq]; norm_cast
  rw [this]
  congr 2
  unfold IntKind.wrap
  have hs : (q.signed && decide (((x <<< min j.toNat q.bits : Nat) : Int) % 2 ^ q.bits ≥ 2 ^ (q.bits - 1))) = false := by rw [hq]; rfl
  simp only [hs]
  norm_cast
theorem xIdx {es b o l c : Nat} {q : IntKind} {i : Int} (hw : wantT (.lst L) g = some true) (ha : evs G (.lst L) as = some [.slice (some ⟨b, o, none⟩) l c, .int q i]) (hi : 0 ≤ i ∧ i < (l : Int))
    (h : RX P G E r Q { T := .lst (putL d (.pointer (some ⟨b, o + i.toNat * es, none⟩)) L), D := D, H := H, n := n }) : RX P G E (⟨.indexAddrS es, as, d, g⟩ :: r) Q { T := .lst L, D := D, H := H, n := n } :=
  xP (v := .pointer (some ⟨b, o + i.toNat * es, none⟩)) rfl hw ha (by simp only [semP, sIndexAddrS]; rw [if_pos hi]) h
theorem xLd {b o : Nat} {cs : List Value} {t : TypeId} {gr : Option Nat} (hw : wantT (.lst L) g = some true) (ha : evs G (.lst L) as = some [.pointer (some ⟨b, o, none⟩)]) (hb : aget H b = some (.cells cs t gr)) (hv : cs[o]? = some v)
    (h : RX P G E r Q { T := .lst (putL d v L), D := D, H := H, n := n }) : RX P G E (⟨.load1, as, d, g⟩ :: r) Q { T := .lst L, D := D, H := H, n := n } :=
  xR (v := v) rfl hw ha (by simp only [semR, rLoad1, hb]; exact hv) h
theorem xSt {b o : Nat} {u : Value} {cs : List Value} {t : TypeId} {gr : Option Nat} (hw : wantT (.lst L) g = some true) (ha : evs G (.lst L) as = some [.pointer (some ⟨b, o, none⟩), u]) (hb : aget H b = some (.cells cs t gr)) (ho : o + 1 ≤ cs.length) (hu : u.cells.toList = [u]) (hc : cell1 u = true) (hn : Nat.blt n big = true)
    (h : RX P G E r Q { T := .lst (putL d undef L), D := D, H := aput H b (.cells (splice cs o [u]) t gr), n := n }) : RX P G E (⟨.store 1, as, d, g⟩ :: r) Q { T := .lst L, D := D, H := H, n := n } := by
  refine xW rfl hw ha ?_ hn h
  simp only [semW, wStore, hb, hu]
  rw [if_pos ⟨rfl, ho, by simp [hc]⟩]
theorem xBuild {zero : List Value} {places : List (Nat × Nat)} (cs : List Value) (hw : wantT (.lst L) g = some true) (ha : evs G (.lst L) as = some vs) (hv : fillL zero places vs = some cs)
    (h : RX P G E r Q { T := .lst (putL d (.agg cs.toArray) L), D := D, H := H, n := n }) : RX P G E (⟨.build zero places, as, d, g⟩ :: r) Q { T := .lst L, D := D, H := H, n := n } :=
  xP (v := .agg cs.toArray) rfl hw ha (by show (fillL zero places vs).map _ = _; rw [hv]; rfl) h
theorem xLoadN {m : Nat} (cs : List Value) (hw : wantT (.lst L) g = some true) (ha : evs G (.lst L) as = some vs) (hv : semR (.loadN m) vs H = some (.agg cs.toArray))
    (h : RX P G E r Q { T := .lst (putL d (.agg cs.toArray) L), D := D, H := H, n := n }) : RX P G E (⟨.loadN m, as, d, g⟩ :: r) Q { T := .lst L, D := D, H := H, n := n } :=
  xR (v := .agg cs.toArray) rfl hw ha hv h
theorem xStN {m b o : Nat} {u : Value} {cs : List Value} {t : TypeId} {gr : Option Nat} (cs' : List Value) (hw : wantT (.lst L) g = some true) (ha : evs G (.lst L) as = some [.pointer (some ⟨b, o, none⟩), u]) (hb : aget H b = some (.cells cs t gr)) (hs : splice cs o u.cells.toList = cs')
    (hu : Nat.beq u.cells.toList.length m = true) (ho : Nat.ble (o + m) cs.length = true) (hc : u.cells.toList.all cell1 = true) (hn : Nat.blt n big = true)
    (h : RX P G E r Q { T := .lst (putL d undef L), D := D, H := aput H b (.cells cs' t gr), n := n }) : RX P G E (⟨.store m, as, d, g⟩ :: r) Q { T := .lst L, D := D, H := H, n := n } := by
  refine xW rfl hw ha ?_ hn h
  simp only [semW, wStore, hb, hs]
  rw [if_pos ⟨Nat.eq_of_beq_eq_true hu, Nat.le_of_ble_eq_true ho, hc⟩]
theorem foldV_i64 (f : Int → Int → Int) : ∀ (l : List Int) (a : Int), foldV f (.int .i64 a) (l.map (.int .i64)) = some (.int .i64 (l.foldl f a))
  | [], a => rfl
  | b :: l, a => by
    simp only [List.map_cons, List.foldl_cons, ← foldV_i64 f l (f a b)]
    rfl
theorem xMin {a : Int} (l : List Int) (hw : wantT (.lst L) g = some true) (ha : evs G (.lst L) as = some (.int .i64 a :: l.map (.int .i64)))
    (h : RX P G E r Q { T := .lst (putL d (.int .i64 (l.foldl min a)) L), D := D, H := H, n := n }) : RX P G E (⟨.bmin, as, d, g⟩ :: r) Q { T := .lst L, D := D, H := H, n := n } := by
  refine xP (v := .int .i64 (l.foldl min a)) rfl hw ha ?_ h
  show foldV _ (.int .i64 a) (l.map (.int .i64)) = _
  rw [foldV_i64]
  congr 2
  congr 1
  funext x y
  omega
end
theorem WC_if {o : Operand} {a b : SC} {Q : EX → St → Prop} {p : Prop} [Decidable p] (hc : ev G s.T o = some (.bool (decide p))) (ha : p → WC P G N n0 a Q s) (hb : ¬ p → WC P G N n0 b Q s) : WC P G N n0 (.cond o a b) Q s :=
  WC_cond hc (fun h => ha (of_decide_eq_true h)) (fun h => hb (of_decide_eq_false h))
def WCR (P : Program) (G : List Nat) (N n0 : Nat) (k : Nat) (a : SC) (Q : EX → St → Prop) (s : St) : Prop := ∀ c, comp P N c = some a → WRo P G N n0 k c Q s
theorem WCR_succ {k : Nat} {a : SC} {Q : EX → St → Prop} (h : WC P G N n0 a (thenQ (WCR P G N n0 k a Q) Q) s) : WCR P G N n0 (k + 1) a Q s := fun c hc =>
  WRo_succ ((h c hc).mono fun e s' hq => by
    cases e with
    | normal => exact hq c hc
    | _ => exact hq)
theorem WC_loopK (k : Nat) {a : SC} {Q : EX → St → Prop} (h : WCR P G N n0 k a Q s) : WC P G N n0 (.loop a) Q s := by
  intro c hc
  apply W_strip
  rw [← comp_strip] at hc
  have hns := strip_scope c
  generalize strip c = d at hc hns
  cases d <;> simp only [comp] at hc
  case region id ops draw => rcases compR_kind hc with ⟨_, e⟩ | ⟨_, _, e⟩ <;> cases e
  case loop x =>
    simp only [Option.map_eq_some_iff] at hc
    obtain ⟨x', hx, e⟩ := hc
    cases e
    exact W_loop_rounds (h x hx)
  case scope x => exact absurd rfl (hns x)
  all_goals first | (cases hc; done) | (split at hc <;> cases hc; done) | (simp only [Option.map_eq_some_iff] at hc; obtain ⟨_, _, e⟩ := hc; cases e)
theorem WC_loopX {X : Type} {a : SC} {Q : EX → St → Prop} (st : X → St) (inv : X → Prop) (μ : X → Nat) (x0 : X) (h0 : inv x0)
    (round : ∀ x, inv x → WC P G N n0 a (thenQ (fun s' => ∃ x', inv x' ∧ μ x' < μ x ∧ Le P G N n0 s' (st x')) Q) (st x)) : WC P G N n0 (.loop a) Q (st x0) := by
  have key : ∀ k x, μ x < k → inv x → ∀ c, comp P N c = some a → WRo P G N n0 k c Q (st x) := by
    intro k
    induction k with
    | zero => intro x h; omega
    | succ k ih =>
      intro x hk hi c hc
      refine WRo_succ ((round x hi c hc).mono fun e s' hq => ?_)
      cases e with
      | normal =>
        obtain ⟨x', h1, h2, h3⟩ := hq
        exact WRo_le h3 (ih x' (by omega) h1 c hc)
      | _ => exact hq
  intro c hc
  apply W_strip
  rw [← comp_strip] at hc
  have hns := strip_scope c
  generalize strip c = d at hc hns
  cases d <;> simp only [comp] at hc
  case region id ops draw => rcases compR_kind hc with ⟨_, e⟩ | ⟨_, _, e⟩ <;> cases e
  case loop x =>
    simp only [Option.map_eq_some_iff] at hc
    obtain ⟨x', hx, e⟩ := hc
    cases e
    exact W_loop_rounds (key (μ x0 + 1) x0 (by omega) h0 x hx)
  case scope x => exact absurd rfl (hns x)
  all_goals first | (cases hc; done) | (split at hc <;> cases hc; done) | (simp only [Option.map_eq_some_iff] at hc; obtain ⟨_, _, e⟩ := hc; cases e)
end
end Go.Cs
namespace Go.Cs
section
variable {P : Program} {G : List Nat} {E : Env} {N n0 : Nat} {s : St}
theorem VR.noIds {β β' : Ren} {v v' : Value} (h : VR β v v') (hi : idsV v = []) : VR β' v v' :=
  (h.only (S := fun _ => false) (by rw [hi]; intro i hi; cases hi)).mono fun i e he => by simp [Ren.only] at he
theorem VRs.noIds {β β' : Ren} {v v' : List Value} (h : VRs β v v') (hi : idsL v = []) : VRs β' v v' :=
  (h.only (S := fun _ => false) (by rw [hi]; intro i hi; cases hi)).mono fun i e he => by simp [Ren.only] at he
theorem Ret_pure {R : Value → Prop} {β : Ren} {H H0 : Heap} {n n0 : Nat} {w w' : World} {v' : Value} (hG : GlobOk G H0 n0) (hH : ∀ g ∈ G, aget H g = aget H0 g) (hr : HR G β H n w)
    (h : Ret G (onlyG G β) n0 w (fun v H' n' => R v ∧ idsV v = [] ∧ ∀ g ∈ G, aget H' g = aget H0 g) v' w') : Ret G β n w (fun v H' n' => R v ∧ H' = H ∧ n' = n) v' w' := by
  obtain ⟨v, β', H', n', hv', hr', hf, hR, hi, hk⟩ := h
  have h2 : Ret G (onlyG G β) n0 w (fun v H' n' => v = Value.bool true ∧ ∀ g ∈ G, aget H' g = aget H0 g) (Value.bool true) w' := ⟨_, β', H', n', .same rfl, hr', hf, rfl, hk⟩
  obtain ⟨v2, β2, H2, n2, _, q1, q2, _, rfl, rfl⟩ := Ret_closed hG hH (v0 := .bool true) rfl hr h2
  exact ⟨v, β2, H2, n2, hv'.noIds hi, q1, q2, hR, rfl, rfl⟩
theorem F_pure {R : Value → Prop} {f : FuncId} {args : List Value} {H H0 : Heap} {n n0 : Nat} (ha : idsL args = []) (hG : GlobOk G H0 n0) (hH0 : ∀ i, i ∉ G → aget H0 i = none) (hH : ∀ g ∈ G, aget H g = aget H0 g)
    (h : F P G f args H0 n0 fun v H' n' => R v ∧ idsV v = [] ∧ ∀ g ∈ G, aget H' g = aget H0 g) : F P G f args H n fun v H' n' => R v ∧ H' = H ∧ n' = n := by
  intro β w args' hargs hr
  rcases h (onlyG G β) w args' (hargs.noIds ha) (hr.onlyG hG hH hH0) with ⟨h1, h2⟩ | ⟨v', w', h1, h2⟩
  · exact .inl ⟨h1, h2.mono fun e w' ⟨v', he, hv'⟩ => ⟨v', he, Ret_pure hG hH hr hv'⟩⟩
  · exact .inr ⟨v', w', h1, Ret_pure hG hH hr h2⟩
def LiveHR (σ : Nat → Nat) (H : Heap) (L : List (Nat × AObj)) : Prop := ∀ p ∈ L, p.2 = .dead ∨ aget H (σ p.1) = some (renO σ p.2)
theorem hr1 {σ : Nat → Nat} {H : Heap} {L : List (Nat × AObj)} (k : Nat) (o2 : AObj) {o : AObj} (h : aget H (σ k) = some o) (ho : renO σ o2 = o) (r : LiveHR σ H L) : LiveHR σ H ((k, o2) :: L) := by
  intro p hp
  rcases List.mem_cons.1 hp with e | e
  · subst e; exact .inr (by rw [ho]; exact h)
  · exact r p e
structure CT (P : Program) (G : List Nat) (f : FuncId) (as : List Value) (Ls : List (Nat × AObj)) (ns : Nat) (R : Value → List (Nat × AObj) → Nat → Prop) : Prop where
  shut : Shut as Ls ns
  run : F P G f as (ofL Ls) ns fun v H' n' => ∃ L', H' = ofL L' ∧ R v L' n' ∧ ShutR v L' ns n'
def sigL (L : List Nat) : Nat → Nat := fun i => L.getD i 0
def placeB (n : Nat) (Ls : List (Nat × AObj)) (S : List Nat) (ns : Nat) : Bool := (List.range ns).all fun i => bif lvB Ls i then (Nat.blt (sigL S i) n || Nat.ble big (sigL S i)) else (Nat.ble (big - 100) (sigL S i) && Nat.blt (sigL S i) big)
theorem CT.call {f : FuncId} {as : List Value} {Ls : List (Nat × AObj)} {ns : Nat} {R : Value → List (Nat × AObj) → Nat → Prop} (h : CT P G f as Ls ns R) (S : List Nat) {args : List Value} {H : Heap} {n : Nat} (hargs : args = renL (sigL S) as)
    (hG : ∀ g ∈ G, g < ns ∧ sigL S g = g ∧ lvB Ls g = true) (hS : S.length = ns) (hSn : placeB n Ls S ns = true) (hnd : S.Nodup) (hH : ∀ p ∈ Ls, p.2 = .dead ∨ aget H (sigL S p.1) = some (renO (sigL S) p.2)) (hb : ∀ v L' n', R v L' n' → n + (n' - ns) ≤ big - 100) :
    F P G f args H n fun v H' n' => ∃ vs L' ns', R vs L' ns' ∧ v = renV (sigC (sigL S) ns n) vs ∧ H' = mergeH (sigC (sigL S) ns n) H L' ∧ n' = n + (ns' - ns) := by
  subst hargs
  have hget : ∀ {i}, i < ns → S[i]? = some (sigL S i) := by
    intro i hi
    simp only [sigL]
    rw [List.getD_eq_getElem?_getD, List.getElem?_eq_getElem (by omega)]; rfl
  have hpl : ∀ i, i < ns → (lvB Ls i = true → sigL S i < n ∨ big ≤ sigL S i) ∧ (lvB Ls i = false → big - 100 ≤ sigL S i ∧ sigL S i < big) := by
    intro i hi
    unfold placeB at hSn
    rw [List.all_eq_true] at hSn
    have := hSn i (List.mem_range.2 hi)
    cases hl : lvB Ls i with
    | true =>
      rw [hl, cond_true, Bool.or_eq_true, Nat.blt_eq, Nat.ble_eq] at this
      exact ⟨fun _ => this, fun h => by cases h⟩
    | false =>
      rw [hl, cond_false, Bool.and_eq_true, Nat.blt_eq, Nat.ble_eq] at this
      exact ⟨fun h => (by cases h), fun _ => this⟩
  refine F_ren h.run h.shut hG (fun i hi => (hpl i hi).1) (fun i hi => (hpl i hi).2) (fun i j hi hj e => ?_) hH hb
  have h1 := hget hi
  have h2 := hget hj
  rw [e] at h1
  have hi' : i < S.length := by omega
  rw [List.getElem?_eq_getElem hi'] at h1
  rw [List.getElem?_eq_getElem (by omega)] at h2
  injection h1 with h1
  injection h2 with h2
  exact (List.getElem_inj hnd).1 (h1.trans h2.symm)
end
def ints (l : List Int) : List Value := l.map (.int .i64)
theorem flats_ints' (l : List Int) : flats (ints l) = true := by
  simp only [flats, ints, List.all_map, List.all_eq_true]; intro x _; rfl
theorem ints_length (l : List Int) : (ints l).length = l.length := by simp [ints]
theorem ints_append (a b : List Int) : ints (a ++ b) = ints a ++ ints b := by simp [ints]
end Go.Cs
namespace Go.Cs
section
variable {P : Program} {G : List Nat} {E : Env} {N n0 : Nat}
def StabOk (H H' : Heap) (l : List Rec) : Prop := H' = H ∨ ∀ x ∈ l, x.stable H'
def RD (P : Program) (G : List Nat) (E : Env) (ms : List Nat) : List (Nat × Step) → List Rec → (St → Prop) → St → Prop
  | [], _, Q, s => Q s
  | (i, st) :: r, recs, Q, s =>
    match wantT s.T st.guard with
    | none => False
    | some false => RD P G E ms r recs Q { s with T := putT st.dst undef s.T }
    | some true =>
      match evs G s.T st.args with
      | none => False
      | some vs =>
        match st.k.cls with
        | .P => ∃ v, semP E st.k vs = some v ∧ RD P G E ms r recs Q { s with T := putT st.dst v s.T }
        | .R => ∃ v, semR st.k vs s.H = some v ∧ RD P G E ms r (recs ++ [⟨i, st, .r vs v⟩]) Q { s with T := putT st.dst v s.T }
        | .A => ∃ ob mk, semA st.k vs = some (ob, mk) ∧ s.n < big ∧ aget s.H s.n = none ∧
            RD P G E ms r (recs ++ [⟨i, st, .a vs ob mk s.n⟩]) Q { s with T := putT st.dst (mk.val s.n) s.T, H := aput s.H s.n ob, n := s.n + 1 }
        | .W => s.n < big ∧ WP st.k vs s.H s.n fun v H' n' => StabOk s.H H' (keepE ms i recs) ∧
            RD P G E ms r (keepE ms i recs) Q { s with T := putT st.dst v s.T, H := H', n := n' }
        | .C => ∃ f args, target E st.k vs = some (f, args) ∧ F P G f args s.H s.n fun v H' n' => StabOk s.H H' (keepE ms i recs) ∧
            RD P G E ms r (keepE ms i recs) Q { s with T := putT st.dst v s.T, H := H', n := n' }
        | .D => False
        | .N => False
theorem stabOk_all {H H' : Heap} {l : List Rec} (h : StabOk H H' l) (hl : ∀ x ∈ l, x.stable H) : ∀ x ∈ l, x.stable H' := by
  rcases h with h | h
  · subst h; exact hl
  · exact h
theorem RK_of_RD {ms : List Nat} {Q : St → Prop} : ∀ {pl : List (Nat × Step)} {recs recs' : List Rec} {s : St}, (∀ x ∈ recs, x.stable s.H) → (∀ x ∈ recs', x ∈ recs ∨ trivR x) → RD P G E ms pl recs Q s → RK P G E ms pl recs' Q s
  | [], recs, recs', s, _, _, h => h
  | (i, st) :: r, recs, recs', s, hst, hr, h => by
    unfold RD at h
    unfold RK
    have snocT : ∀ (y : Rec), trivR y → ∀ x ∈ recs' ++ [y], x ∈ recs ∨ trivR x := by
      intro y hy x hx
      rcases List.mem_append.1 hx with hx | hx
      · exact hr x hx
      · simp at hx; subst hx; exact .inr hy
    have snocM : ∀ (y : Rec), ∀ x ∈ recs' ++ [y], x ∈ recs ++ [y] ∨ trivR x := by
      intro y x hx
      rcases List.mem_append.1 hx with hx | hx
      · exact (hr x hx).imp (List.mem_append_left _) id
      · exact .inl (List.mem_append_right _ hx)
    have snocS : ∀ (y : Rec) (H' : Heap), (∀ x ∈ recs, x.stable H') → y.stable H' → ∀ x ∈ recs ++ [y], x.stable H' := by
      intro y H' h1 h2 x hx
      rcases List.mem_append.1 hx with hx | hx
      · exact h1 x hx
      · simp at hx; subst hx; exact h2
    have kept : ∀ x ∈ recs'.filter (fun x => !isPred ms i x.i), x ∈ keepE ms i recs ∨ trivR x := by
      intro x hx
      rw [List.mem_filter] at hx
      rcases hr x hx.1 with h1 | h1
      · exact .inl (List.mem_filter.2 ⟨h1, hx.2⟩)
      · exact .inr h1
    have keptS : ∀ x ∈ keepE ms i recs, x.stable s.H := fun x hx => hst x (List.mem_filter.1 hx).1
    have stab : ∀ {l : List Rec} {H : Heap}, (∀ x ∈ l, x.stable H) → ∀ (l' : List Rec), (∀ x ∈ l', x ∈ l ∨ trivR x) → ∀ x ∈ l', x.stable H := by
      intro l H hl l' hl' x hx
      rcases hl' x hx with h1 | h1
      · exact hl x h1
      · exact h1 H
    split <;> rename_i hw <;> simp only [hw] at h
    · exact RK_of_RD (s := { s with T := putT st.dst undef s.T }) hst (snocT _ fun _ => trivial) h
    · split <;> rename_i hv <;> simp only [hv] at h
      split <;> rename_i hc <;> simp only [hc] at h
      · obtain ⟨v, h1, h2⟩ := h
        exact ⟨v, h1, RK_of_RD (s := { s with T := putT st.dst v s.T }) hst (snocT _ fun _ => trivial) h2⟩
      · obtain ⟨v, h1, h2⟩ := h
        exact ⟨v, h1, RK_of_RD (s := { s with T := putT st.dst v s.T }) (snocS ⟨i, st, .r _ v⟩ s.H hst h1) (snocM _) h2⟩
      · obtain ⟨ob, mk, h1, hnb, hf, h2⟩ := h
        have hst' : ∀ x ∈ recs, x.stable (aput s.H s.n ob) := fun x hx => stable_fresh hf (hst x hx)
        exact ⟨ob, mk, h1, hnb, stab hst' recs' hr, RK_of_RD (s := { s with T := putT st.dst (mk.val s.n) s.T, H := aput s.H s.n ob, n := s.n + 1 }) (snocS ⟨i, st, .a _ ob mk s.n⟩ (aput s.H s.n ob) hst' (by simp [Rec.stable, aget_aput])) (snocM _) h2⟩
      · obtain ⟨hnb, h1⟩ := h
        exact ⟨hnb, h1.mono fun v H' n' hh => by
          have hk := stabOk_all hh.1 keptS
          exact ⟨stab hk _ kept, RK_of_RD (s := { s with T := putT st.dst v s.T, H := H', n := n' }) hk kept hh.2⟩⟩
      · obtain ⟨f, args, h1, h2⟩ := h
        exact ⟨f, args, h1, h2.mono fun v H' n' hh => by
          have hk := stabOk_all hh.1 keptS
          exact ⟨stab hk _ kept, RK_of_RD (s := { s with T := putT st.dst v s.T, H := H', n := n' }) hk kept hh.2⟩⟩
theorem WC_drawnD (hE : EnvOk P E) (hm : P.follows .mixedOrders = true) {pl : List (Nat × Step)} {ms : List Nat} {Q : EX → St → Prop} {s : St} (h : RD P G E ms pl [] (Q .normal) s) : WC P G N n0 (.drawn pl ms) Q s :=
  WC_drawn hE hm (RK_of_RD (fun _ h => by cases h) (fun _ h => by cases h) h)
theorem WC_goD (hE : EnvOk P E) (hm : P.follows .mixedOrders = true) {pl : List (Nat × Step)} {ms : List Nat} {b : SC} {Q : EX → St → Prop} {s : St} (h : RD P G E ms pl [] (WC P G N n0 b Q) s) : WC P G N n0 (.seq (.drawn pl ms) b) Q s := WC_seq (WC_drawnD hE hm h)
variable {ms : List Nat} {i : Nat} {r : List (Nat × Step)} {recs : List Rec} {Q : St → Prop} {vs : List Value} {v : Value} {k : Kind} {as : List Operand} {d : Option Tmp} {g : Option (Tmp × Bool)} {L : List (Nat × Value)} {D : List Value} {H : Heap} {n : Nat}
theorem dX {st : Step} {s : St} (hc : st.k.cls = .P) (h : RX P G E [st] (RD P G E ms r recs Q) s) : RD P G E ms ((i, st) :: r) recs Q s := by
  obtain ⟨_, h⟩ := h
  unfold RD
  unfold SW at h
  split <;> rename_i hw <;> simp only [hw] at h
  · exact h
  · split <;> rename_i hv <;> simp only [hv] at h
    simp only [hc] at h ⊢
    exact h
theorem dS (hw : wantT (.lst L) g = some false) (h : RD P G E ms r recs Q { T := .lst (putL d undef L), D := D, H := H, n := n }) : RD P G E ms ((i, ⟨k, as, d, g⟩) :: r) recs Q { T := .lst L, D := D, H := H, n := n } := by
  rw [← putT_lst] at h
  unfold RD
  simp only [hw]
  exact h
theorem dR (hc : k.cls = .R) (hw : wantT (.lst L) g = some true) (ha : evs G (.lst L) as = some vs) (hv : semR k vs H = some v) (h : RD P G E ms r (recs ++ [⟨i, ⟨k, as, d, g⟩, .r vs v⟩]) Q { T := .lst (putL d v L), D := D, H := H, n := n }) :
    RD P G E ms ((i, ⟨k, as, d, g⟩) :: r) recs Q { T := .lst L, D := D, H := H, n := n } := by
  rw [← putT_lst] at h
  unfold RD
  simp only [hw, ha, hc]
  exact ⟨v, hv, h⟩
theorem dA {ob : AObj} {mk : Mk} (hc : k.cls = .A) (hw : wantT (.lst L) g = some true) (ha : evs G (.lst L) as = some vs) (hv : semA k vs = some (ob, mk)) (hf : aget H n = none) (hn : Nat.blt n big = true)
    (h : RD P G E ms r (recs ++ [⟨i, ⟨k, as, d, g⟩, .a vs ob mk n⟩]) Q { T := .lst (putL d (mk.val n) L), D := D, H := aput H n ob, n := n + 1 }) : RD P G E ms ((i, ⟨k, as, d, g⟩) :: r) recs Q { T := .lst L, D := D, H := H, n := n } := by
  rw [← putT_lst] at h
  unfold RD
  simp only [hw, ha, hc]
  exact ⟨ob, mk, hv, by simpa [Nat.blt_eq] using hn, hf, h⟩
theorem dW {H' : Heap} {n' : Nat} (hc : k.cls = .W) (hw : wantT (.lst L) g = some true) (ha : evs G (.lst L) as = some vs) (hv : semW k vs H n = some (v, H', n')) (hn : Nat.blt n big = true) (hs : StabOk H H' (keepE ms i recs))
    (h : RD P G E ms r (keepE ms i recs) Q { T := .lst (putL d v L), D := D, H := H', n := n' }) : RD P G E ms ((i, ⟨k, as, d, g⟩) :: r) recs Q { T := .lst L, D := D, H := H, n := n } := by
  rw [← putT_lst] at h
  unfold RD
  simp only [hw, ha, hc]
  exact ⟨by simpa [Nat.blt_eq] using hn, .inl ⟨v, H', n', hv, hs, h⟩⟩
theorem dC {f : FuncId} {args : List Value} {post : Value → Heap → Nat → Prop} (hc : k.cls = .C) (hw : wantT (.lst L) g = some true) (ha : evs G (.lst L) as = some vs) (ht : target E k vs = some (f, args)) (hf : F P G f args H n post)
    (h : ∀ v H' n', post v H' n' → StabOk H H' (keepE ms i recs) ∧ RD P G E ms r (keepE ms i recs) Q { T := .lst (putL d v L), D := D, H := H', n := n' }) : RD P G E ms ((i, ⟨k, as, d, g⟩) :: r) recs Q { T := .lst L, D := D, H := H, n := n } := by
  simp only [← putT_lst] at h
  unfold RD
  simp only [hw, ha, hc]
  exact ⟨f, args, ht, hf.mono h⟩
theorem dNil {s : St} (h : Q s) : RD P G E ms [] recs Q s := h
theorem stabSame {l : List Rec} : StabOk H H l := .inl rfl
theorem stabE {H H' : Heap} {l : List Rec} (h : l = []) : StabOk H H' l := .inr fun x hx => by rw [h] at hx; cases hx
end
end Go.Cs
namespace Go.Cs
def gsl (i : Nat) : Nat → Value
  | 0 => .slice none 0 0
  | k + 1 => .slice (some ⟨i, 0, none⟩) (k + 1) (k + 1)
section
variable {P : Program} {G : List Nat} {E : Env} {N n0 : Nat} {r : List Step} {Q : St → Prop} {as : List Operand} {d : Option Tmp} {g : Option (Tmp × Bool)} {L : List (Nat × Value)} {D : List Value} {H : Heap} {n : Nat}
theorem flats_cell1 {l : List Value} (h : flats l = true) : l.all cell1 = true := by
  simp only [flats, List.all_eq_true] at h ⊢
  intro x hx
  have := h x hx
  cases x <;> first | rfl | simp [flat] at this
theorem append1 {t es bytes : Nat} {z : List Value} {i k j : Nat} {cs new : List Value} (hes : 0 < es) (hi : k ≠ 0 → aget H i = some (.cells cs t (some es))) (h0 : k = 0 → cs = []) (hlen : cs.length = k * es) (hj : aget H j = some (.cells new t none)) (hnl : new.length = es) (hfl : flats new = true)
    (hb : (2 * (k + 1) + 1000) * bytes ≤ 2 ^ 40) : ∃ H', semW (.append t es bytes z) [gsl i k, .slice (some ⟨j, 0, none⟩) 1 1] H n = some (gsl n (k + 1), H', n + 1) ∧ aget H' n = some (.cells (cs ++ new) t (some es)) ∧ ∀ q, q ≠ n → q ≠ i → aget H' q = aget H q := by
  have hnew : cellsOfSlice H es (.slice (some ⟨j, 0, none⟩) 1 1) = some new := by
    simp only [cellsOfSlice, hj]
    rw [if_pos (by omega)]
    simp only [List.drop_zero, Nat.one_mul]
    rw [List.take_of_length_le (by omega)]
  have hall := flats_cell1 hfl
  cases k with
  | zero =>
    have hc := h0 rfl
    subst hc
    refine ⟨aput H n (.cells new t (some es)), ?_, by simp [aget_aput], fun q h1 h2 => by simp [aget_aput, Ne.symm h1]⟩
    have hold : cellsOfSlice H es (.slice none 0 0) = some [] := rfl
    simp only [semW, wAppend, gsl, hnew, hold]
    rw [if_pos hb]
    simp only [appended, hall, if_true]
    rfl
  | succ k =>
    have h1 := hi (by omega)
    have hold : cellsOfSlice H es (.slice (some ⟨i, 0, none⟩) (k + 1) (k + 1)) = some cs := by
      simp only [cellsOfSlice, h1]
      rw [if_pos (by omega)]
      simp [← hlen]
    refine ⟨aput (aput H i .dead) n (.cells (cs ++ new) t (some es)), ?_, by simp [aget_aput], fun q h1 h2 => by simp [aget_aput, Ne.symm h1, Ne.symm h2]⟩
    simp only [semW, wAppend, gsl, hnew, hold]
    rw [if_pos hb]
    simp only [appended, hall, if_true, h1]
    rw [if_neg (by omega)]
    simp only [and_self, if_true]
    rfl
theorem xAppend1 {t es bytes : Nat} {z : List Value} {i k j : Nat} {cs new : List Value} (hw : wantT (.lst L) g = some true) (ha : evs G (.lst L) as = some [gsl i k, .slice (some ⟨j, 0, none⟩) 1 1]) (hes : 0 < es) (hi : k ≠ 0 → aget H i = some (.cells cs t (some es))) (h0 : k = 0 → cs = []) (hlen : cs.length = k * es)
    (hj : aget H j = some (.cells new t none)) (hnl : new.length = es) (hfl : flats new = true) (hb : (2 * (k + 1) + 1000) * bytes ≤ 2 ^ 40) (hn : Nat.blt n big = true)
    (h : ∀ H', aget H' n = some (.cells (cs ++ new) t (some es)) → (∀ q, q ≠ n → q ≠ i → aget H' q = aget H q) → RX P G E r Q { T := .lst (putL d (gsl n (k + 1)) L), D := D, H := H', n := n + 1 }) : RX P G E (⟨.append t es bytes z, as, d, g⟩ :: r) Q { T := .lst L, D := D, H := H, n := n } := by
  obtain ⟨H', h1, h2, h3⟩ := append1 (n := n) (bytes := bytes) (z := z) hes hi h0 hlen hj hnl hfl hb
  exact xW rfl hw ha h1 hn (h H' h2 h3)
end
theorem ints_replicate (m : Nat) : (List.replicate m [Value.int .i64 0]).flatten = ints (List.replicate m 0) := by
  induction m with
  | zero => rfl
  | succ m ih => simp only [List.replicate_succ, List.flatten_cons, ih]; rfl
theorem splice_ints {l : List Int} {j : Nat} {y : Int} (h : j < l.length) : splice (ints l) j [.int .i64 y] = ints (l.set j y) := by
  apply List.ext_getElem?
  intro i
  simp only [splice, ints, List.length_cons, List.length_nil]
  by_cases h1 : i < j
  · rw [List.append_assoc, List.getElem?_append_left (by simp; omega), List.getElem?_take_of_lt h1]
    simp [List.getElem?_set, Nat.ne_of_gt h1]
  · by_cases h2 : i = j
    · subst h2
      rw [List.append_assoc, List.getElem?_append_right (by simp; omega)]
      simp [List.getElem?_set, h, Nat.min_eq_left (Nat.le_of_lt h)]
    · rw [List.getElem?_append_right (by simp; omega)]
      simp only [List.length_append, List.length_take, List.length_map, List.length_cons, List.length_nil, List.getElem?_drop, List.getElem?_map, List.getElem?_set]
      rw [if_neg (Ne.symm h2), Nat.min_eq_left (Nat.le_of_lt h)]
      congr 2
      omega
section
variable {P : Program} {G : List Nat} {E : Env} {r : List Step} {Q : St → Prop} {as : List Operand} {d : Option Tmp} {g : Option (Tmp × Bool)} {L : List (Nat × Value)} {D : List Value} {H : Heap} {n : Nat}
theorem xIdxG {es i k : Nat} {q : IntKind} {j : Int} (hw : wantT (.lst L) g = some true) (ha : evs G (.lst L) as = some [gsl i k, .int q j]) (hj : 0 ≤ j ∧ j < (k : Int))
    (h : RX P G E r Q { T := .lst (putL d (.pointer (some ⟨i, 0 + j.toNat * es, none⟩)) L), D := D, H := H, n := n }) : RX P G E (⟨.indexAddrS es, as, d, g⟩ :: r) Q { T := .lst L, D := D, H := H, n := n } := by
  cases k with
  | zero => omega
  | succ k => exact xIdx hw ha hj h
theorem xLdI {b j : Nat} {l : List Int} {t : TypeId} {gr : Option Nat} (hw : wantT (.lst L) g = some true) (ha : evs G (.lst L) as = some [.pointer (some ⟨b, 0 + j * 1, none⟩)]) (hb : aget H b = some (.cells (ints l) t gr)) (hj : j < l.length)
    (h : RX P G E r Q { T := .lst (putL d (.int .i64 (l.getD j 0)) L), D := D, H := H, n := n }) : RX P G E (⟨.load1, as, d, g⟩ :: r) Q { T := .lst L, D := D, H := H, n := n } := by
  refine xLd hw ha hb ?_ h
  simp [ints, hj]
theorem xStI {b j : Nat} {y : Int} {l : List Int} {t : TypeId} {gr : Option Nat} (hw : wantT (.lst L) g = some true) (ha : evs G (.lst L) as = some [.pointer (some ⟨b, 0 + j * 1, none⟩), .int .i64 y]) (hb : aget H b = some (.cells (ints l) t gr)) (hj : j < l.length) (hn : Nat.blt n big = true)
    (h : RX P G E r Q { T := .lst (putL d undef L), D := D, H := aput H b (.cells (ints (l.set j y)) t gr), n := n }) : RX P G E (⟨.store 1, as, d, g⟩ :: r) Q { T := .lst L, D := D, H := H, n := n } := by
  refine xSt hw ha hb (by simp [ints]; omega) rfl rfl hn ?_
  rw [show 0 + j * 1 = j by omega, splice_ints hj]
  exact h
end
end Go.Cs
