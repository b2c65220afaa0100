/- A part of the proof that the law spadilletop.TopSharedRing answers true and leaves its argument as it was (CsL) -/
import Derived.Test.YtmpogedhilfjgaaGreatDoorCsK
set_option linter.all false
set_option maxRecDepth 1000000
set_option maxHeartbeats 1000000
namespace Go.Cs
def cGreat (te : TypeId) : FC := FC.mk 27 (.seq (.steps [⟨.box te, [.tmp 0], some 1, none⟩,⟨.move, [.const (.bool false)], some 2, none⟩]) (.seq (.steps [⟨.move, [.const (.int .i64 0)], some 3, none⟩]) (.seq (.seq (.steps [⟨.move, [.const (.int .i64 0)], some 4, none⟩]) (.block 0 (.loop (.seq (.seq (.steps [⟨.move, [.tmp 4], some 5, none⟩,⟨.fieldAddr 1, [.tmp 1], some 6, none⟩,⟨.load1, [.tmp 6], some 7, none⟩,⟨.lenS, [.tmp 7], some 8, none⟩,⟨.bin .lss, [.tmp 5, .tmp 8], some 9, none⟩]) (.cond (.tmp 9) (.skip) (.exit 0))) (.seq (.block 1 (.seq (.steps [⟨.move, [.tmp 3], some 12, none⟩,⟨.fieldAddr 1, [.tmp 1], some 13, none⟩,⟨.load1, [.tmp 13], some 14, none⟩,⟨.move, [.tmp 4], some 15, none⟩,⟨.indexAddrS 1, [.tmp 14, .tmp 15], some 16, none⟩,⟨.load1, [.tmp 16], some 17, none⟩,⟨.lenStr, [.tmp 17], some 18, none⟩,⟨.bmin, [.tmp 18, .const (.int .i64 3000)], some 19, none⟩,⟨.bin .add, [.tmp 12, .tmp 19], some 20, none⟩,⟨.move, [.tmp 20], some 3, none⟩]) (.seq (.steps [⟨.move, [.tmp 3], some 21, none⟩,⟨.bin .gtr, [.tmp 21, .const (.int .i64 2000)], some 22, none⟩]) (.cond (.tmp 22) (.seq (.steps [⟨.move, [.const (.bool true)], some 2, none⟩]) (.ret)) (.skip))))) (.steps [⟨.move, [.tmp 4], some 10, none⟩,⟨.bin .add, [.tmp 10, .const (.int .i64 1)], some 11, none⟩,⟨.move, [.tmp 11], some 4, none⟩])))))) (.seq (.steps [⟨.fieldAddr 0, [.tmp 1], some 23, none⟩,⟨.load1, [.tmp 23], some 24, none⟩,⟨.lenS, [.tmp 24], some 25, none⟩,⟨.bin .gtr, [.tmp 25, .const (.int .i64 200)], some 26, none⟩,⟨.move, [.tmp 26], some 2, none⟩]) (.ret))))) [.tmp 2]
def cSame (te : TypeId) : FC := FC.mk 59 (.seq (.steps [⟨.box te, [.tmp 0], some 2, none⟩,⟨.box te, [.tmp 1], some 3, none⟩,⟨.move, [.const (.bool false)], some 4, none⟩]) (.seq (.seq (.steps [⟨.fieldAddr 0, [.tmp 2], some 7, none⟩,⟨.load1, [.tmp 7], some 8, none⟩,⟨.lenS, [.tmp 8], some 9, none⟩,⟨.fieldAddr 0, [.tmp 3], some 10, none⟩,⟨.load1, [.tmp 10], some 11, none⟩,⟨.lenS, [.tmp 11], some 12, none⟩,⟨.bin .neq, [.tmp 9, .tmp 12], some 13, none⟩,⟨.move, [.tmp 13], some 14, none⟩,⟨.fieldAddr 1, [.tmp 2], some 15, some (14, false)⟩,⟨.load1, [.tmp 15], some 16, some (14, false)⟩,⟨.lenS, [.tmp 16], some 17, some (14, false)⟩,⟨.fieldAddr 1, [.tmp 3], some 18, some (14, false)⟩,⟨.load1, [.tmp 18], some 19, some (14, false)⟩,⟨.lenS, [.tmp 19], some 20, some (14, false)⟩,⟨.bin .neq, [.tmp 17, .tmp 20], some 21, some (14, false)⟩,⟨.pick, [.tmp 14, .const (.bool true), .tmp 21], some 22, none⟩]) (.cond (.tmp 22) (.seq (.steps [⟨.move, [.const (.bool false)], some 4, none⟩]) (.ret)) (.skip))) (.seq (.seq (.steps [⟨.move, [.const (.int .i64 0)], some 5, none⟩]) (.block 0 (.loop (.seq (.seq (.steps [⟨.move, [.tmp 5], some 23, none⟩,⟨.fieldAddr 0, [.tmp 2], some 24, none⟩,⟨.load1, [.tmp 24], some 25, none⟩,⟨.lenS, [.tmp 25], some 26, none⟩,⟨.bin .lss, [.tmp 23, .tmp 26], some 27, none⟩]) (.cond (.tmp 27) (.skip) (.exit 0))) (.seq (.block 1 (.seq (.steps [⟨.fieldAddr 0, [.tmp 2], some 30, none⟩,⟨.load1, [.tmp 30], some 31, none⟩,⟨.move, [.tmp 5], some 32, none⟩,⟨.indexAddrS 1, [.tmp 31, .tmp 32], some 33, none⟩,⟨.load1, [.tmp 33], some 34, none⟩,⟨.fieldAddr 0, [.tmp 3], some 35, none⟩,⟨.load1, [.tmp 35], some 36, none⟩,⟨.move, [.tmp 5], some 37, none⟩,⟨.indexAddrS 1, [.tmp 36, .tmp 37], some 38, none⟩,⟨.load1, [.tmp 38], some 39, none⟩,⟨.bin .neq, [.tmp 34, .tmp 39], some 40, none⟩]) (.cond (.tmp 40) (.seq (.steps [⟨.move, [.const (.bool false)], some 4, none⟩]) (.ret)) (.skip)))) (.steps [⟨.move, [.tmp 5], some 28, none⟩,⟨.bin .add, [.tmp 28, .const (.int .i64 1)], some 29, none⟩,⟨.move, [.tmp 29], some 5, none⟩])))))) (.seq (.seq (.steps [⟨.move, [.const (.int .i64 0)], some 6, none⟩]) (.block 2 (.loop (.seq (.seq (.steps [⟨.move, [.tmp 6], some 41, none⟩,⟨.fieldAddr 1, [.tmp 2], some 42, none⟩,⟨.load1, [.tmp 42], some 43, none⟩,⟨.lenS, [.tmp 43], some 44, none⟩,⟨.bin .lss, [.tmp 41, .tmp 44], some 45, none⟩]) (.cond (.tmp 45) (.skip) (.exit 2))) (.seq (.block 3 (.seq (.steps [⟨.fieldAddr 1, [.tmp 2], some 48, none⟩,⟨.load1, [.tmp 48], some 49, none⟩,⟨.move, [.tmp 6], some 50, none⟩,⟨.indexAddrS 1, [.tmp 49, .tmp 50], some 51, none⟩,⟨.load1, [.tmp 51], some 52, none⟩,⟨.fieldAddr 1, [.tmp 3], some 53, none⟩,⟨.load1, [.tmp 53], some 54, none⟩,⟨.move, [.tmp 6], some 55, none⟩,⟨.indexAddrS 1, [.tmp 54, .tmp 55], some 56, none⟩,⟨.load1, [.tmp 56], some 57, none⟩,⟨.bin .neq, [.tmp 52, .tmp 57], some 58, none⟩]) (.cond (.tmp 58) (.seq (.steps [⟨.move, [.const (.bool false)], some 4, none⟩]) (.ret)) (.skip)))) (.steps [⟨.move, [.tmp 6], some 46, none⟩,⟨.bin .add, [.tmp 46, .const (.int .i64 1)], some 47, none⟩,⟨.move, [.tmp 47], some 6, none⟩])))))) (.seq (.steps [⟨.move, [.const (.bool true)], some 4, none⟩]) (.ret)))))) [.tmp 4]
def cAlike (same : FuncId) : FC := FC.mk 29 (.seq (.steps [⟨.move, [.const (.bool false)], some 6, none⟩]) (.seq (.seq (.steps [⟨.move, [.const (.int .i64 0)], some 7, none⟩]) (.block 0 (.loop (.seq (.seq (.steps [⟨.move, [.tmp 7], some 8, none⟩,⟨.move, [.tmp 0], some 9, none⟩,⟨.lenS, [.tmp 9], some 10, none⟩,⟨.bin .lss, [.tmp 8, .tmp 10], some 11, none⟩]) (.cond (.tmp 11) (.skip) (.exit 0))) (.seq (.block 1 (.seq (.steps [⟨.move, [.tmp 7], some 14, none⟩,⟨.move, [.tmp 2], some 15, none⟩,⟨.bin .neq, [.tmp 14, .tmp 15], some 16, none⟩,⟨.move, [.tmp 16], some 17, none⟩,⟨.move, [.tmp 0], some 18, some (17, true)⟩,⟨.move, [.tmp 7], some 19, some (17, true)⟩,⟨.indexAddrS 4, [.tmp 18, .tmp 19], some 20, some (17, true)⟩,⟨.loadN 4, [.tmp 20], some 21, some (17, true)⟩,⟨.move, [.tmp 1], some 22, some (17, true)⟩,⟨.move, [.tmp 7], some 23, some (17, true)⟩,⟨.indexAddrS 4, [.tmp 22, .tmp 23], some 24, some (17, true)⟩,⟨.loadN 4, [.tmp 24], some 25, some (17, true)⟩,⟨.callF same, [.tmp 21, .tmp 25], some 26, some (17, true)⟩,⟨.un .not, [.tmp 26], some 27, some (17, true)⟩,⟨.pick, [.tmp 17, .tmp 27, .const (.bool false)], some 28, none⟩]) (.cond (.tmp 28) (.seq (.steps [⟨.move, [.const (.bool false)], some 6, none⟩]) (.ret)) (.skip)))) (.steps [⟨.move, [.tmp 7], some 12, none⟩,⟨.bin .add, [.tmp 12, .const (.int .i64 1)], some 13, none⟩,⟨.move, [.tmp 13], some 7, none⟩])))))) (.seq (.steps [⟨.move, [.const (.bool true)], some 6, none⟩]) (.ret)))) [.tmp 6]
section
variable {P : Program} {G : List Nat} {E : Env}
def eyeV (i k : Nat) (mk : Bool) (a : Int) : Value := .agg #[gsl i k, .slice none 0 0, .bool mk, .int .i64 a]
theorem loadN_at {H : Heap} {b o m : Nat} {vs : List Value} (hm : vs.length = m) (hpos : 0 < m) (h : ∀ k, k < m → cellAt H b (o + k) = vs[k]?) : semR (.loadN m) [ptrAt b o] H = some (.agg vs.toArray) := by
  obtain ⟨cs, t, g, h1, h2⟩ := cellAt_some (v := vs[0]'(by omega)) ((h 0 hpos).trans (List.getElem?_eq_getElem (by omega)))
  have hc : ∀ k, k < m → cs[o + k]? = vs[k]? := by
    intro k hk
    have := h k hk
    unfold cellAt at this
    rw [h1] at this
    exact this
  have hlen : o + m ≤ cs.length := by
    have h3 := hc (m - 1) (by omega)
    rw [List.getElem?_eq_getElem (l := vs) (by omega)] at h3
    have := (List.getElem?_eq_some_iff.1 h3).1
    omega
  simp only [ptrAt, semR, rLoadN, h1]
  rw [if_pos hlen]
  congr 2
  apply congrArg
  apply List.ext_getElem?
  intro k
  by_cases hk : k < m
  · rw [List.getElem?_take_of_lt hk, List.getElem?_drop]; exact hc k hk
  · rw [List.getElem?_eq_none (by simp; omega), List.getElem?_eq_none (by omega)]
theorem EyeAt.load {t : TypeId} {H : Heap} {b o i : Nat} {l : List Int} {mk : Bool} {a : Int} (h : EyeAt t H b o i l mk a) : semR (.loadN 4) [ptrAt b o] H = some (eyeV i l.length mk a) :=
  loadN_at (vs := [gsl i l.length, .slice none 0 0, .bool mk, .int .i64 a]) rfl (by decide) fun k hk => by
    match k, hk with
    | 0, _ => exact h.n
    | 1, _ => exact h.s
    | 2, _ => exact h.m
    | 3, _ => exact h.a
def Quiet (R : Value → Prop) (H : Heap) (n c : Nat) (v : Value) (H' : Heap) (n' : Nat) : Prop := R v ∧ (∀ q, q < n → aget H' q = aget H q) ∧ Fresh H' n' ∧ n ≤ n' ∧ n' ≤ n + c
theorem boxEye (te : TypeId) (i k : Nat) (mk : Bool) (a : Int) : semA (.box te) [eyeV i k mk a] = some (.cells [gsl i k, .slice none 0 0, .bool mk, .int .i64 a] te none, .ptr) := rfl
theorem great_ok (hE : EnvOk P E) (hm : P.follows .mixedOrders = true) {te : TypeId} {f : FuncId} (hc : compF P f = some (cGreat te)) {H : Heap} {n i : Nat} {k : Nat} {mk : Bool} {a : Int} (hfr : Fresh H n) (hn : n + 2 < lim) :
    F P G f [eyeV i k mk a] H n (Quiet (fun v => v = .bool (decide (200 < k))) H n 2) := by
  refine F_of_comp hc rfl ?_
  refine WC_go hE hm ?_
  refine xNew hfr (by omega) rfl rfl rfl (boxEye te i k mk a) ?_
  intro H1 h1 h2 h3
  refine xP rfl rfl rfl rfl ?_
  refine RXn ?_
  refine WLv (lv1 1 rfl lv0) ?_
  refine WC_go hE hm ?_
  refine xP rfl rfl rfl rfl ?_
  refine RXn ?_
  refine WC_seq ?_
  refine WC_go hE hm ?_
  refine xP rfl rfl rfl rfl ?_
  refine RXn ?_
  refine WLv (lv1 1 rfl (lv1 4 rfl lv0)) ?_
  refine WC_block ?_
  refine WC_loopK 1 ?_
  refine WCR_succ ?_
  refine WC_seq ?_
  refine WC_go hE hm ?_
  refine xP rfl rfl rfl rfl ?_
  refine xP rfl rfl rfl rfl ?_
  refine xLdC (b := n) (o := 1) (v := .slice none 0 0) (cellAt_of h1 rfl) rfl rfl ?_
  refine xP (v := .int .i64 0) rfl rfl rfl rfl ?_
  refine xP (v := .bool false) rfl rfl rfl rfl ?_
  refine RXn ?_
  refine WC_condF rfl ?_
  refine WC_exit ?_
  refine thenE ?_
  refine thenE ?_
  refine blockE ?_
  refine thenN ?_
  refine WLv (lv1 1 rfl lv0) ?_
  refine WC_go hE hm ?_
  refine xP rfl rfl rfl rfl ?_
  refine xLdC (b := n) (o := 0) (v := gsl i k) (cellAt_of h1 rfl) rfl rfl ?_
  refine xP (v := .int .i64 (k : Int)) rfl rfl rfl (SliceAt.gsl i k).lenS ?_
  refine xP (v := .bool (decide (200 < k))) rfl rfl rfl ?_ ?_
  · show some (Value.bool (decide ((k : Int) > 200))) = _
    by_cases h : 200 < k
    · rw [decide_eq_true h, decide_eq_true (by omega)]
    · rw [decide_eq_false h, decide_eq_false (by omega)]
  refine xP rfl rfl rfl rfl ?_
  refine RXn ?_
  refine WC_ret ?_
  refine endR rfl ?_
  exact ⟨rfl, fun q hq => h2 q (by omega), h3, by omega, by omega⟩
def RowAt (t : TypeId) (H : Heap) (n i : Nat) (l : List Int) : Prop := l ≠ [] → aget H i = some (.cells (ints l) t (some 1)) ∧ i < n
theorem RowAt.cell {t : TypeId} {H : Heap} {n i : Nat} {l : List Int} (h : RowAt t H n i l) {k : Nat} (hk : k < l.length) : cellAt H i k = some (.int .i64 (l.getD k 0)) := by
  obtain ⟨h1, _⟩ := h (by rintro rfl; simp at hk)
  exact cellAt_of h1 (by simp [ints, hk])
theorem same_ok (hE : EnvOk P E) (hm : P.follows .mixedOrders = true) {t te : TypeId} {f : FuncId} (hc : compF P f = some (cSame te)) {H : Heap} {n i i2 : Nat} {l : List Int} {mk mk2 : Bool} {a a2 : Int} (hfr : Fresh H n) (hn : n + 4 < lim) (hr : RowAt t H n i l) (hr2 : RowAt t H n i2 l) (hlen : l.length < 8589934592) :
    F P G f [eyeV i l.length mk a, eyeV i2 l.length mk2 a2] H n (Quiet (fun v => v = .bool true) H n 4) := by
  refine F_of_comp hc rfl ?_
  refine WC_go hE hm ?_
  refine xNew hfr (by omega) rfl rfl rfl (boxEye te i l.length mk a) ?_
  intro H1 h1 h2 h3
  refine xNew h3 (by omega) rfl rfl rfl (boxEye te i2 l.length mk2 a2) ?_
  intro H2 g1 g2 g3
  have k1 : aget H2 n = some (.cells [gsl i l.length, .slice none 0 0, .bool mk, .int .i64 a] te none) := (g2 n (by omega)).trans h1
  have old : ∀ q, q < n → aget H2 q = aget H q := fun q hq => (g2 q (by omega)).trans (h2 q (by omega))
  have row1 : RowAt t H2 n i l := fun h => ⟨(old i (hr h).2).trans (hr h).1, (hr h).2⟩
  have row2 : RowAt t H2 n i2 l := fun h => ⟨(old i2 (hr2 h).2).trans (hr2 h).1, (hr2 h).2⟩
  refine xP rfl rfl rfl rfl ?_
  refine RXn ?_
  refine WLv (lv1 2 rfl (lv1 3 rfl lv0)) ?_
  refine WC_seq ?_
  refine WC_go hE hm ?_
  refine xP rfl rfl rfl rfl ?_
  refine xLdC (b := n) (o := 0) (v := gsl i l.length) (cellAt_of k1 rfl) rfl rfl ?_
  refine xP (v := .int .i64 (l.length : Int)) rfl rfl rfl (SliceAt.gsl i l.length).lenS ?_
  refine xP rfl rfl rfl rfl ?_
  refine xLdC (b := n + 1) (o := 0) (v := gsl i2 l.length) (cellAt_of g1 rfl) rfl rfl ?_
  refine xP (v := .int .i64 (l.length : Int)) rfl rfl rfl (SliceAt.gsl i2 l.length).lenS ?_
  refine xNe rfl rfl (fun h => absurd rfl h) (fun _ => ?_)
  refine xP rfl rfl rfl rfl ?_
  refine xP rfl rfl rfl rfl ?_
  refine xLdC (b := n) (o := 1) (v := .slice none 0 0) (cellAt_of k1 rfl) rfl rfl ?_
  refine xP (v := .int .i64 0) rfl rfl rfl rfl ?_
  refine xP rfl rfl rfl rfl ?_
  refine xLdC (b := n + 1) (o := 1) (v := .slice none 0 0) (cellAt_of g1 rfl) rfl rfl ?_
  refine xP (v := .int .i64 0) rfl rfl rfl rfl ?_
  refine xP (v := .bool false) rfl rfl rfl rfl ?_
  refine xP rfl rfl rfl rfl ?_
  refine RXn ?_
  refine WC_condF rfl ?_
  refine WC_skip ?_
  refine thenN ?_
  refine WLv (lv1 2 rfl (lv1 3 rfl lv0)) ?_
  refine WC_seq ?_
  refine WC_go hE hm ?_
  refine xP rfl rfl rfl rfl ?_
  refine RXn ?_
  refine WLv (lv1 2 rfl (lv1 3 rfl (lv1 5 rfl lv0))) ?_
  refine WC_block ?_
  refine WC_loopX (X := Nat) (fun k => { T := ofL [(2, ptrTo n), (3, ptrTo (n + 1)), (5, .int .i64 (k : Int))], D := [], H := H2, n := n + 1 + 1 }) (fun k => k ≤ l.length) (fun k => l.length - k) 0 (Nat.zero_le _) ?_
  rintro k hk
  refine WC_seq ?_
  refine WC_go hE hm ?_
  refine xP rfl rfl rfl rfl ?_
  refine xP rfl rfl rfl rfl ?_
  refine xLdC (b := n) (o := 0) (v := gsl i l.length) (cellAt_of k1 rfl) rfl rfl ?_
  refine xP (v := .int .i64 (l.length : Int)) rfl rfl rfl (SliceAt.gsl i l.length).lenS ?_
  refine xCmp (p := (k : Int) < (l.length : Int)) rfl rfl rfl rfl ?_ ?_ <;> intro h
  · have hkl : k < l.length := by omega
    refine RXn ?_
    refine WC_condT rfl ?_
    refine WC_skip ?_
    refine thenN ?_
    refine WLv (lv1 2 rfl (lv1 3 rfl (lv1 5 rfl lv0))) ?_
    refine WC_seq ?_
    refine WC_block ?_
    refine WC_go hE hm ?_
    refine xP rfl rfl rfl rfl ?_
    refine xLdC (b := n) (o := 0) (v := gsl i l.length) (cellAt_of k1 rfl) rfl rfl ?_
    refine xP rfl rfl rfl rfl ?_
    refine xP (v := ptrAt i (0 + k * 1)) rfl rfl rfl ((SliceAt.gsl i l.length).idx hkl) ?_
    refine xLdC (b := i) (o := 0 + k * 1) (v := .int .i64 (l.getD k 0)) (by rw [Nat.zero_add, Nat.mul_one]; exact row1.cell hkl) rfl rfl ?_
    refine xP rfl rfl rfl rfl ?_
    refine xLdC (b := n + 1) (o := 0) (v := gsl i2 l.length) (cellAt_of g1 rfl) rfl rfl ?_
    refine xP rfl rfl rfl rfl ?_
    refine xP (v := ptrAt i2 (0 + k * 1)) rfl rfl rfl ((SliceAt.gsl i2 l.length).idx hkl) ?_
    refine xLdC (b := i2) (o := 0 + k * 1) (v := .int .i64 (l.getD k 0)) (by rw [Nat.zero_add, Nat.mul_one]; exact row2.cell hkl) rfl rfl ?_
    refine xNe rfl rfl (fun h => absurd rfl h) (fun _ => ?_)
    refine RXn ?_
    refine WC_condF rfl ?_
    refine WC_skip ?_
    refine blockN ?_
    refine thenN ?_
    refine WLv (lv1 2 rfl (lv1 3 rfl (lv1 5 rfl lv0))) ?_
    refine WC_steps hE hm ?_
    refine xP rfl rfl rfl rfl ?_
    refine xAdd rfl rfl (by omega) ?_
    refine xP rfl rfl rfl rfl ?_
    refine RXn ?_
    refine thenN ⟨k + 1, by omega, by omega, Le.live (lv1 2 rfl (lv1 3 rfl (lv1 5 rfl lv0)))⟩
  · refine RXn ?_
    refine WC_condF rfl ?_
    refine WC_exit ?_
    refine thenE ?_
    refine thenE ?_
    refine blockE ?_
    refine thenN ?_
    refine WLv (lv1 2 rfl (lv1 3 rfl lv0)) ?_
    refine WC_seq ?_
    refine WC_go hE hm ?_
    refine xP rfl rfl rfl rfl ?_
    refine RXn ?_
    refine WLv (lv1 2 rfl (lv1 3 rfl (lv1 6 rfl lv0))) ?_
    refine WC_block ?_
    refine WC_loopK 1 ?_
    refine WCR_succ ?_
    refine WC_seq ?_
    refine WC_go hE hm ?_
    refine xP rfl rfl rfl rfl ?_
    refine xP rfl rfl rfl rfl ?_
    refine xLdC (b := n) (o := 1) (v := .slice none 0 0) (cellAt_of k1 rfl) rfl rfl ?_
    refine xP (v := .int .i64 0) rfl rfl rfl rfl ?_
    refine xP (v := .bool false) rfl rfl rfl rfl ?_
    refine RXn ?_
    refine WC_condF rfl ?_
    refine WC_exit ?_
    refine thenE ?_
    refine thenE ?_
    refine blockE ?_
    refine thenN ?_
    refine WLv lv0 ?_
    refine WC_go hE hm ?_
    refine xP rfl rfl rfl rfl ?_
    refine RXn ?_
    refine WC_ret ?_
    refine endR rfl ?_
    exact ⟨rfl, old, g3, by omega, by omega⟩
theorem alike_ok (hE : EnvOk P E) (hm : P.follows .mixedOrders = true) {t te : TypeId} {f fs : FuncId} (hs : compF P fs = some (cSame te)) (hc : compF P f = some (cAlike fs)) {H : Heap} {n m b b2 lo hi lo2 hi2 : Nat} {ws ws2 : List (List Int)} {but : Int} (hfr : Fresh H n) (hn : n + 4 * m + 4 < lim) (hmB : m ≤ 1048576)
    (h1 : Told t H b ws lo hi) (h2 : Told t H b2 ws2 lo2 hi2) (hb : b < n) (hb2 : b2 < n) (hhi : hi ≤ n) (hhi2 : hi2 ≤ n) (hl : ws.length = m) (hl2 : ws2.length = m) (heq : ∀ (k : Nat) (w w2 : List Int), (k : Int) ≠ but → ws[k]? = some w → ws2[k]? = some w2 → w = w2) (hsz : ∀ w ∈ ws, w.length < 8589934592) :
    F P G f [.slice (some ⟨b, 0, none⟩) m m, .slice (some ⟨b2, 0, none⟩) m m, .int .i64 but] H n (Quiet (fun v => v = .bool true) H n (4 * m)) := by
  refine F_of_comp hc rfl ?_
  refine WC_go hE hm ?_
  refine xP rfl rfl rfl rfl ?_
  refine RXn ?_
  refine WLv (lv1 0 rfl (lv1 1 rfl (lv1 2 rfl lv0))) ?_
  refine WC_seq ?_
  refine WC_go hE hm ?_
  refine xP rfl rfl rfl rfl ?_
  refine RXn ?_
  refine WLv (lv1 0 rfl (lv1 1 rfl (lv1 2 rfl (lv1 7 rfl lv0)))) ?_
  refine WC_block ?_
  refine WC_loopX (X := Nat × Heap × Nat) (fun y => { T := ofL [(0, .slice (some ⟨b, 0, none⟩) m m), (1, .slice (some ⟨b2, 0, none⟩) m m), (2, .int .i64 but), (7, .int .i64 (y.1 : Int))], D := [], H := y.2.1, n := y.2.2 })
    (fun y => y.1 ≤ m ∧ (∀ q, q < n → aget y.2.1 q = aget H q) ∧ Fresh y.2.1 y.2.2 ∧ n ≤ y.2.2 ∧ y.2.2 ≤ n + 4 * y.1) (fun y => m - y.1) (0, H, n) ⟨Nat.zero_le _, fun _ _ => rfl, hfr, Nat.le_refl _, Nat.le_refl _⟩ ?_
  rintro ⟨k, Hk, nk⟩ ⟨hk, i1, i2, i3, i4⟩
  dsimp only at *
  refine WC_seq ?_
  refine WC_go hE hm ?_
  refine xP rfl rfl rfl rfl ?_
  refine xP rfl rfl rfl rfl ?_
  refine xP rfl rfl rfl rfl ?_
  refine xCmp (p := (k : Int) < (m : Int)) rfl rfl rfl rfl ?_ ?_ <;> intro h
  · have hkm : k < m := by omega
    refine RXn ?_
    refine WC_condT rfl ?_
    refine WC_skip ?_
    refine thenN ?_
    refine WLv (lv1 0 rfl (lv1 1 rfl (lv1 2 rfl (lv1 7 rfl lv0)))) ?_
    refine WC_seq ?_
    refine WC_block ?_
    refine WC_go hE hm ?_
    refine xP rfl rfl rfl rfl ?_
    refine xP rfl rfl rfl rfl ?_
    refine xNe rfl rfl ?_ ?_ <;> intro hb'
    · obtain ⟨w, hw⟩ : ∃ w, ws[k]? = some w := ⟨_, List.getElem?_eq_getElem (by omega)⟩
      obtain ⟨w2, hw2⟩ : ∃ w, ws2[k]? = some w := ⟨_, List.getElem?_eq_getElem (by omega)⟩
      obtain rfl := heq k w w2 hb' hw hw2
      obtain ⟨ia, ea, ra⟩ := h1 k w hw
      obtain ⟨ib, eb, rb⟩ := h2 k w hw2
      have ca : ∀ j, cellAt Hk b j = cellAt H b j := fun j => cellAt_congr (i1 b hb) j
      have cb : ∀ j, cellAt Hk b2 j = cellAt H b2 j := fun j => cellAt_congr (i1 b2 hb2) j
      have rowa : RowAt t Hk nk ia w := fun hne => ⟨(i1 ia (by have := (ra hne).2; omega)).trans (ea.row hne), by have := (ra hne).2; omega⟩
      have rowb : RowAt t Hk nk ib w := fun hne => ⟨(i1 ib (by have := (rb hne).2; omega)).trans (eb.row hne), by have := (rb hne).2; omega⟩
      have eka : EyeAt t Hk b (k * 4) ia w false 0 := ⟨(ca _).trans ea.n, (ca _).trans ea.s, (ca _).trans ea.m, (ca _).trans ea.a, fun hne => (rowa hne).1, ea.out, ea.ne⟩
      have ekb : EyeAt t Hk b2 (k * 4) ib w false 0 := ⟨(cb _).trans eb.n, (cb _).trans eb.s, (cb _).trans eb.m, (cb _).trans eb.a, fun hne => (rowb hne).1, eb.out, eb.ne⟩
      refine xP rfl rfl rfl rfl ?_
      refine xP rfl rfl rfl rfl ?_
      refine xP rfl rfl rfl rfl ?_
      refine xP (v := ptrAt b (0 + k * 4)) rfl rfl rfl ((SliceAt.mk b 0 m m).idx hkm) ?_
      rw [Nat.zero_add]
      refine xR (v := eyeV ia w.length false 0) rfl rfl rfl eka.load ?_
      refine xP rfl rfl rfl rfl ?_
      refine xP rfl rfl rfl rfl ?_
      refine xP (v := ptrAt b2 (0 + k * 4)) rfl rfl rfl ((SliceAt.mk b2 0 m m).idx hkm) ?_
      rw [Nat.zero_add]
      refine xR (v := eyeV ib w.length false 0) rfl rfl rfl ekb.load ?_
      refine xC rfl rfl rfl rfl (same_ok (t := t) hE hm hs i2 (by omega) rowa rowb (hsz w (List.mem_of_getElem? hw))) ?_
      rintro v H4 n4 ⟨rfl, q1, q2, q3, q4⟩
      refine xP (v := .bool false) rfl rfl rfl rfl ?_
      refine xP rfl rfl rfl rfl ?_
      refine RXn ?_
      refine WC_condF rfl ?_
      refine WC_skip ?_
      refine blockN ?_
      refine thenN ?_
      refine WLv (lv1 0 rfl (lv1 1 rfl (lv1 2 rfl (lv1 7 rfl lv0)))) ?_
      refine WC_steps hE hm ?_
      refine xP rfl rfl rfl rfl ?_
      refine xAdd rfl rfl (by omega) ?_
      refine xP rfl rfl rfl rfl ?_
      refine RXn ?_
      refine thenN ⟨(k + 1, H4, n4), ⟨by dsimp only; omega, fun q hq => (q1 q (by omega)).trans (i1 q hq), q2, by dsimp only; omega, by dsimp only; omega⟩, by dsimp only; omega, Le.live (lv1 0 rfl (lv1 1 rfl (lv1 2 rfl (lv1 7 rfl lv0))))⟩
    · refine xP rfl rfl rfl rfl ?_
      refine xS rfl ?_
      refine xS rfl ?_
      refine xS rfl ?_
      refine xS rfl ?_
      refine xS rfl ?_
      refine xS rfl ?_
      refine xS rfl ?_
      refine xS rfl ?_
      refine xS rfl ?_
      refine xS rfl ?_
      refine xP rfl rfl rfl rfl ?_
      refine RXn ?_
      refine WC_condF rfl ?_
      refine WC_skip ?_
      refine blockN ?_
      refine thenN ?_
      refine WLv (lv1 0 rfl (lv1 1 rfl (lv1 2 rfl (lv1 7 rfl lv0)))) ?_
      refine WC_steps hE hm ?_
      refine xP rfl rfl rfl rfl ?_
      refine xAdd rfl rfl (by omega) ?_
      refine xP rfl rfl rfl rfl ?_
      refine RXn ?_
      refine thenN ⟨(k + 1, Hk, nk), ⟨by dsimp only; omega, i1, i2, i3, by dsimp only; omega⟩, by dsimp only; omega, Le.live (lv1 0 rfl (lv1 1 rfl (lv1 2 rfl (lv1 7 rfl lv0))))⟩
  · refine RXn ?_
    refine WC_condF rfl ?_
    refine WC_exit ?_
    refine thenE ?_
    refine thenE ?_
    refine blockE ?_
    refine thenN ?_
    refine WLv lv0 ?_
    refine WC_go hE hm ?_
    refine xP rfl rfl rfl rfl ?_
    refine RXn ?_
    refine WC_ret ?_
    refine endR rfl ?_
    exact ⟨rfl, i1, i2, i3, by omega⟩
end
end Go.Cs
set_option maxRecDepth 1000000
set_option maxHeartbeats 1000000
namespace Go.Cs
structure SeenAt (H : Heap) (its : List Item) (hdr : List (Nat × Nat × Value)) (w : List Int) (S : Nat → Prop) : Prop where
  tells : Tells H its w
  place : ∀ it ∈ its, ∀ q j, it.place = some (q, j) → S q
  hdr : ∀ x ∈ hdr, rdAt H x.1 x.2.1 = some x.2.2 ∧ S x.1 ∧ isHdr x.2.2 = true
theorem SeenAt.same {H H' : Heap} {its : List Item} {hdr : List (Nat × Nat × Value)} {w : List Int} {S : Nat → Prop} (h : SeenAt H its hdr w S) (hs : ∀ it ∈ its, ∀ q j, it.place = some (q, j) → rdAt H' q j = rdAt H q j) (hh : ∀ x ∈ hdr, rdAt H' x.1 x.2.1 = rdAt H x.1 x.2.1) : SeenAt H' its hdr w S :=
  ⟨h.tells.same hs, h.place, fun x hx => ⟨(hh x hx).trans (h.hdr x hx).1, (h.hdr x hx).2⟩⟩
theorem SeenAt.mono {H H' : Heap} {its : List Item} {hdr : List (Nat × Nat × Value)} {w : List Int} {S : Nat → Prop} (h : SeenAt H its hdr w S) (hs : ∀ q, S q → aget H' q = aget H q) : SeenAt H' its hdr w S :=
  h.same (fun it hit q j hq => rdAt_congr (hs q (h.place it hit q j hq)) j) fun x hx => rdAt_congr (hs _ (h.hdr x hx).2.1) _
theorem SeenAt.weak {H : Heap} {its : List Item} {hdr : List (Nat × Nat × Value)} {w : List Int} {S S' : Nat → Prop} (h : SeenAt H its hdr w S) (hs : ∀ q, S q → S' q) : SeenAt H its hdr w S' :=
  ⟨h.tells, fun it hit q j hq => hs q (h.place it hit q j hq), fun x hx => ⟨(h.hdr x hx).1, hs _ (h.hdr x hx).2.1, (h.hdr x hx).2.2⟩⟩
def WrAt (H : Heap) (its : List Item) : Prop := ∀ it ∈ its, ∀ q j, it.place = some (q, j) → ∃ v, cellAt H q j = some v
theorem WrAt.same {H H' : Heap} {its : List Item} (h : WrAt H its) (hs : ∀ it ∈ its, ∀ q j, it.place = some (q, j) → aget H' q = aget H q) : WrAt H' its := fun it hit q j hq => by
  rw [cellAt_congr (hs it hit q j hq)]; exact h it hit q j hq
structure SeeGo (t : TypeId) (its : List Item) (hdr : List (Nat × Nat × Value)) (w : List Int) (S : Nat → Prop) (b o : Nat) (mk : Bool) (at' : Int) (H : Heap) (n : Nat) (H' : Heap) (n' : Nat) : Prop where
  eye : mk = false → ∃ i', EyeAt t H' b o i' w false at' ∧ (w ≠ [] → n ≤ i' ∧ i' < n')
  seen : ∃ w2, SeenAt H' its hdr w2 S ∧ (mk = false → w2 = w)
  le : n ≤ n'
  room : n' ≤ n + 8 * its.length
  fresh : Fresh H' n'
  keep : ∀ q, q < n → q ≠ b → (mk = false ∨ ¬ S q) → aget H' q = aget H q
  cell : ∀ q j, q < n → q ≠ b → (∀ it ∈ its, it.place ≠ some (q, j)) → rdAt H' q j = rdAt H q j ∧ cellAt H' q j = cellAt H q j
  wrs : ∀ q j, q < n → q ≠ b → (∃ v, cellAt H q j = some v) → ∃ v, cellAt H' q j = some v
section
variable {P : Program} {G : List Nat} {E : Env}
theorem Sees.go {t : TypeId} {f : FuncId} {as bs : List Value} {its : List Item} {hdr : List (Nat × Nat × Value)} (h : Sees P G t f as bs its hdr) {H : Heap} {n b o : Nat} {mk : Bool} {at' : Int} {w : List Int} {S : Nat → Prop} (hs : SeenAt H its hdr w S) (he : EyeAt t H b o lim [] mk at') (hb : b < n)
    (hS : ∀ q, S q → q < n ∧ q ≠ b) (hwr : mk = true → WrAt H its) (hfr : Fresh H n) (hroom : n + 8 * its.length + 8 < lim) (hsz : its.length < 8589934592) : F P G f (as ++ ptrAt b o :: bs) H n (fun v H' n' => v = .tuple #[] ∧ SeeGo t its hdr w S b o mk at' H n H' n') := by
  have hne : ∀ q j, q < n → q ≠ b → ¬ EyeCell b o lim q j := by
    intro q j h1 h2
    rintro (⟨h3, _⟩ | h3) <;> omega
  have hp : SeePre t H n b o lim [] mk at' its hdr w := by
    refine ⟨he, hb, fun h => absurd rfl h, hs.tells, fun it hit q j hq => ?_, fun x hx => ?_, hwr, hfr, hroom, by simp only [List.length_nil]; omega⟩
    · obtain ⟨h1, h2⟩ := hS q (hs.place it hit q j hq)
      exact ⟨h1, hne q j h1 h2⟩
    · obtain ⟨h0, h1, _⟩ := hs.hdr x hx
      obtain ⟨h2, h3⟩ := hS _ h1
      exact ⟨h0, h2, hne _ _ h2 h3⟩
  refine (h.call hp).mono ?_
  rintro v H' n' ⟨rfl, i', w', at2, e1, e2, e3, e4, e5, e6, e7, e8, e9⟩
  refine ⟨rfl, ?_, ?_, e6, e7, e8, ?_, ?_, fun q j h1 h2 hv => e9.cells q j h1 (hne q j h1 h2) hv⟩
  · intro hm
    obtain ⟨rfl, rfl⟩ := e3 hm
    subst hm
    refine ⟨i', e1, fun hne => ?_⟩
    have g : i' < n' := e5 hne
    refine ⟨?_, g⟩
    rcases e4 with g' | g' <;> omega
  · cases mk with
    | false => exact ⟨w, hs.same (fun it hit q j hq => by
        obtain ⟨h1, h2⟩ := hS q (hs.place it hit q j hq)
        exact (e9.same q j h1 (hne q j h1 h2) fun h => by cases h).1) (fun x hx => by
        obtain ⟨h2, h3⟩ := hS _ (hs.hdr x hx).2.1
        exact (e9.same _ _ h2 (hne _ _ h2 h3) fun h => by cases h).1), fun _ => rfl⟩
    | true =>
      obtain ⟨w2, hw2⟩ := hs.tells.kind (H' := H') fun it hit q j hq => by
        obtain ⟨h1, h2⟩ := hS q (hs.place it hit q j hq)
        exact e9.kind q j h1 (hne q j h1 h2)
      refine ⟨w2, ⟨hw2, hs.place, fun x hx => ?_⟩, fun h => by cases h⟩
      obtain ⟨h0, h1, h4⟩ := hs.hdr x hx
      obtain ⟨h2, h3⟩ := hS _ h1
      refine ⟨?_, h1, h4⟩
      rw [(e9.same _ _ h2 (hne _ _ h2 h3) fun _ => hdr_out hs.tells h0 h4).1]
      exact h0
  · intro q h1 h2 h3
    refine e9.obj q h1 h2 (by omega) fun hm it hit j hp' => ?_
    rcases h3 with h3 | h3
    · rw [h3] at hm; cases hm
    · exact h3 (hs.place it hit q j hp')
  · intro q j h1 h2 h3
    exact e9.same q j h1 (hne q j h1 h2) fun _ => h3
theorem eye_new {t te : TypeId} {H : Heap} {b : Nat} {mk : Bool} {a : Int} (hb : b < lim) (h : aget H b = some (.cells [.slice none 0 0, .slice none 0 0, .bool mk, .int .i64 a] te none)) : EyeAt t H b 0 lim [] mk a :=
  ⟨cellAt_of h rfl, cellAt_of h rfl, cellAt_of h rfl, cellAt_of h rfl, fun h => absurd rfl h, fun _ => Nat.le_refl _, by omega⟩
theorem EyeAt.mono {t : TypeId} {H H' : Heap} {b o i n : Nat} {l : List Int} {mk : Bool} {a : Int} (h : EyeAt t H b o i l mk a) (h1 : aget H' b = aget H b) (h2 : l ≠ [] → aget H' i = aget H i) : EyeAt t H' b o i l mk a :=
  ⟨(cellAt_congr h1 _).trans h.n, (cellAt_congr h1 _).trans h.s, (cellAt_congr h1 _).trans h.m, (cellAt_congr h1 _).trans h.a, fun hne => (h2 hne).trans (h.row hne), h.out, h.ne⟩
theorem Told.mono {t : TypeId} {H H' : Heap} {b lo hi : Nat} {ws : List (List Int)} (h : Told t H b ws lo hi) (h1 : aget H' b = aget H b) (h2 : ∀ q, lo ≤ q → q < hi → aget H' q = aget H q) : Told t H' b ws lo hi := by
  intro k w hw
  obtain ⟨i, e, r⟩ := h k w hw
  exact ⟨i, e.mono (n := 0) h1 (fun hne => h2 i (r hne).1 (r hne).2), r⟩
theorem xFill {r : List Step} {Q : St → Prop} {as : List Operand} {d : Option Tmp} {g : Option (Tmp × Bool)} {L : List (Nat × Value)} {D : List Value} {H : Heap} {n m b : Nat} {cs ys : List Value} {t : TypeId} (hb : aget H b = some (.cells cs t none)) (hl : cs.length = m) (hl2 : ys.length = m) (hy : ys.all cell1 = true) (hw : wantT (.lst L) g = some true)
    (ha : evs G (.lst L) as = some [ptrAt b 0, .agg ys.toArray]) (hn : n < lim) (h : ∀ H1 : Heap, aget H1 b = some (.cells ys t none) → (∀ q, q ≠ b → aget H1 q = aget H q) → RX P G E r Q { T := .lst (putL d undef L), D := D, H := H1, n := n }) :
    RX P G E (⟨.store m, as, d, g⟩ :: r) Q { T := .lst L, D := D, H := H, n := n } := by
  refine xStN ys hw ha hb ?_ ?_ ?_ (by simpa [Value.cells] using hy) (blt_lim hn) (h _ (by simp [aget_aput]) fun q hq => by rw [aget_aput, if_neg (Ne.symm hq)])
  · simp [splice, Value.cells, hl, hl2]
  · simp [Value.cells, hl2]
  · simp [hl]
end
end Go.Cs
set_option maxRecDepth 1000000
set_option maxHeartbeats 4000000
namespace Go.Cs
def cApart (te tx : TypeId) (sz : Nat) (zero : List Value) (great look same alike : FuncId) : FC := FC.mk 88 (.seq (.steps [⟨.box tx, [.tmp 0], some 4, none⟩,⟨.move, [.const (.bool false)], some 8, none⟩]) (.seq (.steps [⟨.alloc te [.slice none 0 0, .slice none 0 0, .bool false, .int .i64 0], [], some 9, none⟩]) (.seq (.steps [⟨.move, [.tmp 2], some 19, none⟩,⟨.callV, [.tmp 19, .tmp 9, .tmp 4], some 20, none⟩]) (.seq (.seq (.steps [⟨.loadN 4, [.tmp 9], some 21, none⟩,⟨.callF great, [.tmp 21], some 22, none⟩]) (.cond (.tmp 22) (.seq (.steps [⟨.move, [.const (.bool true)], some 8, none⟩]) (.ret)) (.skip))) (.seq (.seq (.steps [⟨.move, [.const (.int .i64 0)], some 10, none⟩]) (.block 0 (.loop (.seq (.seq (.steps [⟨.move, [.tmp 10], some 23, none⟩,⟨.move, [.tmp 3], some 24, none⟩,⟨.lenS, [.tmp 24], some 25, none⟩,⟨.bin .lss, [.tmp 23, .tmp 25], some 26, none⟩]) (.cond (.tmp 26) (.skip) (.exit 0))) (.seq (.block 1 (.seq (.steps [⟨.move, [.tmp 1], some 29, none⟩,⟨.loadN sz, [.tmp 4], some 30, none⟩,⟨.callV, [.tmp 29, .tmp 30], some 31, none⟩,⟨.alloc tx zero, [], some 11, none⟩,⟨.store sz, [.tmp 11, .tmp 31], none, none⟩]) (.seq (.steps [⟨.move, [.tmp 3], some 32, none⟩,⟨.move, [.tmp 10], some 33, none⟩,⟨.indexAddrS 1, [.tmp 32, .tmp 33], some 34, none⟩,⟨.load1, [.tmp 34], some 35, none⟩,⟨.callV, [.tmp 35, .tmp 11], some 36, none⟩,⟨.move, [.tmp 36], some 12, none⟩]) (.seq (.steps [⟨.alloc te [.slice none 0 0, .slice none 0 0, .bool false, .int .i64 0], [], some 13, none⟩,⟨.alloc te [.slice none 0 0, .slice none 0 0, .bool false, .int .i64 0], [], some 14, none⟩,⟨.alloc te [.slice none 0 0, .slice none 0 0, .bool false, .int .i64 0], [], some 15, none⟩]) (.seq (.steps [⟨.move, [.tmp 2], some 37, none⟩,⟨.callV, [.tmp 37, .tmp 13, .tmp 11], some 38, none⟩]) (.seq (.steps [⟨.move, [.tmp 12], some 39, none⟩,⟨.callF look, [.tmp 39], some 40, none⟩,⟨.move, [.tmp 40], some 16, none⟩]) (.seq (.steps [⟨.move, [.tmp 2], some 41, none⟩,⟨.build [.slice none 0 0, .slice none 0 0, .bool false, .int .i64 0] [(2, 1)], [.const (.bool true)], some 42, none⟩,⟨.box te, [.tmp 42], some 43, none⟩,⟨.callV, [.tmp 41, .tmp 43, .tmp 11], some 44, none⟩]) (.seq (.seq (.steps [⟨.loadN 4, [.tmp 9], some 45, none⟩,⟨.loadN 4, [.tmp 13], some 46, none⟩,⟨.callF same, [.tmp 45, .tmp 46], some 47, none⟩,⟨.un .not, [.tmp 47], some 48, none⟩,⟨.move, [.tmp 48], some 49, none⟩,⟨.move, [.tmp 16], some 50, some (49, false)⟩,⟨.move, [.tmp 12], some 51, some (49, false)⟩,⟨.callF look, [.tmp 51], some 52, some (49, false)⟩,⟨.callF alike, [.tmp 50, .tmp 52, .const (.int .i64 (-1))], some 53, some (49, false)⟩,⟨.un .not, [.tmp 53], some 54, some (49, false)⟩,⟨.pick, [.tmp 49, .const (.bool true), .tmp 54], some 55, none⟩]) (.cond (.tmp 55) (.seq (.steps [⟨.move, [.const (.bool false)], some 8, none⟩]) (.ret)) (.skip))) (.seq (.steps [⟨.move, [.tmp 2], some 56, none⟩,⟨.callV, [.tmp 56, .tmp 14, .tmp 11], some 57, none⟩]) (.seq (.seq (.steps [⟨.move, [.const (.int .i64 0)], some 17, none⟩]) (.block 2 (.loop (.seq (.seq (.steps [⟨.move, [.tmp 17], some 58, none⟩,⟨.move, [.tmp 12], some 59, none⟩,⟨.lenS, [.tmp 59], some 60, none⟩,⟨.bin .lss, [.tmp 58, .tmp 60], some 61, none⟩]) (.cond (.tmp 61) (.skip) (.exit 2))) (.seq (.block 3 (.seq (.steps [⟨.move, [.tmp 12], some 64, none⟩,⟨.callF look, [.tmp 64], some 65, none⟩,⟨.move, [.tmp 65], some 18, none⟩]) (.seq (.steps [⟨.move, [.tmp 12], some 66, none⟩,⟨.move, [.tmp 17], some 67, none⟩,⟨.indexAddrS 1, [.tmp 66, .tmp 67], some 68, none⟩,⟨.load1, [.tmp 68], some 69, none⟩,⟨.move, [.tmp 17], some 70, none⟩,⟨.bin .add, [.tmp 70, .const (.int .i64 1)], some 71, none⟩,⟨.bin .mul, [.const (.int .i64 1000000), .tmp 71], some 72, none⟩,⟨.build [.slice none 0 0, .slice none 0 0, .bool false, .int .i64 0] [(2, 1), (3, 1)], [.const (.bool true), .tmp 72], some 73, none⟩,⟨.box te, [.tmp 73], some 74, none⟩,⟨.callV, [.tmp 69, .tmp 74], some 75, none⟩]) (.seq (.steps [⟨.move, [.tmp 18], some 76, none⟩,⟨.move, [.tmp 12], some 77, none⟩,⟨.callF look, [.tmp 77], some 78, none⟩,⟨.move, [.tmp 17], some 79, none⟩,⟨.callF alike, [.tmp 76, .tmp 78, .tmp 79], some 80, none⟩,⟨.un .not, [.tmp 80], some 81, none⟩]) (.cond (.tmp 81) (.seq (.steps [⟨.move, [.const (.bool false)], some 8, none⟩]) (.ret)) (.skip)))))) (.steps [⟨.move, [.tmp 17], some 62, none⟩,⟨.bin .add, [.tmp 62, .const (.int .i64 1)], some 63, none⟩,⟨.move, [.tmp 63], some 17, none⟩])))))) (.seq (.steps [⟨.move, [.tmp 2], some 82, none⟩,⟨.callV, [.tmp 82, .tmp 15, .tmp 11], some 83, none⟩]) (.seq (.steps [⟨.loadN 4, [.tmp 14], some 84, none⟩,⟨.loadN 4, [.tmp 15], some 85, none⟩,⟨.callF same, [.tmp 84, .tmp 85], some 86, none⟩,⟨.un .not, [.tmp 86], some 87, none⟩]) (.cond (.tmp 87) (.seq (.steps [⟨.move, [.const (.bool false)], some 8, none⟩]) (.ret)) (.skip)))))))))))))) (.steps [⟨.move, [.tmp 10], some 27, none⟩,⟨.bin .add, [.tmp 27, .const (.int .i64 1)], some 28, none⟩,⟨.move, [.tmp 28], some 10, none⟩])))))) (.seq (.steps [⟨.move, [.const (.bool true)], some 8, none⟩]) (.ret))))))) [.tmp 8]
structure RsAt (P : Program) (G : List Nat) (t : TypeId) (H : Heap) (lo hi : Nat) (s : Value) (q j : Nat) (rs : List Res) (ws : List (List Int)) (B : Nat) : Prop where
  slice : SliceAt s q j rs.length
  few : rs.length ≤ 5
  clo : ∀ (k : Nat) (r : Res), rs[k]? = some r → cellAt H q (j + k) = some r.clo
  place : rs ≠ [] → lo ≤ q ∧ q < hi
  sees : ∀ r : Res, r ∈ rs → Sees P G t r.f r.as r.bs r.its r.hdr
  small : ∀ r : Res, r ∈ rs → r.its.length ≤ B
  wr : ∀ r : Res, r ∈ rs → WrAt H r.its
  len : ws.length = rs.length
  seen : ∀ (k : Nat) (r : Res) (w : List Int), rs[k]? = some r → ws[k]? = some w → SeenAt H r.its r.hdr w (fun p => lo ≤ p ∧ p < hi)
  disj : ∀ (k k' : Nat) (r r' : Res), k ≠ k' → rs[k]? = some r → rs[k']? = some r' → ∀ it ∈ r.its, ∀ it' ∈ r'.its, ∀ q j, it.place = some (q, j) → it'.place ≠ some (q, j)
section
variable {P : Program} {G : List Nat} {E : Env} {t : TypeId} {H H' : Heap} {lo hi n B q j : Nat} {s : Value} {rs : List Res} {ws : List (List Int)}
theorem RsAt.get (h : RsAt P G t H lo hi s q j rs ws B) {k : Nat} (hk : k < rs.length) : ∃ r w, rs[k]? = some r ∧ ws[k]? = some w ∧ r ∈ rs := by
  have h1 : rs[k]? = some rs[k] := List.getElem?_eq_getElem hk
  exact ⟨_, _, h1, List.getElem?_eq_getElem (by rw [h.len]; exact hk), List.mem_of_getElem? h1⟩
theorem RsAt.mem (h : RsAt P G t H lo hi s q j rs ws B) {r : Res} (hr : r ∈ rs) : ∃ w, SeenAt H r.its r.hdr w (fun p => lo ≤ p ∧ p < hi) := by
  obtain ⟨k, hk, rfl⟩ := List.getElem_of_mem hr
  have h1 : rs[k]? = some rs[k] := List.getElem?_eq_getElem hk
  have h2 : ws[k]? = some (ws[k]'(by rw [h.len]; exact hk)) := List.getElem?_eq_getElem (by rw [h.len]; exact hk)
  exact ⟨_, h.seen k _ _ h1 h2⟩
theorem RsAt.look (h : RsAt P G t H lo hi s q j rs ws B) (hh : hi ≤ n) (hf : Fresh H n) (hB : B < 8589934592) (hr : n + 16 + 5 * (8 * B) < lim) : LookPre P G t H n s q j rs ws B := by
  have hlen := h.few
  have hmul : rs.length * (8 * B) ≤ 5 * (8 * B) := Nat.mul_le_mul_right _ hlen
  refine ⟨h.slice, h.clo, fun hne => by have := h.place hne; omega, h.sees, h.len, fun k r w hr hw => (h.seen k r w hr hw).tells, fun r hr => ?_, hf, h.small, hB, by omega, by omega⟩
  obtain ⟨w, hs⟩ := h.mem hr
  exact ⟨fun it hit q j hq => by have := hs.place it hit q j hq; omega, fun x hx => ⟨(hs.hdr x hx).1, by have := (hs.hdr x hx).2.1; omega⟩⟩
theorem RsAt.mono (h : RsAt P G t H lo hi s q j rs ws B) (hk : ∀ q, lo ≤ q → q < hi → aget H' q = aget H q) : RsAt P G t H' lo hi s q j rs ws B :=
  { h with
    clo := fun k r hr => by
      obtain ⟨h1, h2⟩ := h.place (by rintro rfl; simp at hr)
      rw [cellAt_congr (hk q h1 h2)]; exact h.clo k r hr
    wr := fun r hr => by
      obtain ⟨w, hs⟩ := h.mem hr
      exact (h.wr r hr).same fun it hit p i hp => hk p (hs.place it hit p i hp).1 (hs.place it hit p i hp).2
    seen := fun k r w hr hw => (h.seen k r w hr hw).mono fun p hp => hk p hp.1 hp.2 }
theorem clo_hdr (r : Res) : isHdr r.clo = true := rfl
theorem RsAt.mark (h : RsAt P G t H lo hi s q j rs ws B) {k : Nat} {r : Res} {w : List Int} (hr : rs[k]? = some r) (hw : ws[k]? = some w) {b o n' : Nat} {at' : Int} (hg : SeeGo t r.its r.hdr w (fun p => lo ≤ p ∧ p < hi) b o true at' H n H' n') (hh : hi ≤ n) (hb : hi ≤ b) :
    ∃ ws', RsAt P G t H' lo hi s q j rs ws' B ∧ ∀ k', k' ≠ k → ws'[k']? = ws[k']? := by
  obtain ⟨w2, hw2, _⟩ := hg.seen
  have hcur := h.seen k r w hr hw
  refine ⟨ws.set k w2, { h with
    clo := fun k' r' hr' => ?_
    wr := fun r' hr' => ?_
    len := by simp [h.len]
    seen := fun k' r' w' hr' hw' => ?_ }, fun k' hk' => List.getElem?_set_ne (Ne.symm hk')⟩
  · obtain ⟨h1, h2⟩ := h.place (by rintro rfl; simp at hr')
    have h3 := h.clo k' r' hr'
    rw [(hg.cell q _ (by omega) (by omega) (hdr_out hcur.tells (rd_of_cell h3) (clo_hdr r'))).2]; exact h3
  · obtain ⟨w', hs⟩ := h.mem hr'
    intro it hit p i hp
    have h1 := hs.place it hit p i hp
    exact hg.wrs p i (by omega) (by omega) (h.wr r' hr' it hit p i hp)
  · by_cases hk' : k' = k
    · subst hk'
      rw [hr] at hr'; cases hr'
      rw [List.getElem?_set_self (List.getElem?_eq_some_iff.1 hw).1] at hw'
      cases hw'
      exact hw2
    · rw [List.getElem?_set_ne (Ne.symm hk')] at hw'
      have hs := h.seen k' r' w' hr' hw'
      refine hs.same (fun it hit p i hp => ?_) fun x hx => ?_
      · have h1 := hs.place it hit p i hp
        exact (hg.cell p i (by omega) (by omega) fun it' hit' hp' => h.disj k' k r' r hk' hr' hr it hit it' hit' p i hp hp').1
      · obtain ⟨h0, h1, h2⟩ := hs.hdr x hx
        exact (hg.cell _ _ (by omega) (by omega) (hdr_out hcur.tells h0 h2)).1
theorem loadBox {b m : Nat} {xs : List Value} {tx : TypeId} (h : aget H b = some (.cells xs tx none)) (hl : xs.length = m) : semR (.loadN m) [ptrAt b 0] H = some (.agg xs.toArray) := by
  subst hl
  simp only [ptrAt, semR, rLoadN, h]
  rw [if_pos (by omega)]
  simp
theorem apart_ok (hE : EnvOk P E) (hm : P.follows .mixedOrders = true) {te tx : TypeId} {sz : Nat} {zero : List Value} {f great look same alike fown fsee : FuncId} (hc : compF P f = some (cApart te tx sz zero great look same alike)) (hgr : compF P great = some (cGreat te)) (hlk : compF P look = some (cLook te))
    (hsm : compF P same = some (cSame te)) (hal : compF P alike = some (cAlike same)) {H0 : Heap} {n0 : Nat} {xs : List Value} {bc : Nat} {fcs : List FuncId} {w0 : List Int} {C : Nat} {Arg : Heap → Nat → Prop} (hxs : xs.length = sz) (hz : zero.length = sz)
    (hx : ∀ H b, (∀ q, q < n0 → aget H q = aget H0 q) → n0 ≤ b → aget H b = some (.cells xs tx none) → ∃ its hdr, Sees P G t fsee [] [ptrAt b 0] its hdr ∧ SeenAt H its hdr w0 (fun q => q = b ∨ q < n0))
    (hown : ∀ H n, (∀ q, q < n0 → aget H q = aget H0 q) → n0 ≤ n → Fresh H n → n + C < lim → w0.length ≤ 200 → F P G fown [.agg xs.toArray] H n (fun v H' n' => ∃ ys, v = .agg ys.toArray ∧ ys.length = sz ∧ ys.all cell1 = true ∧ (∀ q, q < n → aget H' q = aget H q) ∧ Fresh H' n' ∧ n ≤ n' ∧ n' ≤ n + C ∧
      ∀ H2 b, (∀ q, q < n' → aget H2 q = aget H' q) → n' ≤ b → aget H2 b = some (.cells ys tx none) → Arg H2 b ∧ ∃ its hdr, Sees P G t fsee [] [ptrAt b 0] its hdr ∧ SeenAt H2 its hdr w0 (fun q => q = b ∨ (n ≤ q ∧ q < n')) ∧ WrAt H2 its))
    (hcall : ∀ fc ∈ fcs, ∀ H n b, Arg H b → aget H 0 = aget H0 0 → b < n → Fresh H n → n + C < lim → F P G fc [ptrAt b 0] H n (fun v H' n' => ∃ q j rs ws, RsAt P G t H' n n' v q j rs ws B ∧ (∀ q, q < n → aget H' q = aget H q) ∧ Fresh H' n' ∧ n ≤ n' ∧ n' ≤ n + C))
    (hbc : bc < n0) (hfc : ∀ (k : Nat) (fc : FuncId), fcs[k]? = some fc → cellAt H0 bc k = some (.func (.func fc) #[] #[])) (h00 : 0 < n0) (hfr : Fresh H0 n0) (hnc : fcs.length ≤ 16) (hB : B < 8000000000) (hC : C < 10000000000000000) (hroom : n0 + 8 * w0.length + 17 * (2 * C + 600 * B + 10000) < lim) (hw0 : w0.length < 8000000000) :
    F P G f [.agg xs.toArray, .func (.func fown) #[] #[], .func (.func fsee) #[] #[], .slice (some ⟨bc, 0, none⟩) fcs.length fcs.length] H0 n0 (fun v H' n' => v = .bool true ∧ ∀ q, q < n0 → aget H' q = aget H0 q) := by
  have hlim : lim = 999999999999999000 := rfl
  refine F_of_comp hc rfl ?_
  refine WC_go hE hm ?_
  refine xNew (ob := .cells xs tx none) (mk := .ptr) hfr (by omega) rfl rfl rfl (by simp [semA, aBox, Value.cells]) ?_
  intro H1 a1 a2 a3
  refine xP rfl rfl rfl rfl ?_
  refine RXn ?_
  refine WLv (lv1 1 rfl (lv1 2 rfl (lv1 3 rfl (lv1 4 rfl lv0)))) ?_
  refine WC_go hE hm ?_
  refine xNew (ob := .cells [.slice none 0 0, .slice none 0 0, .bool false, .int .i64 0] te none) (mk := .ptr) a3 (by omega) rfl rfl rfl rfl ?_
  intro H2 b1 b2 b3
  refine RXn ?_
  refine WLv (lv1 1 rfl (lv1 2 rfl (lv1 3 rfl (lv1 4 rfl (lv1 9 rfl lv0))))) ?_
  have x2 : aget H2 n0 = some (.cells xs tx none) := (b2 n0 (by omega)).trans a1
  have o2 : ∀ q, q < n0 → aget H2 q = aget H0 q := fun q hq => (b2 q (by omega)).trans (a2 q (by omega))
  obtain ⟨itx, hdx, seex, seenx⟩ := hx H2 n0 o2 (Nat.le_refl _) x2
  have hitx : itx.length = w0.length := (seenx.tells.length).symm
  refine WC_go hE hm ?_
  refine xP rfl rfl rfl rfl ?_
  refine xC (f := fsee) (args := [ptrAt (n0 + 1) 0, ptrAt n0 0]) rfl rfl rfl rfl (seex.go seenx (eye_new (t := t) (by omega) b1) (by omega) (fun q hq => by rcases hq with rfl | hq <;> omega) (fun h => by cases h) b3 (by omega) (by omega)) ?_
  rintro _ H3 n3 ⟨rfl, g3⟩
  have r3 := g3.room
  have l3 := g3.le
  obtain ⟨i3, e3, er3⟩ := g3.eye rfl
  refine RXn ?_
  refine WLv (lv1 1 rfl (lv1 2 rfl (lv1 3 rfl (lv1 4 rfl (lv1 9 rfl lv0))))) ?_
  refine WC_seq ?_
  refine WC_go hE hm ?_
  refine xR (v := eyeV i3 w0.length false 0) rfl rfl rfl e3.load ?_
  refine xC rfl rfl rfl rfl (great_ok hE hm hgr g3.fresh (by omega)) ?_
  rintro _ HA nA ⟨rfl, qA, frA, lA, rA⟩
  refine RXn ?_
  refine WLv (lv1 1 rfl (lv1 2 rfl (lv1 3 rfl (lv1 4 rfl (lv1 9 rfl (lv1 22 rfl lv0)))))) ?_
  have oA : ∀ q, q < n0 → aget HA q = aget H0 q := fun q hq => (qA q (by omega)).trans ((g3.keep q (by omega) (by omega) (.inl rfl)).trans (o2 q hq))
  have xA : aget HA n0 = some (.cells xs tx none) := (qA n0 (by omega)).trans ((g3.keep n0 (by omega) (by omega) (.inl rfl)).trans x2)
  have eA : EyeAt t HA (n0 + 1) 0 i3 w0 false 0 := e3.mono (n := 0) (qA _ (by omega)) fun hne => qA _ (by have := er3 hne; omega)
  refine WC_if (p := 200 < w0.length) rfl (fun hg => ?_) (fun hg => ?_)
  · refine WC_go hE hm ?_
    refine xP rfl rfl rfl rfl ?_
    refine RXn ?_
    refine WC_ret ?_
    refine thenR ?_
    refine endR rfl ?_
    exact ⟨rfl, oA⟩
  refine WC_skip ?_
  refine thenN ?_
  refine WLv (lv1 1 rfl (lv1 2 rfl (lv1 3 rfl (lv1 4 rfl (lv1 9 rfl lv0))))) ?_
  refine WC_seq ?_
  refine WC_go hE hm ?_
  refine xP rfl rfl rfl rfl ?_
  refine RXn ?_
  refine WLv (lv1 1 rfl (lv1 2 rfl (lv1 3 rfl (lv1 4 rfl (lv1 9 rfl (lv1 10 rfl lv0)))))) ?_
  refine WC_block ?_
  generalize hncd : fcs.length = nc at *
  refine WC_loopX (X := Nat × Heap × Nat) (fun y => { T := ofL [(1, .func (.func fown) #[] #[]), (2, .func (.func fsee) #[] #[]), (3, .slice (some ⟨bc, 0, none⟩) nc nc), (4, ptrTo n0), (9, ptrTo (n0 + 1)), (10, .int .i64 (y.1 : Int))], D := [], H := y.2.1, n := y.2.2 })
    (fun y => y.1 ≤ nc ∧ (∀ q, q < nA → aget y.2.1 q = aget HA q) ∧ Fresh y.2.1 y.2.2 ∧ nA ≤ y.2.2 ∧ y.2.2 ≤ nA + y.1 * (2 * C + 600 * B + 10000)) (fun y => nc - y.1) (0, HA, nA) ⟨Nat.zero_le _, fun _ _ => rfl, frA, Nat.le_refl _, by dsimp only; omega⟩ ?_
  rintro ⟨k, Hk, nk⟩ ⟨hk, k1, k2, k3, k4⟩
  dsimp only at *
  refine WC_seq ?_
  refine WC_go hE hm ?_
  refine xP rfl rfl rfl rfl ?_
  refine xP rfl rfl rfl rfl ?_
  refine xP rfl rfl rfl rfl ?_
  refine xCmp (p := (k : Int) < (nc : Int)) rfl rfl rfl rfl ?_ ?_ <;> intro h
  case refine_2 =>
    refine RXn ?_
    refine WC_condF rfl ?_
    refine WC_exit ?_
    refine thenE ?_
    refine thenE ?_
    refine blockE ?_
    refine thenN ?_
    refine WLv lv0 ?_
    refine WC_go hE hm ?_
    refine xP rfl rfl rfl rfl ?_
    refine RXn ?_
    refine WC_ret ?_
    refine endR rfl ?_
    exact ⟨rfl, fun q hq => (k1 q (by omega)).trans (oA q hq)⟩
  have hkn : k < nc := by omega
  have hKm : (k + 1) * (2 * C + 600 * B + 10000) ≤ 16 * (2 * C + 600 * B + 10000) := Nat.mul_le_mul_right _ (by omega)
  have hKs : (k + 1) * (2 * C + 600 * B + 10000) = k * (2 * C + 600 * B + 10000) + (2 * C + 600 * B + 10000) := Nat.succ_mul _ _
  obtain ⟨fc, hfck⟩ : ∃ fc, fcs[k]? = some fc := ⟨_, List.getElem?_eq_getElem (by omega)⟩
  refine RXn ?_
  refine WC_condT rfl ?_
  refine WC_skip ?_
  refine thenN ?_
  refine WLv (lv1 1 rfl (lv1 2 rfl (lv1 3 rfl (lv1 4 rfl (lv1 9 rfl (lv1 10 rfl lv0)))))) ?_
  refine WC_seq ?_
  refine WC_block ?_
  refine WC_go hE hm ?_
  refine xP rfl rfl rfl rfl ?_
  refine xR (v := .agg xs.toArray) rfl rfl rfl (loadBox ((k1 n0 (by omega)).trans xA) hxs) ?_
  refine xC (f := fown) (args := [.agg xs.toArray]) rfl rfl rfl rfl (hown Hk nk (fun q hq => (k1 q (by omega)).trans (oA q hq)) (by omega) k2 (by omega) (by omega)) ?_
  rintro _ H5 n5 ⟨ys, rfl, y1, y2, y3, y4, y5, y6, hy⟩
  refine xNew (ob := .cells zero tx none) (mk := .ptr) y4 (by omega) rfl rfl rfl rfl ?_
  intro H6 c1 c2 c3
  refine xFill (b := n5) c1 hz y1 y2 rfl rfl (by omega) ?_
  intro H7 d1 d2
  refine RXn ?_
  refine WLv (lv1 1 rfl (lv1 2 rfl (lv1 3 rfl (lv1 4 rfl (lv1 9 rfl (lv1 10 rfl (lv1 11 rfl lv0))))))) ?_
  have f7 : Fresh H7 (n5 + 1) := fun q h1 h2 => by rw [d2 q (by omega)]; exact c3 q h1 h2
  have o7 : ∀ q, q < n5 → aget H7 q = aget H5 q := fun q hq => (d2 q (by omega)).trans (c2 q (by omega))
  obtain ⟨harg, ity, hdy, seey, seeny, wry⟩ := hy H7 n5 o7 (Nat.le_refl _) d1
  have hity : ity.length = w0.length := (seeny.tells.length).symm
  have old7 : ∀ q, q < nA → aget H7 q = aget HA q := fun q hq => (o7 q (by omega)).trans ((y3 q (by omega)).trans (k1 q hq))
  refine WC_go hE hm ?_
  refine xP rfl rfl rfl rfl ?_
  refine xP rfl rfl rfl rfl ?_
  refine xP (v := ptrAt bc (0 + k * 1)) rfl rfl rfl ((SliceAt.mk bc 0 nc nc).idx hkn) ?_
  refine xLdC (v := .func (.func fc) #[] #[]) (by rw [Nat.zero_add, Nat.mul_one, cellAt_congr ((old7 bc (by omega)).trans (oA bc hbc))]; exact hfc k fc hfck) rfl rfl ?_
  refine xC (f := fc) (args := [ptrAt n5 0]) rfl rfl rfl rfl (hcall fc (List.mem_of_getElem? hfck) H7 (n5 + 1) n5 harg ((old7 0 (by omega)).trans (oA 0 h00)) (by omega) f7 (by omega)) ?_
  rintro v H8 n8 ⟨q, j, rs, ws, hrs, s1, s2, s3, s4⟩
  refine xP rfl rfl rfl rfl ?_
  refine RXn ?_
  refine WLv (lv1 1 rfl (lv1 2 rfl (lv1 3 rfl (lv1 4 rfl (lv1 9 rfl (lv1 10 rfl (lv1 11 rfl (lv1 12 rfl lv0)))))))) ?_
  refine WC_go hE hm ?_
  refine xNew (ob := .cells [.slice none 0 0, .slice none 0 0, .bool false, .int .i64 0] te none) (mk := .ptr) s2 (by omega) rfl rfl rfl rfl ?_
  intro Ha ea1 ea2 ea3
  refine xNew (ob := .cells [.slice none 0 0, .slice none 0 0, .bool false, .int .i64 0] te none) (mk := .ptr) ea3 (by omega) rfl rfl rfl rfl ?_
  intro Hb eb1 eb2 eb3
  refine xNew (ob := .cells [.slice none 0 0, .slice none 0 0, .bool false, .int .i64 0] te none) (mk := .ptr) eb3 (by omega) rfl rfl rfl rfl ?_
  intro Hc ec1 ec2 ec3
  refine RXn ?_
  refine WLv (lv1 1 rfl (lv1 2 rfl (lv1 3 rfl (lv1 4 rfl (lv1 9 rfl (lv1 10 rfl (lv1 11 rfl (lv1 12 rfl (lv1 13 rfl (lv1 14 rfl (lv1 15 rfl lv0))))))))))) ?_
  have oc : ∀ q, q < n8 → aget Hc q = aget H8 q := fun q hq => (ec2 q (by omega)).trans ((eb2 q (by omega)).trans (ea2 q (by omega)))
  have is0 : aget Hc n8 = some (.cells [.slice none 0 0, .slice none 0 0, .bool false, .int .i64 0] te none) := (ec2 n8 (by omega)).trans ((eb2 n8 (by omega)).trans ea1)
  have ov0 : aget Hc (n8 + 1) = some (.cells [.slice none 0 0, .slice none 0 0, .bool false, .int .i64 0] te none) := (ec2 _ (by omega)).trans eb1
  have sy8 : SeenAt Hc ity hdy w0 (fun q => q = n5 ∨ (nk ≤ q ∧ q < n5)) := seeny.mono fun q hq => (oc q (by omega)).trans (s1 q (by omega))
  refine WC_go hE hm ?_
  refine xP rfl rfl rfl rfl ?_
  refine xC (f := fsee) (args := [ptrAt n8 0, ptrAt n5 0]) rfl rfl rfl rfl (seey.go sy8 (eye_new (t := t) (by omega) is0) (by omega) (fun q hq => by omega) (fun h => by cases h) ec3 (by omega) (by omega)) ?_
  rintro _ Hd nd ⟨rfl, gd⟩
  have rd := gd.room
  have ld := gd.le
  obtain ⟨id, ed, erd⟩ := gd.eye rfl
  refine RXn ?_
  refine WLv (lv1 1 rfl (lv1 2 rfl (lv1 3 rfl (lv1 4 rfl (lv1 9 rfl (lv1 10 rfl (lv1 11 rfl (lv1 12 rfl (lv1 13 rfl (lv1 14 rfl (lv1 15 rfl lv0))))))))))) ?_
  have od : ∀ q, q < n8 + 1 + 1 + 1 → q ≠ n8 → aget Hd q = aget Hc q := fun q h1 h2 => gd.keep q h1 h2 (.inl rfl)
  have rsd : RsAt P G t Hd (n5 + 1) n8 v q j rs ws B := hrs.mono fun p h1 h2 => (od p (by omega) (by omega)).trans (oc p h2)
  have hB' : 5 * (8 * B) = 40 * B := by omega
  have hmB : rs.length * (8 * B) ≤ 5 * (8 * B) := Nat.mul_le_mul_right _ hrs.few
  have hfew := hrs.few
  refine WC_go hE hm ?_
  refine xP rfl rfl rfl rfl ?_
  refine xC rfl rfl rfl rfl (look_ok hE hm hlk (rsd.look (by omega) gd.fresh (by omega) (by omega))) ?_
  rintro _ He ne ⟨rfl, te1, te2, te3, te4, te5⟩
  refine xP rfl rfl rfl rfl ?_
  refine RXn ?_
  refine WLv (lv1 1 rfl (lv1 2 rfl (lv1 3 rfl (lv1 4 rfl (lv1 9 rfl (lv1 10 rfl (lv1 11 rfl (lv1 12 rfl (lv1 13 rfl (lv1 14 rfl (lv1 15 rfl (lv1 16 rfl lv0)))))))))))) ?_
  refine WC_go hE hm ?_
  refine xP rfl rfl rfl rfl ?_
  refine xBuild [.slice none 0 0, .slice none 0 0, .bool true, .int .i64 0] rfl rfl rfl ?_
  refine xNew (ob := .cells [.slice none 0 0, .slice none 0 0, .bool true, .int .i64 0] te none) (mk := .ptr) te3 (by omega) rfl rfl rfl rfl ?_
  intro Hf f1 f2 f3
  have sy9 : SeenAt Hf ity hdy w0 (fun q => q = n5 ∨ (nk ≤ q ∧ q < n5)) := sy8.mono fun q hq => (f2 q (by omega)).trans ((te2 q (by omega)).trans (od q (by omega) (by omega)))
  refine xC (f := fsee) (args := [ptrAt ne 0, ptrAt n5 0]) rfl rfl rfl rfl (seey.go sy9 (eye_new (t := t) (by omega) f1) (by omega) (fun q hq => by omega) (fun _ => wry.same fun it hit p i hp => by have := sy8.place it hit p i hp; exact ((f2 p (by omega)).trans ((te2 p (by omega)).trans (od p (by omega) (by omega)))).trans ((oc p (by omega)).trans (s1 p (by omega)))) f3 (by omega) (by omega)) ?_
  rintro _ Hg ng ⟨rfl, gg⟩
  have rg := gg.room
  have lg := gg.le
  obtain ⟨wy, syg, _⟩ := gg.seen
  refine RXn ?_
  refine WLv (lv1 1 rfl (lv1 2 rfl (lv1 3 rfl (lv1 4 rfl (lv1 9 rfl (lv1 10 rfl (lv1 11 rfl (lv1 12 rfl (lv1 13 rfl (lv1 14 rfl (lv1 15 rfl (lv1 16 rfl lv0)))))))))))) ?_
  have og : ∀ q, q < ne → ¬ (q = n5 ∨ (nk ≤ q ∧ q < n5)) → aget Hg q = aget He q := fun q h1 h2 => (gg.keep q (by omega) (by omega) (.inr h2)).trans (f2 q (by omega))
  have ogd : ∀ q, q < nd → ¬ (q = n5 ∨ (nk ≤ q ∧ q < n5)) → aget Hg q = aget Hd q := fun q h1 h2 => (og q (by omega) h2).trans (te2 q h1)
  have oldg : ∀ q, q < nA → aget Hg q = aget HA q := fun q hq => (ogd q (by omega) (by omega)).trans ((od q (by omega) (by omega)).trans ((oc q (by omega)).trans ((s1 q (by omega)).trans (old7 q hq))))
  have eyeA : EyeAt t Hg (n0 + 1) 0 i3 w0 false 0 := eA.mono (n := 0) (oldg _ (by omega)) fun hne => oldg _ (by have := er3 hne; omega)
  have eyed : EyeAt t Hg n8 0 id w0 false 0 := ed.mono (n := 0) (ogd _ (by omega) (by omega)) fun hne => ogd _ (by have := erd hne; omega) (by have := erd hne; omega)
  have rsg : RsAt P G t Hg (n5 + 1) n8 v q j rs ws B := rsd.mono fun p h1 h2 => ogd p (by omega) (by omega)
  have toldg : Told t Hg nd ws (nd + 1) ne := te1.mono (og nd (by omega) (by omega)) fun p h1 h2 => og p (by omega) (by omega)
  refine WC_seq ?_
  refine WC_go hE hm ?_
  refine xR (v := eyeV i3 w0.length false 0) rfl rfl rfl eyeA.load ?_
  refine xR (v := eyeV id w0.length false 0) rfl rfl rfl eyed.load ?_
  refine xC rfl rfl rfl rfl (same_ok (t := t) hE hm hsm gg.fresh (by omega) (fun hne => ⟨eyeA.row hne, by have := er3 hne; omega⟩) (fun hne => ⟨eyed.row hne, by have := erd hne; omega⟩) (by omega)) ?_
  rintro _ Hh nh ⟨rfl, h1, h2, h3, h4⟩
  refine xP (v := .bool false) rfl rfl rfl rfl ?_
  refine xP rfl rfl rfl rfl ?_
  refine xP rfl rfl rfl rfl ?_
  refine xP rfl rfl rfl rfl ?_
  have rsh : RsAt P G t Hh (n5 + 1) n8 v q j rs ws B := rsg.mono fun p q1 q2 => h1 p (by omega)
  have toldh : Told t Hh nd ws (nd + 1) ne := toldg.mono (h1 nd (by omega)) fun p q1 q2 => h1 p (by omega)
  refine xC rfl rfl rfl rfl (look_ok hE hm hlk (rsh.look (by omega) h2 (by omega) (by omega))) ?_
  rintro _ Hi ni ⟨rfl, ti1, ti2, ti3, ti4, ti5⟩
  have hwsz : ∀ w ∈ ws, w.length < 8589934592 := by
    intro w hw
    obtain ⟨kk, hkk, rfl⟩ := List.getElem_of_mem hw
    have hr' : rs[kk]? = some (rs[kk]'(by rw [← hrs.len]; exact hkk)) := List.getElem?_eq_getElem (by rw [← hrs.len]; exact hkk)
    have := (hrs.seen kk _ _ hr' (List.getElem?_eq_getElem hkk)).tells.length
    have h9 := hrs.small _ (List.mem_of_getElem? hr')
    omega
  refine xC rfl rfl rfl rfl (alike_ok (t := t) (but := -1) hE hm hsm hal ti3 (by omega) (by omega) (toldh.mono (ti2 nd (by omega)) fun p q1 q2 => ti2 p (by omega)) ti1 (by omega) (by omega) (by omega) (by omega) hrs.len hrs.len (fun kk w w2 _ g1 g2 => by rw [g1] at g2; cases g2; rfl) hwsz) ?_
  rintro _ Hj nj ⟨rfl, j1, j2, j3, j4⟩
  refine xP (v := .bool false) rfl rfl rfl rfl ?_
  refine xP (v := .bool false) rfl rfl rfl rfl ?_
  refine RXn ?_
  refine WLv (lv1 1 rfl (lv1 2 rfl (lv1 3 rfl (lv1 4 rfl (lv1 9 rfl (lv1 10 rfl (lv1 11 rfl (lv1 12 rfl (lv1 14 rfl (lv1 15 rfl (lv1 55 rfl lv0))))))))))) ?_
  refine WC_condF rfl ?_
  refine WC_skip ?_
  refine thenN ?_
  refine WLv (lv1 1 rfl (lv1 2 rfl (lv1 3 rfl (lv1 4 rfl (lv1 9 rfl (lv1 10 rfl (lv1 11 rfl (lv1 12 rfl (lv1 14 rfl (lv1 15 rfl lv0)))))))))) ?_
  have oj : ∀ q, q < ng → aget Hj q = aget Hg q := fun q hq => (j1 q (by omega)).trans ((ti2 q (by omega)).trans (h1 q (by omega)))
  have syj : SeenAt Hj ity hdy wy (fun q => q = n5 ∨ (nk ≤ q ∧ q < n5)) := syg.mono fun q hq => oj q (by omega)
  have ovj : aget Hj (n8 + 1) = some (.cells [.slice none 0 0, .slice none 0 0, .bool false, .int .i64 0] te none) := (oj _ (by omega)).trans ((ogd _ (by omega) (by omega)).trans ((od _ (by omega) (by omega)).trans ov0))
  have goj : aget Hj (n8 + 1 + 1) = some (.cells [.slice none 0 0, .slice none 0 0, .bool false, .int .i64 0] te none) := (oj _ (by omega)).trans ((ogd _ (by omega) (by omega)).trans ((od _ (by omega) (by omega)).trans ec1))
  refine WC_go hE hm ?_
  refine xP rfl rfl rfl rfl ?_
  refine xC (f := fsee) (args := [ptrAt (n8 + 1) 0, ptrAt n5 0]) rfl rfl rfl rfl (seey.go syj (eye_new (t := t) (by omega) ovj) (by omega) (fun q hq => by omega) (fun h => by cases h) j2 (by omega) (by omega)) ?_
  rintro _ HB nB ⟨rfl, gB⟩
  have rB := gB.room
  have lB := gB.le
  obtain ⟨iB, eB, erB⟩ := gB.eye rfl
  have hwy : wy.length = w0.length := by rw [syg.tells.length]; exact hity
  refine RXn ?_
  refine WLv (lv1 1 rfl (lv1 2 rfl (lv1 3 rfl (lv1 4 rfl (lv1 9 rfl (lv1 10 rfl (lv1 11 rfl (lv1 12 rfl (lv1 14 rfl (lv1 15 rfl lv0)))))))))) ?_
  have oB : ∀ q, q < nj → q ≠ n8 + 1 → aget HB q = aget Hj q := fun q h1 h2 => gB.keep q h1 h2 (.inl rfl)
  have rsB : RsAt P G t HB (n5 + 1) n8 v q j rs ws B := rsg.mono fun p q1 q2 => (oB p (by omega) (by omega)).trans (oj p (by omega))
  have oldB : ∀ q, q < nA → aget HB q = aget HA q := fun q hq => (oB q (by omega) (by omega)).trans ((oj q (by omega)).trans (oldg q hq))
  have syB : SeenAt HB ity hdy wy (fun q => q = n5 ∨ (nk ≤ q ∧ q < n5)) := syj.mono fun q hq => oB q (by omega) (by omega)
  have goB : aget HB (n8 + 1 + 1) = some (.cells [.slice none 0 0, .slice none 0 0, .bool false, .int .i64 0] te none) := (oB _ (by omega) (by omega)).trans goj
  refine WC_seq ?_
  refine WC_go hE hm ?_
  refine xP rfl rfl rfl rfl ?_
  refine RXn ?_
  refine WLv (lv1 1 rfl (lv1 2 rfl (lv1 3 rfl (lv1 4 rfl (lv1 9 rfl (lv1 10 rfl (lv1 11 rfl (lv1 12 rfl (lv1 14 rfl (lv1 15 rfl (lv1 17 rfl lv0))))))))))) ?_
  refine WC_block ?_
  generalize hmr : rs.length = m at *
  have hsl : SliceAt v q j m := by rw [← hmr]; exact hrs.slice
  refine WC_loopX (X := Nat × Heap × Nat) (fun y => { T := ofL [(1, .func (.func fown) #[] #[]), (2, .func (.func fsee) #[] #[]), (3, .slice (some ⟨bc, 0, none⟩) nc nc), (4, ptrTo n0), (9, ptrTo (n0 + 1)), (10, .int .i64 (k : Int)), (11, ptrTo n5), (12, v), (14, ptrTo (n8 + 1)), (15, ptrTo (n8 + 1 + 1)), (17, .int .i64 (y.1 : Int))], D := [], H := y.2.1, n := y.2.2 })
    (fun y => y.1 ≤ m ∧ (∃ ws', RsAt P G t y.2.1 (n5 + 1) n8 v q j rs ws' B) ∧ (∀ p, p < nB → ¬ (n5 + 1 ≤ p ∧ p < n8) → aget y.2.1 p = aget HB p) ∧ Fresh y.2.1 y.2.2 ∧ nB ≤ y.2.2 ∧ y.2.2 ≤ nB + y.1 * (88 * B + 40)) (fun y => m - y.1) (0, HB, nB) ⟨Nat.zero_le _, ⟨ws, rsB⟩, fun _ _ _ => rfl, gB.fresh, Nat.le_refl _, by dsimp only; omega⟩ ?_
  rintro ⟨c, Hl, nl⟩ ⟨hcm, ⟨wl, rsl⟩, l1, l2, l4, l5⟩
  dsimp only at *
  have hcmul : c * (88 * B + 40) ≤ 5 * (88 * B + 40) := Nat.mul_le_mul_right _ (by omega)
  refine WC_seq ?_
  refine WC_go hE hm ?_
  refine xP rfl rfl rfl rfl ?_
  refine xP rfl rfl rfl rfl ?_
  refine xP (v := .int .i64 (m : Int)) rfl rfl rfl hsl.lenS ?_
  refine xCmp (p := (c : Int) < (m : Int)) rfl rfl rfl rfl ?_ ?_ <;> intro hcl
  · have hcm' : c < m := by omega
    have hcS : (c + 1) * (88 * B + 40) = c * (88 * B + 40) + (88 * B + 40) := Nat.succ_mul _ _
    refine RXn ?_
    refine WC_condT rfl ?_
    refine WC_skip ?_
    refine thenN ?_
    refine WLv (lv1 1 rfl (lv1 2 rfl (lv1 3 rfl (lv1 4 rfl (lv1 9 rfl (lv1 10 rfl (lv1 11 rfl (lv1 12 rfl (lv1 14 rfl (lv1 15 rfl (lv1 17 rfl lv0))))))))))) ?_
    refine WC_seq ?_
    refine WC_block ?_
    refine WC_go hE hm ?_
    refine xP rfl rfl rfl rfl ?_
    refine xC rfl rfl rfl rfl (look_ok hE hm hlk (rsl.look (by omega) l2 (by omega) (by omega))) ?_
    rintro _ Hm nm ⟨rfl, tm1, tm2, tm3, tm4, tm5⟩
    rw [hmr] at tm5 ⊢
    refine xP rfl rfl rfl rfl ?_
    refine RXn ?_
    refine WLv (lv1 1 rfl (lv1 2 rfl (lv1 3 rfl (lv1 4 rfl (lv1 9 rfl (lv1 10 rfl (lv1 11 rfl (lv1 12 rfl (lv1 14 rfl (lv1 15 rfl (lv1 17 rfl (lv1 18 rfl lv0)))))))))))) ?_
    have rsm : RsAt P G t Hm (n5 + 1) n8 v q j rs wl B := rsl.mono fun p q1 q2 => tm2 p (by omega)
    obtain ⟨r, w, hr, hw, hrm⟩ := rsm.get (k := c) (by omega)
    have hq : n5 + 1 ≤ q ∧ q < n8 := rsm.place (by rintro rfl; simp at hr)
    refine WC_go hE hm ?_
    refine xP rfl rfl rfl rfl ?_
    refine xP rfl rfl rfl rfl ?_
    refine xP (v := ptrAt q (j + c * 1)) rfl rfl rfl (hsl.idx hcm') ?_
    refine xLdC (v := r.clo) (by rw [Nat.mul_one]; exact rsm.clo c r hr) rfl rfl ?_
    refine xP rfl rfl rfl rfl ?_
    refine xAdd rfl rfl (by omega) ?_
    refine xMul rfl rfl (by omega) ?_
    refine xBuild [.slice none 0 0, .slice none 0 0, .bool true, .int .i64 (1000000 * ((c : Int) + 1))] rfl rfl rfl ?_
    refine xNew (ob := .cells [.slice none 0 0, .slice none 0 0, .bool true, .int .i64 (1000000 * ((c : Int) + 1))] te none) (mk := .ptr) tm3 (by omega) rfl rfl rfl rfl ?_
    intro Hn p1 p2 p3
    have rsn : RsAt P G t Hn (n5 + 1) n8 v q j rs wl B := rsm.mono fun p q1 q2 => p2 p (by omega)
    have hsmall := rsn.small r hrm
    refine xC (f := r.f) (args := r.as ++ [ptrAt nm 0] ++ r.bs) rfl rfl rfl rfl (by rw [List.append_assoc]; exact (rsn.sees r hrm).go (rsn.seen c r w hr hw) (eye_new (t := t) (by omega) p1) (by omega) (fun p hp => by omega) (fun _ => rsn.wr r hrm) p3 (by omega) (by omega)) ?_
    rintro _ Ho no ⟨rfl, go⟩
    have ro := go.room
    have lo' := go.le
    obtain ⟨wo, rso, hwo⟩ := rsn.mark hr hw go (by omega) (by omega)
    refine RXn ?_
    refine WLv (lv1 1 rfl (lv1 2 rfl (lv1 3 rfl (lv1 4 rfl (lv1 9 rfl (lv1 10 rfl (lv1 11 rfl (lv1 12 rfl (lv1 14 rfl (lv1 15 rfl (lv1 17 rfl (lv1 18 rfl lv0)))))))))))) ?_
    have oo : ∀ p, p < nm → ¬ (n5 + 1 ≤ p ∧ p < n8) → aget Ho p = aget Hm p := fun p q1 q2 => (go.keep p (by omega) (by omega) (.inr q2)).trans (p2 p (by omega))
    have toldo : Told t Ho nl wl (nl + 1) nm := tm1.mono (oo nl (by omega) (by omega)) fun p q1 q2 => oo p (by omega) (by omega)
    refine WC_go hE hm ?_
    refine xP rfl rfl rfl rfl ?_
    refine xP rfl rfl rfl rfl ?_
    refine xC rfl rfl rfl rfl (look_ok hE hm hlk (rso.look (by omega) go.fresh (by omega) (by omega))) ?_
    rintro _ Hp np ⟨rfl, tp1, tp2, tp3, tp4, tp5⟩
    rw [hmr] at tp5 ⊢
    refine xP rfl rfl rfl rfl ?_
    have hwlz : ∀ w ∈ wl, w.length < 8589934592 := by
      intro w hw
      obtain ⟨kk, hkk, rfl⟩ := List.getElem_of_mem hw
      have hr' : rs[kk]? = some (rs[kk]'(by rw [← rsm.len]; exact hkk)) := List.getElem?_eq_getElem (by rw [← rsm.len]; exact hkk)
      have := (rsm.seen kk _ _ hr' (List.getElem?_eq_getElem hkk)).tells.length
      have h9 := rsm.small _ (List.mem_of_getElem? hr')
      omega
    refine xC rfl rfl rfl rfl (alike_ok (t := t) (but := (c : Int)) hE hm hsm hal tp3 (by omega) (by omega) (toldo.mono (tp2 nl (by omega)) fun p q1 q2 => tp2 p (by omega)) tp1 (by omega) (by omega) (by omega) (by omega) (by rw [rsm.len, hmr]) (by rw [rso.len, hmr]) (fun kk w w2 g0 g1 g2 => by rw [hwo kk (by omega), g1] at g2; cases g2; rfl) hwlz) ?_
    rintro _ Hq nq ⟨rfl, t1, t2, t3, t4⟩
    refine xP (v := .bool false) rfl rfl rfl rfl ?_
    refine RXn ?_
    refine WLv (lv1 1 rfl (lv1 2 rfl (lv1 3 rfl (lv1 4 rfl (lv1 9 rfl (lv1 10 rfl (lv1 11 rfl (lv1 12 rfl (lv1 14 rfl (lv1 15 rfl (lv1 17 rfl (lv1 81 rfl lv0)))))))))))) ?_
    refine WC_condF rfl ?_
    refine WC_skip ?_
    refine blockN ?_
    refine thenN ?_
    refine WLv (lv1 1 rfl (lv1 2 rfl (lv1 3 rfl (lv1 4 rfl (lv1 9 rfl (lv1 10 rfl (lv1 11 rfl (lv1 12 rfl (lv1 14 rfl (lv1 15 rfl (lv1 17 rfl lv0))))))))))) ?_
    refine WC_steps hE hm ?_
    refine xP rfl rfl rfl rfl ?_
    refine xAdd rfl rfl (by omega) ?_
    refine xP rfl rfl rfl rfl ?_
    refine RXn ?_
    have hmB2 : m * (8 * B) ≤ 5 * (8 * B) := Nat.mul_le_mul_right _ (by omega)
    refine thenN ⟨(c + 1, Hq, nq), ⟨by dsimp only; omega, ⟨wo, rso.mono fun p q1 q2 => (t1 p (by omega)).trans (tp2 p (by omega))⟩, fun p q1 q2 => (t1 p (by omega)).trans ((tp2 p (by omega)).trans ((oo p (by omega) q2).trans ((tm2 p (by omega)).trans (l1 p q1 q2)))), t2, by dsimp only; omega, by dsimp only; omega⟩, by dsimp only; omega,
      Le.live (lv1 1 rfl (lv1 2 rfl (lv1 3 rfl (lv1 4 rfl (lv1 9 rfl (lv1 10 rfl (lv1 11 rfl (lv1 12 rfl (lv1 14 rfl (lv1 15 rfl (lv1 17 rfl lv0)))))))))))⟩
  · refine RXn ?_
    refine WC_condF rfl ?_
    refine WC_exit ?_
    refine thenE ?_
    refine thenE ?_
    refine blockE ?_
    refine thenN ?_
    refine WLv (lv1 1 rfl (lv1 2 rfl (lv1 3 rfl (lv1 4 rfl (lv1 9 rfl (lv1 10 rfl (lv1 11 rfl (lv1 14 rfl (lv1 15 rfl lv0))))))))) ?_
    have sl : SeenAt Hl ity hdy wy (fun q => q = n5 ∨ (nk ≤ q ∧ q < n5)) := syB.mono fun p hp => l1 p (by omega) (by omega)
    have gol : aget Hl (n8 + 1 + 1) = some (.cells [.slice none 0 0, .slice none 0 0, .bool false, .int .i64 0] te none) := (l1 _ (by omega) (by omega)).trans goB
    refine WC_go hE hm ?_
    refine xP rfl rfl rfl rfl ?_
    refine xC (f := fsee) (args := [ptrAt (n8 + 1 + 1) 0, ptrAt n5 0]) rfl rfl rfl rfl (seey.go sl (eye_new (t := t) (by omega) gol) (by omega) (fun q hq => by omega) (fun h => by cases h) l2 (by omega) (by omega)) ?_
    rintro _ Hr nr ⟨rfl, gr⟩
    have rr := gr.room
    have lr := gr.le
    obtain ⟨ir, er, err⟩ := gr.eye rfl
    refine RXn ?_
    refine WLv (lv1 1 rfl (lv1 2 rfl (lv1 3 rfl (lv1 4 rfl (lv1 9 rfl (lv1 10 rfl (lv1 14 rfl (lv1 15 rfl lv0)))))))) ?_
    have or' : ∀ p, p < nB → ¬ (n5 + 1 ≤ p ∧ p < n8) → p ≠ n8 + 1 + 1 → aget Hr p = aget HB p := fun p q1 q2 q3 => (gr.keep p (by omega) q3 (.inl rfl)).trans (l1 p q1 q2)
    have eBr : EyeAt t Hr (n8 + 1) 0 iB wy false 0 := eB.mono (n := 0) (or' _ (by omega) (by omega) (by omega)) fun hne => or' _ (by have := erB hne; omega) (by have := erB hne; omega) (by have := erB hne; omega)
    refine WC_go hE hm ?_
    refine xR (v := eyeV iB wy.length false 0) rfl rfl rfl eBr.load ?_
    refine xR (v := eyeV ir wy.length false 0) rfl rfl rfl er.load ?_
    refine xC rfl rfl rfl rfl (same_ok (t := t) hE hm hsm gr.fresh (by omega) (fun hne => ⟨eBr.row hne, by have := erB hne; omega⟩) (fun hne => ⟨er.row hne, by have := err hne; omega⟩) (by omega)) ?_
    rintro _ Hs ns ⟨rfl, u1, u2, u3, u4⟩
    refine xP (v := .bool false) rfl rfl rfl rfl ?_
    refine RXn ?_
    refine WLv (lv1 1 rfl (lv1 2 rfl (lv1 3 rfl (lv1 4 rfl (lv1 9 rfl (lv1 10 rfl (lv1 87 rfl lv0))))))) ?_
    refine WC_condF rfl ?_
    refine WC_skip ?_
    refine blockN ?_
    refine thenN ?_
    refine WLv (lv1 1 rfl (lv1 2 rfl (lv1 3 rfl (lv1 4 rfl (lv1 9 rfl (lv1 10 rfl lv0)))))) ?_
    refine WC_steps hE hm ?_
    refine xP rfl rfl rfl rfl ?_
    refine xAdd rfl rfl (by omega) ?_
    refine xP rfl rfl rfl rfl ?_
    refine RXn ?_
    refine thenN ⟨(k + 1, Hs, ns), ⟨by dsimp only; omega, fun p hp => (u1 p (by omega)).trans ((or' p (by omega) (by omega) (by omega)).trans (oldB p hp)), u2, by dsimp only; omega, by dsimp only; omega⟩, by dsimp only; omega, Le.live (lv1 1 rfl (lv1 2 rfl (lv1 3 rfl (lv1 4 rfl (lv1 9 rfl (lv1 10 rfl lv0))))))⟩
end
end Go.Cs
set_option maxRecDepth 1000000
namespace Go.Cs
section
variable {P : Program} {G : List Nat} {E : Env}
structure Back (S : List Nat) (Ls : List (Nat × AObj)) (ns : Nat) (H : Heap) (n : Nat) (vs : Value) (L' : List (Nat × AObj)) (ns' : Nat) (v : Value) (H' : Heap) (n' : Nat) : Prop where
  val : v = renV (sigC (sigL S) ns n) vs
  num : n' = n + (ns' - ns)
  le : ns ≤ ns'
  fresh : Fresh H' n'
  at' : ∀ (k : Nat) (o : AObj), L'.lookup k = some o → aget H' (sigC (sigL S) ns n k) = some (renO (sigC (sigL S) ns n) o)
  keep : ∀ q, q < n → (∀ i, i < ns → lvB Ls i = true → sigL S i ≠ q) → aget H' q = aget H q
section
variable {ms : List Nat} {i : Nat} {r : List (Nat × Step)} {recs : List Rec} {Q : St → Prop} {vs : List Value} {k : Kind} {args : List Operand} {d : Option Tmp} {g : Option (Tmp × Bool)} {L : List (Nat × Value)} {D : List Value} {H : Heap} {n : Nat}
theorem dNew {ob : AObj} {mk : Mk} (hfr : Fresh H n) (hn : n < lim) (hc : k.cls = .A) (hw : wantT (.lst L) g = some true) (ha : evs G (.lst L) args = some vs) (hv : semA k vs = some (ob, mk))
    (h : ∀ H1 : Heap, aget H1 n = some ob → (∀ q, q ≠ n → aget H1 q = aget H q) → Fresh H1 (n + 1) → RD P G E ms r (recs ++ [⟨i, ⟨k, args, d, g⟩, .a vs ob mk n⟩]) Q { T := .lst (putL d (mk.val n) L), D := D, H := H1, n := n + 1 }) :
    RD P G E ms ((i, ⟨k, args, d, g⟩) :: r) recs Q { T := .lst L, D := D, H := H, n := n } :=
  dA hc hw ha hv (hfr.at hn) (blt_lim hn) (h _ (by simp [aget_aput]) (fun q hq => by rw [aget_aput, if_neg (Ne.symm hq)]) fun q h1 h2 => by rw [aget_aput, if_neg (by omega)]; exact hfr q (by omega) h2)
end
section
variable {r : List Step} {Q : St → Prop} {args : List Operand} {d : Option Tmp} {g : Option (Tmp × Bool)} {L : List (Nat × Value)} {D : List Value} {H : Heap} {n : Nat}
theorem xStO {u : Value} {b o : Nat} {cs : List Value} {t : TypeId} {gr : Option Nat} (cs' : List Value) (hb : aget H b = some (.cells cs t gr)) (ho : o + 1 ≤ cs.length) (hu : u.cells.toList = [u]) (hu1 : cell1 u = true) (hcs : splice cs o [u] = cs') (hw : wantT (.lst L) g = some true) (ha : evs G (.lst L) args = some [.pointer (some ⟨b, o, none⟩), u]) (hn : n < lim)
    (h : ∀ H1 : Heap, aget H1 b = some (.cells cs' t gr) → (∀ q, q ≠ b → aget H1 q = aget H q) → RX P G E r Q { T := .lst (putL d undef L), D := D, H := H1, n := n }) :
    RX P G E (⟨.store 1, args, d, g⟩ :: r) Q { T := .lst L, D := D, H := H, n := n } := by
  subst hcs
  exact xSt hw ha hb ho hu hu1 (blt_lim hn) (h _ (by simp [aget_aput]) fun q hq => by rw [aget_aput, if_neg (Ne.symm hq)])
end
end
end Go.Cs
