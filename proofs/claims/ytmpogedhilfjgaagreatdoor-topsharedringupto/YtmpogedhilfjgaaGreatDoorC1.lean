/- A part of the proof that the law spadilletop.TopSharedRing answers true and leaves its argument as it was (C1) -/
import Derived.Test.YtmpogedhilfjgaaGreatDoorCsI
import Derived.Test.YtmpogedhilfjgaaGreatDoorCsG
import Derived.Test.YtmpogedhilfjgaaGreatDoorRows
import Derived.Test.YtmpogedhilfjgaaGreatDoorCsM
set_option linter.all false
set_option maxRecDepth 1000000
open Go Go.Cs
namespace Go.Proofs.YtmpogedhilfjgaaGreatDoor
noncomputable def E0 : Env := { meth := methP Tryz.prog }
theorem hE : EnvOk Tryz.prog E0 := by
 constructor
 intro t name f h
 unfold E0 at h
 exact h
theorem hm : Tryz.prog.follows .mixedOrders = true := by kernel_rfl
def gl : AObj := .cells ((List.range 20).map fun i => .int .u64 (10^i)) 213 none
def H0 : Heap := ofL [(0, gl)]
theorem glOk : GlobOk [0] (ofL [(0, gl)]) 1 := by
 intro g hg
 simp only [List.mem_cons, List.not_mem_nil, or_false] at hg
 subst hg
 exact ⟨by decide, _, _, rfl, by decide⟩
theorem glOnly : ∀ i, i ∉ [0] → aget (ofL [(0, gl)]) i = none := by
 intro i hi
 simp only [List.mem_cons, List.not_mem_nil, or_false] at hi
 show (bif Nat.beq 0 i then some gl else none) = none
 cases h : Nat.beq 0 i with
 | true => exact absurd (Nat.eq_of_beq_eq_true h).symm hi
 | false => rfl
theorem pureF {R : Value → Prop} {f : FuncId} {args : List Value} (ha : idsL args = []) (h : F Tryz.prog [0] f args (ofL [(0, gl)]) 1 fun v H' n' => R v ∧ idsV v = [] ∧ aget H' 0 = some gl) {H : Heap} {n : Nat} (hg : aget H 0 = some gl) :
 F Tryz.prog [0] f args H n fun v H' n' => R v ∧ H' = H ∧ n' = n := by
 refine F_pure ha glOk glOnly ?_ (h.mono fun v H' n' ⟨h1, h2, h3⟩ => ⟨h1, h2, ?_⟩)
 · intro g hg'
   simp only [List.mem_cons, List.not_mem_nil, or_false] at hg'
   subst hg'; exact hg
 · intro g hg'
   simp only [List.mem_cons, List.not_mem_nil, or_false] at hg'
   subst hg'; exact h3
end Go.Proofs.YtmpogedhilfjgaaGreatDoor
set_option maxRecDepth 1000000
set_option maxHeartbeats 4000000
open Go Go.Cs
namespace Go.Proofs.YtmpogedhilfjgaaGreatDoor
theorem fr0 : Fresh (ofL [(0, gl)]) 1 := fresh_ofL rfl
def stampV (p : Int) (s : Nat) : Value := .agg #[.int .i64 p, .int .u32 (s : Int)]
theorem wrapU32 (x : Int) : ∃ m : Nat, m < 2 ^ 32 ∧ IntKind.u32.wrap x = (m : Int) := by
 have h : 0 ≤ IntKind.u32.wrap x ∧ IntKind.u32.wrap x < 4294967296 := by
  unfold IntKind.wrap; simp [IntKind.bits, IntKind.signed]; omega
 exact ⟨(IntKind.u32.wrap x).toNat, by omega, by omega⟩
theorem tmod_bounds {x p : Int} (hp : 1 ≤ p) : -p < x.tmod p ∧ x.tmod p < p := by
 have h1 := Int.tmod_lt_of_pos x (show 0 < p by omega)
 have h2 := Int.tmod_lt_of_pos (-x) (show 0 < p by omega)
 rw [Int.neg_tmod] at h2
 omega
theorem on_dist {x p : Int} (hp : 1 ≤ p) (h0 : x ≠ 0) (h1 : -p < x) (h2 : x < p) : 1 ≤ (x.tmod p + p) % p := by
 have ht : x.tmod p = x := by
  rcases Int.lt_or_le x 0 with h | h
  · have := Int.tmod_eq_of_lt (a := -x) (b := p) (by omega) (by omega)
    rw [Int.neg_tmod] at this
    omega
  · exact Int.tmod_eq_of_lt h h2
 rw [ht]
 rcases Int.lt_or_le x 0 with h | h
 · rw [Int.emod_eq_of_lt (by omega) (by omega)]; omega
 · rw [Int.add_emod_right, Int.emod_eq_of_lt h h2]; omega
def c78 : FC := FC.mk 11 (.seq (.steps [⟨.box 75, [.tmp 0], some 2, none⟩,⟨.move, [.const (.bool false)], some 4, none⟩]) (.seq (.steps [⟨.fieldAddr 1, [.tmp 2], some 5, none⟩,⟨.load1, [.tmp 5], some 6, none⟩,⟨.move, [.tmp 1], some 7, none⟩,⟨.bin .shr, [.tmp 6, .tmp 7], some 8, none⟩,⟨.bin .and, [.tmp 8, .const (.int .u32 1)], some 9, none⟩,⟨.bin .eql, [.tmp 9, .const (.int .u32 1)], some 10, none⟩,⟨.move, [.tmp 10], some 4, none⟩]) (.ret))) [.tmp 4]
theorem c78_ok : compF Tryz.prog 78 = some c78 := by kernel_rfl
theorem has_ok {p x : Int} {s : Nat} (hs : s < 2 ^ 32) (hx : 0 ≤ x) {H : Heap} {n : Nat} (hg : aget H 0 = some gl) : F Tryz.prog [0] 78 [stampV p s, .int .i64 x] H n (fun v H' n' => (∃ b, v = .bool b) ∧ H' = H ∧ n' = n) := by
 refine pureF rfl ?_ hg
 refine F_of_comp c78_ok rfl ?_
 have hlim := limv
 have g0 : aget (ofL [(0, gl)]) 0 = some gl := rfl
 refine WC_go hE hm ?_
 refine xNew (ob := .cells [.int .i64 p, .int .u32 (s : Int)] 75 none) (mk := .ptr) fr0 (by omega) rfl rfl rfl rfl ?_
 intro H1 a2 a3 a4
 have f5 := (a3 _ (by omega)).trans g0
 refine xP rfl rfl rfl rfl ?_
 refine RXn ?_
 refine WLv (lv1 1 rfl (lv1 2 rfl lv0)) ?_
 refine WC_go hE hm ?_
 refine xP rfl rfl rfl rfl ?_
 refine xR (v := .int .u32 (s : Int)) rfl rfl rfl (ld1 (o := 0 + 1) a2 rfl) ?_
 refine xP rfl rfl rfl rfl ?_
 refine xShr rfl rfl rfl (by omega) ?_
 refine xAnd rfl rfl rfl (Nat.lt_of_le_of_lt (Nat.shiftRight_le _ _) hs) (by decide) ?_
 refine xEq rfl rfl ?_ ?_ <;> intro h10
 · skip
   refine xP rfl rfl rfl rfl ?_
   refine RXn ?_
   refine WLv (lv1 4 rfl lv0) ?_
   refine WC_ret ?_
   refine endR rfl ?_
   exact ⟨⟨_, rfl⟩, rfl, f5⟩
 · skip
   refine xP rfl rfl rfl rfl ?_
   refine RXn ?_
   refine WLv (lv1 4 rfl lv0) ?_
   refine WC_ret ?_
   refine endR rfl ?_
   exact ⟨⟨_, rfl⟩, rfl, f5⟩
def c57 : FC := FC.mk 15 (.seq (.steps [⟨.box 75, [.tmp 0], some 2, none⟩,⟨.move, [.const (.int .i64 0)], some 4, none⟩]) (.seq (.steps [⟨.move, [.tmp 1], some 5, none⟩,⟨.fieldAddr 0, [.tmp 2], some 6, none⟩,⟨.load1, [.tmp 6], some 7, none⟩,⟨.bin .rem, [.tmp 5, .tmp 7], some 8, none⟩,⟨.fieldAddr 0, [.tmp 2], some 9, none⟩,⟨.load1, [.tmp 9], some 10, none⟩,⟨.bin .add, [.tmp 8, .tmp 10], some 11, none⟩,⟨.fieldAddr 0, [.tmp 2], some 12, none⟩,⟨.load1, [.tmp 12], some 13, none⟩,⟨.bin .rem, [.tmp 11, .tmp 13], some 14, none⟩,⟨.move, [.tmp 14], some 4, none⟩]) (.ret))) [.tmp 4]
theorem c57_ok : compF Tryz.prog 57 = some c57 := by kernel_rfl
theorem on_ok {p x : Int} {s : Nat} (hp : 1 ≤ p ∧ p ≤ 21) {H : Heap} {n : Nat} (hg : aget H 0 = some gl) : F Tryz.prog [0] 57 [stampV p s, .int .i64 x] H n (fun v H' n' => (∃ y, v = .int .i64 y ∧ 0 ≤ y ∧ y < p ∧ (x ≠ 0 → -p < x → x < p → 1 ≤ y)) ∧ H' = H ∧ n' = n) := by
 refine pureF rfl ?_ hg
 refine F_of_comp c57_ok rfl ?_
 have hlim := limv
 have g0 : aget (ofL [(0, gl)]) 0 = some gl := rfl
 refine WC_go hE hm ?_
 refine xNew (ob := .cells [.int .i64 p, .int .u32 (s : Int)] 75 none) (mk := .ptr) fr0 (by omega) rfl rfl rfl rfl ?_
 intro H1 a2 a3 a4
 have f5 := (a3 _ (by omega)).trans g0
 refine xP rfl rfl rfl rfl ?_
 refine RXn ?_
 refine WLv (lv1 1 rfl (lv1 2 rfl lv0)) ?_
 refine WC_go hE hm ?_
 refine xP rfl rfl rfl rfl ?_
 refine xP rfl rfl rfl rfl ?_
 refine xR (v := .int .i64 p) rfl rfl rfl (ld1 (o := 0 + 0) a2 rfl) ?_
 refine xP (v := .int .i64 (x.tmod p)) rfl rfl rfl (by show (if p = 0 then none else some (Value.int .i64 (x.tmod p))) = _; rw [if_neg (by omega)]) ?_
 have hb := tmod_bounds (x := x) hp.1
 refine xP rfl rfl rfl rfl ?_
 refine xR (v := .int .i64 p) rfl rfl rfl (ld1 (o := 0 + 0) a2 rfl) ?_
 refine xAdd rfl rfl (by omega) ?_
 refine xP rfl rfl rfl rfl ?_
 refine xR (v := .int .i64 p) rfl rfl rfl (ld1 (o := 0 + 0) a2 rfl) ?_
 refine xRem rfl rfl ⟨by omega, by omega⟩ ?_
 have hc1 := Int.emod_nonneg (x.tmod p + p) (show p ≠ 0 by omega)
 have hc2 := Int.emod_lt_of_pos (x.tmod p + p) (show 0 < p by omega)
 refine xP rfl rfl rfl rfl ?_
 refine RXn ?_
 refine WLv (lv1 4 rfl lv0) ?_
 refine WC_ret ?_
 refine endR rfl ?_
 exact ⟨⟨_, rfl, hc1, hc2, on_dist hp.1⟩, rfl, f5⟩
def c59 : FC := FC.mk 26 (.seq (.steps [⟨.box 75, [.tmp 0], some 2, none⟩,⟨.alloc 75 [.int .i64 0, .int .u32 0], [], some 4, none⟩]) (.seq (.steps [⟨.fieldAddr 0, [.tmp 2], some 6, none⟩,⟨.load1, [.tmp 6], some 7, none⟩,⟨.bin .shl, [.const (.int .u32 1), .tmp 7], some 8, none⟩,⟨.bin .sub, [.tmp 8, .const (.int .u32 1)], some 9, none⟩,⟨.move, [.tmp 9], some 5, none⟩]) (.seq (.steps [⟨.fieldAddr 1, [.tmp 2], some 10, none⟩,⟨.load1, [.tmp 10], some 11, none⟩,⟨.move, [.tmp 1], some 12, none⟩,⟨.bin .shl, [.tmp 11, .tmp 12], some 13, none⟩,⟨.fieldAddr 1, [.tmp 2], some 14, none⟩,⟨.load1, [.tmp 14], some 15, none⟩,⟨.fieldAddr 0, [.tmp 2], some 16, none⟩,⟨.load1, [.tmp 16], some 17, none⟩,⟨.move, [.tmp 1], some 18, none⟩,⟨.bin .sub, [.tmp 17, .tmp 18], some 19, none⟩,⟨.bin .shr, [.tmp 15, .tmp 19], some 20, none⟩,⟨.bin .or, [.tmp 13, .tmp 20], some 21, none⟩,⟨.move, [.tmp 5], some 22, none⟩,⟨.bin .and, [.tmp 21, .tmp 22], some 23, none⟩,⟨.fieldAddr 1, [.tmp 2], some 24, none⟩,⟨.store 1, [.tmp 24, .tmp 23], none, none⟩]) (.seq (.steps [⟨.loadN 2, [.tmp 2], some 25, none⟩,⟨.store 2, [.tmp 4, .tmp 25], none, none⟩]) (.ret))))) [.cellN 4 2]
theorem c59_ok : compF Tryz.prog 59 = some c59 := by kernel_rfl
theorem turned_ok {p y : Int} {s : Nat} (hp : 1 ≤ p ∧ p ≤ 21) (hs : s < 2 ^ 32) (hy : 0 ≤ y ∧ y ≤ p) {H : Heap} {n : Nat} (hg : aget H 0 = some gl) : F Tryz.prog [0] 59 [stampV p s, .int .i64 y] H n (fun v H' n' => (∃ u : Nat, u < 2 ^ 32 ∧ v = stampV p u) ∧ H' = H ∧ n' = n) := by
 refine pureF rfl ?_ hg
 refine F_of_comp c59_ok rfl ?_
 have hlim := limv
 have g0 : aget (ofL [(0, gl)]) 0 = some gl := rfl
 refine WC_go hE hm ?_
 refine xNew (ob := .cells [.int .i64 p, .int .u32 (s : Int)] 75 none) (mk := .ptr) fr0 (by omega) rfl rfl rfl rfl ?_
 intro H1 a2 a3 a4
 have f5 := (a3 _ (by omega)).trans g0
 refine xNew (ob := .cells [.int .i64 0, .int .u32 0] 75 none) (mk := .ptr) a4 (by omega) rfl rfl rfl rfl ?_
 intro H6 a7 a8 a9
 have f10 := (a8 _ (by omega)).trans f5
 have f11 := (a8 _ (by omega)).trans a2
 refine RXn ?_
 refine WLv (lv1 1 rfl (lv1 2 rfl (lv1 4 rfl lv0))) ?_
 refine WC_go hE hm ?_
 refine xP rfl rfl rfl rfl ?_
 refine xR (v := .int .i64 p) rfl rfl rfl (ld1 (o := 0 + 0) f11 rfl) ?_
 refine xShl (x := 1) rfl rfl rfl (by omega) ?_
 refine xP rfl rfl rfl rfl ?_
 obtain ⟨m9, hm9, e9⟩ := wrapU32 ((((1 <<< min p.toNat 32) % 2 ^ 32 : Nat) : Int) - 1)
 rw [show IntKind.u32.bits = 32 from rfl]
 rw [e9]
 refine xP rfl rfl rfl rfl ?_
 refine RXn ?_
 refine WLv (lv1 1 rfl (lv1 2 rfl (lv1 4 rfl (lv1 5 rfl lv0)))) ?_
 refine WC_go hE hm ?_
 refine xP rfl rfl rfl rfl ?_
 refine xR (v := .int .u32 (s : Int)) rfl rfl rfl (ld1 (o := 0 + 1) f11 rfl) ?_
 refine xP rfl rfl rfl rfl ?_
 refine xShl (x := s) rfl rfl rfl (by omega) ?_
 refine xP rfl rfl rfl rfl ?_
 refine xR (v := .int .u32 (s : Int)) rfl rfl rfl (ld1 (o := 0 + 1) f11 rfl) ?_
 refine xP rfl rfl rfl rfl ?_
 refine xR (v := .int .i64 p) rfl rfl rfl (ld1 (o := 0 + 0) f11 rfl) ?_
 refine xP rfl rfl rfl rfl ?_
 refine xSub rfl rfl (by omega) ?_
 refine xShr (x := s) rfl rfl rfl (by omega) ?_
 refine xOr rfl rfl rfl (Nat.mod_lt _ (by decide)) (Nat.lt_of_le_of_lt (Nat.shiftRight_le _ _) hs) ?_
 refine xP rfl rfl rfl rfl ?_
 refine xAnd rfl rfl rfl (Nat.or_lt_two_pow (Nat.mod_lt _ (by decide)) (Nat.lt_of_le_of_lt (Nat.shiftRight_le _ _) hs)) hm9 ?_
 have hu := Nat.lt_of_le_of_lt (Nat.and_le_right (n := (s <<< min y.toNat IntKind.u32.bits) % 2 ^ IntKind.u32.bits ||| s >>> min (p - y).toNat IntKind.u32.bits) (m := m9)) hm9
 generalize (((s <<< min y.toNat IntKind.u32.bits) % 2 ^ IntKind.u32.bits ||| s >>> min (p - y).toNat IntKind.u32.bits) &&& m9) = u at hu ⊢
 refine xP rfl rfl rfl rfl ?_
 refine xStO (u := .int .u32 (u : Int)) [.int .i64 p, .int .u32 (u : Int)] f11 (by show _ ≤ _; simp) rfl rfl rfl rfl rfl (by omega) ?_
 intro H12 b13 b14
 have f15 := (b14 _ (by omega)).trans f10
 have f16 := (b14 _ (by omega)).trans a7
 have g17 : Fresh H12 (1 + 1 + 1) := fun q h1 h2 => by rw [b14 q (by omega)]; exact a9 q h1 h2
 refine RXn ?_
 refine WLv (lv1 2 rfl (lv1 4 rfl lv0)) ?_
 refine WC_go hE hm ?_
 refine xR (v := .agg #[.int .i64 p, .int .u32 (u : Int)]) rfl rfl rfl (loadBox (xs := [.int .i64 p, .int .u32 (u : Int)]) b13 rfl) ?_
 refine xFill (ys := [.int .i64 p, .int .u32 (u : Int)]) f16 rfl rfl (by simp only [List.all_cons, List.all_nil, gsl_cell1]; rfl) rfl rfl (by omega) ?_
 intro H18 b19 b20
 have f21 := (b20 _ (by omega)).trans f15
 have f22 := (b20 _ (by omega)).trans b13
 have g23 : Fresh H18 (1 + 1 + 1) := fun q h1 h2 => by rw [b20 q (by omega)]; exact g17 q h1 h2
 refine RXn ?_
 refine WLv (lv1 4 rfl lv0) ?_
 refine WC_ret ?_
 refine endR (rvs1 (rv_cellN (b := 1 + 1) rfl b19 rfl)) ?_
 exact ⟨⟨_, hu, rfl⟩, rfl, f21⟩
end Go.Proofs.YtmpogedhilfjgaaGreatDoor
set_option maxRecDepth 1000000
set_option maxHeartbeats 4000000
open Go Go.Cs
namespace Go.Proofs.YtmpogedhilfjgaaGreatDoor
def RowI (H : Heap) (lo hi i : Nat) (l : List Int) : Prop := l ≠ [] → aget H i = some (.cells (ints l) 3 (some 1)) ∧ lo ≤ i ∧ i < hi
def c66 : FC := FC.mk 19 (.seq (.steps [⟨.box 75, [.tmp 0], some 1, none⟩,⟨.move, [.const (.slice none 0 0)], some 2, none⟩]) (.seq (.steps [⟨.move, [.const (.slice none 0 0)], some 3, none⟩]) (.seq (.seq (.steps [⟨.fieldAddr 0, [.tmp 1], some 5, none⟩,⟨.load1, [.tmp 5], some 6, none⟩,⟨.move, [.const (.int .i64 0)], some 7, none⟩]) (.block 0 (.loop (.seq (.steps [⟨.bin .lss, [.tmp 7, .tmp 6], some 8, none⟩]) (.seq (.cond (.tmp 8) (.skip) (.exit 0)) (.seq (.block 1 (.seq (.steps [⟨.move, [.tmp 7], some 9, none⟩,⟨.move, [.tmp 9], some 4, none⟩]) (.seq (.steps [⟨.loadN 2, [.tmp 1], some 10, none⟩,⟨.move, [.tmp 4], some 11, none⟩,⟨.callF 78, [.tmp 10, .tmp 11], some 12, none⟩]) (.cond (.tmp 12) (.steps [⟨.move, [.tmp 3], some 13, none⟩,⟨.move, [.tmp 4], some 14, none⟩,⟨.buildSlice 3 1 [.int .i64 0] [(0, 1)], [.tmp 14], some 15, none⟩,⟨.append 3 1 8 [.int .i64 0], [.tmp 13, .tmp 15], some 16, none⟩,⟨.move, [.tmp 16], some 3, none⟩]) (.skip))))) (.steps [⟨.bin .add, [.tmp 7, .const (.int .i64 1)], some 17, none⟩,⟨.move, [.tmp 17], some 7, none⟩]))))))) (.seq (.steps [⟨.move, [.tmp 3], some 18, none⟩,⟨.move, [.tmp 18], some 2, none⟩]) (.ret))))) [.tmp 2]
theorem c66_ok : compF Tryz.prog 66 = some c66 := by kernel_rfl
theorem marks_ok {p : Int} {s : Nat} (hp : 1 ≤ p ∧ p ≤ 21) (hs : s < 2 ^ 32) {H : Heap} {n : Nat} (hg : aget H 0 = some gl) (hfr : Fresh H n) (hn : n + 100 < lim) (hn0 : 0 < n) :
 F Tryz.prog [0] 66 [stampV p s] H n (fun v H' n' => Fin H n 50 H' n' ∧ ∃ (l : List Int) (i : Nat), v = gsl i l.length ∧ l.length ≤ 21 ∧ (∀ x ∈ l, 0 ≤ x ∧ x < p) ∧ RowI H' n n' i l) := by
 refine F_of_comp c66_ok rfl ?_
 have hlim := limv
 refine WC_go hE hm ?_
 refine xNew (ob := .cells [.int .i64 p, .int .u32 (s : Int)] 75 none) (mk := .ptr) hfr (by omega) rfl rfl rfl rfl ?_
 intro H1 a2 a3 a4
 have f5 := (a3 _ (by omega)).trans hg
 refine xP rfl rfl rfl rfl ?_
 refine RXn ?_
 refine WLv (lv1 1 rfl lv0) ?_
 refine WC_go hE hm ?_
 refine xP rfl rfl rfl rfl ?_
 refine RXn ?_
 refine WLv (lv1 1 rfl (lv1 3 rfl lv0)) ?_
 refine WC_seq ?_
 refine WC_go hE hm ?_
 refine xP rfl rfl rfl rfl ?_
 refine xR (v := .int .i64 p) rfl rfl rfl (ld1 (o := 0 + 0) a2 rfl) ?_
 refine xP rfl rfl rfl rfl ?_
 refine RXn ?_
 refine WLv (lv1 1 rfl (lv1 3 rfl (lv1 6 rfl (lv1 7 rfl lv0)))) ?_
 refine WC_block ?_
 refine WC_loopX (X := Nat × List Int × Nat × Heap × Nat) (fun y => { T := ofL [(1, ptrAt n 0), (3, gsl y.2.2.1 y.2.1.length), (6, .int .i64 p), (7, .int .i64 (y.1 : Int))], D := [], H := y.2.2.2.1, n := y.2.2.2.2 })
  (fun y => (y.1 : Int) ≤ p ∧ y.2.1.length ≤ y.1 ∧ (∀ x ∈ y.2.1, 0 ≤ x ∧ x < p) ∧ (y.2.1 ≠ [] → aget y.2.2.2.1 y.2.2.1 = some (.cells (ints y.2.1) 3 (some 1)) ∧ n < y.2.2.1 ∧ y.2.2.1 < y.2.2.2.2) ∧ (y.2.1 = [] → lim ≤ y.2.2.1) ∧ (∀ q, q < n + 1 → aget y.2.2.2.1 q = aget H1 q) ∧ Fresh y.2.2.2.1 y.2.2.2.2 ∧ n + 1 ≤ y.2.2.2.2 ∧ y.2.2.2.2 ≤ n + 1 + 2 * y.1)
  (fun y => p.toNat - y.1) (0, [], lim, H1, n + 1) ⟨by dsimp only; omega, Nat.le_refl _, (fun x h => by cases h), (fun h => absurd rfl h), (fun _ => Nat.le_refl _), (fun _ _ => rfl), a4, Nat.le_refl _, by dsimp only; omega⟩ ?_
 rintro ⟨i, l, b, Hl, nl⟩ ⟨i1, i2, i3, i4, i5, i6, i7, i8, i9⟩
 dsimp only at *
 have hbq : ∀ q, q < n + 1 → q ≠ b := fun q hq => by
  by_cases h0 : l = []
  · have := i5 h0; omega
  · have := (i4 h0).2.1; omega
 have hb0 := hbq 0 (by omega)
 have hbn := hbq n (by omega)
 have l0 := (i6 0 (by omega)).trans f5
 have ln := (i6 n (by omega)).trans a2
 refine WC_go hE hm ?_
 refine xCmp rfl rfl rfl rfl ?_ ?_ <;> intro h8
 · skip
   refine RXn ?_
   refine WLv (lv1 1 rfl (lv1 3 rfl (lv1 6 rfl (lv1 7 rfl (lv1 8 rfl lv0))))) ?_
   refine WC_seq ?_
   refine WC_condT rfl ?_
   refine WC_skip ?_
   refine thenN ?_
   refine WLv (lv1 1 rfl (lv1 3 rfl (lv1 6 rfl (lv1 7 rfl lv0)))) ?_
   refine WC_seq ?_
   refine WC_block ?_
   refine WC_go hE hm ?_
   refine xP rfl rfl rfl rfl ?_
   refine xP rfl rfl rfl rfl ?_
   refine RXn ?_
   refine WLv (lv1 1 rfl (lv1 3 rfl (lv1 4 rfl (lv1 6 rfl (lv1 7 rfl lv0))))) ?_
   refine WC_go hE hm ?_
   refine xR (v := .agg #[.int .i64 p, .int .u32 (s : Int)]) rfl rfl rfl (loadBox (xs := [.int .i64 p, .int .u32 (s : Int)]) ln rfl) ?_
   refine xP rfl rfl rfl rfl ?_
   refine xC rfl rfl rfl rfl (has_ok hs (by omega) l0) ?_
   rintro _ H9 n9 ⟨⟨bb, rfl⟩, hH9, hn9⟩
   obtain rfl := hH9.symm
   obtain rfl := hn9.symm
   refine RXn ?_
   refine WLv (lv1 1 rfl (lv1 3 rfl (lv1 4 rfl (lv1 6 rfl (lv1 7 rfl (lv1 12 rfl lv0)))))) ?_
   refine WC_cond rfl (fun h => ?_) (fun h => ?_)
   · skip
     refine WC_steps hE hm ?_
     refine xP rfl rfl rfl rfl ?_
     refine xP rfl rfl rfl rfl ?_
     refine eye_app (t := 3) (i := b) (l := l) (x := (i : Int)) rfl i7 (by omega) (fun h => ⟨(i4 h).1, (i4 h).2.2⟩) i5 (by omega) rfl (fun v => rfl) ?_
     intro H6 e7 e8 e9
     have f10 := (e8 _ (by omega) (by omega)).trans l0
     have f11 := (e8 _ (by omega) (by omega)).trans ln
     refine xP rfl rfl rfl rfl ?_
     refine RXn ?_
     refine blockN ?_
     refine thenN ?_
     refine WLv (lv1 1 rfl (lv1 3 rfl (lv1 6 rfl (lv1 7 rfl lv0)))) ?_
     refine WC_steps hE hm ?_
     refine xAdd rfl rfl (by omega) ?_
     refine xP rfl rfl rfl rfl ?_
     refine RXn ?_
     refine thenN ⟨(i + 1, l ++ [(i : Int)], nl + 1, H6, nl + 2), ⟨by dsimp only; omega, by simp only [List.length_append, List.length_cons, List.length_nil]; omega, ?_, (fun _ => ⟨e7, by dsimp only; omega, by dsimp only; omega⟩), (fun h => by simp at h), (fun q hq => (e8 q (by omega) (hbq q hq)).trans (i6 q hq)), e9, by dsimp only; omega, by dsimp only; omega⟩, by dsimp only; omega, Le.live (lv1 1 rfl (lv1 3 (by simp only [List.length_append]; rfl) (lv1 6 rfl (lv1 7 rfl lv0))))⟩
     intro x hx
     rcases List.mem_append.1 hx with hx | hx
     · exact i3 x hx
     · rw [List.mem_singleton.1 hx]; omega
   · skip
     refine WC_skip ?_
     refine blockN ?_
     refine thenN ?_
     refine WLv (lv1 1 rfl (lv1 3 rfl (lv1 6 rfl (lv1 7 rfl lv0)))) ?_
     refine WC_steps hE hm ?_
     refine xAdd rfl rfl (by omega) ?_
     refine xP rfl rfl rfl rfl ?_
     refine RXn ?_
     refine thenN ⟨(i + 1, l, b, Hl, nl), ⟨by dsimp only; omega, by dsimp only; omega, i3, i4, i5, i6, i7, i8, by dsimp only; omega⟩, by dsimp only; omega, Le.live (lv1 1 rfl (lv1 3 rfl (lv1 6 rfl (lv1 7 rfl lv0))))⟩
 · skip
   refine RXn ?_
   refine WLv (lv1 1 rfl (lv1 3 rfl (lv1 6 rfl (lv1 7 rfl (lv1 8 rfl lv0))))) ?_
   refine WC_seq ?_
   refine WC_condF rfl ?_
   refine WC_exit ?_
   refine thenE ?_
   refine thenE ?_
   refine blockE ?_
   refine thenN ?_
   refine WLv (lv1 3 rfl lv0) ?_
   refine WC_go hE hm ?_
   refine xP rfl rfl rfl rfl ?_
   refine xP rfl rfl rfl rfl ?_
   refine RXn ?_
   refine WLv (lv1 2 rfl lv0) ?_
   refine WC_ret ?_
   refine endR rfl ?_
   exact ⟨⟨fun q hq => ((i6 q (by omega)).trans (a3 q (by omega))), i7, by omega, by omega⟩, l, b, rfl, by omega, i3, fun h => ⟨(i4 h).1, by have := (i4 h).2; omega, (i4 h).2.2⟩⟩
end Go.Proofs.YtmpogedhilfjgaaGreatDoor
set_option maxRecDepth 1000000
set_option maxHeartbeats 4000000
open Go Go.Cs
namespace Go.Proofs.YtmpogedhilfjgaaGreatDoor
def c60 : FC := FC.mk 8 (.seq (.steps [⟨.box 75, [.tmp 0], some 1, none⟩,⟨.alloc 24 [.int .i64 0, .slice none 0 0], [], some 2, none⟩]) (.seq (.drawn [(0,⟨.fieldAddr 0, [.tmp 1], some 3, none⟩), (1,⟨.load1, [.tmp 3], some 4, none⟩), (2,⟨.loadN 2, [.tmp 1], some 5, none⟩), (3,⟨.callF 66, [.tmp 5], some 6, none⟩), (4,⟨.build [.int .i64 0, .slice none 0 0] [(0, 1), (1, 1)], [.tmp 4, .tmp 6], some 7, none⟩), (5,⟨.store 2, [.tmp 2, .tmp 7], none, none⟩)] [0, 1, 0, 4, 15, 31]) (.ret))) [.cellN 2 2]
theorem c60_ok : compF Tryz.prog 60 = some c60 := by kernel_rfl
theorem seal_ok {p : Int} {s : Nat} (hp : 1 ≤ p ∧ p ≤ 21) (hs : s < 2 ^ 32) {H : Heap} {n : Nat} (hg : aget H 0 = some gl) (hfr : Fresh H n) (hn : n + 200 < lim) (hn0 : 0 < n) :
 F Tryz.prog [0] 60 [stampV p s] H n (fun v H' n' => Fin H n 60 H' n' ∧ ∃ (l : List Int) (i : Nat), v = .agg #[.int .i64 p, gsl i l.length] ∧ l.length ≤ 21 ∧ (∀ x ∈ l, 0 ≤ x ∧ x < p) ∧ RowI H' n n' i l) := by
 refine F_of_comp c60_ok rfl ?_
 have hlim := limv
 refine WC_go hE hm ?_
 refine xNew (ob := .cells [.int .i64 p, .int .u32 (s : Int)] 75 none) (mk := .ptr) hfr (by omega) rfl rfl rfl rfl ?_
 intro H1 a2 a3 a4
 have f5 := (a3 _ (by omega)).trans hg
 refine xNew (ob := .cells [.int .i64 0, .slice none 0 0] 24 none) (mk := .ptr) a4 (by omega) rfl rfl rfl rfl ?_
 intro H6 a7 a8 a9
 have f10 := (a8 _ (by omega)).trans f5
 have f11 := (a8 _ (by omega)).trans a2
 refine RXn ?_
 refine WLv (lv1 1 rfl (lv1 2 rfl lv0)) ?_
 refine WC_goD hE hm ?_
 refine dX rfl (xP rfl rfl rfl rfl (RXn ?_))
 refine dR (v := .int .i64 p) rfl rfl rfl (ld1 (o := 0 + 0) f11 rfl) ?_
 refine dR (v := .agg #[.int .i64 p, .int .u32 (s : Int)]) rfl rfl rfl (loadBox (xs := [.int .i64 p, .int .u32 (s : Int)]) f11 rfl) ?_
 refine dC (f := 66) (args := [.agg #[.int .i64 p, .int .u32 (s : Int)]]) rfl rfl rfl rfl (marks_ok hp hs f10 a9 (by omega) (by omega)) ?_
 rintro _ H12 n12 ⟨F12, l12, i12, rfl, hl12, hx12, hr12⟩
 have le12 := F12.le
 have rm12 := F12.room
 have f13 := (F12.keep _ (by omega)).trans f10
 have f14 := (F12.keep _ (by omega)).trans f11
 have f15 := (F12.keep _ (by omega)).trans a7
 refine ⟨stabOne ⟨1, ⟨.load1, [.tmp 3], some 4, none⟩, .r [.pointer (some ⟨n, 0 + 0, none⟩)] (.int .i64 p)⟩ (by kernel_rfl) (ld1 (o := 0 + 0) f14 rfl), ?_⟩
 refine dX rfl (xBuild [.int .i64 p, gsl (i12) (l12.length)] rfl rfl (by generalize l12.length = kk; cases kk <;> rfl) (RXn ?_))
 refine dFill (ys := [.int .i64 p, gsl (i12) (l12.length)]) f15 rfl rfl (by simp only [List.all_cons, List.all_nil, gsl_cell1]; rfl) rfl rfl (by omega) ?_
 intro H16 b17 b18
 have f19 := (b18 _ (by omega)).trans f13
 have f20 := (b18 _ (by omega)).trans f14
 have f21 : l12 ≠ [] → aget H16 i12 = some (.cells (ints l12) 3 (some 1)) := fun hne => by have hdm := (hr12 hne).2; exact (b18 _ (by omega)).trans ((fun h => (hr12 h).1) hne)
 have g22 : Fresh H16 (n12) := fun q h1 h2 => by rw [b18 q (by omega)]; exact F12.fresh q h1 h2
 refine ⟨stabE (by kernel_rfl), ?_⟩
 refine dNil ?_
 refine WLv (lv1 2 rfl lv0) ?_
 refine WC_ret ?_
 refine endR (rvs1 (rv_cellN (b := n + 1) rfl b17 rfl)) ?_
 exact ⟨⟨fun q hq => ((b18 q (by omega)).trans ((F12.keep q (by omega)).trans ((a8 q (by omega)).trans (a3 q (by omega))))), g22, by omega, by omega⟩, l12, i12, rfl, hl12, hx12, fun h => ⟨f21 h, by have := (hr12 h).2; omega, by have := (hr12 h).2; omega⟩⟩
def c101 : FC := FC.mk 6 (.seq (.steps [⟨.move, [.const (.bool false)], some 2, none⟩]) (.seq (.steps [⟨.move, [.tmp 0], some 3, none⟩,⟨.move, [.tmp 0], some 4, none⟩,⟨.bin .neq, [.tmp 3, .tmp 4], some 5, none⟩,⟨.move, [.tmp 5], some 2, none⟩]) (.ret))) [.tmp 2]
theorem c101_ok : compF Tryz.prog 101 = some c101 := by kernel_rfl
theorem nan_ok {x : Int} {H : Heap} {n : Nat} (hg : aget H 0 = some gl) : F Tryz.prog [0] 101 [.int .i64 x] H n (fun v H' n' => (v = .bool false) ∧ H' = H ∧ n' = n) := by
 refine pureF rfl ?_ hg
 refine F_of_comp c101_ok rfl ?_
 have hlim := limv
 have g0 : aget (ofL [(0, gl)]) 0 = some gl := rfl
 refine WC_go hE hm ?_
 refine xP rfl rfl rfl rfl ?_
 refine RXn ?_
 refine WLv (lv1 0 rfl lv0) ?_
 refine WC_go hE hm ?_
 refine xP rfl rfl rfl rfl ?_
 refine xP rfl rfl rfl rfl ?_
 refine xNe rfl rfl ?_ ?_ <;> intro h5
 · skip
   refine xP rfl rfl rfl rfl ?_
   refine RXn ?_
   refine WLv (lv1 2 rfl lv0) ?_
   refine WC_ret ?_
   refine endR rfl ?_
   first | exact ⟨rfl, rfl, g0⟩ | exact absurd rfl h5
 · skip
   refine xP rfl rfl rfl rfl ?_
   refine RXn ?_
   refine WLv (lv1 2 rfl lv0) ?_
   refine WC_ret ?_
   refine endR rfl ?_
   first | exact ⟨rfl, rfl, g0⟩ | exact absurd rfl h5
def c95 : FC := FC.mk 20 (.seq (.steps [⟨.move, [.const (.int .i64 0)], some 4, none⟩]) (.seq (.steps [⟨.move, [.tmp 0], some 7, none⟩,⟨.callF 101, [.tmp 7], some 8, none⟩,⟨.move, [.tmp 8], some 5, none⟩]) (.seq (.steps [⟨.move, [.tmp 1], some 9, none⟩,⟨.callF 101, [.tmp 9], some 10, none⟩,⟨.move, [.tmp 10], some 6, none⟩]) (.seq (.seq (.steps [⟨.move, [.tmp 5], some 11, none⟩]) (.cond (.tmp 11) (.seq (.seq (.steps [⟨.move, [.tmp 6], some 12, none⟩]) (.cond (.tmp 12) (.seq (.steps [⟨.move, [.const (.int .i64 0)], some 4, none⟩]) (.ret)) (.skip))) (.seq (.steps [⟨.move, [.const (.int .i64 (-1))], some 4, none⟩]) (.ret))) (.skip))) (.seq (.seq (.steps [⟨.move, [.tmp 6], some 13, none⟩]) (.cond (.tmp 13) (.seq (.steps [⟨.move, [.const (.int .i64 1)], some 4, none⟩]) (.ret)) (.skip))) (.seq (.seq (.steps [⟨.move, [.tmp 0], some 14, none⟩,⟨.move, [.tmp 1], some 15, none⟩,⟨.bin .lss, [.tmp 14, .tmp 15], some 16, none⟩]) (.cond (.tmp 16) (.seq (.steps [⟨.move, [.const (.int .i64 (-1))], some 4, none⟩]) (.ret)) (.skip))) (.seq (.seq (.steps [⟨.move, [.tmp 0], some 17, none⟩,⟨.move, [.tmp 1], some 18, none⟩,⟨.bin .gtr, [.tmp 17, .tmp 18], some 19, none⟩]) (.cond (.tmp 19) (.seq (.steps [⟨.move, [.const (.int .i64 1)], some 4, none⟩]) (.ret)) (.skip))) (.seq (.steps [⟨.move, [.const (.int .i64 0)], some 4, none⟩]) (.ret))))))))) [.tmp 4]
theorem c95_ok : compF Tryz.prog 95 = some c95 := by kernel_rfl
theorem cmp_ok {x y : Int} {H : Heap} {n : Nat} (hg : aget H 0 = some gl) : F Tryz.prog [0] 95 [.int .i64 x, .int .i64 y] H n (fun v H' n' => (∃ c, v = .int .i64 c) ∧ H' = H ∧ n' = n) := by
 refine pureF rfl ?_ hg
 refine F_of_comp c95_ok rfl ?_
 have hlim := limv
 have g0 : aget (ofL [(0, gl)]) 0 = some gl := rfl
 refine WC_go hE hm ?_
 refine xP rfl rfl rfl rfl ?_
 refine RXn ?_
 refine WLv (lv1 0 rfl (lv1 1 rfl lv0)) ?_
 refine WC_go hE hm ?_
 refine xP rfl rfl rfl rfl ?_
 refine xC rfl rfl rfl rfl (nan_ok g0) ?_
 rintro _ H9 n9 ⟨rfl, hH9, hn9⟩
 obtain rfl := hH9.symm
 obtain rfl := hn9.symm
 refine xP rfl rfl rfl rfl ?_
 refine RXn ?_
 refine WLv (lv1 0 rfl (lv1 1 rfl (lv1 5 rfl lv0))) ?_
 refine WC_go hE hm ?_
 refine xP rfl rfl rfl rfl ?_
 refine xC rfl rfl rfl rfl (nan_ok g0) ?_
 rintro _ H9 n9 ⟨rfl, hH9, hn9⟩
 obtain rfl := hH9.symm
 obtain rfl := hn9.symm
 refine xP rfl rfl rfl rfl ?_
 refine RXn ?_
 refine WLv (lv1 0 rfl (lv1 1 rfl (lv1 5 rfl (lv1 6 rfl lv0)))) ?_
 refine WC_seq ?_
 refine WC_go hE hm ?_
 refine xP rfl rfl rfl rfl ?_
 refine RXn ?_
 refine WLv (lv1 0 rfl (lv1 1 rfl (lv1 6 rfl (lv1 11 rfl lv0)))) ?_
 refine WC_condF rfl ?_
 refine WC_skip ?_
 refine thenN ?_
 refine WLv (lv1 0 rfl (lv1 1 rfl (lv1 6 rfl lv0))) ?_
 refine WC_seq ?_
 refine WC_go hE hm ?_
 refine xP rfl rfl rfl rfl ?_
 refine RXn ?_
 refine WLv (lv1 0 rfl (lv1 1 rfl (lv1 13 rfl lv0))) ?_
 refine WC_condF rfl ?_
 refine WC_skip ?_
 refine thenN ?_
 refine WLv (lv1 0 rfl (lv1 1 rfl lv0)) ?_
 refine WC_seq ?_
 refine WC_go hE hm ?_
 refine xP rfl rfl rfl rfl ?_
 refine xP rfl rfl rfl rfl ?_
 refine xCmp rfl rfl rfl rfl ?_ ?_ <;> intro h16
 · skip
   refine RXn ?_
   refine WLv (lv1 0 rfl (lv1 1 rfl (lv1 16 rfl lv0))) ?_
   refine WC_condT rfl ?_
   refine WC_go hE hm ?_
   refine xP rfl rfl rfl rfl ?_
   refine RXn ?_
   refine WLv (lv1 4 rfl lv0) ?_
   refine WC_ret ?_
   refine thenR ?_
   refine endR rfl ?_
   exact ⟨⟨_, rfl⟩, rfl, g0⟩
 · skip
   refine RXn ?_
   refine WLv (lv1 0 rfl (lv1 1 rfl (lv1 16 rfl lv0))) ?_
   refine WC_condF rfl ?_
   refine WC_skip ?_
   refine thenN ?_
   refine WLv (lv1 0 rfl (lv1 1 rfl lv0)) ?_
   refine WC_seq ?_
   refine WC_go hE hm ?_
   refine xP rfl rfl rfl rfl ?_
   refine xP rfl rfl rfl rfl ?_
   refine xCmp rfl rfl rfl rfl ?_ ?_ <;> intro h19
   · skip
     refine RXn ?_
     refine WLv (lv1 19 rfl lv0) ?_
     refine WC_condT rfl ?_
     refine WC_go hE hm ?_
     refine xP rfl rfl rfl rfl ?_
     refine RXn ?_
     refine WLv (lv1 4 rfl lv0) ?_
     refine WC_ret ?_
     refine thenR ?_
     refine endR rfl ?_
     exact ⟨⟨_, rfl⟩, rfl, g0⟩
   · skip
     refine RXn ?_
     refine WLv (lv1 19 rfl lv0) ?_
     refine WC_condF rfl ?_
     refine WC_skip ?_
     refine thenN ?_
     refine WLv lv0 ?_
     refine WC_go hE hm ?_
     refine xP rfl rfl rfl rfl ?_
     refine RXn ?_
     refine WLv (lv1 4 rfl lv0) ?_
     refine WC_ret ?_
     refine endR rfl ?_
     exact ⟨⟨_, rfl⟩, rfl, g0⟩
end Go.Proofs.YtmpogedhilfjgaaGreatDoor
set_option maxRecDepth 1000000
set_option maxHeartbeats 4000000
open Go Go.Cs
namespace Go.Proofs.YtmpogedhilfjgaaGreatDoor
def c84 : FC := FC.mk 36 (.seq (.steps [⟨.move, [.const (.int .i64 0)], some 4, none⟩]) (.seq (.seq (.steps [⟨.move, [.tmp 0], some 9, none⟩,⟨.lenS, [.tmp 9], some 10, none⟩,⟨.move, [.const (.int .i64 0)], some 11, none⟩]) (.block 0 (.loop (.seq (.steps [⟨.bin .lss, [.tmp 11, .tmp 10], some 12, none⟩]) (.seq (.cond (.tmp 12) (.skip) (.exit 0)) (.seq (.block 1 (.seq (.steps [⟨.move, [.tmp 11], some 13, none⟩,⟨.indexAddrS 1, [.tmp 9, .tmp 11], some 14, none⟩,⟨.load1, [.tmp 14], some 15, none⟩,⟨.move, [.tmp 13], some 5, none⟩,⟨.move, [.tmp 15], some 6, none⟩]) (.seq (.seq (.steps [⟨.move, [.tmp 5], some 16, none⟩,⟨.move, [.tmp 1], some 17, none⟩,⟨.lenS, [.tmp 17], some 18, none⟩,⟨.bin .geq, [.tmp 16, .tmp 18], some 19, none⟩]) (.cond (.tmp 19) (.seq (.steps [⟨.move, [.const (.int .i64 1)], some 4, none⟩]) (.ret)) (.skip))) (.seq (.steps [⟨.move, [.tmp 1], some 20, none⟩,⟨.move, [.tmp 5], some 21, none⟩,⟨.indexAddrS 1, [.tmp 20, .tmp 21], some 22, none⟩,⟨.load1, [.tmp 22], some 23, none⟩,⟨.move, [.tmp 23], some 7, none⟩]) (.seq (.steps [⟨.move, [.tmp 6], some 24, none⟩,⟨.move, [.tmp 7], some 25, none⟩,⟨.callF 95, [.tmp 24, .tmp 25], some 26, none⟩,⟨.move, [.tmp 26], some 8, none⟩]) (.seq (.steps [⟨.move, [.tmp 8], some 27, none⟩,⟨.bin .neq, [.tmp 27, .const (.int .i64 0)], some 28, none⟩]) (.cond (.tmp 28) (.seq (.steps [⟨.move, [.tmp 8], some 29, none⟩,⟨.move, [.tmp 29], some 4, none⟩]) (.ret)) (.skip)))))))) (.steps [⟨.bin .add, [.tmp 11, .const (.int .i64 1)], some 30, none⟩,⟨.move, [.tmp 30], some 11, none⟩]))))))) (.seq (.seq (.steps [⟨.move, [.tmp 0], some 31, none⟩,⟨.lenS, [.tmp 31], some 32, none⟩,⟨.move, [.tmp 1], some 33, none⟩,⟨.lenS, [.tmp 33], some 34, none⟩,⟨.bin .lss, [.tmp 32, .tmp 34], some 35, none⟩]) (.cond (.tmp 35) (.seq (.steps [⟨.move, [.const (.int .i64 (-1))], some 4, none⟩]) (.ret)) (.skip))) (.seq (.steps [⟨.move, [.const (.int .i64 0)], some 4, none⟩]) (.ret))))) [.tmp 4]
theorem c84_ok : compF Tryz.prog 84 = some c84 := by kernel_rfl
theorem compare_ok {l m : List Int} {i j : Nat} {H : Heap} {n : Nat} (hg : aget H 0 = some gl) (hll : l.length ≤ 1000000) (hml : m.length ≤ 1000000) (hi : l ≠ [] → aget H i = some (.cells (ints l) 3 (some 1))) (hj : m ≠ [] → aget H j = some (.cells (ints m) 3 (some 1))) :
 F Tryz.prog [0] 84 [gsl i l.length, gsl j m.length] H n (fun v H' n' => (∃ c, v = .int .i64 c) ∧ H' = H ∧ n' = n) := by
 refine F_of_comp c84_ok rfl ?_
 refine WC_go hE hm ?_
 refine xP rfl rfl rfl rfl ?_
 refine RXn ?_
 refine WLv (lv1 0 rfl (lv1 1 rfl lv0)) ?_
 refine WC_seq ?_
 refine WC_go hE hm ?_
 refine xP rfl rfl rfl rfl ?_
 refine xP (v := .int .i64 ((l.length : Nat) : Int)) rfl rfl rfl (SliceAt.gsl _ _).lenS ?_
 refine xP rfl rfl rfl rfl ?_
 refine RXn ?_
 refine WLv (lv1 0 rfl (lv1 1 rfl (lv1 9 rfl (lv1 10 rfl (lv1 11 rfl lv0))))) ?_
 refine WC_block ?_
 refine WC_loopX (X := Nat) (fun y => { T := ofL [(0, gsl i l.length), (1, gsl j m.length), (9, gsl i l.length), (10, .int .i64 (l.length : Int)), (11, .int .i64 (y : Int))], D := [], H := H, n := n }) (fun y => y ≤ l.length) (fun y => l.length - y) 0 (Nat.zero_le _) ?_
 intro k hk
 refine WC_go hE hm ?_
 refine xCmp rfl rfl rfl rfl ?_ ?_ <;> intro h12
 · skip
   refine RXn ?_
   refine WLv (lv1 0 rfl (lv1 1 rfl (lv1 9 rfl (lv1 10 rfl (lv1 11 rfl (lv1 12 rfl lv0)))))) ?_
   refine WC_seq ?_
   refine WC_condT rfl ?_
   refine WC_skip ?_
   refine thenN ?_
   refine WLv (lv1 0 rfl (lv1 1 rfl (lv1 9 rfl (lv1 10 rfl (lv1 11 rfl lv0))))) ?_
   refine WC_seq ?_
   refine WC_block ?_
   refine WC_go hE hm ?_
   refine xP rfl rfl rfl rfl ?_
   refine xIdxG rfl rfl ⟨by omega, by omega⟩ ?_
   have hl0 : l ≠ [] := by rintro rfl; simp only [List.length_nil] at *; omega
   refine xLdI rfl rfl (hi hl0) (by omega) ?_
   refine xP rfl rfl rfl rfl ?_
   refine xP rfl rfl rfl rfl ?_
   refine RXn ?_
   refine WLv (lv1 0 rfl (lv1 1 rfl (lv1 5 rfl (lv1 6 rfl (lv1 9 rfl (lv1 10 rfl (lv1 11 rfl lv0))))))) ?_
   refine WC_seq ?_
   refine WC_go hE hm ?_
   refine xP rfl rfl rfl rfl ?_
   refine xP rfl rfl rfl rfl ?_
   refine xP (v := .int .i64 ((m.length : Nat) : Int)) rfl rfl rfl (SliceAt.gsl _ _).lenS ?_
   refine xCmp rfl rfl rfl rfl ?_ ?_ <;> intro h19
   · skip
     refine RXn ?_
     refine WLv (lv1 0 rfl (lv1 1 rfl (lv1 5 rfl (lv1 6 rfl (lv1 9 rfl (lv1 10 rfl (lv1 11 rfl (lv1 19 rfl lv0)))))))) ?_
     refine WC_condT rfl ?_
     refine WC_go hE hm ?_
     refine xP rfl rfl rfl rfl ?_
     refine RXn ?_
     refine WLv (lv1 4 rfl lv0) ?_
     refine WC_ret ?_
     refine thenR ?_
     refine blockR ?_
     refine thenR ?_
     refine thenR ?_
     refine blockR ?_
     refine thenR ?_
     refine endR rfl ?_
     exact ⟨⟨_, rfl⟩, rfl, rfl⟩
   · skip
     refine RXn ?_
     refine WLv (lv1 0 rfl (lv1 1 rfl (lv1 5 rfl (lv1 6 rfl (lv1 9 rfl (lv1 10 rfl (lv1 11 rfl (lv1 19 rfl lv0)))))))) ?_
     refine WC_condF rfl ?_
     refine WC_skip ?_
     refine thenN ?_
     refine WLv (lv1 0 rfl (lv1 1 rfl (lv1 5 rfl (lv1 6 rfl (lv1 9 rfl (lv1 10 rfl (lv1 11 rfl lv0))))))) ?_
     refine WC_go hE hm ?_
     refine xP rfl rfl rfl rfl ?_
     refine xP rfl rfl rfl rfl ?_
     refine xIdxG rfl rfl ⟨by omega, by omega⟩ ?_
     have hm0 : m ≠ [] := by rintro rfl; simp only [List.length_nil] at *; omega
     refine xLdI rfl rfl (hj hm0) (by omega) ?_
     refine xP rfl rfl rfl rfl ?_
     refine RXn ?_
     refine WLv (lv1 0 rfl (lv1 1 rfl (lv1 6 rfl (lv1 7 rfl (lv1 9 rfl (lv1 10 rfl (lv1 11 rfl lv0))))))) ?_
     refine WC_go hE hm ?_
     refine xP rfl rfl rfl rfl ?_
     refine xP rfl rfl rfl rfl ?_
     refine xC rfl rfl rfl rfl (cmp_ok hg) ?_
     rintro _ H9 n9 ⟨⟨c1, rfl⟩, hH9, hn9⟩
     obtain rfl := hH9.symm
     obtain rfl := hn9.symm
     refine xP rfl rfl rfl rfl ?_
     refine RXn ?_
     refine WLv (lv1 0 rfl (lv1 1 rfl (lv1 8 rfl (lv1 9 rfl (lv1 10 rfl (lv1 11 rfl lv0)))))) ?_
     refine WC_go hE hm ?_
     refine xP rfl rfl rfl rfl ?_
     refine xNe rfl rfl ?_ ?_ <;> intro h28
     · skip
       refine RXn ?_
       refine WLv (lv1 0 rfl (lv1 1 rfl (lv1 8 rfl (lv1 9 rfl (lv1 10 rfl (lv1 11 rfl (lv1 28 rfl lv0))))))) ?_
       refine WC_condT rfl ?_
       refine WC_go hE hm ?_
       refine xP rfl rfl rfl rfl ?_
       refine xP rfl rfl rfl rfl ?_
       refine RXn ?_
       refine WLv (lv1 4 rfl lv0) ?_
       refine WC_ret ?_
       refine blockR ?_
       refine thenR ?_
       refine thenR ?_
       refine blockR ?_
       refine thenR ?_
       refine endR rfl ?_
       exact ⟨⟨_, rfl⟩, rfl, rfl⟩
     · skip
       refine RXn ?_
       refine WLv (lv1 0 rfl (lv1 1 rfl (lv1 8 rfl (lv1 9 rfl (lv1 10 rfl (lv1 11 rfl (lv1 28 rfl lv0))))))) ?_
       refine WC_condF rfl ?_
       refine WC_skip ?_
       refine blockN ?_
       refine thenN ?_
       refine WLv (lv1 0 rfl (lv1 1 rfl (lv1 9 rfl (lv1 10 rfl (lv1 11 rfl lv0))))) ?_
       refine WC_steps hE hm ?_
       refine xAdd rfl rfl (by omega) ?_
       refine xP rfl rfl rfl rfl ?_
       refine RXn ?_
       refine thenN ⟨k + 1, by omega, by omega, Le.live (lv1 0 rfl (lv1 1 rfl (lv1 9 rfl (lv1 10 rfl (lv1 11 rfl lv0)))))⟩
 · skip
   refine RXn ?_
   refine WLv (lv1 0 rfl (lv1 1 rfl (lv1 9 rfl (lv1 10 rfl (lv1 11 rfl (lv1 12 rfl lv0)))))) ?_
   refine WC_seq ?_
   refine WC_condF rfl ?_
   refine WC_exit ?_
   refine thenE ?_
   refine thenE ?_
   refine blockE ?_
   refine thenN ?_
   refine WLv (lv1 0 rfl (lv1 1 rfl lv0)) ?_
   refine WC_seq ?_
   refine WC_go hE hm ?_
   refine xP rfl rfl rfl rfl ?_
   refine xP (v := .int .i64 ((l.length : Nat) : Int)) rfl rfl rfl (SliceAt.gsl _ _).lenS ?_
   refine xP rfl rfl rfl rfl ?_
   refine xP (v := .int .i64 ((m.length : Nat) : Int)) rfl rfl rfl (SliceAt.gsl _ _).lenS ?_
   refine xCmp rfl rfl rfl rfl ?_ ?_ <;> intro h35
   · skip
     refine RXn ?_
     refine WLv (lv1 35 rfl lv0) ?_
     refine WC_condT rfl ?_
     refine WC_go hE hm ?_
     refine xP rfl rfl rfl rfl ?_
     refine RXn ?_
     refine WLv (lv1 4 rfl lv0) ?_
     refine WC_ret ?_
     refine thenR ?_
     refine endR rfl ?_
     exact ⟨⟨_, rfl⟩, rfl, rfl⟩
   · skip
     refine RXn ?_
     refine WLv (lv1 35 rfl lv0) ?_
     refine WC_condF rfl ?_
     refine WC_skip ?_
     refine thenN ?_
     refine WLv lv0 ?_
     refine WC_go hE hm ?_
     refine xP rfl rfl rfl rfl ?_
     refine RXn ?_
     refine WLv (lv1 4 rfl lv0) ?_
     refine WC_ret ?_
     refine endR rfl ?_
     exact ⟨⟨_, rfl⟩, rfl, rfl⟩
def c76 : FC := FC.mk 23 (.seq (.steps [⟨.move, [.const (.bool false)], some 4, none⟩]) (.seq (.seq (.steps [⟨.move, [.const (.int .i64 2)], some 5, none⟩]) (.block 0 (.loop (.seq (.seq (.steps [⟨.move, [.tmp 5], some 6, none⟩,⟨.move, [.tmp 0], some 7, none⟩,⟨.move, [.tmp 1], some 8, none⟩,⟨.bmin, [.tmp 7, .tmp 8], some 9, none⟩,⟨.bin .leq, [.tmp 6, .tmp 9], some 10, none⟩]) (.cond (.tmp 10) (.skip) (.exit 0))) (.seq (.block 1 (.seq (.steps [⟨.move, [.tmp 0], some 13, none⟩,⟨.move, [.tmp 5], some 14, none⟩,⟨.bin .rem, [.tmp 13, .tmp 14], some 15, none⟩,⟨.bin .eql, [.tmp 15, .const (.int .i64 0)], some 16, none⟩,⟨.move, [.tmp 16], some 17, none⟩,⟨.move, [.tmp 1], some 18, some (17, true)⟩,⟨.move, [.tmp 5], some 19, some (17, true)⟩,⟨.bin .rem, [.tmp 18, .tmp 19], some 20, some (17, true)⟩,⟨.bin .eql, [.tmp 20, .const (.int .i64 0)], some 21, some (17, true)⟩,⟨.pick, [.tmp 17, .tmp 21, .const (.bool false)], some 22, none⟩]) (.cond (.tmp 22) (.seq (.steps [⟨.move, [.const (.bool false)], some 4, none⟩]) (.ret)) (.skip)))) (.steps [⟨.move, [.tmp 5], some 11, none⟩,⟨.bin .add, [.tmp 11, .const (.int .i64 1)], some 12, none⟩,⟨.move, [.tmp 12], some 5, none⟩])))))) (.seq (.steps [⟨.move, [.const (.bool true)], some 4, none⟩]) (.ret)))) [.tmp 4]
theorem c76_ok : compF Tryz.prog 76 = some c76 := by kernel_rfl
theorem prime_ok {a b : Int} (ha : 0 ≤ a ∧ a < 900) (hb : 0 ≤ b ∧ b < 900) {H : Heap} {n : Nat} (hg : aget H 0 = some gl) : F Tryz.prog [0] 76 [.int .i64 a, .int .i64 b] H n (fun v H' n' => (∃ c, v = .bool c) ∧ H' = H ∧ n' = n) := by
 refine pureF rfl ?_ hg
 refine F_of_comp c76_ok rfl ?_
 have hlim := limv
 have g0 : aget (ofL [(0, gl)]) 0 = some gl := rfl
 refine WC_go hE hm ?_
 refine xP rfl rfl rfl rfl ?_
 refine RXn ?_
 refine WLv (lv1 0 rfl (lv1 1 rfl lv0)) ?_
 refine WC_seq ?_
 refine WC_go hE hm ?_
 refine xP rfl rfl rfl rfl ?_
 refine RXn ?_
 refine WLv (lv1 0 rfl (lv1 1 rfl (lv1 5 rfl lv0))) ?_
 refine WC_block ?_
 refine WC_loopX (X := Nat) (fun y => { T := ofL [(0, .int .i64 a), (1, .int .i64 b), (5, .int .i64 (y : Int))], D := [], H := (ofL [(0, gl)]), n := 1 }) (fun y => 2 ≤ y ∧ (y : Int) ≤ 1000) (fun y => 1001 - y) 2 ⟨Nat.le_refl _, by decide⟩ ?_
 rintro k ⟨hk, hk2⟩
 refine WC_seq ?_
 refine WC_go hE hm ?_
 refine xP rfl rfl rfl rfl ?_
 refine xP rfl rfl rfl rfl ?_
 refine xP rfl rfl rfl rfl ?_
 refine xMin [b] rfl rfl ?_
 simp only [List.foldl_cons, List.foldl_nil]
 refine xCmp rfl rfl rfl rfl ?_ ?_ <;> intro h10
 · skip
   refine RXn ?_
   refine WLv (lv1 0 rfl (lv1 1 rfl (lv1 5 rfl (lv1 10 rfl lv0)))) ?_
   refine WC_condT rfl ?_
   refine WC_skip ?_
   refine thenN ?_
   refine WLv (lv1 0 rfl (lv1 1 rfl (lv1 5 rfl lv0))) ?_
   refine WC_seq ?_
   refine WC_block ?_
   refine WC_go hE hm ?_
   refine xP rfl rfl rfl rfl ?_
   refine xP rfl rfl rfl rfl ?_
   refine xRem rfl rfl ⟨by omega, by omega⟩ ?_
   refine xEq rfl rfl ?_ ?_ <;> intro h16
   · skip
     refine xP rfl rfl rfl rfl ?_
     refine xP rfl rfl rfl rfl ?_
     refine xP rfl rfl rfl rfl ?_
     refine xRem rfl rfl ⟨by omega, by omega⟩ ?_
     refine xEq rfl rfl ?_ ?_ <;> intro h21
     · skip
       refine xP rfl rfl rfl rfl ?_
       refine RXn ?_
       refine WLv (lv1 0 rfl (lv1 1 rfl (lv1 5 rfl (lv1 22 rfl lv0)))) ?_
       refine WC_condT rfl ?_
       refine WC_go hE hm ?_
       refine xP rfl rfl rfl rfl ?_
       refine RXn ?_
       refine WLv (lv1 4 rfl lv0) ?_
       refine WC_ret ?_
       refine blockR ?_
       refine thenR ?_
       refine thenR ?_
       refine blockR ?_
       refine thenR ?_
       refine endR rfl ?_
       exact ⟨⟨_, rfl⟩, rfl, g0⟩
     · skip
       refine xP rfl rfl rfl rfl ?_
       refine RXn ?_
       refine WLv (lv1 0 rfl (lv1 1 rfl (lv1 5 rfl (lv1 22 rfl lv0)))) ?_
       refine WC_condF rfl ?_
       refine WC_skip ?_
       refine blockN ?_
       refine thenN ?_
       refine WLv (lv1 0 rfl (lv1 1 rfl (lv1 5 rfl lv0))) ?_
       refine WC_steps hE hm ?_
       refine xP rfl rfl rfl rfl ?_
       refine xAdd rfl rfl (by omega) ?_
       refine xP rfl rfl rfl rfl ?_
       refine RXn ?_
       refine thenN ⟨k + 1, ⟨by omega, by omega⟩, by omega, Le.live (lv1 0 rfl (lv1 1 rfl (lv1 5 rfl lv0)))⟩
   · skip
     refine xP rfl rfl rfl rfl ?_
     refine xS rfl ?_
     refine xS rfl ?_
     refine xS rfl ?_
     refine xS rfl ?_
     refine xP rfl rfl rfl rfl ?_
     refine RXn ?_
     refine WLv (lv1 0 rfl (lv1 1 rfl (lv1 5 rfl (lv1 22 rfl lv0)))) ?_
     refine WC_condF rfl ?_
     refine WC_skip ?_
     refine blockN ?_
     refine thenN ?_
     refine WLv (lv1 0 rfl (lv1 1 rfl (lv1 5 rfl lv0))) ?_
     refine WC_steps hE hm ?_
     refine xP rfl rfl rfl rfl ?_
     refine xAdd rfl rfl (by omega) ?_
     refine xP rfl rfl rfl rfl ?_
     refine RXn ?_
     refine thenN ⟨k + 1, ⟨by omega, by omega⟩, by omega, Le.live (lv1 0 rfl (lv1 1 rfl (lv1 5 rfl lv0)))⟩
 · skip
   refine RXn ?_
   refine WLv (lv1 0 rfl (lv1 1 rfl (lv1 5 rfl (lv1 10 rfl lv0)))) ?_
   refine WC_condF rfl ?_
   refine WC_exit ?_
   refine thenE ?_
   refine thenE ?_
   refine blockE ?_
   refine thenN ?_
   refine WLv lv0 ?_
   refine WC_go hE hm ?_
   refine xP rfl rfl rfl rfl ?_
   refine RXn ?_
   refine WLv (lv1 4 rfl lv0) ?_
   refine WC_ret ?_
   refine endR rfl ?_
   exact ⟨⟨_, rfl⟩, rfl, g0⟩
end Go.Proofs.YtmpogedhilfjgaaGreatDoor
set_option maxRecDepth 1000000
set_option maxHeartbeats 4000000
open Go Go.Cs
namespace Go.Proofs.YtmpogedhilfjgaaGreatDoor
def c62 : FC := FC.mk 19 (.seq (.steps [⟨.box 75, [.tmp 0], some 2, none⟩,⟨.box 75, [.tmp 1], some 3, none⟩,⟨.move, [.const (.int .i64 0)], some 4, none⟩,⟨.move, [.const (.bool false)], some 5, none⟩]) (.seq (.seq (.steps [⟨.fieldAddr 0, [.tmp 2], some 7, none⟩,⟨.load1, [.tmp 7], some 8, none⟩,⟨.move, [.const (.int .i64 0)], some 9, none⟩]) (.block 0 (.loop (.seq (.steps [⟨.bin .lss, [.tmp 9, .tmp 8], some 10, none⟩]) (.seq (.cond (.tmp 10) (.skip) (.exit 0)) (.seq (.block 1 (.seq (.steps [⟨.move, [.tmp 9], some 11, none⟩,⟨.move, [.tmp 11], some 6, none⟩]) (.seq (.drawn [(0,⟨.loadN 2, [.tmp 2], some 12, none⟩), (1,⟨.move, [.tmp 6], some 13, none⟩), (3,⟨.loadN 2, [.tmp 3], some 15, none⟩), (2,⟨.callF 59, [.tmp 12, .tmp 13], some 14, none⟩), (4,⟨.eqInts 2 false, [.tmp 14, .tmp 15], some 16, none⟩)] [0, 0, 3, 0, 15]) (.cond (.tmp 16) (.seq (.steps [⟨.move, [.tmp 6], some 17, none⟩,⟨.move, [.tmp 17], some 4, none⟩,⟨.move, [.const (.bool true)], some 5, none⟩]) (.ret)) (.skip))))) (.steps [⟨.bin .add, [.tmp 9, .const (.int .i64 1)], some 18, none⟩,⟨.move, [.tmp 18], some 9, none⟩]))))))) (.seq (.steps [⟨.move, [.const (.int .i64 0)], some 4, none⟩,⟨.move, [.const (.bool false)], some 5, none⟩]) (.ret)))) [.tmp 4, .tmp 5]
theorem c62_ok : compF Tryz.prog 62 = some c62 := by kernel_rfl
theorem reaches_ok {p p2 : Int} {s s2 : Nat} (hp : 1 ≤ p ∧ p ≤ 21) (hs : s < 2 ^ 32) (hs2 : s2 < 2 ^ 32) {H : Heap} {n : Nat} (hg : aget H 0 = some gl) : F Tryz.prog [0] 62 [stampV p s, stampV p2 s2] H n (fun v H' n' => (∃ y b, v = .tuple #[.int .i64 y, .bool b]) ∧ H' = H ∧ n' = n) := by
 refine pureF rfl ?_ hg
 refine F_of_comp c62_ok rfl ?_
 have hlim := limv
 have g0 : aget (ofL [(0, gl)]) 0 = some gl := rfl
 refine WC_go hE hm ?_
 refine xNew (ob := .cells [.int .i64 p, .int .u32 (s : Int)] 75 none) (mk := .ptr) fr0 (by omega) rfl rfl rfl rfl ?_
 intro H1 a2 a3 a4
 have f5 := (a3 _ (by omega)).trans g0
 refine xNew (ob := .cells [.int .i64 p2, .int .u32 (s2 : Int)] 75 none) (mk := .ptr) a4 (by omega) rfl rfl rfl rfl ?_
 intro H6 a7 a8 a9
 have f10 := (a8 _ (by omega)).trans f5
 have f11 := (a8 _ (by omega)).trans a2
 refine xP rfl rfl rfl rfl ?_
 refine xP rfl rfl rfl rfl ?_
 refine RXn ?_
 refine WLv (lv1 2 rfl (lv1 3 rfl lv0)) ?_
 refine WC_seq ?_
 refine WC_go hE hm ?_
 refine xP rfl rfl rfl rfl ?_
 refine xR (v := .int .i64 p) rfl rfl rfl (ld1 (o := 0 + 0) f11 rfl) ?_
 refine xP rfl rfl rfl rfl ?_
 refine RXn ?_
 refine WLv (lv1 2 rfl (lv1 3 rfl (lv1 8 rfl (lv1 9 rfl lv0)))) ?_
 refine WC_block ?_
 refine WC_loopX (X := Nat) (fun y => { T := ofL [(2, ptrAt (1) 0), (3, ptrAt (1 + 1) 0), (8, .int .i64 p), (9, .int .i64 (y : Int))], D := [], H := H6, n := 1 + 1 + 1 }) (fun y => (y : Int) ≤ p) (fun y => p.toNat - y) 0 (by omega) ?_
 intro k hk
 refine WC_go hE hm ?_
 refine xCmp rfl rfl rfl rfl ?_ ?_ <;> intro h10
 · skip
   refine RXn ?_
   refine WLv (lv1 2 rfl (lv1 3 rfl (lv1 8 rfl (lv1 9 rfl (lv1 10 rfl lv0))))) ?_
   refine WC_seq ?_
   refine WC_condT rfl ?_
   refine WC_skip ?_
   refine thenN ?_
   refine WLv (lv1 2 rfl (lv1 3 rfl (lv1 8 rfl (lv1 9 rfl lv0)))) ?_
   refine WC_seq ?_
   refine WC_block ?_
   refine WC_go hE hm ?_
   refine xP rfl rfl rfl rfl ?_
   refine xP rfl rfl rfl rfl ?_
   refine RXn ?_
   refine WLv (lv1 2 rfl (lv1 3 rfl (lv1 6 rfl (lv1 8 rfl (lv1 9 rfl lv0))))) ?_
   refine WC_goD hE hm ?_
   refine dR (v := .agg #[.int .i64 p, .int .u32 (s : Int)]) rfl rfl rfl (loadBox (xs := [.int .i64 p, .int .u32 (s : Int)]) f11 rfl) ?_
   refine dX rfl (xP rfl rfl rfl rfl (RXn ?_))
   refine dR (v := .agg #[.int .i64 p2, .int .u32 (s2 : Int)]) rfl rfl rfl (loadBox (xs := [.int .i64 p2, .int .u32 (s2 : Int)]) a7 rfl) ?_
   refine dC (f := 59) (args := [.agg #[.int .i64 p, .int .u32 (s : Int)], .int .i64 (k : Int)]) rfl rfl rfl rfl (turned_ok hp hs ⟨by omega, by omega⟩ f10) ?_
   rintro _ H9 n9 ⟨⟨u12, hu12, rfl⟩, hH9, hn9⟩
   obtain rfl := hH9.symm
   obtain rfl := hn9.symm
   refine ⟨stabSame, ?_⟩
   refine dX rfl (xP rfl rfl rfl rfl (RXn ?_))
   refine dNil ?_
   refine WLv (lv1 2 rfl (lv1 3 rfl (lv1 6 rfl (lv1 8 rfl (lv1 9 rfl (lv1 16 rfl lv0)))))) ?_
   refine WC_cond rfl (fun h => ?_) (fun h => ?_)
   · skip
     refine WC_go hE hm ?_
     refine xP rfl rfl rfl rfl ?_
     refine xP rfl rfl rfl rfl ?_
     refine xP rfl rfl rfl rfl ?_
     refine RXn ?_
     refine WLv (lv1 4 rfl (lv1 5 rfl lv0)) ?_
     refine WC_ret ?_
     refine blockR ?_
     refine thenR ?_
     refine thenR ?_
     refine blockR ?_
     refine thenR ?_
     refine endR rfl ?_
     exact ⟨⟨_, _, rfl⟩, rfl, f10⟩
   · skip
     refine WC_skip ?_
     refine blockN ?_
     refine thenN ?_
     refine WLv (lv1 2 rfl (lv1 3 rfl (lv1 8 rfl (lv1 9 rfl lv0)))) ?_
     refine WC_steps hE hm ?_
     refine xAdd rfl rfl (by omega) ?_
     refine xP rfl rfl rfl rfl ?_
     refine RXn ?_
     refine thenN ⟨k + 1, by omega, by omega, Le.live (lv1 2 rfl (lv1 3 rfl (lv1 8 rfl (lv1 9 rfl lv0))))⟩
 · skip
   refine RXn ?_
   refine WLv (lv1 2 rfl (lv1 3 rfl (lv1 8 rfl (lv1 9 rfl (lv1 10 rfl lv0))))) ?_
   refine WC_seq ?_
   refine WC_condF rfl ?_
   refine WC_exit ?_
   refine thenE ?_
   refine thenE ?_
   refine blockE ?_
   refine thenN ?_
   refine WLv lv0 ?_
   refine WC_go hE hm ?_
   refine xP rfl rfl rfl rfl ?_
   refine xP rfl rfl rfl rfl ?_
   refine RXn ?_
   refine WLv (lv1 4 rfl (lv1 5 rfl lv0)) ?_
   refine WC_ret ?_
   refine endR rfl ?_
   exact ⟨⟨_, _, rfl⟩, rfl, f10⟩
def c63 : FC := FC.mk 30 (.seq (.steps [⟨.box 75, [.tmp 0], some 2, none⟩,⟨.alloc 75 [.int .i64 0, .int .u32 0], [], some 4, none⟩]) (.seq (.steps [⟨.fieldAddr 0, [.tmp 2], some 8, none⟩,⟨.load1, [.tmp 8], some 9, none⟩,⟨.build [.int .i64 0, .int .u32 0] [(0, 1)], [.tmp 9], some 10, none⟩,⟨.alloc 75 [.int .i64 0, .int .u32 0], [], some 5, none⟩,⟨.store 2, [.tmp 5, .tmp 10], none, none⟩]) (.seq (.seq (.steps [⟨.loadN 2, [.tmp 2], some 11, none⟩,⟨.callF 66, [.tmp 11], some 12, none⟩,⟨.lenS, [.tmp 12], some 13, none⟩,⟨.move, [.const (.int .i64 0)], some 14, none⟩]) (.block 0 (.loop (.seq (.steps [⟨.bin .lss, [.tmp 14, .tmp 13], some 15, none⟩]) (.seq (.cond (.tmp 15) (.skip) (.exit 0)) (.seq (.block 1 (.seq (.steps [⟨.indexAddrS 1, [.tmp 12, .tmp 14], some 16, none⟩,⟨.load1, [.tmp 16], some 17, none⟩,⟨.move, [.tmp 17], some 7, none⟩]) (.drawn [(0,⟨.fieldAddr 1, [.tmp 5], some 18, none⟩), (1,⟨.load1, [.tmp 18], some 19, none⟩), (2,⟨.loadN 2, [.tmp 2], some 20, none⟩), (3,⟨.move, [.tmp 7], some 21, none⟩), (4,⟨.move, [.tmp 1], some 22, none⟩), (5,⟨.bin .mul, [.tmp 21, .tmp 22], some 23, none⟩), (6,⟨.callF 57, [.tmp 20, .tmp 23], some 24, none⟩), (7,⟨.bin .shl, [.const (.int .u32 1), .tmp 24], some 25, none⟩), (8,⟨.bin .or, [.tmp 19, .tmp 25], some 26, none⟩), (9,⟨.fieldAddr 1, [.tmp 5], some 27, none⟩), (10,⟨.store 1, [.tmp 27, .tmp 26], none, none⟩)] [0, 1, 0, 0, 0, 24, 60, 124, 255, 511, 1023]))) (.steps [⟨.bin .add, [.tmp 14, .const (.int .i64 1)], some 28, none⟩,⟨.move, [.tmp 28], some 14, none⟩]))))))) (.seq (.steps [⟨.loadN 2, [.tmp 5], some 29, none⟩,⟨.store 2, [.tmp 4, .tmp 29], none, none⟩]) (.ret))))) [.cellN 4 2]
theorem c63_ok : compF Tryz.prog 63 = some c63 := by kernel_rfl
theorem times_ok {p m : Int} {s : Nat} (hp : 1 ≤ p ∧ p ≤ 21) (hs : s < 2 ^ 32) {H : Heap} {n : Nat} (hg : aget H 0 = some gl) : F Tryz.prog [0] 63 [stampV p s, .int .i64 m] H n (fun v H' n' => (∃ u : Nat, u < 2 ^ 32 ∧ v = stampV p u) ∧ H' = H ∧ n' = n) := by
 refine pureF rfl ?_ hg
 refine F_of_comp c63_ok rfl ?_
 have hlim := limv
 have g0 : aget (ofL [(0, gl)]) 0 = some gl := rfl
 refine WC_go hE hm ?_
 refine xNew (ob := .cells [.int .i64 p, .int .u32 (s : Int)] 75 none) (mk := .ptr) fr0 (by omega) rfl rfl rfl rfl ?_
 intro H1 a2 a3 a4
 have f5 := (a3 _ (by omega)).trans g0
 refine xNew (ob := .cells [.int .i64 0, .int .u32 0] 75 none) (mk := .ptr) a4 (by omega) rfl rfl rfl rfl ?_
 intro H6 a7 a8 a9
 have f10 := (a8 _ (by omega)).trans f5
 have f11 := (a8 _ (by omega)).trans a2
 refine RXn ?_
 refine WLv (lv1 1 rfl (lv1 2 rfl (lv1 4 rfl lv0))) ?_
 refine WC_go hE hm ?_
 refine xP rfl rfl rfl rfl ?_
 refine xR (v := .int .i64 p) rfl rfl rfl (ld1 (o := 0 + 0) f11 rfl) ?_
 refine xBuild [.int .i64 p, .int .u32 0] rfl rfl rfl ?_
 refine xNew (ob := .cells [.int .i64 0, .int .u32 0] 75 none) (mk := .ptr) a9 (by omega) rfl rfl rfl rfl ?_
 intro H12 a13 a14 a15
 have f16 := (a14 _ (by omega)).trans f10
 have f17 := (a14 _ (by omega)).trans f11
 have f18 := (a14 _ (by omega)).trans a7
 refine xFill (ys := [.int .i64 p, .int .u32 0]) a13 rfl rfl (by simp only [List.all_cons, List.all_nil, gsl_cell1]; rfl) rfl rfl (by omega) ?_
 intro H19 b20 b21
 have f22 := (b21 _ (by omega)).trans f16
 have f23 := (b21 _ (by omega)).trans f17
 have f24 := (b21 _ (by omega)).trans f18
 have g25 : Fresh H19 (1 + 1 + 1 + 1) := fun q h1 h2 => by rw [b21 q (by omega)]; exact a15 q h1 h2
 refine RXn ?_
 refine WLv (lv1 1 rfl (lv1 2 rfl (lv1 4 rfl (lv1 5 rfl lv0)))) ?_
 refine WC_seq ?_
 refine WC_go hE hm ?_
 refine xR (v := .agg #[.int .i64 p, .int .u32 (s : Int)]) rfl rfl rfl (loadBox (xs := [.int .i64 p, .int .u32 (s : Int)]) f23 rfl) ?_
 refine xC rfl rfl rfl rfl (marks_ok hp hs f22 g25 (by omega) (by omega)) ?_
 rintro _ H26 n26 ⟨F26, l26, i26, rfl, hl26, hx26, hr26⟩
 have le26 := F26.le
 have rm26 := F26.room
 have f27 := (F26.keep _ (by omega)).trans f22
 have f28 := (F26.keep _ (by omega)).trans f23
 have f29 := (F26.keep _ (by omega)).trans f24
 have f30 := (F26.keep _ (by omega)).trans b20
 refine xP (v := .int .i64 ((l26.length : Nat) : Int)) rfl rfl rfl (SliceAt.gsl _ _).lenS ?_
 refine xP rfl rfl rfl rfl ?_
 refine RXn ?_
 refine WLv (lv1 1 rfl (lv1 2 rfl (lv1 4 rfl (lv1 5 rfl (lv1 12 rfl (lv1 13 rfl (lv1 14 rfl lv0))))))) ?_
 refine WC_block ?_
 refine WC_loopX (X := Nat × Nat × Heap) (fun y => { T := ofL [(1, .int .i64 m), (2, ptrAt 1 0), (4, ptrAt (1 + 1) 0), (5, ptrAt (1 + 1 + 1) 0), (12, gsl (i26) (l26.length)), (13, .int .i64 (l26.length : Int)), (14, .int .i64 (y.1 : Int))], D := [], H := y.2.2, n := n26 })
  (fun y => y.1 ≤ l26.length ∧ y.2.1 < 2 ^ 32 ∧ aget y.2.2 (1 + 1 + 1) = some (.cells [.int .i64 p, .int .u32 (y.2.1 : Int)] 75 none) ∧ (∀ q, q ≠ 1 + 1 + 1 → aget y.2.2 q = aget H26 q) ∧ Fresh y.2.2 (n26)) (fun y => l26.length - y.1) (0, 0, H26) ⟨by dsimp only; omega, by dsimp only; decide, f30, (fun _ _ => rfl), F26.fresh⟩ ?_
 rintro ⟨k, u, Hl⟩ ⟨hk, hu, hb5, hkeep, hfl⟩
 dsimp only at *
 have l31 := (hkeep 0 (by omega)).trans f27
 have l32 := (hkeep (1) (by omega)).trans f28
 have l33 := (hkeep (1 + 1) (by omega)).trans f29
 have l34 : l26 ≠ [] → aget Hl i26 = some (.cells (ints l26) 3 (some 1)) := fun hne => by have hdm := (hr26 hne).2; exact (hkeep _ (by omega)).trans ((fun h => (hr26 h).1) hne)
 refine WC_go hE hm ?_
 refine xCmp rfl rfl rfl rfl ?_ ?_ <;> intro h15
 · skip
   refine RXn ?_
   refine WLv (lv1 1 rfl (lv1 2 rfl (lv1 4 rfl (lv1 5 rfl (lv1 12 rfl (lv1 13 rfl (lv1 14 rfl (lv1 15 rfl lv0)))))))) ?_
   refine WC_seq ?_
   refine WC_condT rfl ?_
   refine WC_skip ?_
   refine thenN ?_
   refine WLv (lv1 1 rfl (lv1 2 rfl (lv1 4 rfl (lv1 5 rfl (lv1 12 rfl (lv1 13 rfl (lv1 14 rfl lv0))))))) ?_
   refine WC_seq ?_
   refine WC_block ?_
   refine WC_go hE hm ?_
   refine xIdxG rfl rfl ⟨by omega, by omega⟩ ?_
   have hne : l26 ≠ [] := by rintro rfl; simp only [List.length_nil] at *; omega
   refine xLdI rfl rfl (l34 hne) (by omega) ?_
   have hmem := hx26 _ (List.getElem_mem (show k < l26.length by omega))
   have hget : l26.getD ((k : Int)).toNat 0 = l26[k] := by rw [Int.toNat_natCast, List.getD_eq_getElem?_getD, List.getElem?_eq_getElem (by omega)]; rfl
   rw [← hget] at hmem
   refine xP rfl rfl rfl rfl ?_
   refine RXn ?_
   refine WLv (lv1 1 rfl (lv1 2 rfl (lv1 4 rfl (lv1 5 rfl (lv1 7 rfl (lv1 12 rfl (lv1 13 rfl (lv1 14 rfl lv0)))))))) ?_
   refine WC_drawnD hE hm ?_
   refine dX rfl (xP rfl rfl rfl rfl (RXn ?_))
   refine dR (v := .int .u32 (u : Int)) rfl rfl rfl (ld1 (o := 0 + 1) hb5 rfl) ?_
   refine dR (v := .agg #[.int .i64 p, .int .u32 (s : Int)]) rfl rfl rfl (loadBox (xs := [.int .i64 p, .int .u32 (s : Int)]) l32 rfl) ?_
   refine dX rfl (xP rfl rfl rfl rfl (RXn ?_))
   refine dX rfl (xP rfl rfl rfl rfl (RXn ?_))
   refine dX rfl (xP (v := .int .i64 (IntKind.i64.wrap ((l26.getD ((k : Int)).toNat 0) * m))) rfl rfl rfl rfl (RXn ?_))
   refine dC (f := 57) (args := [.agg #[.int .i64 p, .int .u32 (s : Int)], .int .i64 (IntKind.i64.wrap ((l26.getD ((k : Int)).toNat 0) * m))]) rfl rfl rfl rfl (on_ok hp l31) ?_
   rintro _ H9 n9 ⟨⟨y35, rfl, hy35a, hy35b, hy35c⟩, hH9, hn9⟩
   obtain rfl := hH9.symm
   obtain rfl := hn9.symm
   refine ⟨stabSame, ?_⟩
   refine dX rfl (xShl (x := 1) rfl rfl rfl (by omega) (RXn ?_))
   refine dX rfl (xOr rfl rfl rfl hu (Nat.mod_lt _ (by decide)) (RXn ?_))
   have hw36 : (u ||| (1 <<< min (y35).toNat IntKind.u32.bits) % 2 ^ IntKind.u32.bits) < 2 ^ 32 := Nat.or_lt_two_pow hu (Nat.mod_lt _ (by decide))
   generalize (u ||| (1 <<< min (y35).toNat IntKind.u32.bits) % 2 ^ IntKind.u32.bits) = w36 at hw36 ⊢
   refine dX rfl (xP rfl rfl rfl rfl (RXn ?_))
   refine dStO (u := .int .u32 (w36 : Int)) [.int .i64 p, .int .u32 (w36 : Int)] hb5 (by show _ ≤ _; simp) rfl rfl rfl rfl rfl (by omega) ?_
   intro H37 b38 b39
   have f40 := (b39 _ (by omega)).trans l31
   have f41 := (b39 _ (by omega)).trans l32
   have f42 := (b39 _ (by omega)).trans l33
   have f43 : l26 ≠ [] → aget H37 i26 = some (.cells (ints l26) 3 (some 1)) := fun hne => by have hdm := (hr26 hne).2; exact (b39 _ (by omega)).trans (l34 hne)
   have g44 : Fresh H37 (n26) := fun q h1 h2 => by rw [b39 q (by omega)]; exact hfl q h1 h2
   refine ⟨stabE (by kernel_rfl), ?_⟩
   refine dNil ?_
   refine blockN ?_
   refine thenN ?_
   refine WLv (lv1 1 rfl (lv1 2 rfl (lv1 4 rfl (lv1 5 rfl (lv1 12 rfl (lv1 13 rfl (lv1 14 rfl lv0))))))) ?_
   refine WC_steps hE hm ?_
   refine xAdd rfl rfl (by omega) ?_
   refine xP rfl rfl rfl rfl ?_
   refine RXn ?_
   refine thenN ⟨(k + 1, w36, H37), ⟨by dsimp only; omega, hw36, b38, (fun q hq => ((b39 q hq).trans (hkeep q hq))), g44⟩, by dsimp only; omega, Le.live (lv1 1 rfl (lv1 2 rfl (lv1 4 rfl (lv1 5 rfl (lv1 12 rfl (lv1 13 rfl (lv1 14 rfl lv0)))))))⟩
 · skip
   refine RXn ?_
   refine WLv (lv1 1 rfl (lv1 2 rfl (lv1 4 rfl (lv1 5 rfl (lv1 12 rfl (lv1 13 rfl (lv1 14 rfl (lv1 15 rfl lv0)))))))) ?_
   refine WC_seq ?_
   refine WC_condF rfl ?_
   refine WC_exit ?_
   refine thenE ?_
   refine thenE ?_
   refine blockE ?_
   refine thenN ?_
   refine WLv (lv1 4 rfl (lv1 5 rfl lv0)) ?_
   refine WC_go hE hm ?_
   refine xR (v := .agg #[.int .i64 p, .int .u32 (u : Int)]) rfl rfl rfl (loadBox (xs := [.int .i64 p, .int .u32 (u : Int)]) hb5 rfl) ?_
   refine xFill (ys := [.int .i64 p, .int .u32 (u : Int)]) l33 rfl rfl (by simp only [List.all_cons, List.all_nil, gsl_cell1]; rfl) rfl rfl (by omega) ?_
   intro H45 b46 b47
   have f48 := (b47 _ (by omega)).trans l31
   have f49 := (b47 _ (by omega)).trans l32
   have f50 := (b47 _ (by omega)).trans hb5
   have f51 : l26 ≠ [] → aget H45 i26 = some (.cells (ints l26) 3 (some 1)) := fun hne => by have hdm := (hr26 hne).2; exact (b47 _ (by omega)).trans (l34 hne)
   have g52 : Fresh H45 (n26) := fun q h1 h2 => by rw [b47 q (by omega)]; exact hfl q h1 h2
   refine RXn ?_
   refine WLv (lv1 4 rfl lv0) ?_
   refine WC_ret ?_
   refine endR (rvs1 (rv_cellN (b := 1 + 1) rfl b46 rfl)) ?_
   exact ⟨⟨_, hu, rfl⟩, rfl, f48⟩
end Go.Proofs.YtmpogedhilfjgaaGreatDoor
