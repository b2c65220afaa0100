/- A part of the proof that spadilletop.TopSharedCut answers true and leaves its argument as it was (bulk at most 1048576): C1. -/
import Derived.Test.YtnagcnlldllagaaGreatDoorCsI
import Derived.Test.YtnagcnlldllagaaGreatDoorCsG
import Derived.Test.YtnagcnlldllagaaGreatDoorRows
set_option linter.all false
/- The seat's ground: its program, its globals. -/
set_option maxRecDepth 1000000
open Go Go.Cs
namespace Go.Proofs.YtnagcnlldllagaaGreatDoor
noncomputable def E0 : Env := { meth := methP Tryz.prog }
theorem hE : EnvOk Tryz.prog E0 := by
  constructor
  intro t name f h
  unfold E0 at h
  exact h
theorem hm : Tryz.prog.follows .mixedOrders = true := by kernel_rfl
def gl : AObj := .cells ((List.range 20).map fun i => .int .u64 (10^i)) 237 none
def H0 : Heap := ofL [(0, gl)]
theorem hG0 : ∀ g ∈ [0], g < 1 := by decide
theorem glOk : GlobOk [0] (ofL [(0, gl)]) 1 := by
  intro g hg
  simp only [List.mem_cons, List.not_mem_nil, or_false] at hg
  subst hg
  exact ⟨by decide, _, _, rfl, by decide⟩
theorem glOnly : ∀ i, i ∉ [0] → aget (ofL [(0, gl)]) i = none := by
  intro i hi
  simp only [List.mem_cons, List.not_mem_nil, or_false] at hi
  show (bif Nat.beq 0 i then some gl else none) = none
  cases h : Nat.beq 0 i with
  | true => exact absurd (Nat.eq_of_beq_eq_true h).symm hi
  | false => rfl
/-- A call that takes and gives no memory. -/
theorem pureF {R : Value → Prop} {f : FuncId} {args : List Value} (ha : idsL args = []) (h : F Tryz.prog [0] f args (ofL [(0, gl)]) 1 fun v H' n' => R v ∧ idsV v = [] ∧ aget H' 0 = some gl) {H : Heap} {n : Nat} (hg : aget H 0 = some gl) :
    F Tryz.prog [0] f args H n fun v H' n' => R v ∧ H' = H ∧ n' = n := by
  refine F_pure ha glOk glOnly ?_ (h.mono fun v H' n' ⟨h1, h2, h3⟩ => ⟨h1, h2, ?_⟩)
  · intro g hg'
    simp only [List.mem_cons, List.not_mem_nil, or_false] at hg'
    subst hg'; exact hg
  · intro g hg'
    simp only [List.mem_cons, List.not_mem_nil, or_false] at hg'
    subst hg'; exact h3
end Go.Proofs.YtnagcnlldllagaaGreatDoor

/- Small functions of package cut: what they answer. -/
set_option maxRecDepth 1000000
set_option maxHeartbeats 4000000
open Go Go.Cs
namespace Go.Proofs.YtnagcnlldllagaaGreatDoor
def sheetV (r c l w : Int) : Value := .agg #[.int .i64 r, .int .i64 c, .int .i64 l, .int .i64 w]
def okSheet (r c l w : Int) : Prop := (1 ≤ r ∧ r ≤ 6) ∧ (1 ≤ c ∧ c ≤ 6) ∧ (1 ≤ l ∧ l ≤ 6) ∧ 1 ≤ w ∧ w ≤ 6
def tableV (r c l w : Int) (p q f : Nat) : Value := .agg #[.int .i64 r, .int .i64 c, .int .i64 l, .int .i64 w, .int .u64 (p : Int), .int .u64 (q : Int), .int .u64 (f : Int)]
structure OkTable (r c l w : Int) (p q f : Nat) : Prop where
  sheet : okSheet r c l w
  p1 : p % 2 = 1
  q1 : q % 2 = 1
  pl : p < 2 ^ 64
  ql : q < 2 ^ 64
  fl : f < 2 ^ 64
theorem wrapNat (x : Int) : ∃ m : Nat, m < 2 ^ 64 ∧ IntKind.u64.wrap x = (m : Int) := by
  have h : 0 ≤ IntKind.u64.wrap x ∧ IntKind.u64.wrap x < 18446744073709551616 := by
    unfold IntKind.wrap; simp [IntKind.bits, IntKind.signed]; omega
  exact ⟨(IntKind.u64.wrap x).toNat, by omega, by omega⟩
theorem or_gt {a b : Nat} (h : a &&& b = 0) (hb : b ≠ 0) : a < a ||| b := by
  refine Nat.lt_of_le_of_ne Nat.left_le_or fun e => hb ?_
  have h1 : b &&& (a ||| b) = b := by
    apply Nat.eq_of_testBit_eq
    intro i
    simp only [Nat.testBit_and, Nat.testBit_or]
    cases b.testBit i <;> simp
  rw [← e, Nat.and_comm, h] at h1
  exact h1.symm
theorem shl_bit {x j : Nat} (hx : x % 2 = 1) (hj : j < 64) : ((x <<< min j 64) % 2 ^ 64).testBit j = true := by
  rw [Nat.testBit_mod_two_pow]
  have : min j 64 = j := by omega
  rw [this, Nat.testBit_shiftLeft]
  simp [hj, hx]
theorem shl_ne {x j : Nat} (hx : x % 2 = 1) (hj : j < 64) : (x <<< min j 64) % 2 ^ 64 ≠ 0 := by
  intro h
  have h1 : ((x <<< min j 64) % 2 ^ 64).testBit j = true := by
    rw [Nat.testBit_mod_two_pow]
    have : min j 64 = j := by omega
    rw [this, Nat.testBit_shiftLeft]
    simp [hj, hx]
  rw [h] at h1
  simp at h1
def c51 : FC := FC.mk 29 (
  .seq (.steps [⟨.box 23, [.tmp 0], some 1, none⟩,
    ⟨.move, [.const (.int .i64 0)], some 2, none⟩]) (
  .seq (.seq (.steps [⟨.fieldAddr 0, [.tmp 1], some 5, none⟩,
    ⟨.load1, [.tmp 5], some 6, none⟩,
    ⟨.fieldAddr 1, [.tmp 1], some 7, none⟩,
    ⟨.load1, [.tmp 7], some 8, none⟩,
    ⟨.fieldAddr 2, [.tmp 1], some 9, none⟩,
    ⟨.load1, [.tmp 9], some 10, none⟩,
    ⟨.fieldAddr 3, [.tmp 1], some 11, none⟩,
    ⟨.load1, [.tmp 11], some 12, none⟩,
    ⟨.bmin, [.tmp 6, .tmp 8, .tmp 10, .tmp 12], some 13, none⟩,
    ⟨.fieldAddr 0, [.tmp 1], some 14, none⟩,
    ⟨.load1, [.tmp 14], some 15, none⟩,
    ⟨.fieldAddr 1, [.tmp 1], some 16, none⟩,
    ⟨.load1, [.tmp 16], some 17, none⟩,
    ⟨.fieldAddr 2, [.tmp 1], some 18, none⟩,
    ⟨.load1, [.tmp 18], some 19, none⟩,
    ⟨.fieldAddr 3, [.tmp 1], some 20, none⟩,
    ⟨.load1, [.tmp 20], some 21, none⟩,
    ⟨.bmax, [.tmp 15, .tmp 17, .tmp 19, .tmp 21], some 22, none⟩,
    ⟨.move, [.tmp 13], some 3, none⟩,
    ⟨.move, [.tmp 22], some 4, none⟩]) (
  .seq (.steps [⟨.move, [.tmp 3], some 23, none⟩,
    ⟨.bin .lss, [.tmp 23, .const (.int .i64 1)], some 24, none⟩,
    ⟨.move, [.tmp 24], some 25, none⟩,
    ⟨.move, [.tmp 4], some 26, some (25, false)⟩,
    ⟨.bin .gtr, [.tmp 26, .const (.int .i64 6)], some 27, some (25, false)⟩,
    ⟨.pick, [.tmp 25, .const (.bool true), .tmp 27], some 28, none⟩]) (
  .cond (.tmp 28) (
    .seq (.steps [⟨.move, [.const (.int .i64 1)], some 2, none⟩]) (
    .ret)) (
    .skip)))) (
  .seq (.steps [⟨.move, [.const (.int .i64 0)], some 2, none⟩]) (
  .ret)))) [.tmp 2]
theorem c51_ok : compF Tryz.prog 51 = some c51 := by kernel_rfl
/-- spadille/cut.Check -/
theorem f51 (r c l w : Int) {H : Heap} {n : Nat} (hg : aget H 0 = some gl) : F Tryz.prog [0] 51 [sheetV r c l w] H n (fun v H' n' => (∃ e : Int, v = .int .i64 e ∧ (e = 0 → okSheet r c l w)) ∧ H' = H ∧ n' = n) := by
  refine pureF rfl ?_ hg
  refine F_of_comp c51_ok rfl ?_
  refine WC_go hE hm ?_
  refine xA rfl rfl rfl rfl rfl rfl ?_
  refine xP rfl rfl rfl rfl ?_
  refine RX_nil ?_
  refine WC_live (live1 1 rfl live0) ?_
  refine WC_seq ?_
  refine WC_go hE hm ?_
  refine xP rfl rfl rfl rfl ?_
  refine xR rfl rfl rfl rfl ?_
  refine xP rfl rfl rfl rfl ?_
  refine xR rfl rfl rfl rfl ?_
  refine xP rfl rfl rfl rfl ?_
  refine xR rfl rfl rfl rfl ?_
  refine xP rfl rfl rfl rfl ?_
  refine xR rfl rfl rfl rfl ?_
  refine xMin [c, l, w] rfl rfl ?_
  refine xP rfl rfl rfl rfl ?_
  refine xR rfl rfl rfl rfl ?_
  refine xP rfl rfl rfl rfl ?_
  refine xR rfl rfl rfl rfl ?_
  refine xP rfl rfl rfl rfl ?_
  refine xR rfl rfl rfl rfl ?_
  refine xP rfl rfl rfl rfl ?_
  refine xR rfl rfl rfl rfl ?_
  refine xMax [c, l, w] rfl rfl ?_
  refine xP rfl rfl rfl rfl ?_
  refine xP rfl rfl rfl rfl ?_
  refine RX_nil ?_
  refine WC_live (live1 3 rfl (live1 4 rfl live0)) ?_
  refine WC_go hE hm ?_
  refine xP rfl rfl rfl rfl ?_
  refine xCmp rfl rfl rfl rfl ?_ ?_ <;> intro h
  ·
    refine xP rfl rfl rfl rfl ?_
    refine xS rfl ?_
    refine xS rfl ?_
    refine xP rfl rfl rfl rfl ?_
    refine RX_nil ?_
    refine WC_live (live1 28 rfl live0) ?_
    refine WC_condT rfl ?_
    refine WC_go hE hm ?_
    refine xP rfl rfl rfl rfl ?_
    refine RX_nil ?_
    refine WC_live (live1 2 rfl live0) ?_
    refine WC_ret ?_
    refine thenR ?_
    refine endR rfl ?_
    exact ⟨⟨1, rfl, by simp⟩, rfl, rfl⟩
  ·
    refine xP rfl rfl rfl rfl ?_
    refine xP rfl rfl rfl rfl ?_
    refine xCmp rfl rfl rfl rfl ?_ ?_ <;> intro h
    ·
      refine xP rfl rfl rfl rfl ?_
      refine RX_nil ?_
      refine WC_live (live1 28 rfl live0) ?_
      refine WC_condT rfl ?_
      refine WC_go hE hm ?_
      refine xP rfl rfl rfl rfl ?_
      refine RX_nil ?_
      refine WC_live (live1 2 rfl live0) ?_
      refine WC_ret ?_
      refine thenR ?_
      refine endR rfl ?_
      exact ⟨⟨1, rfl, by simp⟩, rfl, rfl⟩
    ·
      refine xP rfl rfl rfl rfl ?_
      refine RX_nil ?_
      refine WC_live (live1 28 rfl live0) ?_
      refine WC_condF rfl ?_
      refine WC_skip ?_
      refine thenN ?_
      refine WC_live live0 ?_
      refine WC_go hE hm ?_
      refine xP rfl rfl rfl rfl ?_
      refine RX_nil ?_
      refine WC_live (live1 2 rfl live0) ?_
      refine WC_ret ?_
      refine endR rfl ?_
      exact ⟨⟨0, rfl, by intro _; simp only [List.foldl] at *; unfold okSheet; omega⟩, rfl, rfl⟩
def c42 : FC := FC.mk 15 (
  .seq (.steps [⟨.box 23, [.tmp 0], some 2, none⟩,
    ⟨.move, [.const (.int .i64 0)], some 4, none⟩,
    ⟨.move, [.const (.int .i64 0)], some 5, none⟩]) (
  .seq (.seq (.steps [⟨.move, [.tmp 1], some 6, none⟩]) (
  .cond (.tmp 6) (
    .seq (.steps [⟨.fieldAddr 3, [.tmp 2], some 7, none⟩,
      ⟨.load1, [.tmp 7], some 8, none⟩,
      ⟨.fieldAddr 2, [.tmp 2], some 9, none⟩,
      ⟨.load1, [.tmp 9], some 10, none⟩,
      ⟨.move, [.tmp 8], some 4, none⟩,
      ⟨.move, [.tmp 10], some 5, none⟩]) (
    .ret)) (
    .skip))) (
  .seq (.steps [⟨.fieldAddr 2, [.tmp 2], some 11, none⟩,
    ⟨.load1, [.tmp 11], some 12, none⟩,
    ⟨.fieldAddr 3, [.tmp 2], some 13, none⟩,
    ⟨.load1, [.tmp 13], some 14, none⟩,
    ⟨.move, [.tmp 12], some 4, none⟩,
    ⟨.move, [.tmp 14], some 5, none⟩]) (
  .ret)))) [.tmp 4, .tmp 5]
theorem c42_ok : compF Tryz.prog 42 = some c42 := by kernel_rfl
/-- (spadille/cut.Sheet).size -/
theorem f42 (r c l w : Int) (t : Bool) {H : Heap} {n : Nat} (hg : aget H 0 = some gl) : F Tryz.prog [0] 42 [sheetV r c l w, .bool t] H n (fun v H' n' => (v = .tuple #[.int .i64 (if t then w else l), .int .i64 (if t then l else w)]) ∧ H' = H ∧ n' = n) := by
  refine pureF rfl ?_ hg
  refine F_of_comp c42_ok rfl ?_
  refine WC_go hE hm ?_
  refine xA rfl rfl rfl rfl rfl rfl ?_
  refine xP rfl rfl rfl rfl ?_
  refine xP rfl rfl rfl rfl ?_
  refine RX_nil ?_
  refine WC_live (live1 1 rfl (live1 2 rfl live0)) ?_
  refine WC_seq ?_
  refine WC_go hE hm ?_
  refine xP rfl rfl rfl rfl ?_
  refine RX_nil ?_
  refine WC_live (live1 2 rfl (live1 6 rfl live0)) ?_
  refine WC_cond rfl (fun h => ?_) (fun h => ?_)
  ·
    refine WC_go hE hm ?_
    refine xP rfl rfl rfl rfl ?_
    refine xR rfl rfl rfl rfl ?_
    refine xP rfl rfl rfl rfl ?_
    refine xR rfl rfl rfl rfl ?_
    refine xP rfl rfl rfl rfl ?_
    refine xP rfl rfl rfl rfl ?_
    refine RX_nil ?_
    refine WC_live (live1 4 rfl (live1 5 rfl live0)) ?_
    refine WC_ret ?_
    refine thenR ?_
    refine endR rfl ?_
    subst h; exact ⟨rfl, rfl, rfl⟩
  ·
    refine WC_skip ?_
    refine thenN ?_
    refine WC_live (live1 2 rfl live0) ?_
    refine WC_go hE hm ?_
    refine xP rfl rfl rfl rfl ?_
    refine xR rfl rfl rfl rfl ?_
    refine xP rfl rfl rfl rfl ?_
    refine xR rfl rfl rfl rfl ?_
    refine xP rfl rfl rfl rfl ?_
    refine xP rfl rfl rfl rfl ?_
    refine RX_nil ?_
    refine WC_live (live1 4 rfl (live1 5 rfl live0)) ?_
    refine WC_ret ?_
    refine endR rfl ?_
    subst h; exact ⟨rfl, rfl, rfl⟩
def c57 : FC := FC.mk 22 (
  .seq (.steps [⟨.move, [.const (.int .u64 0)], some 6, none⟩]) (
  .seq (.steps [⟨.move, [.tmp 1], some 9, none⟩,
    ⟨.bin .shl, [.const (.int .u64 1), .tmp 9], some 10, none⟩,
    ⟨.bin .sub, [.tmp 10, .const (.int .u64 1)], some 11, none⟩,
    ⟨.move, [.const (.int .u64 0)], some 7, none⟩,
    ⟨.move, [.tmp 11], some 8, none⟩]) (
  .seq (.seq (.steps [⟨.move, [.tmp 0], some 12, none⟩,
    ⟨.move, [.const (.int .i64 0)], some 13, none⟩]) (
  .block 0 (
    .loop (
      .seq (.steps [⟨.bin .lss, [.tmp 13, .tmp 12], some 14, none⟩]) (
      .seq (.cond (.tmp 14) (
        .skip) (
        .exit 0)) (
      .seq (.block 1 (
        .steps [⟨.move, [.tmp 7], some 15, none⟩,
          ⟨.move, [.tmp 2], some 16, none⟩,
          ⟨.bin .shl, [.tmp 15, .tmp 16], some 17, none⟩,
          ⟨.move, [.tmp 8], some 18, none⟩,
          ⟨.bin .or, [.tmp 17, .tmp 18], some 19, none⟩,
          ⟨.move, [.tmp 19], some 7, none⟩])) (
      .steps [⟨.bin .add, [.tmp 13, .const (.int .i64 1)], some 20, none⟩,
        ⟨.move, [.tmp 20], some 13, none⟩]))))))) (
  .seq (.steps [⟨.move, [.tmp 7], some 21, none⟩,
    ⟨.move, [.tmp 21], some 6, none⟩]) (
  .ret))))) [.tmp 6]
theorem c57_ok : compF Tryz.prog 57 = some c57 := by kernel_rfl
/-- spadille/cut.block -/
theorem f57 (h w c : Int) (hh : 1 ≤ h ∧ h ≤ 6) (hw : 1 ≤ w ∧ w ≤ 6) (hc : 1 ≤ c ∧ c ≤ 6) {H : Heap} {n : Nat} (hg : aget H 0 = some gl) :
   F Tryz.prog [0] 57 [.int .i64 h, .int .i64 w, .int .i64 c] H n (fun v H' n' => (∃ r : Nat, v = .int .u64 (r : Int) ∧ r % 2 = 1 ∧ r < 2 ^ 64) ∧ H' = H ∧ n' = n) := by
  refine pureF rfl ?_ hg
  have hrow : ∃ row : Nat, row % 2 = 1 ∧ row < 2 ^ 64 ∧ IntKind.u64.wrap (((1 <<< min w.toNat IntKind.u64.bits) % 2 ^ IntKind.u64.bits : Nat) - 1 : Int) = (row : Int) := by
    have : w = 1 ∨ w = 2 ∨ w = 3 ∨ w = 4 ∨ w = 5 ∨ w = 6 := by omega
    rcases this with rfl | rfl | rfl | rfl | rfl | rfl
    · exact ⟨1, rfl, by decide, by decide⟩
    · exact ⟨3, rfl, by decide, by decide⟩
    · exact ⟨7, rfl, by decide, by decide⟩
    · exact ⟨15, rfl, by decide, by decide⟩
    · exact ⟨31, rfl, by decide, by decide⟩
    · exact ⟨63, rfl, by decide, by decide⟩
  obtain ⟨row, ho, hl, he⟩ := hrow
  refine F_of_comp c57_ok rfl ?_
  refine WC_go hE hm ?_
  refine xP rfl rfl rfl rfl ?_
  refine RX_nil ?_
  refine WC_live (live1 0 rfl (live1 1 rfl (live1 2 rfl live0))) ?_
  refine WC_go hE hm ?_
  refine xP rfl rfl rfl rfl ?_
  refine xShl (x := 1) rfl rfl rfl (by omega) ?_
  refine xP (v := .int .u64 (row : Int)) rfl rfl rfl (congrArg (fun z => some (Value.int .u64 z)) he) ?_
  refine xP rfl rfl rfl rfl ?_
  refine xP rfl rfl rfl rfl ?_
  refine RX_nil ?_
  refine WC_live (live1 0 rfl (live1 2 rfl (live1 7 rfl (live1 8 rfl live0)))) ?_
  refine WC_seq ?_
  refine WC_go hE hm ?_
  refine xP rfl rfl rfl rfl ?_
  refine xP rfl rfl rfl rfl ?_
  refine RX_nil ?_
  refine WC_live (live1 2 rfl (live1 7 rfl (live1 8 rfl (live1 12 rfl (live1 13 rfl live0))))) ?_
  refine WC_block ?_
  -- LOOP live [2, 7, 8, 12, 13]
  refine WC_le (s2 := { T := (ofL [(2, .int .i64 c), (7, .int .u64 (((0 : Nat) : Int))), (8, .int .u64 (row : Int)), (12, .int .i64 h), (13, .int .i64 0)]), D := [], H := ofL [(0, gl)], n := 1 }) (Le.live (live1 2 rfl (live1 7 rfl (live1 8 rfl (live1 12 rfl (live1 13 rfl live0)))))) ?_
  refine WC_loopX (X := Nat × Int) (fun x => { T := (ofL [(2, .int .i64 c), (7, .int .u64 ((x.1 : Int))), (8, .int .u64 (row : Int)), (12, .int .i64 h), (13, .int .i64 x.2)]), D := [], H := ofL [(0, gl)], n := 1 })
    (fun x => x.1 < 2 ^ 64 ∧ 0 ≤ x.2 ∧ x.2 ≤ h ∧ (1 ≤ x.2 → x.1 % 2 = 1)) (fun x => (h - x.2).toNat) (0, 0) ⟨by decide, by decide, by omega, by simp⟩ ?_
  rintro ⟨out, i⟩ ⟨i1, i2, i3, i4⟩
  dsimp only at *
  refine WC_go hE hm ?_
  refine xCmp rfl rfl rfl rfl ?_ ?_ <;> intro h
  ·
    refine RX_nil ?_
    refine WC_live (live1 2 rfl (live1 7 rfl (live1 8 rfl (live1 12 rfl (live1 13 rfl (live1 14 rfl live0)))))) ?_
    refine WC_seq ?_
    refine WC_condT rfl ?_
    refine WC_skip ?_
    refine thenN ?_
    refine WC_live (live1 2 rfl (live1 7 rfl (live1 8 rfl (live1 12 rfl (live1 13 rfl live0))))) ?_
    refine WC_seq ?_
    refine WC_block ?_
    refine WC_steps hE hm ?_
    refine xP rfl rfl rfl rfl ?_
    refine xP rfl rfl rfl rfl ?_
    refine xShl rfl rfl rfl (by omega) ?_
    refine xP rfl rfl rfl rfl ?_
    refine xOr rfl rfl rfl (Nat.mod_lt _ (by decide)) hl ?_
    refine xP rfl rfl rfl rfl ?_
    refine RX_nil ?_
    refine blockN ?_
    refine thenN ?_
    refine WC_live (live1 2 rfl (live1 7 rfl (live1 8 rfl (live1 12 rfl (live1 13 rfl live0))))) ?_
    refine WC_steps hE hm ?_
    refine xAdd rfl rfl (by omega) ?_
    refine xP rfl rfl rfl rfl ?_
    refine RX_nil ?_
    refine thenN ⟨(_, _), ⟨Nat.or_lt_two_pow (Nat.mod_lt _ (by decide)) hl, ?_, ?_, fun _ => ?_⟩, ?_, Le.live (live1 2 rfl (live1 7 rfl (live1 8 rfl (live1 12 rfl (live1 13 rfl live0)))))⟩
    · dsimp only; omega
    · dsimp only; omega
    · dsimp only; rw [Nat.or_mod_two_eq_one]; exact .inr ho
    · dsimp only; omega
  ·
    refine RX_nil ?_
    refine WC_live (live1 2 rfl (live1 7 rfl (live1 8 rfl (live1 12 rfl (live1 13 rfl (live1 14 rfl live0)))))) ?_
    refine WC_seq ?_
    refine WC_condF rfl ?_
    refine WC_exit ?_
    refine thenE ?_
    refine thenE ?_
    refine blockE ?_
    refine thenN ?_
    refine WC_live (live1 7 rfl live0) ?_
    refine WC_go hE hm ?_
    refine xP rfl rfl rfl rfl ?_
    refine xP rfl rfl rfl rfl ?_
    refine RX_nil ?_
    refine WC_live (live1 6 rfl live0) ?_
    refine WC_ret ?_
    refine endR rfl ?_
    exact ⟨⟨_, rfl, i4 (by omega), i1⟩, rfl, rfl⟩
def c36 : FC := FC.mk 35 (
  .seq (.steps [⟨.box 23, [.tmp 0], some 1, none⟩,
    ⟨.alloc 73 [.int .i64 0, .int .i64 0, .int .i64 0, .int .i64 0, .int .u64 0, .int .u64 0, .int .u64 0], [], some 2, none⟩,
    ⟨.move, [.const (.int .i64 0)], some 3, none⟩]) (
  .seq (.seq (.steps [⟨.loadN 4, [.tmp 1], some 5, none⟩,
    ⟨.callF 51, [.tmp 5], some 6, none⟩,
    ⟨.move, [.tmp 6], some 4, none⟩]) (
  .seq (.steps [⟨.move, [.tmp 4], some 7, none⟩,
    ⟨.bin .neq, [.tmp 7, .const (.int .i64 0)], some 8, none⟩]) (
  .cond (.tmp 8) (
    .seq (.steps [⟨.build [.int .i64 0, .int .i64 0, .int .i64 0, .int .i64 0, .int .u64 0, .int .u64 0, .int .u64 0] [], [], some 9, none⟩,
      ⟨.move, [.tmp 4], some 10, none⟩,
      ⟨.store 7, [.tmp 2, .tmp 9], none, none⟩,
      ⟨.move, [.tmp 10], some 3, none⟩]) (
    .ret)) (
    .skip)))) (
  .seq (.drawn [(0, ⟨.loadN 4, [.tmp 1], some 11, none⟩),
    (1, ⟨.fieldAddr 2, [.tmp 1], some 12, none⟩),
    (2, ⟨.load1, [.tmp 12], some 13, none⟩),
    (3, ⟨.fieldAddr 3, [.tmp 1], some 14, none⟩),
    (4, ⟨.load1, [.tmp 14], some 15, none⟩),
    (5, ⟨.fieldAddr 1, [.tmp 1], some 16, none⟩),
    (6, ⟨.load1, [.tmp 16], some 17, none⟩),
    (8, ⟨.fieldAddr 3, [.tmp 1], some 19, none⟩),
    (9, ⟨.load1, [.tmp 19], some 20, none⟩),
    (10, ⟨.fieldAddr 2, [.tmp 1], some 21, none⟩),
    (11, ⟨.load1, [.tmp 21], some 22, none⟩),
    (12, ⟨.fieldAddr 1, [.tmp 1], some 23, none⟩),
    (13, ⟨.load1, [.tmp 23], some 24, none⟩),
    (16, ⟨.fieldAddr 0, [.tmp 1], some 27, none⟩),
    (17, ⟨.load1, [.tmp 27], some 28, none⟩),
    (18, ⟨.fieldAddr 1, [.tmp 1], some 29, none⟩),
    (19, ⟨.load1, [.tmp 29], some 30, none⟩),
    (20, ⟨.bin .mul, [.tmp 28, .tmp 30], some 31, none⟩),
    (21, ⟨.bin .shl, [.const (.int .u64 1), .tmp 31], some 32, none⟩),
    (22, ⟨.bin .sub, [.tmp 32, .const (.int .u64 1)], some 33, none⟩),
    (7, ⟨.callF 57, [.tmp 13, .tmp 15, .tmp 17], some 18, none⟩),
    (14, ⟨.callF 57, [.tmp 20, .tmp 22, .tmp 24], some 25, none⟩),
    (15, ⟨.build [.int .u64 0, .int .u64 0] [(0, 1), (1, 1)], [.tmp 18, .tmp 25], some 26, none⟩),
    (23, ⟨.build [.int .i64 0, .int .i64 0, .int .i64 0, .int .i64 0, .int .u64 0, .int .u64 0, .int .u64 0] [(0, 4), (4, 2), (6, 1)], [.tmp 11, .tmp 26, .tmp 33], some 34, none⟩),
    (24, ⟨.store 7, [.tmp 2, .tmp 34], none, none⟩),
    (25, ⟨.move, [.const (.int .i64 0)], some 3, none⟩)] [0, 0, 2, 0, 8, 0, 32, 126, 0, 256, 0, 1024, 0, 4096, 16382, 32766, 0, 65536, 0, 262144, 983040, 2031616, 4128768, 8388607, 16777215, 33554431]) (
  .ret)))) [.cellN 2 7, .tmp 3]
theorem c36_ok : compF Tryz.prog 36 = some c36 := by kernel_rfl
/-- spadille/cut.opened -/
theorem f36 (r c l w : Int) {H : Heap} {n : Nat} (hg : aget H 0 = some gl) : F Tryz.prog [0] 36 [sheetV r c l w] H n (fun v H' n' => ((∃ e : Int, e ≠ 0 ∧ v = .tuple #[tableV 0 0 0 0 0 0 0, .int .i64 e]) ∨ ∃ p q f : Nat, OkTable r c l w p q f ∧ v = .tuple #[tableV r c l w p q f, .int .i64 0]) ∧ H' = H ∧ n' = n) := by
  refine pureF rfl ?_ hg
  refine F_of_comp c36_ok rfl ?_
  refine WC_go hE hm ?_
  refine xA rfl rfl rfl rfl rfl rfl ?_
  refine xA rfl rfl rfl rfl rfl rfl ?_
  refine xP rfl rfl rfl rfl ?_
  refine RX_nil ?_
  refine WC_live (live1 1 rfl (live1 2 rfl live0)) ?_
  refine WC_seq ?_
  refine WC_go hE hm ?_
  refine xLoadN [_, _, _, _] rfl rfl rfl ?_
  refine xC rfl rfl rfl rfl (f51 r c l w rfl) ?_
  rintro _ _ _ ⟨⟨e, rfl, he⟩, rfl, rfl⟩
  refine xP rfl rfl rfl rfl ?_
  refine RX_nil ?_
  refine WC_live (live1 1 rfl (live1 2 rfl (live1 4 rfl live0))) ?_
  refine WC_go hE hm ?_
  refine xP rfl rfl rfl rfl ?_
  refine xNe rfl rfl ?_ ?_ <;> intro h
  ·
    refine RX_nil ?_
    refine WC_live (live1 1 rfl (live1 2 rfl (live1 4 rfl (live1 8 rfl live0)))) ?_
    refine WC_condT rfl ?_
    refine WC_go hE hm ?_
    refine xBuild [_, _, _, _, _, _, _] rfl rfl rfl ?_
    refine xP rfl rfl rfl rfl ?_
    refine xStN [_, _, _, _, _, _, _] rfl rfl rfl rfl rfl rfl rfl rfl ?_
    refine xP rfl rfl rfl rfl ?_
    refine RX_nil ?_
    refine WC_live (live1 2 rfl (live1 3 rfl live0)) ?_
    refine WC_ret ?_
    refine thenR ?_
    refine endR rfl ?_
    exact ⟨.inl ⟨e, h, rfl⟩, rfl, rfl⟩
  ·
    refine RX_nil ?_
    refine WC_live (live1 1 rfl (live1 2 rfl (live1 4 rfl (live1 8 rfl live0)))) ?_
    refine WC_condF rfl ?_
    refine WC_skip ?_
    refine thenN ?_
    refine WC_live (live1 1 rfl (live1 2 rfl live0)) ?_
    have hs := he h
    have hrc : 1 ≤ r * c ∧ r * c ≤ 36 := by
      obtain ⟨h1, h2, _⟩ := hs
      have : r = 1 ∨ r = 2 ∨ r = 3 ∨ r = 4 ∨ r = 5 ∨ r = 6 := by omega
      rcases this with rfl | rfl | rfl | rfl | rfl | rfl <;> omega
    obtain ⟨full, hfl, hfull⟩ : ∃ full : Nat, full < 2 ^ 64 ∧ IntKind.u64.wrap (((1 <<< min (r * c).toNat IntKind.u64.bits) % 2 ^ IntKind.u64.bits : Nat) - 1 : Int) = (full : Int) := wrapNat _
    refine WC_goD hE hm ?_
    refine dR rfl rfl rfl rfl ?_
    refine dX rfl (xP rfl rfl rfl rfl (RX_nil ?_))
    refine dR rfl rfl rfl rfl ?_
    refine dX rfl (xP rfl rfl rfl rfl (RX_nil ?_))
    refine dR rfl rfl rfl rfl ?_
    refine dX rfl (xP rfl rfl rfl rfl (RX_nil ?_))
    refine dR rfl rfl rfl rfl ?_
    refine dX rfl (xP rfl rfl rfl rfl (RX_nil ?_))
    refine dR rfl rfl rfl rfl ?_
    refine dX rfl (xP rfl rfl rfl rfl (RX_nil ?_))
    refine dR rfl rfl rfl rfl ?_
    refine dX rfl (xP rfl rfl rfl rfl (RX_nil ?_))
    refine dR rfl rfl rfl rfl ?_
    refine dX rfl (xP rfl rfl rfl rfl (RX_nil ?_))
    refine dR rfl rfl rfl rfl ?_
    refine dX rfl (xP rfl rfl rfl rfl (RX_nil ?_))
    refine dR rfl rfl rfl rfl ?_
    refine dX rfl (xMul rfl rfl (by omega) (RX_nil ?_))
    refine dX rfl (xShl (x := 1) rfl rfl rfl (by omega) (RX_nil ?_))
    refine dX rfl (xP (v := .int .u64 (full : Int)) rfl rfl rfl (congrArg (fun z => some (Value.int .u64 z)) hfull) (RX_nil ?_))
    refine dC rfl rfl rfl rfl (f57 l w c hs.2.2.1 hs.2.2.2 hs.2.1 rfl) ?_
    rintro _ _ _ ⟨⟨p, rfl, p1, p2⟩, rfl, rfl⟩
    refine ⟨stabSame, ?_⟩
    refine dC rfl rfl rfl rfl (f57 w l c hs.2.2.2 hs.2.2.1 hs.2.1 rfl) ?_
    rintro _ _ _ ⟨⟨q, rfl, q1, q2⟩, rfl, rfl⟩
    refine ⟨stabSame, ?_⟩
    refine dX rfl (xBuild [_, _] rfl rfl rfl (RX_nil ?_))
    refine dX rfl (xBuild [_, _, _, _, _, _, _] rfl rfl rfl (RX_nil ?_))
    refine dW rfl rfl rfl rfl rfl (stabE (by kernel_rfl)) ?_
    refine dX rfl (xP rfl rfl rfl rfl (RX_nil ?_))
    refine dNil ?_
    refine WC_live (live1 2 rfl (live1 3 rfl live0)) ?_
    refine WC_ret ?_
    refine endR rfl ?_
    exact ⟨.inr ⟨p, q, full, ⟨hs, p1, q1, p2, q2, hfl⟩, rfl⟩, rfl, rfl⟩
end Go.Proofs.YtnagcnlldllagaaGreatDoor

/- The first free square, and one more card. -/
set_option maxRecDepth 1000000
set_option maxHeartbeats 4000000
open Go Go.Cs
namespace Go.Proofs.YtnagcnlldllagaaGreatDoor
theorem mulB {a b : Int} (ha : 0 ≤ a ∧ a ≤ 6) (hb : 0 ≤ b ∧ b ≤ 6) : 0 ≤ a * b ∧ a * b ≤ 36 := by
  have : a = 0 ∨ a = 1 ∨ a = 2 ∨ a = 3 ∨ a = 4 ∨ a = 5 ∨ a = 6 := by omega
  rcases this with rfl | rfl | rfl | rfl | rfl | rfl | rfl <;> omega
theorem bit_of {b j : Nat} (h : ((b >>> min j 64 &&& 1 : Nat) : Int) ≠ 1) (hj : j < 64) : b.testBit j = false := by
  have e : min j 64 = j := by omega
  rw [e, Nat.and_one_is_mod, Nat.shiftRight_eq_div_pow] at h
  rw [Nat.testBit_eq_decide_div_mod_eq]
  simp only [decide_eq_false_iff_not]
  intro h2
  exact h (by rw [h2]; rfl)
theorem bit_on {b : Nat} {i : Int} (hi : 0 ≤ i ∧ i < 64) (h : ((b >>> min i.toNat 64 &&& 1 : Nat) : Int) = 1) : b.testBit i.toNat = true := by
  have e : min i.toNat 64 = i.toNat := by omega
  rw [e, Nat.and_one_is_mod, Nat.shiftRight_eq_div_pow] at h
  rw [Nat.testBit_eq_decide_div_mod_eq]
  simp only [decide_eq_true_eq]
  exact_mod_cast h
theorem bit_lt {b : Nat} {i : Int} (hb : b < 2 ^ 64) (hi : 0 ≤ i ∧ i ≤ 64) (h : ((b >>> min i.toNat 64 &&& 1 : Nat) : Int) = 1) : i < 64 := by
  rcases (by omega : i < 64 ∨ 64 ≤ i) with h1 | h1
  · exact h1
  · exfalso
    have e : min i.toNat 64 = 64 := by omega
    rw [e, Nat.shiftRight_eq_div_pow, Nat.div_eq_of_lt hb] at h
    simp at h
def c58 : FC := FC.mk 24 (
  .seq (.steps [⟨.box 73, [.tmp 0], some 2, none⟩,
    ⟨.move, [.const (.int .i64 0)], some 4, none⟩,
    ⟨.move, [.const (.int .i64 0)], some 5, none⟩]) (
  .seq (.steps [⟨.move, [.const (.int .i64 0)], some 6, none⟩]) (
  .seq (.block 0 (
    .loop (
      .seq (.seq (.steps [⟨.move, [.tmp 1], some 7, none⟩,
        ⟨.move, [.tmp 6], some 8, none⟩,
        ⟨.bin .shr, [.tmp 7, .tmp 8], some 9, none⟩,
        ⟨.bin .and, [.tmp 9, .const (.int .u64 1)], some 10, none⟩,
        ⟨.bin .eql, [.tmp 10, .const (.int .u64 1)], some 11, none⟩]) (
      .cond (.tmp 11) (
        .skip) (
        .exit 0))) (
      .block 1 (
        .steps [⟨.move, [.tmp 6], some 12, none⟩,
          ⟨.bin .add, [.tmp 12, .const (.int .i64 1)], some 13, none⟩,
          ⟨.move, [.tmp 13], some 6, none⟩]))))) (
  .seq (.steps [⟨.move, [.tmp 6], some 14, none⟩,
    ⟨.fieldAddr 0, [.tmp 2], some 15, none⟩,
    ⟨.fieldAddr 1, [.tmp 15], some 16, none⟩,
    ⟨.load1, [.tmp 16], some 17, none⟩,
    ⟨.bin .quo, [.tmp 14, .tmp 17], some 18, none⟩,
    ⟨.move, [.tmp 6], some 19, none⟩,
    ⟨.fieldAddr 0, [.tmp 2], some 20, none⟩,
    ⟨.fieldAddr 1, [.tmp 20], some 21, none⟩,
    ⟨.load1, [.tmp 21], some 22, none⟩,
    ⟨.bin .rem, [.tmp 19, .tmp 22], some 23, none⟩,
    ⟨.move, [.tmp 18], some 4, none⟩,
    ⟨.move, [.tmp 23], some 5, none⟩]) (
  .ret))))) [.tmp 4, .tmp 5]
theorem c58_ok : compF Tryz.prog 58 = some c58 := by kernel_rfl
/-- (spadille/cut.table).first -/
theorem f58 (r c l w : Int) (p q f b : Nat) (hc : 1 ≤ c) (hb : b < 2 ^ 64) {H : Heap} {n : Nat} (hg : aget H 0 = some gl) : F Tryz.prog [0] 58 [tableV r c l w p q f, .int .u64 (b : Int)] H n (fun v H' n' => (∃ i : Int, 0 ≤ i ∧ i ≤ 64 ∧ (i < 64 → b.testBit i.toNat = false) ∧ (∀ j : Nat, (j : Int) < i → b.testBit j = true) ∧ v = .tuple #[.int .i64 (i / c), .int .i64 (i % c)]) ∧ H' = H ∧ n' = n) := by
  refine pureF rfl ?_ hg
  refine F_of_comp c58_ok rfl ?_
  refine WC_go hE hm ?_
  refine xA rfl rfl rfl rfl rfl rfl ?_
  refine xP rfl rfl rfl rfl ?_
  refine xP rfl rfl rfl rfl ?_
  refine RX_nil ?_
  refine WC_live (live1 1 rfl (live1 2 rfl live0)) ?_
  refine WC_go hE hm ?_
  refine xP rfl rfl rfl rfl ?_
  refine RX_nil ?_
  refine WC_live (live1 1 rfl (live1 2 rfl (live1 6 rfl live0))) ?_
  refine WC_seq ?_
  refine WC_block ?_
  -- LOOP live [1, 2, 6]
  refine WC_le (s2 := { T := ofL [(1, .int .u64 (b : Int)), (2, .pointer (some ⟨1, 0, none⟩)), (6, .int .i64 0)], D := [], H := _, n := _ }) (Le.live (live1 1 rfl (live1 2 rfl (live1 6 rfl live0)))) ?_
  refine WC_loopX (X := Int) (fun i => { T := ofL [(1, .int .u64 (b : Int)), (2, .pointer (some ⟨1, 0, none⟩)), (6, .int .i64 i)], D := [], H := _, n := _ }) (fun i => 0 ≤ i ∧ i ≤ 64 ∧ ∀ j : Nat, (j : Int) < i → b.testBit j = true) (fun i => (64 - i).toNat) 0 ⟨by decide, by decide, fun j hj => by omega⟩ ?_
  rintro i ⟨i1, i2, i3⟩
  refine WC_seq ?_
  refine WC_go hE hm ?_
  refine xP rfl rfl rfl rfl ?_
  refine xP rfl rfl rfl rfl ?_
  refine xShr rfl rfl rfl (by omega) ?_
  refine xAnd (y := 1) rfl rfl rfl (Nat.lt_of_le_of_lt (Nat.shiftRight_le _ _) hb) (by decide) ?_
  refine xEq rfl rfl ?_ ?_ <;> intro h
  ·
    refine RX_nil ?_
    refine WC_live (live1 1 rfl (live1 2 rfl (live1 6 rfl (live1 11 rfl live0)))) ?_
    refine WC_condT rfl ?_
    refine WC_skip ?_
    refine thenN ?_
    refine WC_live (live1 1 rfl (live1 2 rfl (live1 6 rfl live0))) ?_
    refine WC_block ?_
    refine WC_steps hE hm ?_
    refine xP rfl rfl rfl rfl ?_
    refine xAdd rfl rfl (by omega) ?_
    refine xP rfl rfl rfl rfl ?_
    refine RX_nil ?_
    refine blockN ?_
    have hi := bit_lt hb ⟨i1, i2⟩ h
    refine thenN ⟨i + 1, ⟨by omega, by omega, fun j hj => by
        by_cases hji : (j : Int) < i
        · exact i3 j hji
        · have hj2 : j = i.toNat := by omega
          rw [hj2]; exact bit_on ⟨i1, hi⟩ h⟩, by omega, Le.live (live1 1 rfl (live1 2 rfl (live1 6 rfl live0)))⟩
  ·
    refine RX_nil ?_
    refine WC_live (live1 1 rfl (live1 2 rfl (live1 6 rfl (live1 11 rfl live0)))) ?_
    refine WC_condF rfl ?_
    refine WC_exit ?_
    refine thenE ?_
    refine thenE ?_
    refine blockE ?_
    refine thenN ?_
    refine WC_live (live1 2 rfl (live1 6 rfl live0)) ?_
    refine WC_go hE hm ?_
    refine xP rfl rfl rfl rfl ?_
    refine xP rfl rfl rfl rfl ?_
    refine xP rfl rfl rfl rfl ?_
    refine xR rfl rfl rfl rfl ?_
    refine xQuo rfl rfl (by omega) ?_
    refine xP rfl rfl rfl rfl ?_
    refine xP rfl rfl rfl rfl ?_
    refine xP rfl rfl rfl rfl ?_
    refine xR rfl rfl rfl rfl ?_
    refine xRem rfl rfl (by omega) ?_
    refine xP rfl rfl rfl rfl ?_
    refine xP rfl rfl rfl rfl ?_
    refine RX_nil ?_
    refine WC_live (live1 4 rfl (live1 5 rfl live0)) ?_
    refine WC_ret ?_
    refine endR rfl ?_
    exact ⟨⟨i, i1, i2, fun hi => bit_of h (by omega), i3, rfl⟩, rfl, rfl⟩
def c43 : FC := FC.mk 63 (
  .seq (.steps [⟨.box 73, [.tmp 0], some 3, none⟩,
    ⟨.box 64, [.tmp 2], some 5, none⟩,
    ⟨.move, [.const (.int .u64 0)], some 6, none⟩,
    ⟨.move, [.const (.bool false)], some 7, none⟩]) (
  .seq (.steps [⟨.fieldAddr 0, [.tmp 3], some 12, none⟩,
    ⟨.loadN 4, [.tmp 12], some 13, none⟩,
    ⟨.fieldAddr 2, [.tmp 5], some 14, none⟩,
    ⟨.load1, [.tmp 14], some 15, none⟩,
    ⟨.callF 42, [.tmp 13, .tmp 15], some 16, none⟩,
    ⟨.move, [.tmp 16], some 11, none⟩,
    ⟨.extract 0, [.tmp 11], some 17, none⟩,
    ⟨.extract 1, [.tmp 11], some 18, none⟩,
    ⟨.move, [.tmp 17], some 8, none⟩,
    ⟨.move, [.tmp 18], some 9, none⟩]) (
  .seq (.seq (.steps [⟨.fieldAddr 0, [.tmp 5], some 19, none⟩,
    ⟨.load1, [.tmp 19], some 20, none⟩,
    ⟨.move, [.tmp 8], some 21, none⟩,
    ⟨.bin .add, [.tmp 20, .tmp 21], some 22, none⟩,
    ⟨.fieldAddr 0, [.tmp 3], some 23, none⟩,
    ⟨.fieldAddr 0, [.tmp 23], some 24, none⟩,
    ⟨.load1, [.tmp 24], some 25, none⟩,
    ⟨.bin .gtr, [.tmp 22, .tmp 25], some 26, none⟩,
    ⟨.move, [.tmp 26], some 27, none⟩,
    ⟨.fieldAddr 1, [.tmp 5], some 28, some (27, false)⟩,
    ⟨.load1, [.tmp 28], some 29, some (27, false)⟩,
    ⟨.move, [.tmp 9], some 30, some (27, false)⟩,
    ⟨.bin .add, [.tmp 29, .tmp 30], some 31, some (27, false)⟩,
    ⟨.fieldAddr 0, [.tmp 3], some 32, some (27, false)⟩,
    ⟨.fieldAddr 1, [.tmp 32], some 33, some (27, false)⟩,
    ⟨.load1, [.tmp 33], some 34, some (27, false)⟩,
    ⟨.bin .gtr, [.tmp 31, .tmp 34], some 35, some (27, false)⟩,
    ⟨.pick, [.tmp 27, .const (.bool true), .tmp 35], some 36, none⟩]) (
  .cond (.tmp 36) (
    .seq (.steps [⟨.move, [.const (.int .u64 0)], some 6, none⟩,
      ⟨.move, [.const (.bool false)], some 7, none⟩]) (
    .ret)) (
    .skip))) (
  .seq (.steps [⟨.fieldAddr 4, [.tmp 3], some 37, none⟩,
    ⟨.indexAddrA 2 1, [.tmp 37, .const (.int .i64 0)], some 38, none⟩,
    ⟨.load1, [.tmp 38], some 39, none⟩,
    ⟨.move, [.tmp 39], some 10, none⟩]) (
  .seq (.seq (.steps [⟨.fieldAddr 2, [.tmp 5], some 40, none⟩,
    ⟨.load1, [.tmp 40], some 41, none⟩]) (
  .cond (.tmp 41) (
    .steps [⟨.fieldAddr 4, [.tmp 3], some 42, none⟩,
      ⟨.indexAddrA 2 1, [.tmp 42, .const (.int .i64 1)], some 43, none⟩,
      ⟨.load1, [.tmp 43], some 44, none⟩,
      ⟨.move, [.tmp 44], some 10, none⟩]) (
    .skip))) (
  .seq (.steps [⟨.move, [.tmp 10], some 45, none⟩,
    ⟨.fieldAddr 0, [.tmp 5], some 46, none⟩,
    ⟨.load1, [.tmp 46], some 47, none⟩,
    ⟨.fieldAddr 0, [.tmp 3], some 48, none⟩,
    ⟨.fieldAddr 1, [.tmp 48], some 49, none⟩,
    ⟨.load1, [.tmp 49], some 50, none⟩,
    ⟨.bin .mul, [.tmp 47, .tmp 50], some 51, none⟩,
    ⟨.fieldAddr 1, [.tmp 5], some 52, none⟩,
    ⟨.load1, [.tmp 52], some 53, none⟩,
    ⟨.bin .add, [.tmp 51, .tmp 53], some 54, none⟩,
    ⟨.bin .shl, [.tmp 45, .tmp 54], some 55, none⟩,
    ⟨.move, [.tmp 55], some 10, none⟩]) (
  .seq (.steps [⟨.move, [.tmp 1], some 56, none⟩,
    ⟨.move, [.tmp 10], some 57, none⟩,
    ⟨.bin .or, [.tmp 56, .tmp 57], some 58, none⟩,
    ⟨.move, [.tmp 1], some 59, none⟩,
    ⟨.move, [.tmp 10], some 60, none⟩,
    ⟨.bin .and, [.tmp 59, .tmp 60], some 61, none⟩,
    ⟨.bin .eql, [.tmp 61, .const (.int .u64 0)], some 62, none⟩,
    ⟨.move, [.tmp 58], some 6, none⟩,
    ⟨.move, [.tmp 62], some 7, none⟩]) (
  .ret)))))))) [.tmp 6, .tmp 7]
theorem c43_ok : compF Tryz.prog 43 = some c43 := by kernel_rfl
/-- (spadille/cut.table).put -/
theorem f43 (r c l w : Int) (p q f b : Nat) (row col : Int) (t : Bool) (ok : OkTable r c l w p q f) (hb : b < 2 ^ 64) (hr : 0 ≤ row ∧ row ≤ 64) (hcl : 0 ≤ col ∧ col ≤ 64) {H : Heap} {n : Nat} (hg : aget H 0 = some gl) :
    F Tryz.prog [0] 43 [tableV r c l w p q f, .int .u64 (b : Int), .agg #[.int .i64 row, .int .i64 col, .bool t]] H n (fun v H' n' => (∃ (b' : Nat) (is : Bool), b' < 2 ^ 64 ∧ v = .tuple #[.int .u64 (b' : Int), .bool is] ∧ (is = true → b < b' ∧ row + (if t then w else l) ≤ r ∧ col + (if t then l else w) ≤ c ∧ (∀ j, b.testBit j = true → b'.testBit j = true) ∧ b'.testBit (row * c + col).toNat = true)) ∧ H' = H ∧ n' = n) := by
  refine pureF rfl ?_ hg
  obtain ⟨⟨s1, s2⟩, ⟨s3, s4⟩, ⟨s5, s6⟩, s7, s8⟩ := ok.sheet
  obtain ⟨hi, ehi⟩ : ∃ hi : Int, hi = (if t then w else l) := ⟨_, rfl⟩
  obtain ⟨wi, ewi⟩ : ∃ wi : Int, wi = (if t then l else w) := ⟨_, rfl⟩
  have h1 : 1 ≤ hi ∧ hi ≤ 6 := by rw [ehi]; cases t <;> simp <;> omega
  have h2 : 1 ≤ wi ∧ wi ≤ 6 := by rw [ewi]; cases t <;> simp <;> omega
  rw [← ehi, ← ewi]
  refine F_of_comp c43_ok rfl ?_
  refine WC_go hE hm ?_
  refine xA rfl rfl rfl rfl rfl rfl ?_
  refine xA rfl rfl rfl rfl rfl rfl ?_
  refine xP rfl rfl rfl rfl ?_
  refine xP rfl rfl rfl rfl ?_
  refine RX_nil ?_
  refine WC_live (live1 1 rfl (live1 3 rfl (live1 5 rfl live0))) ?_
  refine WC_go hE hm ?_
  refine xP rfl rfl rfl rfl ?_
  refine xLoadN [_, _, _, _] rfl rfl rfl ?_
  refine xP rfl rfl rfl rfl ?_
  refine xR rfl rfl rfl rfl ?_
  refine xC rfl rfl rfl rfl (f42 r c l w t rfl) ?_
  rintro _ _ _ ⟨rfl, rfl, rfl⟩
  rw [← ehi, ← ewi]
  refine xP rfl rfl rfl rfl ?_
  refine xP rfl rfl rfl rfl ?_
  refine xP rfl rfl rfl rfl ?_
  refine xP rfl rfl rfl rfl ?_
  refine xP rfl rfl rfl rfl ?_
  refine RX_nil ?_
  refine WC_live (live1 1 rfl (live1 3 rfl (live1 5 rfl (live1 8 rfl (live1 9 rfl live0))))) ?_
  refine WC_seq ?_
  refine WC_go hE hm ?_
  refine xP rfl rfl rfl rfl ?_
  refine xR rfl rfl rfl rfl ?_
  refine xP rfl rfl rfl rfl ?_
  refine xAdd rfl rfl (by omega) ?_
  refine xP rfl rfl rfl rfl ?_
  refine xP rfl rfl rfl rfl ?_
  refine xR rfl rfl rfl rfl ?_
  refine xCmp rfl rfl rfl rfl ?_ ?_ <;> intro h
  ·
    refine xP rfl rfl rfl rfl ?_
    refine xS rfl ?_
    refine xS rfl ?_
    refine xS rfl ?_
    refine xS rfl ?_
    refine xS rfl ?_
    refine xS rfl ?_
    refine xS rfl ?_
    refine xS rfl ?_
    refine xP rfl rfl rfl rfl ?_
    refine RX_nil ?_
    refine WC_live (live1 1 rfl (live1 3 rfl (live1 5 rfl (live1 36 rfl live0)))) ?_
    refine WC_condT rfl ?_
    refine WC_go hE hm ?_
    refine xP rfl rfl rfl rfl ?_
    refine xP rfl rfl rfl rfl ?_
    refine RX_nil ?_
    refine WC_live (live1 6 rfl (live1 7 rfl live0)) ?_
    refine WC_ret ?_
    refine thenR ?_
    refine endR rfl ?_
    exact ⟨⟨0, false, by decide, rfl, fun h => by cases h⟩, rfl, rfl⟩
  ·
    refine xP rfl rfl rfl rfl ?_
    refine xP rfl rfl rfl rfl ?_
    refine xR rfl rfl rfl rfl ?_
    refine xP rfl rfl rfl rfl ?_
    refine xAdd rfl rfl (by omega) ?_
    refine xP rfl rfl rfl rfl ?_
    refine xP rfl rfl rfl rfl ?_
    refine xR rfl rfl rfl rfl ?_
    refine xCmp rfl rfl rfl rfl ?_ ?_ <;> intro h
    ·
      refine xP rfl rfl rfl rfl ?_
      refine RX_nil ?_
      refine WC_live (live1 1 rfl (live1 3 rfl (live1 5 rfl (live1 36 rfl live0)))) ?_
      refine WC_condT rfl ?_
      refine WC_go hE hm ?_
      refine xP rfl rfl rfl rfl ?_
      refine xP rfl rfl rfl rfl ?_
      refine RX_nil ?_
      refine WC_live (live1 6 rfl (live1 7 rfl live0)) ?_
      refine WC_ret ?_
      refine thenR ?_
      refine endR rfl ?_
      exact ⟨⟨0, false, by decide, rfl, fun h => by cases h⟩, rfl, rfl⟩
    ·
      refine xP rfl rfl rfl rfl ?_
      refine RX_nil ?_
      refine WC_live (live1 1 rfl (live1 3 rfl (live1 5 rfl (live1 36 rfl live0)))) ?_
      refine WC_condF rfl ?_
      refine WC_skip ?_
      refine thenN ?_
      refine WC_live (live1 1 rfl (live1 3 rfl (live1 5 rfl live0))) ?_
      refine WC_go hE hm ?_
      refine xP rfl rfl rfl rfl ?_
      refine xP rfl rfl rfl rfl ?_
      refine xR rfl rfl rfl rfl ?_
      refine xP rfl rfl rfl rfl ?_
      refine RX_nil ?_
      refine WC_live (live1 1 rfl (live1 3 rfl (live1 5 rfl (live1 10 rfl live0)))) ?_
      refine WC_seq ?_
      refine WC_go hE hm ?_
      refine xP rfl rfl rfl rfl ?_
      refine xR rfl rfl rfl rfl ?_
      refine RX_nil ?_
      refine WC_live (live1 1 rfl (live1 3 rfl (live1 5 rfl (live1 10 rfl (live1 41 rfl live0))))) ?_
      refine WC_cond rfl (fun h => ?_) (fun h => ?_)
      ·
        refine WC_steps hE hm ?_
        refine xP rfl rfl rfl rfl ?_
        refine xP rfl rfl rfl rfl ?_
        refine xR rfl rfl rfl rfl ?_
        refine xP rfl rfl rfl rfl ?_
        refine RX_nil ?_
        refine thenN ?_
        refine WC_live (live1 1 rfl (live1 3 rfl (live1 5 rfl (live1 10 rfl live0)))) ?_
        refine WC_go hE hm ?_
        refine xP rfl rfl rfl rfl ?_
        refine xP rfl rfl rfl rfl ?_
        refine xR rfl rfl rfl rfl ?_
        refine xP rfl rfl rfl rfl ?_
        refine xP rfl rfl rfl rfl ?_
        refine xR rfl rfl rfl rfl ?_
        have hmu := mulB (a := row) (b := c) (by omega) (by omega)
        refine xMul rfl rfl (by omega) ?_
        refine xP rfl rfl rfl rfl ?_
        refine xR rfl rfl rfl rfl ?_
        refine xAdd rfl rfl (by omega) ?_
        refine xShl rfl rfl rfl (by omega) ?_
        refine xP rfl rfl rfl rfl ?_
        refine RX_nil ?_
        refine WC_live (live1 1 rfl (live1 10 rfl live0)) ?_
        refine WC_go hE hm ?_
        refine xP rfl rfl rfl rfl ?_
        refine xP rfl rfl rfl rfl ?_
        refine xOr rfl rfl rfl hb (Nat.mod_lt _ (by decide)) ?_
        refine xP rfl rfl rfl rfl ?_
        refine xP rfl rfl rfl rfl ?_
        refine xAnd rfl rfl rfl hb (Nat.mod_lt _ (by decide)) ?_
        refine xEq rfl rfl ?_ ?_ <;> intro h
        ·
          refine xP rfl rfl rfl rfl ?_
          refine xP rfl rfl rfl rfl ?_
          refine RX_nil ?_
          refine WC_live (live1 6 rfl (live1 7 rfl live0)) ?_
          refine WC_ret ?_
          refine endR rfl ?_
          exact ⟨⟨_, true, Nat.or_lt_two_pow hb (Nat.mod_lt _ (by decide)), rfl, fun _ => ⟨or_gt (by exact_mod_cast h) (shl_ne ok.q1 (by omega)), by omega, by omega, fun j hj => by rw [Nat.testBit_or, hj]; rfl, by rw [Nat.testBit_or]; exact (congrArg (b.testBit _ || ·) (shl_bit ok.q1 (by omega))).trans (Bool.or_true _)⟩⟩, rfl, rfl⟩
        ·
          refine xP rfl rfl rfl rfl ?_
          refine xP rfl rfl rfl rfl ?_
          refine RX_nil ?_
          refine WC_live (live1 6 rfl (live1 7 rfl live0)) ?_
          refine WC_ret ?_
          refine endR rfl ?_
          exact ⟨⟨_, false, Nat.or_lt_two_pow hb (Nat.mod_lt _ (by decide)), rfl, fun h => by cases h⟩, rfl, rfl⟩
      ·
        refine WC_skip ?_
        refine thenN ?_
        refine WC_live (live1 1 rfl (live1 3 rfl (live1 5 rfl (live1 10 rfl live0)))) ?_
        refine WC_go hE hm ?_
        refine xP rfl rfl rfl rfl ?_
        refine xP rfl rfl rfl rfl ?_
        refine xR rfl rfl rfl rfl ?_
        refine xP rfl rfl rfl rfl ?_
        refine xP rfl rfl rfl rfl ?_
        refine xR rfl rfl rfl rfl ?_
        have hmu := mulB (a := row) (b := c) (by omega) (by omega)
        refine xMul rfl rfl (by omega) ?_
        refine xP rfl rfl rfl rfl ?_
        refine xR rfl rfl rfl rfl ?_
        refine xAdd rfl rfl (by omega) ?_
        refine xShl rfl rfl rfl (by omega) ?_
        refine xP rfl rfl rfl rfl ?_
        refine RX_nil ?_
        refine WC_live (live1 1 rfl (live1 10 rfl live0)) ?_
        refine WC_go hE hm ?_
        refine xP rfl rfl rfl rfl ?_
        refine xP rfl rfl rfl rfl ?_
        refine xOr rfl rfl rfl hb (Nat.mod_lt _ (by decide)) ?_
        refine xP rfl rfl rfl rfl ?_
        refine xP rfl rfl rfl rfl ?_
        refine xAnd rfl rfl rfl hb (Nat.mod_lt _ (by decide)) ?_
        refine xEq rfl rfl ?_ ?_ <;> intro h
        ·
          refine xP rfl rfl rfl rfl ?_
          refine xP rfl rfl rfl rfl ?_
          refine RX_nil ?_
          refine WC_live (live1 6 rfl (live1 7 rfl live0)) ?_
          refine WC_ret ?_
          refine endR rfl ?_
          exact ⟨⟨_, true, Nat.or_lt_two_pow hb (Nat.mod_lt _ (by decide)), rfl, fun _ => ⟨or_gt (by exact_mod_cast h) (shl_ne ok.p1 (by omega)), by omega, by omega, fun j hj => by rw [Nat.testBit_or, hj]; rfl, by rw [Nat.testBit_or]; exact (congrArg (b.testBit _ || ·) (shl_bit ok.p1 (by omega))).trans (Bool.or_true _)⟩⟩, rfl, rfl⟩
        ·
          refine xP rfl rfl rfl rfl ?_
          refine xP rfl rfl rfl rfl ?_
          refine RX_nil ?_
          refine WC_live (live1 6 rfl (live1 7 rfl live0)) ?_
          refine WC_ret ?_
          refine endR rfl ?_
          exact ⟨⟨_, false, Nat.or_lt_two_pow hb (Nat.mod_lt _ (by decide)), rfl, fun h => by cases h⟩, rfl, rfl⟩
end Go.Proofs.YtnagcnlldllagaaGreatDoor
