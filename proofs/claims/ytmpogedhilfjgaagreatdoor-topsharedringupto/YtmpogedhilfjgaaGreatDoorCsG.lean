/- A part of the proof that the law spadilletop.TopSharedRing answers true and leaves its argument as it was (CsG) -/
import Derived.Test.YtmpogedhilfjgaaGreatDoorCsF
set_option linter.all false
namespace Go.Cs
noncomputable def bindO {α β : Type} (x : Option α) (k : α → Option β) : Option β := Option.rec (motive := fun _ => Option β) none k x
theorem bindO_eq {α β : Type} (x : Option α) (k : α → Option β) : bindO x k = match x with | some v => k v | none => none := by cases x <;> rfl
noncomputable def iteB {α : Type} (b : Bool) (x y : α) : α := Bool.rec (motive := fun _ => α) y x b
theorem iteB_eq {α : Type} (b : Bool) (x y : α) : iteB b x y = bif b then x else y := by cases b <;> rfl
def unpath : List Bool → Nat
  | [] => 0
  | true :: p => 2 * unpath p + 1
  | false :: p => 2 * unpath p + 2
noncomputable def agetP {α : Type} (l : AL α) : List Bool → Option α :=
  AL.rec (motive := fun _ => List Bool → Option α) (fun _ => none)
    (fun v _ _ il ir p => List.rec (motive := fun _ => Option α) v (fun b p _ => Bool.rec (motive := fun _ => Option α) (ir p) (il p) b) p)
    (fun _ f il p => bif Nat.blt (unpath p) big then il p else f (unpath p)) (fun l p => lk l (unpath p)) l
noncomputable def aoneP {α : Type} (v : α) (p : List Bool) : AL α :=
  List.rec (motive := fun _ => AL α) (.node (some v) .nil .nil) (fun b _ ih => Bool.rec (motive := fun _ => AL α) (.node none .nil ih) (.node none ih .nil) b) p
noncomputable def aputP {α : Type} (v : α) (l : AL α) : List Bool → AL α :=
  AL.rec (motive := fun _ => List Bool → AL α) (fun p => aoneP v p)
    (fun u l r il ir p => List.rec (motive := fun _ => AL α) (.node (some v) l r) (fun b p _ => Bool.rec (motive := fun _ => AL α) (.node u l (ir p)) (.node u (il p) r) b) p)
    (fun l f il p => bif Nat.blt (unpath p) big then .fam (il p) f else .fam l fun j => bif Nat.beq j (unpath p) then some v else f j)
    (fun l p => .lst ((unpath p, v) :: l)) l
def path : Nat → Nat → List Bool
  | 0, _ => []
  | f + 1, k => bif Nat.beq k 0 then [] else bif Nat.beq (k % 2) 1 then true :: path f (k / 2) else false :: path f ((k - 1) / 2)
theorem unpath_path : ∀ (f k : Nat), k ≤ f → unpath (path f k) = k
  | 0, k, h => by obtain rfl : k = 0 := by omega
                  rfl
  | f + 1, k, h => by
    by_cases hk : k = 0
    · subst hk; rfl
    · by_cases hk2 : k % 2 = 1
      · simp only [path, Bool.cond_eq_ite, Nat.beq_eq, hk, if_false, hk2, if_true, unpath]
        rw [unpath_path f (k / 2) (by omega)]; omega
      · simp only [path, Bool.cond_eq_ite, Nat.beq_eq, hk, if_false, hk2, unpath]
        rw [unpath_path f ((k - 1) / 2) (by omega)]; omega
theorem agetP_node {α : Type} (v : Option α) (l r : AL α) : ∀ p, agetP (.node v l r) p = match p with | [] => v | true :: p => agetP l p | false :: p => agetP r p
  | [] => rfl
  | true :: p => rfl
  | false :: p => rfl
theorem agetP_eq {α : Type} : ∀ (l : AL α) (f k : Nat), k ≤ f → agetP l (path f k) = aget l k
  | .nil, f, k, _ => rfl
  | .fam l g, f, k, h => by
    show (bif Nat.blt (unpath (path f k)) big then agetP l (path f k) else g (unpath (path f k))) = _
    rw [unpath_path f k h, agetP_eq l f k h]; rfl
  | .lst l, f, k, h => by
    show lk l (unpath (path f k)) = _
    rw [unpath_path f k h]; rfl
  | .node v l r, 0, k, h => by
    obtain rfl : k = 0 := by omega
    rfl
  | .node v l r, f + 1, k, h => by
    by_cases hk : k = 0
    · subst hk; rfl
    · by_cases hk2 : k % 2 = 1
      · simp only [path, aget, Bool.cond_eq_ite, Nat.beq_eq, hk, if_false, hk2, if_true]
        rw [agetP_node]
        exact agetP_eq l f (k / 2) (by omega)
      · simp only [path, aget, Bool.cond_eq_ite, Nat.beq_eq, hk, if_false, hk2]
        rw [agetP_node]
        exact agetP_eq r f ((k - 1) / 2) (by omega)
theorem aoneP_eq {α : Type} (v : α) : ∀ (f k : Nat), aoneP v (path f k) = aone v f k
  | 0, k => rfl
  | f + 1, k => by
    by_cases hk : k = 0
    · subst hk; rfl
    · by_cases hk2 : k % 2 = 1
      · simp only [path, aone, Bool.cond_eq_ite, Nat.beq_eq, hk, if_false, hk2, if_true]
        rw [← aoneP_eq v f (k / 2)]; rfl
      · simp only [path, aone, Bool.cond_eq_ite, Nat.beq_eq, hk, if_false, hk2]
        rw [← aoneP_eq v f ((k - 1) / 2)]; rfl
theorem path_fuel : ∀ (f g k : Nat), k ≤ f → k ≤ g → path f k = path g k
  | 0, 0, k, _, _ => rfl
  | 0, g + 1, k, h, _ => by obtain rfl : k = 0 := by omega
                            rfl
  | f + 1, 0, k, _, h => by obtain rfl : k = 0 := by omega
                            rfl
  | f + 1, g + 1, k, h1, h2 => by
    by_cases hk : k = 0
    · subst hk; rfl
    · by_cases hk2 : k % 2 = 1
      · simp only [path, Bool.cond_eq_ite, Nat.beq_eq, hk, if_false, hk2, if_true]
        rw [path_fuel f g (k / 2) (by omega) (by omega)]
      · simp only [path, Bool.cond_eq_ite, Nat.beq_eq, hk, if_false, hk2]
        rw [path_fuel f g ((k - 1) / 2) (by omega) (by omega)]
theorem aputP_eq {α : Type} (v : α) : ∀ (l : AL α) (f k : Nat), k ≤ f → aputP v l (path f k) = aput l k v
  | .nil, f, k, h => by
    rw [path_fuel f k k h (Nat.le_refl _)]
    exact aoneP_eq v k k
  | .fam l g, f, k, h => by
    show (bif Nat.blt (unpath (path f k)) big then AL.fam (aputP v l (path f k)) g else AL.fam l fun j => bif Nat.beq j (unpath (path f k)) then some v else g j) = _
    rw [unpath_path f k h, aputP_eq v l f k h]; rfl
  | .lst l, f, k, h => by
    show AL.lst ((unpath (path f k), v) :: l) = _
    rw [unpath_path f k h]; rfl
  | .node u l r, 0, k, h => by
    obtain rfl : k = 0 := by omega
    rfl
  | .node u l r, f + 1, k, h => by
    by_cases hk : k = 0
    · subst hk; rfl
    · by_cases hk2 : k % 2 = 1
      · simp only [path, aput, Bool.cond_eq_ite, Nat.beq_eq, hk, if_false, hk2, if_true]
        rw [← aputP_eq v l f (k / 2) (by omega)]; rfl
      · simp only [path, aput, Bool.cond_eq_ite, Nat.beq_eq, hk, if_false, hk2]
        rw [← aputP_eq v r f ((k - 1) / 2) (by omega)]; rfl
noncomputable def agetN {α : Type} (l : AL α) : Nat → Option α :=
  AL.rec (motive := fun _ => Nat → Option α) (fun _ => none)
    (fun v _ _ il ir k => Bool.rec (motive := fun _ => Option α) (Bool.rec (motive := fun _ => Option α) (ir (Nat.div (Nat.sub k 1) 2)) (il (Nat.div k 2)) (Nat.beq (Nat.mod k 2) 1)) v (Nat.beq k 0))
    (fun _ f il k => bif Nat.blt k big then il k else f k) (fun l k => lk l k) l
theorem agetN_eq {α : Type} : ∀ (l : AL α) (k : Nat), agetN l k = aget l k
  | .nil, _ => rfl
  | .fam l f, k => by
    have h1 := agetN_eq l k
    simp only [aget, ← h1]; rfl
  | .lst l, k => rfl
  | .node v l r, k => by
    have h1 := agetN_eq l (k / 2)
    have h2 := agetN_eq r ((k - 1) / 2)
    simp only [aget, ← h1, ← h2]
    show Bool.rec (motive := fun _ => Option α) (Bool.rec (motive := fun _ => Option α) (agetN r (Nat.div (Nat.sub k 1) 2)) (agetN l (Nat.div k 2)) (Nat.beq (Nat.mod k 2) 1)) v (Nat.beq k 0) = _
    cases hb : Nat.beq k 0 with
    | true => rfl
    | false =>
      show Bool.rec (motive := fun _ => Option α) (agetN r (Nat.div (Nat.sub k 1) 2)) (agetN l (Nat.div k 2)) (Nat.beq (Nat.mod k 2) 1) = _
      show _ = bif Nat.beq (Nat.mod k 2) 1 then _ else _
      cases Nat.beq (Nat.mod k 2) 1 <;> rfl
def wrapSlow (k : IntKind) (n : Int) : Int := k.wrap n
noncomputable def wrapF (k : IntKind) (n : Int) : Int :=
  Int.rec (motive := fun _ => Int) (fun m => Bool.rec (motive := fun _ => Int) (wrapSlow k (.ofNat m)) (.ofNat m) (Nat.blt m 128)) (fun m => wrapSlow k (.negSucc m)) n
theorem wrapF_eq (k : IntKind) (n : Int) : wrapF k n = k.wrap n := by
  cases n with
  | negSucc m => rfl
  | ofNat m =>
    show Bool.rec (motive := fun _ => Int) (wrapSlow k (.ofNat m)) (.ofNat m) (Nat.blt m 128) = _
    cases hb : Nat.blt m 128 with
    | false => rfl
    | true =>
      have hm : m < 128 := by simpa [Nat.blt_eq] using hb
      show (Int.ofNat m) = _
      unfold IntKind.wrap
      have h1 : (Int.ofNat m) = (m : Int) := rfl
      rw [h1]
      cases k <;> simp [IntKind.bits, IntKind.signed] <;> omega
noncomputable def two {α : Type} (f : Value → Value → Option α) (vs : List Value) : Option α :=
  List.rec (motive := fun _ => Option α) none (fun x r _ => List.rec (motive := fun _ => Option α) none (fun y r2 _ => List.rec (motive := fun _ => Option α) (f x y) (fun _ _ _ => none) r2) r) vs
noncomputable def one {α : Type} (f : Value → Option α) (vs : List Value) : Option α :=
  List.rec (motive := fun _ => Option α) none (fun x r _ => List.rec (motive := fun _ => Option α) (f x) (fun _ _ _ => none) r) vs
theorem two_eq {α : Type} (f : Value → Value → Option α) (vs : List Value) : two f vs = match vs with | [x, y] => f x y | _ => none := by
  match vs with
  | [] => rfl
  | [_] => rfl
  | [_, _] => rfl
  | _ :: _ :: _ :: _ => rfl
theorem one_eq {α : Type} (f : Value → Option α) (vs : List Value) : one f vs = match vs with | [x] => f x | _ => none := by
  match vs with
  | [] => rfl
  | [_] => rfl
  | _ :: _ :: _ => rfl
def onInt {α : Type} (v : Value) (k : IntKind → Int → α) (d : α) : α := match v with
  | .int t a => k t a
  | _ => d
def kidx : IntKind → Nat
  | .i8 => 0 | .i16 => 1 | .i32 => 2 | .i64 => 3 | .u8 => 4 | .u16 => 5 | .u32 => 6 | .u64 => 7
def sameK (k j : IntKind) : Bool := Nat.beq (kidx k) (kidx j)
theorem sameK_eq (k j : IntKind) : sameK k j = decide (k = j) := by cases k <;> cases j <;> rfl
noncomputable def iAdd (a b : Int) : Int :=
  Int.rec (motive := fun _ => Int) (fun m => Int.rec (motive := fun _ => Int) (fun n => .ofNat (Nat.add m n)) (fun n => Int.add (.ofNat m) (.negSucc n)) b) (fun m => Int.add (.negSucc m) b) a
theorem iAdd_eq (a b : Int) : iAdd a b = a + b := by cases a <;> cases b <;> rfl
noncomputable def iEq (a b : Int) : Bool :=
  Int.rec (motive := fun _ => Bool) (fun m => Int.rec (motive := fun _ => Bool) (fun n => Nat.beq m n) (fun n => false) b) (fun m => Int.rec (motive := fun _ => Bool) (fun n => false) (fun n => Nat.beq m n) b) a
theorem iEq_eq (a b : Int) : iEq a b = (a == b) := by
  cases a <;> cases b <;> simp only [iEq]
  · rename_i m n; rw [Bool.eq_iff_iff]; simp; omega
  · rename_i m n; symm; simp
  · rename_i m n; symm; simp
  · rename_i m n; rw [Bool.eq_iff_iff]; simp
noncomputable def iLt (a b : Int) : Bool :=
  Int.rec (motive := fun _ => Bool) (fun m => Int.rec (motive := fun _ => Bool) (fun n => Nat.blt m n) (fun n => false) b) (fun m => Int.rec (motive := fun _ => Bool) (fun n => true) (fun n => Nat.blt n m) b) a
theorem iLt_eq (a b : Int) : iLt a b = decide (a < b) := by
  rw [Bool.eq_iff_iff]
  cases a <;> cases b <;> simp only [iLt, decide_eq_true_eq, Nat.blt_eq, Bool.false_eq_true, Int.ofNat_eq_natCast, Int.negSucc_eq] <;> first | omega | (simp only [iff_true, true_iff, false_iff]; omega)
noncomputable def iLe (a b : Int) : Bool :=
  Int.rec (motive := fun _ => Bool) (fun m => Int.rec (motive := fun _ => Bool) (fun n => Nat.ble m n) (fun n => false) b) (fun m => Int.rec (motive := fun _ => Bool) (fun n => true) (fun n => Nat.ble n m) b) a
theorem iLe_eq (a b : Int) : iLe a b = decide (a ≤ b) := by
  rw [Bool.eq_iff_iff]
  cases a <;> cases b <;> simp only [iLe, decide_eq_true_eq, Nat.ble_eq, Bool.false_eq_true, Int.ofNat_eq_natCast, Int.negSucc_eq] <;> first | omega | (simp only [iff_true, true_iff, false_iff]; omega)
noncomputable def arith (op : BinOp) (g : Int → Int → Int) : List Value → Option Value :=
  two fun x y => onInt x (fun k a => onInt y (fun k' b => iteB (sameK k k') (forceI (wrapF k (g a b)) fun i => some (.int k i)) none) (bin op x y)) (bin op x y)
noncomputable def cmp (op : BinOp) (g : Int → Int → Bool) : List Value → Option Value :=
  two fun x y => onInt x (fun k a => onInt y (fun k' b => iteB (sameK k k') (some (.bool (g a b))) none) (bin op x y)) (bin op x y)
theorem arith_eq (op : BinOp) (g : Int → Int → Int) (h : ∀ k k' a b, bin op (.int k a) (.int k' b) = if k ≠ k' then none else some (.int k (k.wrap (g a b)))) : arith op g = sBin op := by
  funext vs
  simp only [arith, two_eq]
  match vs with
  | [] => rfl
  | [_] => rfl
  | _ :: _ :: _ :: _ => rfl
  | [x, y] =>
    simp only [sBin]
    cases x with
    | int k a =>
      cases y with
      | int k' b =>
        simp only [onInt, h, iteB_eq, sameK_eq, wrapF_eq, forceI_eq]
        by_cases hk : k = k' <;> simp [hk]
      | _ => rfl
    | _ => rfl
theorem cmp_eq (op : BinOp) (g : Int → Int → Bool) (h : ∀ k k' a b, bin op (.int k a) (.int k' b) = if k ≠ k' then none else some (.bool (g a b))) : cmp op g = sBin op := by
  funext vs
  simp only [cmp, two_eq]
  match vs with
  | [] => rfl
  | [_] => rfl
  | _ :: _ :: _ :: _ => rfl
  | [x, y] =>
    simp only [sBin]
    cases x with
    | int k a =>
      cases y with
      | int k' b =>
        simp only [onInt, h, iteB_eq, sameK_eq]
        by_cases hk : k = k' <;> simp [hk]
      | _ => rfl
    | _ => rfl
def limK : IntKind → Nat
  | .i8 => 128 | .u8 => 128 | .i16 => 32768 | .u16 => 32768 | .i32 => 2147483648 | .u32 => 2147483648 | .i64 => 9223372036854775808 | .u64 => 9223372036854775808
theorem wrap_lim (k : IntKind) (m : Nat) (h : m < limK k) : k.wrap (m : Int) = (m : Int) := by
  unfold IntKind.wrap
  cases k <;> simp [IntKind.bits, IntKind.signed, limK] at * <;> omega
theorem lim_bits (k : IntKind) : limK k ≤ 2 ^ k.bits := by cases k <;> simp [limK, IntKind.bits]
theorem ofInt_lim (k : IntKind) (m : Nat) (h : m < limK k) : (BitVec.ofInt k.bits (m : Int)).toNat = m := by
  have := lim_bits k
  simp only [BitVec.toNat_ofInt]
  have e : ((m : Int) % ((2 ^ k.bits : Nat) : Int)).toNat = m := by
    rw [← Int.natCast_emod, Int.toNat_natCast, Nat.mod_eq_of_lt (by omega)]
  exact_mod_cast e
theorem bits_and_lim (k : IntKind) (m n : Nat) (hm : m < limK k) (hn : n < limK k) : bits .and k (m : Int) (n : Int) = ((Nat.land m n : Nat) : Int) := by
  unfold bits
  simp only [BitVec.toNat_and, ofInt_lim k m hm, ofInt_lim k n hn]
  exact wrap_lim k _ (Nat.lt_of_le_of_lt Nat.and_le_left hm)
theorem lim_pow (k : IntKind) : limK k = 2 ^ (k.bits - 1) := by cases k <;> rfl
theorem bits_or_lim (k : IntKind) (m n : Nat) (hm : m < limK k) (hn : n < limK k) : bits .or k (m : Int) (n : Int) = ((Nat.lor m n : Nat) : Int) := by
  unfold bits
  simp only [BitVec.toNat_or, ofInt_lim k m hm, ofInt_lim k n hn]
  rw [lim_pow] at hm hn
  exact wrap_lim k _ (by rw [lim_pow]; exact Nat.or_lt_two_pow hm hn)
theorem shr_lim (m j : Nat) : Int.fdiv (m : Int) (2 ^ j) = ((Nat.shiftRight m j : Nat) : Int) := by
  have : ((2 : Int) ^ j) = ((2 ^ j : Nat) : Int) := by norm_cast
  rw [this, Int.fdiv_eq_ediv_of_nonneg _ (by exact_mod_cast Nat.zero_le _), ← Int.natCast_ediv]
  congr 1
  exact (Nat.shiftRight_eq_div_pow m j).symm
noncomputable def onNat2 {α : Type} (a b : Int) (f : Nat → Nat → α) (d : α) : α :=
  Int.rec (motive := fun _ => α) (fun m => Int.rec (motive := fun _ => α) (fun n => f m n) (fun _ => d) b) (fun _ => d) a
noncomputable def small2 (op : BinOp) (g : Nat → Nat → Nat) : List Value → Option Value :=
  two fun x y => onInt x (fun k a => onInt y (fun k' b => iteB (sameK k k')
    (onNat2 a b (fun m n => iteB (Nat.blt m (limK k)) (iteB (Nat.blt n (limK k)) (forceN (g m n) fun r => some (.int k (.ofNat r))) (bin op x y)) (bin op x y)) (bin op x y)) (bin op x y)) (bin op x y)) (bin op x y)
theorem small2_eq (op : BinOp) (g : Nat → Nat → Nat) (h : ∀ (k : IntKind) (m n : Nat), m < limK k → n < limK k → bin op (.int k (m : Int)) (.int k (n : Int)) = some (.int k (g m n : Nat))) : small2 op g = sBin op := by
  funext vs
  simp only [small2, two_eq]
  match vs with
  | [] => rfl
  | [_] => rfl
  | _ :: _ :: _ :: _ => rfl
  | [x, y] =>
    simp only [sBin]
    cases x with
    | int k a =>
      cases y with
      | int k' b =>
        simp only [onInt, iteB_eq, sameK_eq]
        by_cases hk : k = k'
        · subst hk
          simp only [decide_true, cond_true]
          cases a with
          | negSucc m => rfl
          | ofNat m =>
            cases b with
            | negSucc n => rfl
            | ofNat n =>
              show (bif Nat.blt m (limK k) then (bif Nat.blt n (limK k) then (forceN (g m n) fun r => some (Value.int k (Int.ofNat r))) else _) else _) = _
              cases hm : Nat.blt m (limK k) with
              | false => rfl
              | true =>
                cases hn : Nat.blt n (limK k) with
                | false => rfl
                | true =>
                  simp only [cond_true, forceN_eq]
                  exact (h k m n (by simpa [Nat.blt_eq] using hm) (by simpa [Nat.blt_eq] using hn)).symm
        · simp [hk]
      | _ => rfl
    | _ => rfl
noncomputable def shrF : List Value → Option Value :=
  two fun x y => onInt x (fun k a => onInt y (fun k' b => onNat2 a b (fun m n => iteB (Nat.blt n k.bits) (forceN (Nat.shiftRight m n) fun r => some (.int k (.ofNat r))) (bin .shr x y)) (bin .shr x y)) (bin .shr x y)) (bin .shr x y)
theorem shrF_eq : shrF = sBin .shr := by
  funext vs
  simp only [shrF, two_eq]
  match vs with
  | [] => rfl
  | [_] => rfl
  | _ :: _ :: _ :: _ => rfl
  | [x, y] =>
    simp only [sBin]
    cases x with
    | int k a =>
      cases y with
      | int k' b =>
        simp only [onInt]
        cases a with
        | negSucc m => rfl
        | ofNat m =>
          cases b with
          | negSucc n => rfl
          | ofNat n =>
            show iteB (Nat.blt n k.bits) (forceN (Nat.shiftRight m n) fun r => some (Value.int k (Int.ofNat r))) _ = _
            rw [iteB_eq]
            cases hn : Nat.blt n k.bits with
            | false => rfl
            | true =>
              have hlt : n < k.bits := by simpa [Nat.blt_eq] using hn
              simp only [cond_true, forceN_eq]
              have h1 : min (Int.ofNat n).toNat k.bits = n := by
                show min n k.bits = n
                omega
              have h2 : ¬ (Int.ofNat n) < 0 := by have := Int.natCast_nonneg n; show ¬ ((n : Int) < 0); omega
              simp only [bin, h1, h2, if_false]
              have := shr_lim m n
              show _ = some (Value.int k (Int.fdiv (m : Int) (2 ^ n)))
              rw [this]; rfl
      | _ => rfl
    | _ => rfl
noncomputable def binF (op : BinOp) : List Value → Option Value :=
  match op with
  | .add => arith .add iAdd
  | .sub => arith .sub fun a b => a - b
  | .mul => arith .mul fun a b => a * b
  | .eql => cmp .eql iEq
  | .neq => cmp .neq fun a b => iteB (iEq a b) false true
  | .lss => cmp .lss iLt
  | .leq => cmp .leq iLe
  | .gtr => cmp .gtr fun a b => iLt b a
  | .geq => cmp .geq fun a b => iLe b a
  | .and => small2 .and Nat.land
  | .or => small2 .or Nat.lor
  | .shr => shrF
  | op => sBin op
theorem binF_eq (op : BinOp) : binF op = sBin op := by
  cases op with
  | add => exact arith_eq _ _ (fun k k' a b => by simp only [bin, iAdd_eq])
  | sub => exact arith_eq _ _ (fun k k' a b => rfl)
  | mul => exact arith_eq _ _ (fun k k' a b => rfl)
  | eql => exact cmp_eq _ _ (fun k k' a b => by simp only [bin, iEq_eq])
  | neq => exact cmp_eq _ _ (fun k k' a b => by
      have e : (a != b) = (bif a == b then false else true) := by cases h : (a == b) <;> simp [bne, h]
      simp only [bin, iEq_eq, iteB_eq, e])
  | lss => exact cmp_eq _ _ (fun k k' a b => by simp only [bin, iLt_eq])
  | leq => exact cmp_eq _ _ (fun k k' a b => by simp only [bin, iLe_eq])
  | gtr => exact cmp_eq _ _ (fun k k' a b => by simp only [bin, iLt_eq])
  | geq => exact cmp_eq _ _ (fun k k' a b => by simp only [bin, iLe_eq])
  | and => exact small2_eq _ _ (fun k m n hm hn => by simp only [bin, ne_eq, not_true_eq_false, if_false, bits_and_lim k m n hm hn])
  | or => exact small2_eq _ _ (fun k m n hm hn => by simp only [bin, ne_eq, not_true_eq_false, if_false, bits_or_lim k m n hm hn])
  | shr => exact shrF_eq
  | _ => rfl
noncomputable def onPtr {α : Type} (v : Value) (k : Nat → Nat → Option α) : Option α := match v with
  | .pointer (some ⟨b, o, none⟩) => k b o
  | _ => none
noncomputable def onCells {α : Type} (x : Option AObj) (z : Option α) (k : List Value → TypeId → Option Nat → Option α) : Option α :=
  match x with
  | some (.cells cs t gr) => k cs t gr
  | none => none
  | _ => z
noncomputable def nth (cs : List Value) : Nat → Option Value :=
  List.rec (motive := fun _ => Nat → Option Value) (fun _ => none) (fun x _ ih k => Nat.rec (motive := fun _ => Option Value) (some x) (fun m _ => ih m) k) cs
theorem nth_eq : ∀ (cs : List Value) (k : Nat), nth cs k = cs[k]?
  | [], _ => rfl
  | x :: xs, 0 => rfl
  | x :: xs, k + 1 => by
    show nth xs k = _
    rw [nth_eq xs k]; simp
noncomputable def set1 (v : Value) (cs : List Value) : Nat → Option (List Value) :=
  List.rec (motive := fun _ => Nat → Option (List Value)) (fun _ => none) (fun x xs ih k => Nat.rec (motive := fun _ => Option (List Value)) (some (v :: xs)) (fun m _ => bindO (ih m) fun l => some (x :: l)) k) cs
theorem set1_eq (v : Value) : ∀ (cs : List Value) (k : Nat), set1 v cs k = if k + 1 ≤ cs.length then some (splice cs k [v]) else none
  | [], k => by show none = _; simp
  | x :: xs, 0 => by show some (v :: xs) = _; simp [splice]
  | x :: xs, k + 1 => by
    show bindO (set1 v xs k) (fun l => some (x :: l)) = _
    rw [set1_eq v xs k]
    by_cases h : k + 1 ≤ xs.length
    · rw [if_pos h, if_pos (by simp; omega)]
      show some (x :: splice xs k [v]) = _
      simp [splice, Nat.add_right_comm]
    · rw [if_neg h, if_neg (by simp; omega)]; rfl
noncomputable def aputN {α : Type} (l : AL α) (k : Nat) (v : α) : AL α := aputP v l (path k k)
theorem aputN_eq {α : Type} (l : AL α) (k : Nat) (v : α) : aputN l k v = aput l k v := aputP_eq v l k k (Nat.le_refl _)
noncomputable def fLoad1 (H : Heap) : List Value → Option Value := one fun x => onPtr x fun b o => onCells (agetN H b) (rLoad1 H [x]) fun cs _ _ => nth cs o
theorem fLoad1_eq : fLoad1 = rLoad1 := by
  funext H vs
  simp only [fLoad1, one_eq]
  match vs with
  | [] => rfl
  | a :: b :: r =>
    show none = rLoad1 H (a :: b :: r)
    unfold rLoad1
    split
    · rename_i h; cases h
    · rfl
  | [x] =>
    simp only [onPtr, agetN_eq, nth_eq]
    unfold rLoad1
    split
    · rename_i b o
      simp only [onCells]
      cases hg : aget H b with
      | none => rfl
      | some ob => cases ob <;> simp only [hg]
    · rename_i h1
      split
      · rename_i h2; simp only [List.cons.injEq, and_true] at h2; exact absurd h2 (h1 _ _)
      · rfl
noncomputable def fLoadN (n : Nat) (H : Heap) : List Value → Option Value := one fun x => onPtr x fun b o => onCells (agetN H b) (rLoadN n H [x]) fun cs _ _ => iteB (Nat.ble (Nat.add o n) cs.length) (some (.agg ((cs.drop o).take n).toArray)) none
theorem fLoadN_eq (n : Nat) : fLoadN n = rLoadN n := by
  funext H vs
  simp only [fLoadN, one_eq]
  match vs with
  | [] => rfl
  | a :: b :: r =>
    show none = rLoadN n H (a :: b :: r)
    unfold rLoadN
    split
    · rename_i h; cases h
    · rfl
  | [x] =>
    simp only [onPtr, agetN_eq]
    unfold rLoadN
    split
    · rename_i b o
      simp only [onCells]
      cases hg : aget H b with
      | none => rfl
      | some ob =>
        cases ob with
        | cells cs t gr =>
          simp only [iteB_eq]
          by_cases h : o + n ≤ cs.length
          · have : Nat.ble (Nat.add o n) cs.length = true := Nat.ble_eq.mpr h
            rw [this, if_pos h]; rfl
          · have : Nat.ble (Nat.add o n) cs.length = false := by
              cases hb : Nat.ble (Nat.add o n) cs.length with
              | false => rfl
              | true => exact absurd (Nat.le_of_ble_eq_true hb) h
            rw [this, if_neg h]; rfl
        | _ => rfl
    · rename_i h1
      split
      · rename_i h2; simp only [List.cons.injEq, and_true] at h2; exact absurd h2 (h1 _ _)
      · rfl
def isCell (v : Value) : Bool := match v with
  | .agg _ => false
  | .tuple _ => false
  | _ => true
noncomputable def fStore (sz : Nat) (vs : List Value) (H : Heap) (n : Nat) : Option (Value × Heap × Nat) :=
  two (fun x v => onPtr x fun b o => iteB (isCell v)
    (onCells (agetN H b) (wStore sz H n [x, v]) fun cs t gr => iteB (Nat.beq sz 1) (bindO (set1 v cs o) fun cs => some (undef, aputN H b (.cells cs t gr), n)) none)
    (wStore sz H n [x, v])) vs
theorem fStore_eq (sz : Nat) : fStore sz = fun vs H n => wStore sz H n vs := by
  funext vs H n
  simp only [fStore, two_eq]
  match vs with
  | [] => rfl
  | [a] => show none = wStore sz H n [a]; unfold wStore; split; (rename_i h; cases h); rfl
  | a :: b :: c :: r => show none = wStore sz H n (a :: b :: c :: r); unfold wStore; split; (rename_i h; cases h); rfl
  | [x, v] =>
    simp only [onPtr]
    split
    · rename_i b o
      simp only [iteB_eq]
      cases hc : isCell v with
      | false => rfl
      | true =>
        have hv : v.cells = #[v] ∧ cell1 v = true := by cases v <;> first | exact ⟨rfl, rfl⟩ | cases hc
        simp only [cond_true, onCells, agetN_eq, aputN_eq, bindO_eq, set1_eq]
        unfold wStore
        simp only [hv.1]
        cases hg : aget H b with
        | none => rfl
        | some ob =>
          cases ob with
          | cells cs t gr =>
            simp only [List.length_cons, List.length_nil, List.all_cons, List.all_nil, hv.2, Bool.and_true, and_true]
            by_cases hsz : sz = 1
            · subst hsz
              by_cases hlt : o + 1 ≤ cs.length
              · simp [hlt]
              · simp [hlt]
            · have : Nat.beq sz 1 = false := by
                cases hb : Nat.beq sz 1 with
                | false => rfl
                | true => exact absurd (Nat.eq_of_beq_eq_true hb) hsz
              simp [this, Ne.symm hsz]
          | _ => rfl
    · rename_i h1
      unfold wStore
      split
      · rename_i h2; simp only [List.cons.injEq, and_true] at h2; exact absurd h2.1 (h1 _ _)
      · rfl
def onSlice {α : Type} (v : Value) (k : Nat → Nat → Nat → Option α) : Option α := match v with
  | .slice (some ⟨b, o, none⟩) l _ => k b o l
  | _ => none
noncomputable def fIndexS (es : Nat) : List Value → Option Value :=
  two fun x y => onSlice x fun b o l => onInt y (fun _ i => Int.rec (motive := fun _ => Option Value) (fun m => iteB (Nat.blt m l) (some (.pointer (some ⟨b, Nat.add o (Nat.mul m es), none⟩))) none) (fun _ => none) i) none
theorem fIndexS_eq (es : Nat) : fIndexS es = sIndexAddrS es := by
  funext vs
  simp only [fIndexS, two_eq]
  match vs with
  | [] => rfl
  | [a] => show none = sIndexAddrS es [a]; unfold sIndexAddrS; split; (rename_i h; cases h); rfl
  | a :: b :: c :: r => show none = sIndexAddrS es (a :: b :: c :: r); unfold sIndexAddrS; split; (rename_i h; cases h); rfl
  | [x, y] =>
    simp only [onSlice]
    split
    · rename_i b o l c
      cases y with
      | int k i =>
        simp only [onInt, sIndexAddrS]
        cases i with
        | ofNat m =>
          show iteB (Nat.blt m l) _ _ = _
          rw [iteB_eq]
          cases hb : Nat.blt m l with
          | true =>
            have : m < l := by simpa [Nat.blt_eq] using hb
            rw [if_pos ⟨Int.natCast_nonneg m, by exact Int.ofNat_lt.2 this⟩]; rfl
          | false =>
            have : ¬ m < l := by
              intro h
              have : Nat.blt m l = true := by simpa [Nat.blt_eq] using h
              rw [this] at hb; cases hb
            rw [if_neg (fun h => this (Int.ofNat_lt.1 h.2))]; rfl
        | negSucc m => rfl
      | _ => rfl
    · rename_i h1
      unfold sIndexAddrS
      split
      · rename_i h2; simp only [List.cons.injEq, and_true] at h2; exact absurd h2.1 (h1 _ _ _ _)
      · rfl
noncomputable def fConv (k : IntKind) : List Value → Option Value := one fun x => onInt x (fun _ n => forceI (wrapF k n) fun i => some (.int k i)) none
theorem fConv_eq (k : IntKind) : fConv k = sConv k := by
  funext vs
  simp only [fConv, one_eq]
  match vs with
  | [] => rfl
  | a :: b :: r => show none = sConv k (a :: b :: r); unfold sConv; split; (rename_i h; cases h); rfl
  | [x] => cases x <;> first | rfl | (simp only [onInt, sConv, wrapF_eq, forceI_eq])
inductive Act0 where
  | P (f : List Value → Option Value)
  | R (f : Heap → List Value → Option Value)
  | A (f : List Value → Option (AObj × Mk))
  | W (f : List Value → Heap → Nat → Option (Value × Heap × Nat))
  | C (f : List Value → Option (FuncId × List Value))
  | D
  | N
noncomputable def compK (E : Env) (k : Kind) : Act0 :=
  match k with
  | .move => .P sMove
  | .pick => .P sPick
  | .bin op => .P (binF op)
  | .un op => .P (sUn op)
  | .conv k => .P (fConv k)
  | .convStr => .P sConvStr
  | .eqBool neg => .P (sEqBool neg)
  | .eqPtr neg => .P (sEqPtr neg)
  | .eqSlice neg => .P (sEqSlice neg)
  | .eqMap neg => .P (sEqMap neg)
  | .eqFunc neg => .P (sEqFunc neg)
  | .eqIface neg => .P (sEqIface neg)
  | .eqInts n neg => .P (sEqInts n neg)
  | .mkIface t => .P (sMkIface t)
  | .mkFunc fn nf => .P fun vs => some (.func fn (vs.take nf).toArray (vs.drop nf).toArray)
  | .extract i => .P (sExtract i)
  | .field off sz => .P (sField off sz)
  | .build zero places => .P fun vs => (fillL zero places vs).map fun cs => .agg cs.toArray
  | .fieldAddr off => .P (sFieldAddr off)
  | .indexAddrS es => .P (fIndexS es)
  | .indexAddrA n es => .P (sIndexAddrA n es)
  | .indexA n es agg => .P (sIndexA n es agg)
  | .indexStr => .P sIndexStr
  | .sliceStr lo hi => .P (sSliceStr lo hi)
  | .nilCheck => .P (sNilCheck E)
  | .lenS => .P sLenS
  | .lenStr => .P sLenStr
  | .lenC n => .P (sLenC n)
  | .bmin => .P (sFold (fun a b => if b < a then b else a))
  | .bmax => .P (sFold (fun a b => if a < b then b else a))
  | .asConc t zero ok => .P (sAs t zero ok)
  | .sliceData => .P sSliceData
  | .sliceS es lo hi => .R (rSlice es lo hi)
  | .sliceA n es lo hi => .R (rSliceA n es lo hi)
  | .toUnsafe => .R rToUnsafe
  | .ofUnsafe u n => .R (rOfUnsafe u n)
  | .load1 => .R fLoad1
  | .loadN n => .R (fLoadN n)
  | .lookup str zero ok => .R (rLookup str zero ok)
  | .lenMap => .R rLenMap
  | .bytesToStr => .R rBytesToStr
  | .callF f => .C fun vs => some (f, vs)
  | .callV => .C (target E .callV)
  | .invoke name => .C (target E (.invoke name))
  | .deferV => .D
  | .store sz => .W (fStore sz)
  | .eqAddr _ => .P fun _ => none
  | .rangeMap => .N
  | .nextMap => .N
  | .entry => .N
  | k => match k.cls with
    | .A => .A (semA k)
    | .W => .W (semW k)
    | _ => .D
theorem compK_spec (E : Env) (k : Kind) : match compK E k with
    | .P f => k.cls = .P ∧ f = semP E k
    | .R f => k.cls = .R ∧ f = fun H vs => semR k vs H
    | .A f => k.cls = .A ∧ f = semA k
    | .W f => k.cls = .W ∧ f = semW k
    | .C f => k.cls = .C ∧ f = target E k
    | .D => k.cls = .D
    | .N => k.cls = .N := by
  cases k <;> first
    | rfl
    | exact ⟨rfl, rfl⟩
    | exact ⟨rfl, binF_eq _⟩
    | exact ⟨rfl, fConv_eq _⟩
    | exact ⟨rfl, fIndexS_eq _⟩
    | exact ⟨rfl, fLoad1_eq⟩
    | exact ⟨rfl, fStore_eq _⟩
    | exact ⟨rfl, fLoadN_eq _⟩
structure Ev1 where
  f : AL Value → Option Value
structure Ar where
  f : AL Value → Option (List Value)
structure Ct where
  f : CallE → St → Option St
structure Cts where
  f : CallE → St → Option St
structure Fn1 where
  f : CallE → St → Option (EX × St)
structure Ct2 where
  f : AL Value → Heap → Option Value
structure Ct3 where
  f : AL Value → Heap → Option (List Value)
structure Fb where
  f : CallE → CallE → List Value → Heap → Nat → Option (Value × Heap × Nat)
structure Dst where
  f : Value → AL Value → AL Value
section
variable (P : Program) (G : List Nat) (E : Env)
noncomputable def evHere : Ev1 := ⟨fun T => AL.rec (motive := fun _ => Option Value) none (fun v _ _ _ _ => v) (fun l f _ => agetP (.fam l f) []) (fun l => agetP (.lst l) []) T⟩
noncomputable def evL (q : List Bool) (x : Ev1) : Ev1 := ⟨fun T => AL.rec (motive := fun _ => Option Value) none (fun _ l _ _ _ => x.f l) (fun l f _ => agetP (.fam l f) q) (fun l => agetP (.lst l) q) T⟩
noncomputable def evR (q : List Bool) (x : Ev1) : Ev1 := ⟨fun T => AL.rec (motive := fun _ => Option Value) none (fun _ _ r _ _ => x.f r) (fun l f _ => agetP (.fam l f) q) (fun l => agetP (.lst l) q) T⟩
noncomputable def evTmp (p : List Bool) : Ev1 := List.rec (motive := fun _ => Ev1) evHere (fun b q ih => Bool.rec (motive := fun _ => Ev1) (evR (false :: q) ih) (evL (true :: q) ih) b) p
theorem evTmp_eq : ∀ (p : List Bool) (T : AL Value), (evTmp p).f T = agetP T p
  | [], .nil => rfl
  | [], .fam _ _ => rfl
  | true :: p, .fam _ _ => rfl
  | false :: p, .fam _ _ => rfl
  | [], .lst _ => rfl
  | true :: p, .lst _ => rfl
  | false :: p, .lst _ => rfl
  | [], .node _ _ _ => rfl
  | true :: p, .nil => rfl
  | true :: p, .node v l r => evTmp_eq p l
  | false :: p, .nil => rfl
  | false :: p, .node v l r => evTmp_eq p r
def evVal (o : Option Value) : Ev1 := ⟨fun _ => o⟩
noncomputable def evO (x : Operand) : Ev1 :=
  match x with
  | .tmp t => evTmp (path t t)
  | x => evVal (ev G .nil x)
noncomputable def arCons (x : Ev1) (r : Ar) : Ar := ⟨fun T => bindO (x.f T) fun v => bindO (r.f T) fun vs => some (v :: vs)⟩
noncomputable def arO : List Operand → Ar
  | [] => ⟨fun _ => some []⟩
  | x :: xs => arCons (evO G x) (arO xs)
noncomputable def dstHere : Dst := ⟨fun v T => AL.rec (motive := fun _ => AL Value) (.node (some v) .nil .nil) (fun _ l r _ _ => .node (some v) l r) (fun l f _ => aputP v (.fam l f) []) (fun l => aputP v (.lst l) []) T⟩
noncomputable def dstL (q : List Bool) (x : Dst) : Dst := ⟨fun v T => AL.rec (motive := fun _ => AL Value) (.node none (x.f v .nil) .nil) (fun u l r _ _ => .node u (x.f v l) r) (fun l f _ => aputP v (.fam l f) q) (fun l => aputP v (.lst l) q) T⟩
noncomputable def dstR (q : List Bool) (x : Dst) : Dst := ⟨fun v T => AL.rec (motive := fun _ => AL Value) (.node none .nil (x.f v .nil)) (fun u l r _ _ => .node u l (x.f v r)) (fun l f _ => aputP v (.fam l f) q) (fun l => aputP v (.lst l) q) T⟩
noncomputable def dstP (p : List Bool) : Dst := List.rec (motive := fun _ => Dst) dstHere (fun b q ih => Bool.rec (motive := fun _ => Dst) (dstR (false :: q) ih) (dstL (true :: q) ih) b) p
theorem dstP_eq (v : Value) : ∀ (p : List Bool) (T : AL Value), (dstP p).f v T = aputP v T p
  | [], .nil => rfl
  | [], .fam _ _ => rfl
  | true :: p, .fam _ _ => rfl
  | false :: p, .fam _ _ => rfl
  | [], .lst _ => rfl
  | true :: p, .lst _ => rfl
  | false :: p, .lst _ => rfl
  | [], .node _ _ _ => rfl
  | true :: p, .nil => by show AL.node none ((dstP p).f v .nil) .nil = AL.node none (aputP v .nil p) .nil; rw [dstP_eq v p]
  | true :: p, .node u l r => by show AL.node u ((dstP p).f v l) r = AL.node u (aputP v l p) r; rw [dstP_eq v p]
  | false :: p, .nil => by show AL.node none .nil ((dstP p).f v .nil) = AL.node none .nil (aputP v .nil p); rw [dstP_eq v p]
  | false :: p, .node u l r => by show AL.node u l ((dstP p).f v r) = AL.node u l (aputP v r p); rw [dstP_eq v p]
noncomputable def dstO (d : Option Tmp) : Dst :=
  match d with
  | some d => dstP (path d d)
  | none => ⟨fun _ T => T⟩
noncomputable def doneO (d : Dst) (v : Value) (T : AL Value) (D : List Value) (H : Heap) (n : Nat) : Option St :=
  some { T := d.f v T, D, H, n }
noncomputable def ctP (f : List Value → Option Value) (args : Ar) (d : Dst) : Ct :=
  ⟨fun call s => bindO (args.f s.T) fun vs => bindO (f vs) fun v => doneO d v s.T s.D s.H s.n⟩
noncomputable def ctR (f : Heap → List Value → Option Value) (args : Ar) (d : Dst) : Ct :=
  ⟨fun call s => bindO (args.f s.T) fun vs => bindO (f s.H vs) fun v => doneO d v s.T s.D s.H s.n⟩
noncomputable def ctA (f : List Value → Option (AObj × Mk)) (args : Ar) (d : Dst) : Ct :=
  ⟨fun call s => bindO (args.f s.T) fun vs => bindO (f vs) fun r => iteB (Nat.blt s.n big) (doneO d (r.2.val s.n) s.T s.D (aputN s.H s.n r.1) (s.n + 1)) none⟩
noncomputable def ctW (f : List Value → Heap → Nat → Option (Value × Heap × Nat)) (args : Ar) (d : Dst) : Ct :=
  ⟨fun call s => bindO (args.f s.T) fun vs => bindO (f vs s.H s.n) fun r => iteB (Nat.blt s.n big) (doneO d r.1 s.T s.D r.2.1 r.2.2) none⟩
noncomputable def ctC (f : List Value → Option (FuncId × List Value)) (args : Ar) (d : Dst) : Ct :=
  ⟨fun call s => bindO (args.f s.T) fun vs => bindO (f vs) fun r => bindO (call r.1 r.2 s.H s.n) fun r => doneO d r.1 s.T s.D r.2.1 r.2.2⟩
noncomputable def ctD (args : Ar) (d : Dst) : Ct :=
  ⟨fun call s => bindO (args.f s.T) fun vs => match vs with
    | [x] => bif isFn x then doneO d undef s.T (x :: s.D) s.H s.n else none
    | _ => none⟩
noncomputable def ctMove (x : Ev1) (d : Dst) : Ct := ⟨fun call s => bindO (x.f s.T) fun v => doneO d v s.T s.D s.H s.n⟩
noncomputable def ctBodyK (st : Step) : Ct :=
  match compK E st.k with
  | .P f => ctP f (arO G st.args) (dstO st.dst)
  | .R f => ctR f (arO G st.args) (dstO st.dst)
  | .A f => ctA f (arO G st.args) (dstO st.dst)
  | .W f => ctW f (arO G st.args) (dstO st.dst)
  | .C f => ctC f (arO G st.args) (dstO st.dst)
  | .D => ctD (arO G st.args) (dstO st.dst)
  | .N => ⟨fun _ _ => none⟩
noncomputable def ctBody (st : Step) : Ct :=
  match st.k with
  | .move => match st.args with
    | [x] => ctMove (evO G x) (dstO st.dst)
    | _ => ctBodyK G E st
  | _ => ctBodyK G E st
noncomputable def ctGuard (x : Ev1) (b : Bool) (body : Ct) (d : Dst) : Ct :=
  ⟨fun call s => bindO (x.f s.T) fun v => match v with
    | .bool c => bif c == b then body.f call s else doneO d undef s.T s.D s.H s.n
    | .tuple _ => doneO d undef s.T s.D s.H s.n
    | _ => none⟩
noncomputable def ctO (st : Step) : Ct :=
  match st.guard with
  | none => ctBody G E st
  | some (d, b) => ctGuard (evTmp (path d d)) b (ctBody G E st) (dstO st.dst)
noncomputable def ctsNil : Cts := ⟨fun _ s => some s⟩
noncomputable def ctsCons (x : Ct) (r : Cts) : Cts := ⟨fun call s => bindO (x.f call s) fun s => r.f call s⟩
noncomputable def ctsO : List Step → Cts
  | [] => ctsNil
  | st :: r => ctsCons (ctO G E st) (ctsO r)
theorem evO_eq (x : Operand) (T : AL Value) : (evO G x).f T = ev G T x := by
  cases x with
  | tmp t => exact (evTmp_eq (path t t) T).trans (agetP_eq T t t (Nat.le_refl _))
  | _ => rfl
theorem arO_eq : ∀ (args : List Operand) (T : AL Value), (arO G args).f T = evs G T args
  | [], T => rfl
  | x :: xs, T => by
    show bindO ((evO G x).f T) (fun v => bindO ((arO G xs).f T) fun vs => some (v :: vs)) = _
    rw [evO_eq, arO_eq xs T, bindO_eq]
    simp only [evs, bindO_eq]
    cases ev G T x <;> cases evs G T xs <;> rfl
theorem dstO_eq (d : Option Tmp) (v : Value) (T : AL Value) : (dstO d).f v T = putT d v T := by
  cases d with
  | none => rfl
  | some d => exact (dstP_eq v (path d d) T).trans (aputP_eq v T d d (Nat.le_refl _))
theorem doneO_eq (d : Option Tmp) (v : Value) (T : AL Value) (D : List Value) (H : Heap) (n : Nat) : doneO (dstO d) v T D H n = doneSt d v T D H n := by
  rw [doneSt_eq]
  unfold doneO
  rw [dstO_eq]
theorem ctBodyK_eq (call : CallE) (st : Step) (s : St) : (ctBodyK G E st).f call s = match evs G s.T st.args with
    | none => none
    | some vs =>
      match st.k.cls with
      | .P => match semP E st.k vs with
        | some v => doneSt st.dst v s.T s.D s.H s.n
        | none => none
      | .R => match semR st.k vs s.H with
        | some v => doneSt st.dst v s.T s.D s.H s.n
        | none => none
      | .A => match semA st.k vs with
        | some (ob, mk) => bif Nat.blt s.n big then doneSt st.dst (mk.val s.n) s.T s.D (aput s.H s.n ob) (s.n + 1) else none
        | none => none
      | .W => match semW st.k vs s.H s.n with
        | some (v, H, n) => bif Nat.blt s.n big then doneSt st.dst v s.T s.D H n else none
        | none => none
      | .N => none
      | .C => match target E st.k vs with
        | some (f, args) => match call f args s.H s.n with
          | some (v, H, n) => doneSt st.dst v s.T s.D H n
          | none => none
        | none => none
      | .D => match vs with
        | [d] => bif isFn d then doneSt st.dst undef s.T (d :: s.D) s.H s.n else none
        | _ => none := by
  have hs := compK_spec E st.k
  unfold ctBodyK
  cases hk : compK E st.k with
  | P f => simp only [hk] at hs; obtain ⟨h1, rfl⟩ := hs; simp only [ctP, arO_eq, bindO_eq, h1, doneO_eq]; cases evs G s.T st.args with
    | none => rfl
    | some vs => simp only []; cases semP E st.k vs <;> rfl
  | R f => simp only [hk] at hs; obtain ⟨h1, rfl⟩ := hs; simp only [ctR, arO_eq, bindO_eq, h1, doneO_eq]; cases evs G s.T st.args with
    | none => rfl
    | some vs => simp only []; cases semR st.k vs s.H <;> rfl
  | A f => simp only [hk] at hs; obtain ⟨h1, rfl⟩ := hs; simp only [ctA, arO_eq, bindO_eq, h1, doneO_eq, aputN_eq, iteB_eq]; cases evs G s.T st.args with
    | none => rfl
    | some vs => simp only []; cases semA st.k vs <;> rfl
  | W f => simp only [hk] at hs; obtain ⟨h1, rfl⟩ := hs; simp only [ctW, arO_eq, bindO_eq, h1, doneO_eq, iteB_eq]; cases evs G s.T st.args with
    | none => rfl
    | some vs => simp only []; cases semW st.k vs s.H s.n <;> rfl
  | C f => simp only [hk] at hs; obtain ⟨h1, rfl⟩ := hs; simp only [ctC, arO_eq, bindO_eq, h1, doneO_eq]; cases evs G s.T st.args with
    | none => rfl
    | some vs =>
      simp only []
      cases target E st.k vs with
      | none => rfl
      | some r =>
        simp only []
        cases call r.1 r.2 s.H s.n <;> rfl
  | D => simp only [hk] at hs; simp only [ctD, arO_eq, bindO_eq, hs, doneO_eq]; cases evs G s.T st.args <;> rfl
  | N => simp only [hk] at hs; simp only [hs]; cases evs G s.T st.args <;> rfl
theorem ctBody_eq (call : CallE) (st : Step) (s : St) : (ctBody G E st).f call s = (ctBodyK G E st).f call s := by
  unfold ctBody
  split
  · rename_i hk
    split
    · rename_i x hx
      have hcls : st.k.cls = .P := by rw [hk]; rfl
      rw [ctBodyK_eq]
      simp only [ctMove, bindO_eq, evO_eq, doneO_eq, hcls, hx, evs]
      cases ev G s.T x with
      | none => rfl
      | some v => simp only [hk]; rfl
    · rfl
  · rfl
theorem ctO_eq (call : CallE) (st : Step) (s : St) : (ctO G E st).f call s = stepE G E call st s := by
  unfold ctO stepE
  cases hg : st.guard with
  | none => simp only [wantT, ctBody_eq, ctBodyK_eq]; rfl
  | some p =>
    obtain ⟨d, b⟩ := p
    simp only [wantT, ctGuard, evTmp_eq, agetP_eq s.T d d (Nat.le_refl _), bindO_eq, doneO_eq]
    cases aget s.T d with
    | none => rfl
    | some v =>
      cases v with
      | bool c =>
        simp only [ctBody_eq, ctBodyK_eq]
        cases c == b <;> rfl
      | _ => rfl
theorem ctsO_eq (call : CallE) : ∀ (steps : List Step) (s : St), (ctsO G E steps).f call s = stepsE G E call steps s
  | [], s => rfl
  | st :: r, s => by
    show bindO ((ctO G E st).f call s) (fun s => (ctsO G E r).f call s) = _
    rw [ctO_eq, bindO_eq]
    simp only [stepsE, ctsO_eq call r]
    cases stepE G E call st s <;> rfl
noncomputable def regFix (N : Nat) (ops : Array Oper) : Cts :=
  match ops.toList.mapM (stepOf P ops) with
  | none => ⟨fun _ _ => none⟩
  | some steps => iteB (dstsB N steps) (ctsO G E steps) ⟨fun _ _ => none⟩
structure Pl where
  f : CallE → List Rec → St → Option St
structure Kp where
  f : List Rec → List Rec
noncomputable def plNil : Pl := ⟨fun _ _ s => some s⟩
noncomputable def plP (x : Ct) (r : Pl) : Pl := ⟨fun call recs s => bindO (x.f call s) fun s => r.f call recs s⟩
noncomputable def allSt (H : Heap) (recs : List Rec) : Bool := List.rec (motive := fun _ => Bool) true (fun x _ ih => iteB (stableB x H) ih false) recs
theorem allSt_eq (H : Heap) : ∀ recs : List Rec, allSt H recs = recs.all fun x => stableB x H
  | [] => rfl
  | x :: xs => by
    show iteB (stableB x H) (allSt H xs) false = _
    rw [iteB_eq, allSt_eq H xs, List.all_cons]
    cases stableB x H <;> rfl
noncomputable def plR (i : Nat) (st : Step) (args : Ar) (d : Dst) (r : Pl) : Pl :=
  ⟨fun call recs s => bindO (args.f s.T) fun vs => bindO (semR st.k vs s.H) fun v => bindO (doneO d v s.T s.D s.H s.n) fun s => r.f call (recs ++ [⟨i, st, .r vs v⟩]) s⟩
noncomputable def plA (i : Nat) (st : Step) (args : Ar) (d : Dst) (r : Pl) : Pl :=
  ⟨fun call recs s => bindO (args.f s.T) fun vs => bindO (semA st.k vs) fun p => iteB (Nat.blt s.n big) (iteB (allSt (aputN s.H s.n p.1) recs)
    (bindO (doneO d (p.2.val s.n) s.T s.D (aputN s.H s.n p.1) (s.n + 1)) fun s' => r.f call (recs ++ [⟨i, st, .a vs p.1 p.2 s.n⟩]) s') none) none⟩
noncomputable def plE (x : Ct) (k : Kp) (r : Pl) : Pl :=
  ⟨fun call recs s => bindO (x.f call s) fun s' => iteB (allSt s'.H (k.f recs)) (r.f call (k.f recs) s') none⟩
noncomputable def plGuard (g : Option (Tmp × Bool)) (d : Dst) (body r : Pl) : Pl :=
  match g with
  | none => body
  | some (t, b) => ⟨fun call recs s => bindO ((evTmp (path t t)).f s.T) fun v => match v with
    | .bool c => bif c == b then body.f call recs s else bindO (doneO d undef s.T s.D s.H s.n) fun s => r.f call recs s
    | .tuple _ => bindO (doneO d undef s.T s.D s.H s.n) fun s => r.f call recs s
    | _ => none⟩
noncomputable def kpO (ms : List Nat) (i : Nat) : Kp := ⟨fun recs => keepE ms i recs⟩
noncomputable def plBody (ms : List Nat) (i : Nat) (st : Step) (r : Pl) : Pl :=
  match st.k.cls with
  | .P => plP (ctBody G E st) r
  | .R => plR i st (arO G st.args) (dstO st.dst) r
  | .A => plA i st (arO G st.args) (dstO st.dst) r
  | .W => plE (ctBody G E st) (kpO ms i) r
  | .C => plE (ctBody G E st) (kpO ms i) r
  | .D => ⟨fun _ _ _ => none⟩
  | .N => ⟨fun _ _ _ => none⟩
noncomputable def plO (ms : List Nat) : List (Nat × Step) → Pl
  | [] => plNil
  | (i, st) :: r => plGuard st.guard (dstO st.dst) (plBody G E ms i st (plO ms r)) (plO ms r)
theorem plBody_eq (call : CallE) (ms : List Nat) (i : Nat) (st : Step) (r : Pl) (recs : List Rec) (s : St) : (plBody G E ms i st r).f call recs s = match evs G s.T st.args with
      | none => none
      | some vs =>
        match st.k.cls with
        | .P => match semP E st.k vs with
          | some v => match doneSt st.dst v s.T s.D s.H s.n with
            | some s => r.f call recs s
            | none => none
          | none => none
        | .R => match semR st.k vs s.H with
          | some v => match doneSt st.dst v s.T s.D s.H s.n with
            | some s => r.f call (recs ++ [⟨i, st, .r vs v⟩]) s
            | none => none
          | none => none
        | .A => match semA st.k vs with
          | some (ob, mk) => bif Nat.blt s.n big then (bif recs.all fun x => stableB x (aput s.H s.n ob) then
              match doneSt st.dst (mk.val s.n) s.T s.D (aput s.H s.n ob) (s.n + 1) with
              | some s' => r.f call (recs ++ [⟨i, st, .a vs ob mk s.n⟩]) s'
              | none => none
              else none) else none
          | none => none
        | .W => match semW st.k vs s.H s.n with
          | some (v, H, n) => bif Nat.blt s.n big then (bif (keepE ms i recs).all fun x => stableB x H then
              match doneSt st.dst v s.T s.D H n with
              | some s => r.f call (keepE ms i recs) s
              | none => none
              else none) else none
          | none => none
        | .N => none
        | .C => match target E st.k vs with
          | some (f, args) => match call f args s.H s.n with
            | some (v, H, n) => bif (keepE ms i recs).all fun x => stableB x H then
                match doneSt st.dst v s.T s.D H n with
                | some s => r.f call (keepE ms i recs) s
                | none => none
                else none
            | none => none
          | none => none
        | .D => none := by
  unfold plBody
  cases hc : st.k.cls with
  | P =>
    simp only [plP, ctBody_eq, ctBodyK_eq, hc, bindO_eq, doneSt_eq]
    cases evs G s.T st.args with
    | none => rfl
    | some vs => simp only []; cases semP E st.k vs <;> rfl
  | R =>
    simp only [plR, arO_eq, bindO_eq, doneO_eq, doneSt_eq]
    cases evs G s.T st.args with
    | none => rfl
    | some vs => simp only []; cases semR st.k vs s.H <;> rfl
  | A =>
    simp only [plA, arO_eq, bindO_eq, doneO_eq, doneSt_eq, iteB_eq, allSt_eq, aputN_eq]
    cases evs G s.T st.args with
    | none => rfl
    | some vs =>
      simp only []
      cases semA st.k vs with
      | none => rfl
      | some p => rfl
  | W =>
    simp only [plE, ctBody_eq, ctBodyK_eq, hc, bindO_eq, doneSt_eq, iteB_eq, allSt_eq, kpO]
    cases evs G s.T st.args with
    | none => rfl
    | some vs =>
      simp only []
      cases semW st.k vs s.H s.n with
      | none => rfl
      | some p => simp only []; cases Nat.blt s.n big <;> rfl
  | C =>
    simp only [plE, ctBody_eq, ctBodyK_eq, hc, bindO_eq, doneSt_eq, iteB_eq, allSt_eq, kpO]
    cases evs G s.T st.args with
    | none => rfl
    | some vs =>
      simp only []
      cases target E st.k vs with
      | none => rfl
      | some p =>
        simp only []
        cases call p.1 p.2 s.H s.n <;> rfl
  | D => simp only []; cases evs G s.T st.args <;> rfl
  | N => simp only []; cases evs G s.T st.args <;> rfl
theorem plO_eq (call : CallE) (ms : List Nat) : ∀ (plan : List (Nat × Step)) (recs : List Rec) (s : St), (plO G E ms plan).f call recs s = plansE G E call ms plan recs s
  | [], recs, s => rfl
  | (i, st) :: r, recs, s => by
    show (plGuard st.guard (dstO st.dst) (plBody G E ms i st (plO G E ms r)) (plO G E ms r)).f call recs s = _
    unfold plansE
    have ih := plO_eq call ms r
    cases hg : st.guard with
    | none =>
      simp only [plGuard, wantT, plBody_eq, ih]
      generalize plansE G E call ms r = K
      rfl
    | some p =>
      obtain ⟨t, b⟩ := p
      simp only [plGuard, wantT, evTmp_eq, agetP_eq s.T t t (Nat.le_refl _), bindO_eq, doneO_eq]
      cases aget s.T t with
      | none => rfl
      | some v =>
        cases v with
        | bool c =>
          simp only [plBody_eq, ih]
          generalize plansE G E call ms r = K
          cases c == b with
          | true => rfl
          | false => simp only [cond_false, doneSt_eq]
        | tuple _ => simp only [ih, doneSt_eq]
        | _ => rfl
noncomputable def plTop (p : Pl) : Cts := ⟨fun call s => p.f call [] s⟩
noncomputable def planFn (ms : List Nat) (plan : List (Nat × Step)) : Cts := plTop (plO G E ms plan)
noncomputable def regDraw (N : Nat) (ops : Array Oper) : Cts :=
  match ops.toList.mapM (stepOf P ops) with
  | none => ⟨fun _ _ => none⟩
  | some steps => match planB P N ops steps (planOrder steps (masks ops.toList [])) with
    | some plan => planFn G E (masks ops.toList []) plan
    | none => ⟨fun _ _ => none⟩
noncomputable def regO (N : Nat) (ops : Array Oper) (draw : Bool) : Cts := iteB draw (regDraw P G E N ops) (regFix P G E N ops)
theorem regO_eq (call : CallE) (N : Nat) (ops : Array Oper) (draw : Bool) (s : St) : (regO P G E N ops draw).f call s = regionE P G E call N ops draw s := by
  unfold regO regionE
  cases draw with
  | false =>
    show (regFix P G E N ops).f call s = _
    unfold regFix
    cases ops.toList.mapM (stepOf P ops) with
    | none => rfl
    | some steps =>
      simp only [iteB_eq]
      cases dstsB N steps with
      | false => rfl
      | true => exact ctsO_eq G E call steps s
  | true =>
    show (regDraw P G E N ops).f call s = _
    unfold regDraw
    cases ops.toList.mapM (stepOf P ops) with
    | none => rfl
    | some steps =>
      simp only []
      cases planB P N ops steps (planOrder steps (masks ops.toList [])) with
      | none => rfl
      | some plan => exact plO_eq G E call _ plan [] s
noncomputable def onNormal (r : EX × St) (k : St → Option (EX × St)) : Option (EX × St) :=
  EX.rec (motive := fun _ => Option (EX × St)) (k r.2) (fun i => some (.exit i, r.2)) (some (.ret, r.2)) r.1
theorem onNormal_eq (r : EX × St) (k : St → Option (EX × St)) : onNormal r k = match r with | (.normal, s) => k s | r => some r := by
  obtain ⟨e, s⟩ := r
  cases e <;> rfl
noncomputable def fnSeq (a b : Fn1) : Fn1 := ⟨fun call s => bindO (a.f call s) fun r => onNormal r fun s => b.f call s⟩
noncomputable def fnRegion (c : Cts) : Fn1 := ⟨fun call s => bindO (c.f call s) fun s => some (.normal, s)⟩
noncomputable def asBool (v : Value) (x y : Option (EX × St)) : Option (EX × St) := match v with
  | .bool b => iteB b x y
  | _ => none
noncomputable def fnCond (x : Ev1) (a b : Fn1) : Fn1 := ⟨fun call s => bindO (x.f s.T) fun v => asBool v (a.f call s) (b.f call s)⟩
noncomputable def unBlock (id : Nat) (r : EX × St) : Option (EX × St) :=
  EX.rec (motive := fun _ => Option (EX × St)) (some (.normal, r.2)) (fun i => iteB (Nat.beq i id) (some (.normal, r.2)) (some (.exit i, r.2))) (some (.ret, r.2)) r.1
noncomputable def fnBlock (id : Nat) (a : Fn1) : Fn1 := ⟨fun call s => bindO (a.f call s) fun r => unBlock id r⟩
noncomputable def iterO (f : St → Option (EX × St)) (k : Nat) : St → Option (EX × St) :=
  Nat.rec (motive := fun _ => St → Option (EX × St)) (fun _ => none) (fun _ ih s => bindO (f s) fun r => onNormal r ih) k
noncomputable def fnLoop (lim : Nat) (a : Fn1) : Fn1 := ⟨fun call s => iterO (fun s => a.f call s) lim s⟩
def fnPure (e : EX) : Fn1 := ⟨fun _ s => some (e, s)⟩
noncomputable def codeO (N lim : Nat) : Code → Fn1
  | .skip => fnPure .normal
  | .region _ ops draw => fnRegion (regO P G E N ops draw)
  | .seq a b => fnSeq (codeO N lim a) (codeO N lim b)
  | .cond c a b => fnCond (evO G c) (codeO N lim a) (codeO N lim b)
  | .block id c => fnBlock id (codeO N lim c)
  | .loop c => fnLoop lim (codeO N lim c)
  | .exit id => fnPure (.exit id)
  | .ret => fnPure .ret
  | .scope c => codeO N lim c
  | .label _ => fnPure .normal
  | _ => ⟨fun _ _ => none⟩
theorem iterO_eq (f g : St → Option (EX × St)) (h : ∀ s, f s = g s) : ∀ (k : Nat) (s : St), iterO f k s = iterE g k s
  | 0, s => rfl
  | k + 1, s => by
    show bindO (f s) (fun r => onNormal r (iterO f k)) = _
    simp only [iterE, bindO_eq, h, onNormal_eq]
    cases g s with
    | none => rfl
    | some r =>
      obtain ⟨e, s⟩ := r
      cases e with
      | normal => exact iterO_eq f g h k s
      | _ => rfl
theorem codeO_eq (call : CallE) (N lim : Nat) : ∀ (c : Code) (s : St), (codeO P G E N lim c).f call s = execC P G E call N lim c s := by
  intro c
  induction c with
  | skip => intro s; rfl
  | region id ops draw =>
    intro s
    simp only [codeO, fnRegion, execC, bindO_eq, regO_eq]
    cases regionE P G E call N ops draw s <;> rfl
  | seq a b iha ihb =>
    intro s
    simp only [codeO, fnSeq, execC, bindO_eq, iha, ihb, onNormal_eq]
    cases execC P G E call N lim a s with
    | none => rfl
    | some r => obtain ⟨e, s⟩ := r; cases e <;> rfl
  | cond c a b iha ihb =>
    intro s
    simp only [codeO, fnCond, execC, bindO_eq, iha, ihb, evO_eq]
    cases ev G s.T c with
    | none => rfl
    | some v => cases v with
      | bool b => cases b <;> rfl
      | _ => rfl
  | block id c ih =>
    intro s
    simp only [codeO, fnBlock, execC, bindO_eq, ih]
    cases execC P G E call N lim c s with
    | none => rfl
    | some r =>
      obtain ⟨e, s⟩ := r
      cases e with
      | exit i =>
        show iteB (Nat.beq i id) _ _ = _
        rw [iteB_eq]
      | _ => rfl
  | loop c ih =>
    intro s
    simp only [codeO, fnLoop, execC]
    exact iterO_eq _ _ ih lim s
  | scope c ih => intro s; simp only [codeO, execC]; exact ih s
  | _ => intro s; rfl
noncomputable def initO (ds : List Dst) (vs : List Value) : AL Value :=
  List.rec (motive := fun _ => List Dst → AL Value) (fun _ => .nil) (fun v _ ih ds => List.rec (motive := fun _ => AL Value) .nil (fun d r _ => d.f v (ih r)) ds) vs ds
noncomputable def iniD (k j : Nat) : List Dst := Nat.rec (motive := fun _ => Nat → List Dst) (fun _ => []) (fun _ ih j => dstO (some j) :: ih (j + 1)) k j
theorem initO_eq : ∀ (vs : List Value) (k j : Nat), vs.length ≤ k → initO (iniD k j) vs = initT vs j
  | [], k, j, _ => rfl
  | v :: vs, 0, j, h => by simp at h
  | v :: vs, k + 1, j, h => by
    show (dstO (some j)).f v (initO (iniD k (j + 1)) vs) = _
    rw [initO_eq vs k (j + 1) (by simp at h; omega), dstO_eq]; rfl
structure Inis where
  l : List Dst
noncomputable def endO (rvs : List RV) (callD : CallE) (r : EX × St) : Option (Value × Heap × Nat) :=
  match r with
  | (.exit _, _) => none
  | (_, s) => defsE callD rvs s.T s.D s.H s.n
noncomputable def bodyFn (ntmps : Nat) (ds : Inis) (rvs : List RV) (c : Fn1) : Fb :=
  ⟨fun call callD args H n => iteB (Nat.ble args.length ntmps) (bindO (c.f call { T := initO ds.l args, D := [], H, n }) fun r => endO rvs callD r) none⟩
noncomputable def bodyO (lim : Nat) (f : FuncId) : Fb :=
  match P.funcs[f]? with
  | some fn => match fn.body with
    | some c => iteB (fn.name == "runtime.NumGoroutine") ⟨fun _ _ _ _ _ => none⟩
        (match fn.results.toList.mapM (rvOf P) with
          | some rvs => bodyFn fn.ntmps ⟨iniD fn.ntmps 0⟩ rvs (codeO P G E fn.ntmps lim c)
          | none => ⟨fun _ _ _ _ _ => none⟩)
    | none => ⟨fun _ _ _ _ _ => none⟩
  | none => ⟨fun _ _ _ _ _ => none⟩
theorem bodyO_eq (lim : Nat) (f : FuncId) (call callD : CallE) (args : List Value) (H : Heap) (n : Nat) : (bodyO P G E lim f).f call callD args H n = bodyE P G E call callD lim f args H n := by
  unfold bodyO bodyE
  cases P.funcs[f]? with
  | none => rfl
  | some fn =>
    simp only []
    cases fn.body with
    | none => rfl
    | some c =>
      simp only [iteB_eq]
      cases fn.name == "runtime.NumGoroutine" with
      | true => rfl
      | false =>
        simp only [cond_false]
        cases fn.results.toList.mapM (rvOf P) with
        | none => simp only []; cases Nat.ble args.length fn.ntmps <;> rfl
        | some rvs =>
          simp only [bodyFn, iteB_eq, bindO_eq, codeO_eq]
          cases hb : Nat.ble args.length fn.ntmps with
          | false => rfl
          | true =>
            rw [initO_eq args fn.ntmps 0 (Nat.le_of_ble_eq_true hb)]
            simp only [cond_true]
            have hi : ({ T := initT args 0, D := [], H := H, n := n } : St) = St.init args H n := rfl
            rw [hi]
            cases execC P G E call fn.ntmps lim c (St.init args H n) with
            | none => rfl
            | some r => obtain ⟨e, s⟩ := r; cases e <;> rfl
structure Nt where
  f : Option (List Value → Heap → Nat → Option (Value × Heap × Nat))
noncomputable def callO (lim : Nat) (nat : Nats) (k : Nat) : CallE :=
  Nat.rec (motive := fun _ => CallE) (fun _ _ _ _ => none)
    (fun _ ih f args H n => Option.rec (motive := fun _ => Option (Value × Heap × Nat))
      ((bodyO P G E lim f).f ih (fun f args H n => Option.rec (motive := fun _ => Option (Value × Heap × Nat)) ((bodyO P G E lim f).f ih (fun _ _ _ _ => none) args H n) (fun _ => none) (nat f)) args H n)
      (fun g => g args H n) (nat f)) k
theorem callO_eq (lim : Nat) (nat : Nats) : ∀ (k : Nat) (f : FuncId) (args : List Value) (H : Heap) (n : Nat), callO P G E lim nat k f args H n = evG P G E lim nat k f args H n
  | 0, f, args, H, n => rfl
  | k + 1, f, args, H, n => by
    have ih : callO P G E lim nat k = evG P G E lim nat k := by funext f args H n; exact callO_eq lim nat k f args H n
    show Option.rec (motive := fun _ => Option (Value × Heap × Nat)) ((bodyO P G E lim f).f (callO P G E lim nat k) (fun f args H n => Option.rec (motive := fun _ => Option (Value × Heap × Nat)) ((bodyO P G E lim f).f (callO P G E lim nat k) (fun _ _ _ _ => none) args H n) (fun _ => none) (nat f)) args H n)
      (fun g => g args H n) (nat f) = _
    simp only [evG]
    cases nat f with
    | some g => rfl
    | none =>
      simp only [bodyO_eq, ih]
      congr 1
      funext f args H n
      cases nat f <;> rfl
noncomputable def natsO (lim : Nat) (ids : Ids) (k : Nat) : Nats := fun f =>
  iteB (Nat.beq f ids.clash) (some (nClash ids.boxT fun args H n => callO P G E lim (nats0 ids) k ids.counts args H n)) (iteB (Nat.beq f ids.push) (some nPush) (nats0 ids f))
end
end Go.Cs
namespace Go.Cs
def nClosed (gl : AObj) : List Value → Heap → Nat → Option (Value × Heap × Nat)
  | [], H, n => match aget H 0 with
    | some o => bif eqO o gl then some (.bool true, H, n) else none
    | none => none
  | _, _, _ => none
section
variable (P : Program) (G : List Nat) (E : Env) (lim : Nat) (ids : Ids) (gl : AObj) (known : List FuncId)
noncomputable def natsK (k : Nat) : Nats := fun f => iteB (known.any fun g => Nat.beq f g) (some (nClosed gl)) (natsO P G E lim ids k f)
noncomputable def runK (k : Nat) : CallE := callO P G E lim (natsK P G E lim ids gl known 12) k
end
def okK (gl : AObj) (r : Option (Value × Heap × Nat)) : Bool := match r with
  | some (.bool true, H, _) => match aget H 0 with
    | some o => eqO o gl
    | none => false
  | _ => false
end Go.Cs
