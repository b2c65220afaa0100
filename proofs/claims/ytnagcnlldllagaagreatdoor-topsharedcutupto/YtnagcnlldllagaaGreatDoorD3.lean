/- A part of the proof that spadilletop.TopSharedCut answers true and leaves its argument as it was (bulk at most 1048576): D3. -/
import Derived.Test.YtnagcnlldllagaaGreatDoorD2
import Derived.Test.YtnagcnlldllagaaGreatDoorCsM
import Derived.Test.YtnagcnlldllagaaGreatDoorCards
import Derived.Test.YtnagcnlldllagaaGreatDoorTie
import Derived.WalkKit
import Derived.ProofKit
import Derived.OpenShut
import Derived.Deep.DeepHandedRow
import Derived.Deep.Slices
import Derived.Deep.Strs
import Derived.Lib.SmallJoins
import Derived.Lib.LaidTab
set_option linter.all false
/- The law's argument, as the row gives it. -/
set_option maxRecDepth 1000000
set_option maxHeartbeats 4000000
open Go Go.Cs Go.ChangeShapes Go.WideShapes Go.ChangeAt Go.RowKit Go.Deep Go.Joins
namespace Go.Proofs.YtnagcnlldllagaaGreatDoor
theorem cells26 : Tryz.prog.cellsOf 26 = 6 := by kernel_rfl
theorem cells23 : Tryz.prog.cellsOf 23 = 4 := by kernel_rfl
theorem cells24 : Tryz.prog.cellsOf 24 = 1 := by kernel_rfl
theorem cells3 : Tryz.prog.cellsOf 3 = 1 := by kernel_rfl
theorem cells4 : Tryz.prog.cellsOf 4 = 1 := by kernel_rfl
theorem cells64 : Tryz.prog.cellsOf 64 = 3 := by kernel_rfl
theorem cells237 : Tryz.prog.cellsOf 237 = 20 := by kernel_rfl
theorem cells69 : Tryz.prog.cellsOf 69 = 1 := by kernel_rfl
theorem types26 : Tryz.prog.cellTypes Tryz.prog.depth 26 = some [3, 3, 3, 3, 24, 3] := by kernel_rfl
theorem kids : kidsOk Tryz.prog [26, 23, 24, 3, 4, 64] = true := by kernel_rfl
theorem fit1 : sameLayout Tryz.prog Tryz.prog.depth 237 64 = false := by kernel_rfl
theorem fit2 : sameLayout Tryz.prog Tryz.prog.depth 69 64 = false := by kernel_rfl
theorem row69 (d n off m : Nat) : rowAt Tryz.prog (sameLayout Tryz.prog Tryz.prog.depth · 64) d 69 n off m = false := by
  cases d with
  | zero => rfl
  | succ d =>
    unfold rowAt
    rw [cells69]
    simp [fit2, Tryz.underlying69]
theorem row237 (d n off m : Nat) : rowAt Tryz.prog (sameLayout Tryz.prog Tryz.prog.depth · 64) d 237 n off m = false := by
  cases d with
  | zero => rfl
  | succ d =>
    unfold rowAt
    rw [cells237]
    simp [fit1, Tryz.underlying237, row69]
/-- No row of cards lies in the table. -/
theorem lies0 (d n off m : Nat) : liesAt Tryz.prog d 237 n off 64 m = false := by
  cases d with
  | zero => rfl
  | succ d =>
    unfold liesAt
    simp [row237, Tryz.underlying64]

theorem len_bulk {H : Type} : ∀ (l : List (DataW H)), l.length ≤ Rows.uptoBulkAll l
  | [] => Nat.le_refl _
  | d :: l => by
    have h1 := len_bulk l
    have h2 : 1 ≤ Rows.uptoBulk d := by
      unfold Rows.uptoBulk
      split <;> omega
    simp only [List.length_cons, Rows.uptoBulkAll]
    omega

/-- The row of cards, as the memory holds it. -/
def CardsAt (W : World) (s : Value) (L : List Cd) : Prop := (s = .slice none 0 0 ∧ L = []) ∨ ∃ b off cap c t fr, s = .slice (some ⟨b, off, none⟩) L.length cap ∧ b ≠ 0 ∧ W.heap[b]? = some (.cells c t fr) ∧ ∀ (j : Nat) (x : Value), (cardsV L)[j]? = some x → c[off + j]? = some x ∧ ¬ (fr.1 ≤ off + j ∧ off + j < fr.2)

section
variable {H : Type} {enc : TypeId × Value → H} {W : World} {sp : Nat → Bool} {held : Bool}
theorem trodInt {n : Nat} {cs : List Value} {y : DataW H × List MemPlace} (h : DataW.trod enc Tryz.prog W 0 sp held n 3 cs = some y) : ∃ x, cs = [.int .i64 x] := by
  obtain ⟨x, h, _⟩ := DataW.trod_int Tryz.underlying3 h
  exact ⟨x, h⟩
theorem trodCard {n : Nat} {cs : List Value} {y : DataW H × List MemPlace} (h : DataW.trod enc Tryz.prog W 0 sp held n 64 cs = some y) : ∃ c : Cd, cs = cardV c := by
  obtain ⟨y0, y1, y2, m, _, hl, h0, h1, h2⟩ := trod_struct3 Tryz.underlying64 h
  rw [cells64] at hl
  simp only [cells3, cells4] at h0 h1 h2
  obtain ⟨a, ha⟩ := trodInt h0
  obtain ⟨b, hb⟩ := trodInt h1
  obtain ⟨t, ht, _⟩ := DataW.trod_bool Tryz.underlying4 h2
  match cs, hl with
  | [x0, x1, x2], _ =>
    simp at ha hb ht
    subst ha; subst hb; subst ht
    exact ⟨(a, b, t), rfl⟩
theorem trodCards {n : Nat} {s : Value} {y : DataW H × List MemPlace} (h : DataW.trod enc Tryz.prog W 0 sp held n 24 [s] = some y) (hz0 : ∃ cs, W.heap[0]? = some (.cells cs 237 (0, 0))) (hok : ∃ base, Cell.okWide Tryz.prog W .any base 24 s) (hfz : W.noneFrozen y.2) :
    ∃ L : List Cd, CardsAt W s L ∧ L.length ≤ Rows.uptoBulk y.1 := by
  rcases open_slice Tryz.underlying24 h with ⟨h0, rfl⟩ | ⟨a, len, cap, m, n', D, Pl, h0, hb, hl, hcap, hm', hy, hx⟩
  · cases h0
    exact ⟨[], .inl ⟨rfl, rfl⟩, Nat.zero_le _⟩
  · cases h0
    rw [cells64] at hx hy
    have hlm : len ≤ m := by rw [hm']; split <;> omega
    obtain ⟨base, hok⟩ := hok
    unfold Cell.okWide Cell.ok at hok
    rw [Tryz.underlying24] at hok
    simp only at hok
    obtain ⟨_, _, hspot, row, cells, hsh, hlies⟩ : len ≤ cap ∧ ((cap : Int) ≤ IntKind.i64.max ∧ (a.spot = none ∧ ∃ row cells, W.shape? a.block = some (row, cells) ∧ liesAt Tryz.prog Tryz.prog.depth row (cells / Tryz.prog.cellsOf row) a.off 64 cap = true)) := ⟨hok.1, hok.2.1, hok.2.2.2⟩
    obtain ⟨b, off, spot⟩ := a
    simp only at hspot
    subst hspot
    unfold World.shape? at hsh
    simp only at hsh
    split at hsh
    case h_2 => cases hsh
    rename_i c t fr hblk
    cases hsh
    obtain ⟨C, hC⟩ := choose_lt (α := Cd) (p := fun i c => W.cells? 0 ((⟨b, off, none⟩ : Addr).add (i * 3)) 3 = some (cardV c)) (n := m) (fun i hi => by
      obtain ⟨cs', h1, h2⟩ := hx i hi
      obtain ⟨c, rfl⟩ := trodCard h2
      exact ⟨c, h1⟩)
    refine ⟨(List.range len).map C, .inr ⟨b, off, cap, c, row, fr, by simp, ?_, hblk, ?_⟩, ?_⟩
    · rintro rfl
      obtain ⟨cs0, h00⟩ := hz0
      rw [h00] at hblk
      cases hblk
      rw [lies0] at hlies
      cases hlies
    · intro j x hj
      have hlt := (List.getElem?_eq_some_iff.1 hj).1
      rw [cards_length] at hlt
      simp only [List.length_map, List.length_range] at hlt
      have hk : j / 3 < len := by omega
      have hd : j % 3 < 3 := Nat.mod_lt _ (by decide)
      have hLk : ((List.range len).map C)[j / 3]? = some (C (j / 3)) := by
        rw [List.getElem?_map, List.getElem?_range hk]; rfl
      have e1 := cards_get hLk hd
      rw [show 0 + j / 3 * 3 + j % 3 = j by omega, hj] at e1
      obtain ⟨_, _, hcell⟩ := World.cells?_some (hC (j / 3) (by omega))
      have e2 := hcell (j % 3) hd
      have hadd : ((⟨b, off, none⟩ : Addr).add (j / 3 * 3)).add (j % 3) = ⟨b, off + j, none⟩ := by
        have : off + j / 3 * 3 + j % 3 = off + j := by omega
        unfold Addr.add
        split <;> split <;> simp_all <;> omega
      rw [hadd, ← e1] at e2
      refine ⟨?_, ?_⟩
      · unfold World.cell? at e2
        simp only [hblk] at e2
        simpa using e2
      · have hp : MemPlace.cell b (off + j) ∈ y.2 := by
          rw [hy]
          refine List.mem_append_left _ (MemPlace.mem_row.2 ⟨j, ?_, rfl⟩)
          omega
        have := hfz _ _ hp
        unfold World.frozen? at this
        simp only [hblk] at this
        intro hh
        simp [hh.1, hh.2] at this
    · rw [hy]
      simp only [Rows.uptoBulk, List.length_map, List.length_range]
      have := len_bulk ((List.range len).map D)
      simp only [List.length_map, List.length_range] at this
      omega
/-- The law's argument. -/
theorem argShape {v : Value} {d : DataW H} {p : List MemPlace} {base : Nat} (hval : Value.okWide Tryz.prog W .any base 26 v) (hd : DataW.Trod enc Tryz.prog W 0 sp held 26 v d p) (hz0 : ∃ cs, W.heap[0]? = some (.cells cs 237 (0, 0))) (hfz : W.noneFrozen p) :
    ∃ r c l w k s L, v = .agg (xsV r c l w k s).toArray ∧ CardsAt W s L ∧ L.length ≤ Rows.uptoBulk d := by
  unfold Value.okWide at hval
  rw [Tryz.underlying26] at hval
  obtain ⟨cs, rfl, hsz, ts, hts, _, hcell⟩ := hval
  rw [types26] at hts
  cases hts
  rw [cells26] at hsz
  obtain ⟨n, h⟩ := hd
  obtain ⟨y0, y1, y2, m, hx, hl, h0, h1, h2⟩ := trod_struct3 Tryz.underlying26 h
  simp only [cells23, cells24, cells3] at h0 h1 h2
  obtain ⟨l⟩ := cs
  match l, hsz with
  | [x0, x1, x2, x3, x4, x5], _ =>
    simp only [Value.cells] at h0 h1 h2
    obtain ⟨z0, z1, z2, z3, _, _, _, g0, g1, g2, g3⟩ := trod_struct4 Tryz.underlying23 h0
    simp only [cells3] at g0 g1 g2 g3
    obtain ⟨r, hr⟩ := trodInt g0
    obtain ⟨c, hc⟩ := trodInt g1
    obtain ⟨l, hl'⟩ := trodInt g2
    obtain ⟨w, hw⟩ := trodInt g3
    obtain ⟨k, hk⟩ := trodInt h2
    simp at hr hc hl' hw hk
    subst hr; subst hc; subst hl'; subst hw; subst hk
    simp only [Prod.mk.injEq] at hx
    obtain ⟨rfl, rfl⟩ := hx
    obtain ⟨L, hL, hb⟩ := trodCards (y := y1) (by simpa using h1) hz0 ⟨base, by
      obtain ⟨u, hu, hok⟩ := hcell 4 x4 rfl
      cases hu
      exact hok⟩ (fun b off hp => hfz b off (List.mem_append_right _ (List.mem_append_left _ hp)))
    refine ⟨r, c, l, w, k, x4, L, rfl, hL, ?_⟩
    simp only [Rows.uptoBulk, Rows.uptoBulkAll]
    omega
end
end Go.Proofs.YtnagcnlldllagaaGreatDoor
