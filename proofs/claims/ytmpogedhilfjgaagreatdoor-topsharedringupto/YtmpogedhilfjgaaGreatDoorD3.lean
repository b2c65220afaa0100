/- A part of the proof that the law spadilletop.TopSharedRing answers true and leaves its argument as it was (D3) -/
import Derived.Test.YtmpogedhilfjgaaGreatDoorD2
import Derived.Test.YtmpogedhilfjgaaGreatDoorK8
set_option linter.all false
set_option maxRecDepth 1000000
set_option maxHeartbeats 4000000
open Go Go.Cs
namespace Go.Proofs.YtmpogedhilfjgaaGreatDoor
theorem eA : compF Tryz.prog 4 = some (cApart 64 26 12 [.int .i64 0, .slice none 0 0, .int .i64 0, .int .i64 0, .slice none 0 0, .int .i64 0, .slice none 0 0, .slice none 0 0, .int .i64 0, .int .i64 0, .slice none 0 0, .int .i64 0] 49 50 51 52) := by kernel_rfl
theorem eG : compF Tryz.prog 49 = some (cGreat 64) := by kernel_rfl
theorem eL : compF Tryz.prog 50 = some (cLook 64) := by kernel_rfl
theorem eS : compF Tryz.prog 51 = some (cSame 64) := by kernel_rfl
theorem eK : compF Tryz.prog 52 = some (cAlike 51) := by kernel_rfl
def calls : List FuncId := [7, 9, 13, 17, 20, 22, 25, 27, 30, 32, 35, 39, 42, 45]
theorem callsOk (x0 : Int) (L1 : List Int) (x2 : Int) (x3 : Int) (L4 : List Int) (x5 : Int) (L6 : List Int) (L7 : List Int) (x8 : Int) (x9 : Int) (L10 : List Int) (x11 : Int) : ∀ fc ∈ calls, CallOk x0 L1 x2 x3 L4 x5 L6 L7 x8 x9 L10 x11 fc := by
 intro fc hfc
 simp only [calls, List.mem_cons, List.not_mem_nil, or_false] at hfc
 rcases hfc with rfl | rfl | rfl | rfl | rfl | rfl | rfl | rfl | rfl | rfl | rfl | rfl | rfl | rfl
 · exact call7
 · exact call9
 · exact call13
 · exact call17
 · exact call20
 · exact call22
 · exact call25
 · exact call27
 · exact call30
 · exact call32
 · exact call35
 · exact call39
 · exact call42
 · exact call45
theorem callsCells {H : Heap} {b : Nat} (h : aget H b = some (.cells (calls.map fun g => .func (.func g) #[] #[]) 34 none)) (k : Nat) (fc : FuncId) (hk : calls[k]? = some fc) : cellAt H b k = some (.func (.func fc) #[] #[]) := by
 rw [cell_cells h, List.getElem?_map, hk]; rfl
def c3 : FC := FC.mk 9 (.seq (.steps [⟨.box 26, [.tmp 0], some 1, none⟩,⟨.move, [.const (.bool false)], some 2, none⟩]) (.seq (.steps [⟨.loadN 12, [.tmp 1], some 3, none⟩,⟨.buildSlice 34 14 [.nilFunc, .nilFunc, .nilFunc, .nilFunc, .nilFunc, .nilFunc, .nilFunc, .nilFunc, .nilFunc, .nilFunc, .nilFunc, .nilFunc, .nilFunc, .nilFunc] [(0, 1), (1, 1), (2, 1), (3, 1), (4, 1), (5, 1), (6, 1), (7, 1), (8, 1), (9, 1), (10, 1), (11, 1), (12, 1), (13, 1)], [.func 7, .func 9, .func 13, .func 17, .func 20, .func 22, .func 25, .func 27, .func 30, .func 32, .func 35, .func 39, .func 42, .func 45], some 4, none⟩,⟨.callF 4, [.tmp 3, .func 5, .func 6, .tmp 4], some 5, none⟩,⟨.move, [.tmp 5], some 6, none⟩,⟨.callF 48, [], some 7, some (6, true)⟩,⟨.pick, [.tmp 6, .tmp 7, .const (.bool false)], some 8, none⟩,⟨.move, [.tmp 8], some 2, none⟩]) (.ret))) [.tmp 2]
theorem c3_ok : compF Tryz.prog 3 = some c3 := by kernel_rfl
theorem roomOk {n0 w : Nat} (hn : n0 ≤ 1048577) (hw : w ≤ 1048576) : n0 + 1 + 1 + 8 * w + 17 * (2 * CC + 600 * BB + 10000) < lim := by
 show _ + 17 * (2 * 100000000000000 + 600 * 7900000000 + 10000) < 999999999999999000
 omega
theorem hB8 : BB < 8000000000 := by simp [BB]
theorem hC16 : CC < 10000000000000000 := by simp [CC]
theorem law3 {l : Cs.Loc} {vs : List Value} {dv : Dv} {H : Heap} {n0 : Nat} (h0 : aget H 0 = some gl) (h : Rep (rdAt H) (fun q => q < n0) t26 l vs dv) (hw : dv.tell.length ≤ 1048576) (hfr : Fresh H n0) (hn0 : 0 < n0) (hn : n0 ≤ 1048577) :
 F Tryz.prog [0] 3 [.agg vs.toArray] H n0 (fun v H' n' => v = .bool true ∧ ∀ q, q < n0 → aget H' q = aget H q) := by
 have hlim := limv
 have hcc : CC = 100000000000000 := rfl
 refine F_of_comp c3_ok rfl ?_
 refine WC_go hE hm ?_
 refine xNew (ob := .cells vs 26 none) (mk := .ptr) hfr (by omega) rfl rfl rfl (boxAgg h.cell1) ?_
 intro H1 a1 a2 a3
 refine xP rfl rfl rfl rfl ?_
 refine RXn ?_
 refine WLv (lv1 1 rfl lv0) ?_
 refine WC_go hE hm ?_
 refine xR (v := .agg vs.toArray) rfl rfl rfl (loadBox (xs := vs) a1 (by rw [h.len]; rfl)) ?_
 refine xNew (ob := .cells (calls.map fun g => .func (.func g) #[] #[]) 34 none) (mk := .slice 14 14) a3 (by omega) rfl rfl rfl rfl ?_
 intro H2 b1 b2 b3
 have o2 : ∀ q, q < n0 → aget H2 q = aget H q := fun q hq => (b2 q (by omega)).trans (a2 q (by omega))
 have h2 : Rep (rdAt H2) (fun q => q < n0) t26 l vs dv := h.keepR fun q hq => o2 q hq
 obtain ⟨x0, s1, q1, j1, L1, x2, x3, s4, q4, j4, L4, x5, s6, q6, j6, L6, s7, q7, j7, L7, x8, x9, s10, q10, j10, L10, x11, rfl, he, g1, g4, g6, g7, g10⟩ := xInv h2 hw
 refine xC (f := 4) (args := [.agg (xsV x0 s1 x2 x3 s4 x5 s6 s7 x8 x9 s10 x11).toArray, .func (.func 5) #[] #[], .func (.func 6) #[] #[], .slice (some ⟨n0 + 1, 0, none⟩) calls.length calls.length]) rfl rfl rfl rfl
  (apart_ok (t := 3) hE hm (B := BB) (C := CC) (w0 := dv.tell) (Arg := ArgX x0 L1 x2 x3 L4 x5 L6 L7 x8 x9 L10 x11) eA eG eL eS eK (n0 := n0 + 1 + 1) (bc := n0 + 1) (fcs := calls) (fown := 5) (fsee := 6) rfl rfl
   (fun H3 b hk hb hbx => ?_) (fun H3 n hk hn3 hf3 hr3 hw3 => ?_) (fun fc hfc H3 n b ha hg hb hf3 hr3 => ?_) (by omega) (callsCells b1) (by omega) b3 (by decide) hB8 hC16 (roomOk hn hw) (by omega)) ?_
 · exact seeBox sT6 ((h2.keepR fun q hq => hk q (by omega)).weak fun q hq => .inr (by omega)) (.inl rfl) hbx
 · refine (own5 (g1.keep fun q hq => hk q (by omega)) (g4.keep fun q hq => hk q (by omega)) (g6.keep fun q hq => hk q (by omega)) (g7.keep fun q hq => hk q (by omega)) (g10.keep fun q hq => hk q (by omega)) (by omega) hf3 (by omega)).mono ?_
   rintro v H4 n4 ⟨F4, i1, i4, i6, i7, i10, rfl, r1, r4, r6, r7, r10⟩
   have hle := F4.le
   have hrm := F4.room
   have hlen : L1.length ≤ 200 ∧ L4.length ≤ 200 ∧ L6.length ≤ 200 ∧ L7.length ≤ 200 ∧ L10.length ≤ 200 := by
    rw [he] at hw3
    simp only [xD, Dv.tell, List.length_append, row_ints_len, List.length_cons, List.length_nil] at hw3
    omega
   refine ⟨ysV x0 i1 L1 x2 x3 i4 L4 x5 i6 L6 i7 L7 x8 x9 i10 L10 x11, rfl, rfl, (by simp only [ysV, List.all_cons, List.all_nil, gsl_cell1]; rfl), F4.keep, F4.fresh, F4.le, by omega, fun H5 b hk5 hb5 hbx => ⟨⟨hlen, i1, i4, i6, i7, i10, hbx, (fun hne => ⟨(hk5 _ (r1 hne).2.2).trans (r1 hne).1, by have := (r1 hne).2.2; omega⟩), (fun hne => ⟨(hk5 _ (r4 hne).2.2).trans (r4 hne).1, by have := (r4 hne).2.2; omega⟩), (fun hne => ⟨(hk5 _ (r6 hne).2.2).trans (r6 hne).1, by have := (r6 hne).2.2; omega⟩), (fun hne => ⟨(hk5 _ (r7 hne).2.2).trans (r7 hne).1, by have := (r7 hne).2.2; omega⟩), (fun hne => ⟨(hk5 _ (r10 hne).2.2).trans (r10 hne).1, by have := (r10 hne).2.2; omega⟩)⟩, ?_⟩⟩
   obtain ⟨l5, h5⟩ := xRep (rd := cellAt H5) (S := fun q => q = b ∨ (n ≤ q ∧ q < n4)) (x0 := x0) (x2 := x2) (x3 := x3) (x5 := x5) (x8 := x8) (x9 := x9) (x11 := x11) (gslRow (i := i1) (t := 3) (gr := some 1) (by omega) fun hne => ⟨(hk5 _ (r1 hne).2.2).trans (r1 hne).1, .inr (r1 hne).2⟩) (gslRow (i := i4) (t := 3) (gr := some 1) (by omega) fun hne => ⟨(hk5 _ (r4 hne).2.2).trans (r4 hne).1, .inr (r4 hne).2⟩) (gslRow (i := i6) (t := 3) (gr := some 1) (by omega) fun hne => ⟨(hk5 _ (r6 hne).2.2).trans (r6 hne).1, .inr (r6 hne).2⟩) (gslRow (i := i7) (t := 3) (gr := some 1) (by omega) fun hne => ⟨(hk5 _ (r7 hne).2.2).trans (r7 hne).1, .inr (r7 hne).2⟩) (gslRow (i := i10) (t := 3) (gr := some 1) (by omega) fun hne => ⟨(hk5 _ (r10 hne).2.2).trans (r10 hne).1, .inr (r10 hne).2⟩)
   have := seeBoxW sT6 h5 (.inl rfl) hbx
   rw [he]; exact this
 · exact callsOk x0 L1 x2 x3 L4 x5 L6 L7 x8 x9 L10 x11 fc hfc H3 n b ha (hg.trans ((o2 0 hn0).trans h0)) hb hf3 hr3
 · rintro _ H3 n3 ⟨rfl, hk3⟩
   refine xP rfl rfl rfl rfl ?_
   refine xC (f := 48) (args := []) rfl rfl rfl rfl (bookOk ((hk3 0 (by omega)).trans ((o2 0 hn0).trans h0))) ?_
   rintro _ H4 n4 ⟨rfl, rfl, rfl⟩
   refine xP rfl rfl rfl rfl ?_
   refine xP rfl rfl rfl rfl ?_
   refine RXn ?_
   refine WLv (lv1 2 rfl lv0) ?_
   refine WC_ret ?_
   refine endR rfl ?_
   exact ⟨rfl, fun q hq => (hk3 q (by omega)).trans (o2 q hq)⟩
end Go.Proofs.YtmpogedhilfjgaaGreatDoor
