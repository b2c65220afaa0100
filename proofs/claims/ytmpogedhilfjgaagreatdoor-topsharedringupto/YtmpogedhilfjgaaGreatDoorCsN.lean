/- A part of the proof that the law spadilletop.TopSharedRing answers true and leaves its argument as it was (CsN) -/
import Derived.Test.YtmpogedhilfjgaaGreatDoorCsM
import Derived.WalkKit
import Derived.ProofKit
import Derived.OpenShut
import Derived.Deep.Slices
import Derived.Deep.Strs
import Derived.Lib.SmallJoins
set_option linter.all false
set_option maxRecDepth 1000000
set_option maxHeartbeats 1000000
namespace Go.Cs
inductive Ty where
  | int
  | bool
  | unit
  | pair (a b : Ty)
  | slice (e : Ty)
def Ty.size : Ty → Nat
  | .int => 1
  | .bool => 1
  | .unit => 0
  | .pair a b => a.size + b.size
  | .slice _ => 1
inductive Dv where
  | int (x : Int)
  | bool (b : Bool)
  | unit
  | pair (a b : Dv)
  | slice (m : Nat) (f : Nat → Dv)
def Dv.tell : Dv → List Int
  | .int x => [x]
  | .bool b => [if b then 1 else 0]
  | .unit => []
  | .pair a b => a.tell ++ b.tell
  | .slice m f => (m : Int) :: valsN (fun k => (f k).tell) m
inductive Loc where
  | int
  | bool
  | unit
  | pair (w : Nat) (a b : Loc)
  | slice (s : Value) (q j m es : Nat) (f : Nat → Loc)
def Loc.its : Loc → Nat → Nat → List Item
  | .int, q, j => [.int q j]
  | .bool, q, j => [.bool q j]
  | .unit, _, _ => []
  | .pair w a b, q, j => a.its q j ++ b.its q (j + w)
  | .slice _ q' j' m es f, _, _ => .len m :: itemsN (fun k => (f k).its q' (j' + k * es)) m
def hdrsN (f : Nat → List (Nat × Nat × Value)) : Nat → List (Nat × Nat × Value)
  | 0 => []
  | k + 1 => hdrsN f k ++ f k
theorem mem_hdrsN {f : Nat → List (Nat × Nat × Value)} {x : Nat × Nat × Value} : ∀ {m : Nat}, x ∈ hdrsN f m → ∃ k, k < m ∧ x ∈ f k
  | 0, h => by cases h
  | m + 1, h => by
    rcases List.mem_append.1 h with h | h
    · obtain ⟨k, h1, h2⟩ := mem_hdrsN h
      exact ⟨k, by omega, h2⟩
    · exact ⟨m, by omega, h⟩
theorem hdrsN_mem {f : Nat → List (Nat × Nat × Value)} {x : Nat × Nat × Value} {k : Nat} (hx : x ∈ f k) : ∀ {m : Nat}, k < m → x ∈ hdrsN f m
  | 0, h => by omega
  | m + 1, h => by
    rcases Nat.lt_or_ge k m with h1 | h1
    · exact List.mem_append_left _ (hdrsN_mem hx h1)
    · obtain rfl : k = m := by omega
      exact List.mem_append_right _ hx
def Loc.hdr : Loc → Nat → Nat → List (Nat × Nat × Value)
  | .int, _, _ => []
  | .bool, _, _ => []
  | .unit, _, _ => []
  | .pair w a b, q, j => a.hdr q j ++ b.hdr q (j + w)
  | .slice s q' j' m es f, q, j => (q, j, s) :: hdrsN (fun k => (f k).hdr q' (j' + k * es)) m
inductive Rep (rd : Nat → Nat → Option Value) (S : Nat → Prop) : Ty → Loc → List Value → Dv → Prop
  | int (x : Int) : Rep rd S .int .int [.int .i64 x] (.int x)
  | bool (b : Bool) : Rep rd S .bool .bool [.bool b] (.bool b)
  | unit : Rep rd S .unit .unit [] .unit
  | pair {a b : Ty} {la lb : Loc} {xs ys : List Value} {x y : Dv} : Rep rd S a la xs x → Rep rd S b lb ys y → Rep rd S (.pair a b) (.pair a.size la lb) (xs ++ ys) (.pair x y)
  | slice {e : Ty} {s : Value} {q j m : Nat} {lf : Nat → Loc} {f : Nat → Dv} (cs : Nat → List Value) : SliceAt s q j m → m < 8589934592 → (m ≠ 0 → S q) → (∀ k, k < m → ∀ d, d < e.size → rd q (j + k * e.size + d) = (cs k)[d]?) →
      (∀ k, k < m → Rep rd S e (lf k) (cs k) (f k)) → Rep rd S (.slice e) (.slice s q j m e.size lf) [s] (.slice m f)
theorem SliceAt.hdr {s : Value} {q j m : Nat} (h : SliceAt s q j m) : isHdr s = true ∧ s.cells.toList = [s] ∧ cell1 s = true := by cases h <;> exact ⟨rfl, rfl, rfl⟩
theorem Rep.len {rd : Nat → Nat → Option Value} {S : Nat → Prop} {ty : Ty} {l : Loc} {vs : List Value} {dv : Dv} (h : Rep rd S ty l vs dv) : vs.length = ty.size := by
  induction h with
  | int x => rfl
  | bool b => rfl
  | unit => rfl
  | pair _ _ ih1 ih2 => simp only [List.length_append, Ty.size, ih1, ih2]
  | slice cs h1 h2 h3 h4 h5 ih => rfl
theorem Rep.mono {rd rd' : Nat → Nat → Option Value} {S S' : Nat → Prop} (hS : ∀ q, S q → S' q) (hk : ∀ q j v, S q → rd q j = some v → rd' q j = some v) {ty : Ty} {l : Loc} {vs : List Value} {dv : Dv} (h : Rep rd S ty l vs dv) : Rep rd' S' ty l vs dv := by
  induction h with
  | int x => exact .int x
  | bool b => exact .bool b
  | unit => exact .unit
  | pair _ _ ih1 ih2 => exact .pair ih1 ih2
  | slice cs h1 h2 h3 h4 h5 ih =>
    refine .slice cs h1 h2 (fun h => hS _ (h3 h)) (fun k hk' d hd => ?_) ih
    have hl := (h5 k hk').len
    have e : (cs k)[d]? = some ((cs k)[d]'(by omega)) := List.getElem?_eq_getElem (by omega)
    rw [e]
    exact hk _ _ _ (h3 (by omega)) ((h4 k hk' d hd).trans e)
theorem Rep.keep {H H' : Heap} {S : Nat → Prop} (hk : ∀ q, S q → aget H' q = aget H q) {ty : Ty} {l : Loc} {vs : List Value} {dv : Dv} (h : Rep (cellAt H) S ty l vs dv) : Rep (cellAt H') S ty l vs dv :=
  h.mono (fun _ h => h) fun q j v hq e => (cellAt_congr (hk q hq) j).trans e
theorem Rep.keepR {H H' : Heap} {S : Nat → Prop} (hk : ∀ q, S q → aget H' q = aget H q) {ty : Ty} {l : Loc} {vs : List Value} {dv : Dv} (h : Rep (rdAt H) S ty l vs dv) : Rep (rdAt H') S ty l vs dv :=
  h.mono (fun _ h => h) fun q j v hq e => (rdAt_congr (hk q hq) j).trans e
theorem Rep.read {H : Heap} {S : Nat → Prop} {ty : Ty} {l : Loc} {vs : List Value} {dv : Dv} (h : Rep (cellAt H) S ty l vs dv) : Rep (rdAt H) S ty l vs dv :=
  h.mono (fun _ h => h) fun q j v hq e => rd_of_cell e
theorem Rep.weak {rd : Nat → Nat → Option Value} {S S' : Nat → Prop} {ty : Ty} {l : Loc} {vs : List Value} {dv : Dv} (h : Rep rd S ty l vs dv) (hS : ∀ q, S q → S' q) : Rep rd S' ty l vs dv := h.mono hS fun _ _ _ _ e => e
theorem Rep.cell1 {rd : Nat → Nat → Option Value} {S : Nat → Prop} {ty : Ty} {l : Loc} {vs : List Value} {dv : Dv} (h : Rep rd S ty l vs dv) : vs.all cell1 = true := by
  induction h with
  | int x => rfl
  | bool b => rfl
  | unit => rfl
  | pair _ _ ih1 ih2 => rw [List.all_append, ih1, ih2]; rfl
  | slice cs h1 h2 h3 h4 h5 ih => simp [h1.hdr.2.2]
theorem SeenAt.join {H : Heap} {a b : List Item} {ha hb : List (Nat × Nat × Value)} {wa wb : List Int} {S : Nat → Prop} (h : SeenAt H a ha wa S) (k : SeenAt H b hb wb S) : SeenAt H (a ++ b) (ha ++ hb) (wa ++ wb) S :=
  ⟨h.tells.join k.tells, fun it hit q j hp => by
    rcases List.mem_append.1 hit with hit | hit
    · exact h.place it hit q j hp
    · exact k.place it hit q j hp, fun x hx => by
    rcases List.mem_append.1 hx with hx | hx
    · exact h.hdr x hx
    · exact k.hdr x hx⟩
theorem Rep.seen {H : Heap} {S : Nat → Prop} {ty : Ty} {l : Loc} {vs : List Value} {dv : Dv} (h : Rep (rdAt H) S ty l vs dv) : ∀ {q j : Nat}, (∀ d, d < ty.size → rdAt H q (j + d) = vs[d]?) → S q → SeenAt H (l.its q j) (l.hdr q j) dv.tell S := by
  induction h with
  | int x =>
    intro q j hc hq
    have h0 := hc 0 (by decide)
    rw [Nat.add_zero] at h0
    refine ⟨⟨?_, trivial⟩, fun it hit q' j' hp => ?_, fun x hx => by cases hx⟩
    · simp only [Item.tell, h0]; rfl
    · rw [List.mem_singleton.1 hit] at hp
      cases hp; exact hq
  | bool b =>
    intro q j hc hq
    have h0 := hc 0 (by decide)
    rw [Nat.add_zero] at h0
    refine ⟨⟨?_, trivial⟩, fun it hit q' j' hp => ?_, fun x hx => by cases hx⟩
    · simp only [Item.tell, h0]; rfl
    · rw [List.mem_singleton.1 hit] at hp
      cases hp; exact hq
  | unit =>
    intro q j hc hq
    exact ⟨trivial, (fun it hit => by cases hit), (fun x hx => by cases hx)⟩
  | @pair a b la lb xs ys x y h1 h2 ih1 ih2 =>
    intro q j hc hq
    have l1 := h1.len
    have l2 := h2.len
    refine (ih1 (fun d hd => ?_) hq).join (ih2 (fun d hd => ?_) hq)
    · rw [hc d (by simp only [Ty.size]; omega), List.getElem?_append_left (by omega)]
    · rw [Nat.add_assoc, hc (a.size + d) (by simp only [Ty.size]; omega), List.getElem?_append_right (by omega), l1, Nat.add_sub_cancel_left]
  | @slice e s q' j' m lf f cs h1 h2 h3 h4 h5 ih =>
    intro q j hc hq
    have h0 := hc 0 (show 0 < 1 by decide)
    rw [Nat.add_zero] at h0
    have each : ∀ k, k < m → SeenAt H ((lf k).its q' (j' + k * e.size)) ((lf k).hdr q' (j' + k * e.size)) (f k).tell S := fun k hk => ih k hk (h4 k hk) (h3 (by omega))
    refine ⟨⟨rfl, tellsItems fun k hk => (each k hk).tells⟩, fun it hit p i hp => ?_, fun x hx => ?_⟩
    · rcases List.mem_cons.1 hit with rfl | hit
      · cases hp
      · obtain ⟨k, hk, hit⟩ := mem_itemsN hit
        exact (each k hk).place it hit p i hp
    · rcases List.mem_cons.1 hx with rfl | hx
      · exact ⟨h0, hq, h1.hdr.1⟩
      · obtain ⟨k, hk, hx⟩ := mem_hdrsN hx
        exact (each k hk).hdr x hx
theorem Rep.wr {H : Heap} {S : Nat → Prop} {ty : Ty} {l : Loc} {vs : List Value} {dv : Dv} (h : Rep (cellAt H) S ty l vs dv) : ∀ {q j : Nat}, (∀ d, d < ty.size → cellAt H q (j + d) = vs[d]?) → WrAt H (l.its q j) := by
  induction h with
  | int x =>
    intro q j hc it hit q' j' hp
    have h0 := hc 0 (by decide)
    rw [List.mem_singleton.1 hit] at hp
    cases hp; exact ⟨_, h0⟩
  | bool b =>
    intro q j hc it hit q' j' hp
    have h0 := hc 0 (by decide)
    rw [List.mem_singleton.1 hit] at hp
    cases hp; exact ⟨_, h0⟩
  | unit => intro q j hc it hit; cases hit
  | @pair a b la lb xs ys x y h1 h2 ih1 ih2 =>
    intro q j hc it hit q' j' hp
    have l1 := h1.len
    have l2 := h2.len
    rcases List.mem_append.1 hit with hit | hit
    · refine ih1 (fun d hd => ?_) it hit q' j' hp
      rw [hc d (by simp only [Ty.size]; omega), List.getElem?_append_left (by omega)]
    · refine ih2 (fun d hd => ?_) it hit q' j' hp
      rw [Nat.add_assoc, hc (a.size + d) (by simp only [Ty.size]; omega), List.getElem?_append_right (by omega), l1, Nat.add_sub_cancel_left]
  | @slice e s q' j' m lf f cs h1 h2 h3 h4 h5 ih =>
    intro q j hc it hit p i hp
    rcases List.mem_cons.1 hit with rfl | hit
    · cases hp
    · obtain ⟨k, hk, hit⟩ := mem_itemsN hit
      exact ih k hk (h4 k hk) it hit p i hp
section
variable {P : Program} {G : List Nat} {E : Env}
def SeesTy (P : Program) (G : List Nat) (t : TypeId) (ty : Ty) (f : FuncId) : Prop := ∀ (rd : Nat → Nat → Option Value) (S : Nat → Prop) (l : Loc) (vs : List Value) (dv : Dv), Rep rd S ty l vs dv → ∀ (q j : Nat) (Hd : List (Nat × Nat × Value)),
  (∀ x ∈ Hd, isHdr x.2.2 = true) → (∀ x ∈ l.hdr q j, x ∈ Hd) → Sees P G t f [] [ptrAt q j] (l.its q j) Hd
theorem seesInt (hE : EnvOk P E) (hm : P.follows .mixedOrders = true) {t : TypeId} {f : FuncId} (hc : compF P f = some (cNum t)) : SeesTy P G t .int f := by
  intro rd S l vs dv h q j Hd hh hs
  cases h
  exact (num_ok hE hm hc q j).more noHdr
theorem seesRow (hE : EnvOk P E) (hm : P.follows .mixedOrders = true) {t : TypeId} {e : Ty} {f ev g : FuncId} (hf : compF P f = some (cRow ev g)) (hev : compF P ev = some (cEvery e.size t)) (hg : SeesTy P G t e g) : SeesTy P G t (.slice e) f := by
  intro rd S l vs dv h q j Hd hh hs
  cases h with
  | @slice _ s q' j' m lf f cs h1 h2 h3 h4 h5 =>
    exact row_ok hE hm hf (hs _ List.mem_cons_self) (every_ok hE hm hev h1 hh h2 fun k hk => hg _ _ _ _ _ (h5 k hk) _ _ Hd hh fun x hx => hs x (List.mem_cons_of_mem _ (hdrsN_mem (f := fun k => (lf k).hdr q' (j' + k * e.size)) hx hk)))
def SeesFs (P : Program) (G : List Nat) (t : TypeId) : Nat → Ty → List (Nat × FuncId) → Prop
  | _, .unit, [] => True
  | o, .pair a b, (o', f) :: l => o' = o ∧ SeesTy P G t a f ∧ SeesFs P G t (o + a.size) b l
  | _, _, _ => False
theorem seesFs_items {t : TypeId} {rd : Nat → Nat → Option Value} {S : Nat → Prop} {q j : Nat} {Hd : List (Nat × Nat × Value)} (hh : ∀ x ∈ Hd, isHdr x.2.2 = true) : ∀ (fs : List (Nat × FuncId)) (o : Nat) (ty : Ty) (l : Loc) (vs : List Value) (dv : Dv), SeesFs P G t o ty fs → Rep rd S ty l vs dv → (∀ x ∈ l.hdr q (j + o), x ∈ Hd) →
    ∃ L : List (Nat × FuncId × List Item), (L.map fun x => (x.1, x.2.1)) = fs ∧ (L.flatMap fun x => x.2.2) = l.its q (j + o) ∧ ∀ x ∈ L, Sees P G t x.2.1 [] [ptrAt q (j + x.1)] x.2.2 Hd
  | [], o, ty, l, vs, dv, h, hr, hs => by
    cases hr with
    | unit => exact ⟨[], rfl, rfl, fun x hx => by cases hx⟩
    | int => exact h.elim
    | bool => exact h.elim
    | pair => exact h.elim
    | slice => exact h.elim
  | (o', f) :: fs, o, ty, l, vs, dv, h, hr, hs => by
    cases hr with
    | unit => exact h.elim
    | int => exact h.elim
    | bool => exact h.elim
    | slice => exact h.elim
    | @pair a b la lb xs ys x y h1 h2 =>
      obtain ⟨rfl, ha, hb⟩ := h
      obtain ⟨L, e1, e2, e3⟩ := seesFs_items hh fs _ b lb ys y hb h2 (fun x hx => hs x (List.mem_append_right _ (by rw [Nat.add_assoc]; exact hx)))
      refine ⟨(o', f, la.its q (j + o')) :: L, by simp [e1], ?_, fun x hx => ?_⟩
      · simp only [List.flatMap_cons, e2, Loc.its, Nat.add_assoc]
      · rcases List.mem_cons.1 hx with rfl | hx
        · exact ha _ _ _ _ _ h1 _ _ Hd hh fun x hx => hs x (List.mem_append_left _ hx)
        · exact e3 x hx
theorem seesStruct (hE : EnvOk P E) (hm : P.follows .mixedOrders = true) {t : TypeId} {ty : Ty} {f : FuncId} {fs : List (Nat × FuncId)} (hc : compF P f = some (cStruct fs)) (h : SeesFs P G t 0 ty fs) : SeesTy P G t ty f := by
  intro rd S l vs dv hr q j Hd hh hs
  obtain ⟨L, e1, e2, e3⟩ := seesFs_items (q := q) (j := j) hh fs 0 ty l vs dv h hr hs
  have := struct_ok hE hm (t := t) (f := f) L (by rw [e1]; exact hc) (q := q) (j := j) hh e3
  rw [e2] at this
  exact this
theorem resTy (hE : EnvOk P E) (hm : P.follows .mixedOrders = true) {t : TypeId} {ty : Ty} {f f1 : FuncId} (hf : compF P f = some (cClo f1)) (hf1 : SeesTy P G t ty f1) {B : Nat} {H : Heap} {S : Nat → Prop} {lo hi bx : Nat} {l : Loc} {vs : List Value} {dv : Dv} (h : Rep (cellAt H) S ty l vs dv) (hS : ∀ q, S q → lo ≤ q ∧ q < hi)
    (hbx : ∀ d, d < ty.size → cellAt H bx (0 + d) = vs[d]?) (hb : lo ≤ bx ∧ bx < hi) (hw : dv.tell.length ≤ B) : ResOk P G t B H lo hi ⟨f, [], [ptrAt bx 0], l.its bx 0, l.hdr bx 0⟩ dv.tell := by
  have hx : Rep (cellAt H) (fun q => lo ≤ q ∧ q < hi) ty l vs dv := h.weak hS
  have hl := h.len
  have hrd : ∀ d, d < ty.size → rdAt H bx (0 + d) = vs[d]? := fun d hd => by
    have e : vs[d]? = some (vs[d]'(by omega)) := List.getElem?_eq_getElem (by omega)
    rw [e]; exact rd_of_cell ((hbx d hd).trans e)
  have hs := hx.read.seen hrd hb
  have hlen := hs.tells.length
  exact ⟨clo_ok hE hm hf (hf1 _ _ _ _ _ h bx 0 _ (fun x hx => (hs.hdr x hx).2.2) fun x hx => hx), by show (l.its bx 0).length ≤ B; omega, hx.wr hbx, hs⟩
end
def Dv.row {α : Type} (L : List α) (g : α → Dv) : Dv := .slice L.length fun k => (L[k]?).elim .unit g
theorem flatMap_get {α : Type} {c : α → List Value} {e : Nat} (hc : ∀ a, (c a).length = e) : ∀ (L : List α) (k : Nat) (a : α), L[k]? = some a → ∀ d, d < e → (L.flatMap c)[k * e + d]? = (c a)[d]?
  | [], k, a, h, d, hd => by simp at h
  | x :: L, 0, a, h, d, hd => by
    cases h
    rw [Nat.zero_mul, Nat.zero_add, List.flatMap_cons, List.getElem?_append_left (by rw [hc]; exact hd)]
  | x :: L, k + 1, a, h, d, hd => by
    rw [List.flatMap_cons, List.getElem?_append_right (by rw [hc, Nat.succ_mul]; omega), hc, show (k + 1) * e + d - e = k * e + d by rw [Nat.succ_mul]; omega]
    exact flatMap_get hc L k a (by simpa using h) d hd
theorem repRow {α : Type} {rd : Nat → Nat → Option Value} {S : Nat → Prop} {e : Ty} {L : List α} {c : α → List Value} {g : α → Dv} {s : Value} {q j : Nat} (hs : SliceAt s q j L.length) (hm : L.length < 8589934592) (hq : L ≠ [] → S q) (hc : ∀ a, (c a).length = e.size)
    (hr : ∀ d v, (L.flatMap c)[d]? = some v → rd q (j + d) = some v) (he : ∀ a ∈ L, ∃ l, Rep rd S e l (c a) (g a)) : ∃ l, Rep rd S (.slice e) l [s] (Dv.row L g) := by
  have each : ∀ k, ∃ l, k < L.length → Rep rd S e l ((L[k]?).elim [] c) ((L[k]?).elim .unit g) := by
    intro k
    rcases Nat.lt_or_ge k L.length with hk | hk
    · rw [List.getElem?_eq_getElem hk]
      obtain ⟨l, hl⟩ := he _ (List.getElem_mem hk)
      exact ⟨l, fun _ => hl⟩
    · exact ⟨.unit, fun h => absurd h (by omega)⟩
  obtain ⟨lf, hlf⟩ := Classical.axiomOfChoice each
  refine ⟨_, .slice (lf := lf) (fun k => (L[k]?).elim [] c) hs hm (fun h => hq (by rintro rfl; exact h rfl)) (fun k hk d hd => ?_) hlf⟩
  have hk' := List.getElem?_eq_getElem hk
  have e1 := flatMap_get hc L k _ hk' d hd
  rw [hk']
  show _ = (c L[k])[d]?
  have e2 : (c L[k])[d]? = some ((c L[k])[d]'(by rw [hc]; exact hd)) := List.getElem?_eq_getElem (by rw [hc]; exact hd)
  rw [e2, Nat.add_assoc]
  exact hr _ _ (e1.trans e2)
theorem flat_ints : ∀ (L : List Int), (L.flatMap fun x => [Value.int .i64 x]) = ints L
  | [] => rfl
  | x :: L => by
    rw [List.flatMap_cons, flat_ints L]; rfl
theorem repInts {rd : Nat → Nat → Option Value} {S : Nat → Prop} {L : List Int} {s : Value} {q j : Nat} (hs : SliceAt s q j L.length) (hm : L.length < 8589934592) (hq : L ≠ [] → S q) (hr : ∀ d v, (ints L)[d]? = some v → rd q (j + d) = some v) : ∃ l, Rep rd S (.slice .int) l [s] (Dv.row L .int) := by
  refine repRow (c := fun x => [.int .i64 x]) hs hm hq (fun _ => rfl) (fun d v hd => hr d v ?_) fun a _ => ⟨_, .int a⟩
  rw [← flat_ints]; exact hd
theorem repGsl {H : Heap} {S : Nat → Prop} {L : List Int} {i : Nat} {t : TypeId} {gr : Option Nat} (hm : L.length < 8589934592) (h : L ≠ [] → aget H i = some (.cells (ints L) t gr) ∧ S i) : ∃ l, Rep (cellAt H) S (.slice .int) l [gsl i L.length] (Dv.row L .int) :=
  repInts (.gsl i L.length) hm (fun hne => (h hne).2) fun d v hd => by
    have hne : L ≠ [] := by rintro rfl; simp [ints] at hd
    rw [Nat.zero_add, cell_cells (h hne).1]; exact hd
theorem valsN_congr {f g : Nat → List Int} : ∀ {m : Nat}, (∀ k, k < m → f k = g k) → valsN f m = valsN g m
  | 0, _ => rfl
  | m + 1, h => by rw [valsN, valsN, valsN_congr fun k hk => h k (by omega), h m (by omega)]
theorem Rep.row {α : Type} {rd : Nat → Nat → Option Value} {S : Nat → Prop} {e : Ty} {l : Loc} {vs : List Value} {dv : Dv} (h : Rep rd S (.slice e) l vs dv) (c : α → List Value) (g : α → Dv) (hc : ∀ l cs d, Rep rd S e l cs d → ∃ a, cs = c a ∧ d.tell = (g a).tell) :
    ∃ (s : Value) (q j : Nat) (L : List α), vs = [s] ∧ SliceAt s q j L.length ∧ L.length < 8589934592 ∧ (L ≠ [] → S q) ∧ dv.tell = (Dv.row L g).tell ∧ (∀ k a, L[k]? = some a → (∃ l d, Rep rd S e l (c a) d ∧ d.tell = (g a).tell) ∧ ∀ d, d < e.size → rd q (j + k * e.size + d) = (c a)[d]?) := by
  cases h with
  | @slice _ s q j m lf f cs h1 h2 h3 h4 h5 =>
    have each : ∀ k, ∃ a : Option α, k < m → ∃ x, a = some x ∧ cs k = c x ∧ (f k).tell = (g x).tell := by
      intro k
      by_cases hk : k < m
      · obtain ⟨a, e1, e2⟩ := hc _ _ _ (h5 k hk)
        exact ⟨some a, fun _ => ⟨a, rfl, e1, e2⟩⟩
      · exact ⟨none, fun h => absurd h hk⟩
    obtain ⟨A, hA⟩ := Classical.axiomOfChoice each
    have hget : ∀ k, k < m → ∃ x, (((List.range m).filterMap A))[k]? = some x ∧ A k = some x := by
      have : ∀ m', m' ≤ m → ((List.range m').filterMap A).length = m' ∧ ∀ k, k < m' → ((List.range m').filterMap A)[k]? = A k := by
        intro m'
        induction m' with
        | zero => intro _; exact ⟨rfl, fun k hk => by omega⟩
        | succ m' ih =>
          intro hm'
          obtain ⟨i1, i2⟩ := ih (by omega)
          obtain ⟨x, hx, _⟩ := hA m' (by omega)
          rw [List.range_succ, List.filterMap_append]
          have e1 : List.filterMap A [m'] = [x] := by simp [hx]
          rw [e1]
          refine ⟨by simp [i1], fun k hk => ?_⟩
          rcases Nat.lt_or_ge k m' with hk' | hk'
          · rw [List.getElem?_append_left (by omega)]; exact i2 k hk'
          · obtain rfl : k = m' := by omega
            rw [List.getElem?_append_right (by omega), i1, Nat.sub_self, hx]; rfl
      intro k hk
      obtain ⟨x, hx, _⟩ := hA k hk
      exact ⟨x, ((this m (Nat.le_refl _)).2 k hk).trans hx, hx⟩
    have hlen : ((List.range m).filterMap A).length = m := by
      have h1 : ((List.range m).filterMap A).length ≤ m := by
        have := List.length_filterMap_le A (List.range m)
        simpa using this
      rcases Nat.eq_zero_or_pos m with rfl | hm
      · simp
      · obtain ⟨x, hx, _⟩ := hget (m - 1) (by omega)
        have := (List.getElem?_eq_some_iff.1 hx).1
        omega
    refine ⟨s, q, j, (List.range m).filterMap A, rfl, by rw [hlen]; exact h1, by rw [hlen]; exact h2, fun hne => h3 (by rintro rfl; exact hne rfl), ?_, fun k a hk => ?_⟩
    · show (m : Int) :: valsN _ m = (_ : Int) :: valsN _ _
      rw [hlen]
      congr 1
      refine valsN_congr fun k hk => ?_
      obtain ⟨x, hx, hx2⟩ := hget k hk
      obtain ⟨y, hy, _, e2⟩ := hA k hk
      obtain rfl : x = y := by rw [hx2] at hy; exact Option.some.inj hy
      dsimp only; rw [hx]; exact e2
    · have hk' : k < m := by
        have := (List.getElem?_eq_some_iff.1 hk).1
        omega
      obtain ⟨x, hx, hx2⟩ := hget k hk'
      obtain ⟨y, hy, e1, e2⟩ := hA k hk'
      obtain rfl : x = y := by rw [hx2] at hy; exact Option.some.inj hy
      obtain rfl : x = a := by rw [hx] at hk; exact Option.some.inj hk
      exact ⟨⟨lf k, f k, by rw [← e1]; exact h5 k hk', e2⟩, fun d hd => by rw [← e1]; exact h4 k hk' d hd⟩
theorem slice_cells {H : Heap} {s : Value} {q j m es : Nat} {vs : List Value} (hs : SliceAt s q j m) (hl : vs.length = m * es) (he : 0 < es) (hr : ∀ d v, vs[d]? = some v → rdAt H q (j + d) = some v) : cellsOfSlice H es s = some vs := by
  by_cases hm : m = 0
  · subst hm
    have : vs = [] := List.length_eq_zero_iff.1 (by omega)
    subst this
    cases hs <;> rfl
  cases hs with
  | nil => exact absurd rfl hm
  | zero => exact absurd rfl hm
  | mk _ _ _ c =>
    have hpos : 0 < m * es := Nat.mul_pos (by omega) he
    have h0 : vs[0]? = some (vs[0]'(by omega)) := List.getElem?_eq_getElem (by omega)
    have r0 := hr 0 _ h0
    unfold rdAt at r0
    obtain ⟨m, rfl⟩ : ∃ k, m = k + 1 := ⟨m - 1, by omega⟩
    simp only [cellsOfSlice]
    split at r0
    · rename_i cs t gr hb
      rw [hb]
      simp only
      have hrd : ∀ d v, vs[d]? = some v → cs[j + d]? = some v := fun d v hd => by
        have := hr d v hd
        rwa [rd_cells' hb] at this
      have hlast := hrd ((m + 1) * es - 1) _ (List.getElem?_eq_getElem (by omega))
      have := (List.getElem?_eq_some_iff.1 hlast).1
      rw [if_pos (by omega)]
      congr 1
      refine List.ext_getElem? fun d => ?_
      rw [List.getElem?_take]
      by_cases hd : d < (m + 1) * es
      · rw [if_pos hd, List.getElem?_drop]
        have e := List.getElem?_eq_getElem (l := vs) (i := d) (by omega)
        rw [e]; exact hrd d _ e
      · rw [if_neg hd, List.getElem?_eq_none (by omega)]
    · rename_i cs ob hb
      rw [hb]
      simp only
      have := pinGet_all (cs := cs) (off := j) 0 vs ((m + 1) * es) hl (fun d x hx => by
        have h1 := hr d x hx
        unfold rdAt at h1
        rw [hb] at h1
        simp only at h1
        rw [Nat.add_zero]
        split at h1
        · rename_i v hv; cases h1; exact hv
        · cases h1)
      rw [Nat.add_zero] at this
      exact this
    · cases r0
theorem copy_tr {P : Program} {G : List Nat} {E : Env} (hE : EnvOk P E) (hm : P.follows .mixedOrders = true) {f : FuncId} {t : TypeId} {es bytes : Nat} {z : List Value} (hc : compF P f = some (cCopy t es bytes z)) {H : Heap} {n m q j : Nat} {s : Value} {vs : List Value} (hs : SliceAt s q j m) (hl : vs.length = m * es) (he : 0 < es) (hr : ∀ d v, vs[d]? = some v → rdAt H q (j + d) = some v) (hall : vs.all cell1 = true) (hb : (2 * (0 + m) + 1000) * bytes ≤ 2 ^ 40)
    (hfr : Fresh H n) (hn : n + 2 < lim) : F P G f [s] H n (fun v H' n' => v = gsl n m ∧ (∀ q, q < n → aget H' q = aget H q) ∧ (m ≠ 0 → n' = n + 1 ∧ aget H' n = some (.cells vs t (some es))) ∧ n ≤ n' ∧ n' ≤ n + 1 ∧ Fresh H' n') := by
  have hlim : lim = 999999999999999000 := rfl
  have hcs := slice_cells hs hl he hr
  have hold : cellsOfSlice H es (.slice none 0 0) = some [] := rfl
  refine F_of_comp hc rfl ?_
  refine WC_go hE hm ?_
  refine xP rfl rfl rfl rfl ?_
  refine RXn ?_
  refine WLv (lv1 0 rfl lv0) ?_
  refine WC_go hE hm ?_
  refine xP rfl rfl rfl rfl ?_
  by_cases hm0 : m = 0
  · subst hm0
    have hvs : vs = [] := List.length_eq_zero_iff.1 (by omega)
    subst hvs
    refine xW (v := .slice none 0 0) (H' := H) (n' := n) rfl rfl rfl ?_ (blt_lim (by omega)) ?_
    · cases hs <;> simp only [semW, wAppend, hcs, hold] <;> rw [if_pos hb] <;> rfl
    · refine xP rfl rfl rfl rfl ?_
      refine RXn ?_
      refine WLv (lv1 2 rfl lv0) ?_
      refine WC_ret ?_
      refine endR rfl ?_
      exact ⟨rfl, fun _ _ => rfl, fun h => absurd rfl h, Nat.le_refl _, by omega, hfr⟩
  · refine xW (v := sliceTo m m n) (H' := aput H n (.cells vs t (some es))) (n' := n + 1) rfl rfl rfl ?_ (blt_lim (by omega)) ?_
    · cases hs with
      | nil => exact absurd rfl hm0
      | zero => exact absurd rfl hm0
      | mk _ _ _ c =>
        simp only [semW, wAppend, hcs, hold]
        rw [if_pos hb]
        simp only [appended, hall, if_true]
        simp [hm0]
    · refine xP rfl rfl rfl rfl ?_
      refine RXn ?_
      refine WLv (lv1 2 rfl lv0) ?_
      refine WC_ret ?_
      refine endR rfl ?_
      refine ⟨?_, fun q hq => by rw [aget_aput, if_neg (by omega)], fun _ => ⟨rfl, by simp [aget_aput]⟩, by omega, Nat.le_refl _, fun q h1 h2 => by rw [aget_aput, if_neg (by omega)]; exact hfr q (by omega) h2⟩
      show sliceTo m m n = _
      cases m with
      | zero => exact absurd rfl hm0
      | succ m => rfl
theorem Rep.ints {rd : Nat → Nat → Option Value} {S : Nat → Prop} {l : Loc} {vs : List Value} {dv : Dv} (h : Rep rd S (.slice .int) l vs dv) : ∃ (s : Value) (q j : Nat) (L : List Int), vs = [s] ∧ SliceAt s q j L.length ∧ L.length < 8589934592 ∧ (L ≠ [] → S q) ∧ dv.tell = (Dv.row L .int).tell ∧ (L.length : Int) ≤ dv.tell.length ∧ ∀ d v, (Cs.ints L)[d]? = some v → rd q (j + d) = some v := by
  obtain ⟨s, q, j, L, h1, h2, h3, h4, h5, h6⟩ := h.row (fun x => [.int .i64 x]) .int (fun l cs d h => by cases h with | int x => exact ⟨x, rfl, rfl⟩)
  refine ⟨s, q, j, L, h1, h2, h3, h4, h5, ?_, fun d v hd => ?_⟩
  · rw [h5]
    simp only [Dv.row, Dv.tell, List.length_cons]
    have : (valsN (fun k => ((L[k]?).elim Dv.unit Dv.int).tell) L.length).length = L.length := by
      have hk : ∀ m, m ≤ L.length → (valsN (fun k => ((L[k]?).elim Dv.unit Dv.int).tell) m).length = m := by
        intro m
        induction m with
        | zero => intro _; rfl
        | succ m ih =>
          intro hm
          rw [valsN, List.length_append, ih (by omega), List.getElem?_eq_getElem (by omega)]; rfl
      exact hk _ (Nat.le_refl _)
    omega
  · have hlt := (List.getElem?_eq_some_iff.1 hd).1
    simp only [Cs.ints, List.length_map] at hlt
    have hk := List.getElem?_eq_getElem hlt
    obtain ⟨_, h7⟩ := h6 d _ hk
    have h8 := h7 0 (by decide)
    simp only [Ty.size, Nat.mul_one, Nat.add_zero] at h8
    rw [h8]
    simp only [Cs.ints, List.getElem?_map, hk, Option.map_some, Option.some.injEq] at hd
    rw [← hd]; rfl
theorem SliceAt.one {s : Value} {q j m : Nat} (h : SliceAt s q j m) : isHdr s = true ∧ s.cells.toList = [s] ∧ cell1 s = true := h.hdr
end Go.Cs
set_option maxRecDepth 1000000
set_option maxHeartbeats 1000000
namespace Go.Cs
open Go.ChangeShapes Go.WideShapes Go.Deep Go.Joins
def nz : Value → Value
  | .slice (some _) _ 0 => .slice none 0 1
  | v => v
def zok : Value → Bool
  | .slice (some _) l 0 => l == 0
  | .slice none l c => l == 0 && c == 0
  | _ => true
def rdW (W : World) (q j : Nat) : Option Value := match W.heap[q]? with
  | some (.cells c _ fr) => if fr.1 ≤ j ∧ j < fr.2 then none else match c[j]? with
    | some x => if zok x = true then some (nz x) else none
    | none => none
  | _ => none
def cellsB (W : World) (q : Nat) : Prop := ∃ c t fr, W.heap[q]? = some (.cells c t fr)
def okB (W : World) (q : Nat) : Prop := q ≠ 0 ∧ cellsB W q
def Dv.le (B : Nat) : Dv → Prop
  | .int _ => True
  | .bool _ => True
  | .unit => True
  | .pair a b => a.le B ∧ b.le B
  | .slice m f => m ≤ B ∧ ∀ k, k < m → (f k).le B
def bksN (f : Nat → List Nat) : Nat → List Nat
  | 0 => []
  | k + 1 => bksN f k ++ f k
def hdrBk : Value → List Nat
  | .slice (some a) _ _ => [a.block]
  | _ => []
def Loc.bks : Loc → List Nat
  | .int => []
  | .bool => []
  | .unit => []
  | .pair _ a b => a.bks ++ b.bks
  | .slice s _ _ m _ f => hdrBk s ++ bksN (fun k => (f k).bks) m
theorem mem_bksN {f : Nat → List Nat} {x : Nat} : ∀ {m : Nat}, x ∈ bksN f m → ∃ k, k < m ∧ x ∈ f k
  | 0, h => by cases h
  | m + 1, h => by
    rcases List.mem_append.1 h with h | h
    · obtain ⟨k, h1, h2⟩ := mem_bksN h
      exact ⟨k, by omega, h2⟩
    · exact ⟨m, by omega, h⟩
theorem bksN_mem {f : Nat → List Nat} {x : Nat} {k : Nat} (hx : x ∈ f k) : ∀ {m : Nat}, k < m → x ∈ bksN f m
  | 0, h => by omega
  | m + 1, h => by
    rcases Nat.lt_or_ge k m with h1 | h1
    · exact List.mem_append_left _ (bksN_mem hx h1)
    · obtain rfl : k = m := by omega
      exact List.mem_append_right _ hx
theorem bksN_len {f : Nat → List Nat} {g : Nat → List Int} : ∀ {m : Nat}, (∀ k, k < m → (f k).length ≤ (g k).length) → (bksN f m).length ≤ (valsN g m).length
  | 0, _ => Nat.le_refl _
  | m + 1, h => by
    have h1 := bksN_len (f := f) (g := g) (m := m) fun k hk => h k (by omega)
    have h2 := h m (by omega)
    simp only [bksN, valsN, List.length_append]; omega
theorem Rep.bks_len {rd : Nat → Nat → Option Value} {S : Nat → Prop} {ty : Ty} {l : Loc} {vs : List Value} {dv : Dv} (h : Rep rd S ty l vs dv) : l.bks.length ≤ dv.tell.length := by
  induction h with
  | int x => exact Nat.zero_le _
  | bool b => exact Nat.zero_le _
  | unit => exact Nat.zero_le _
  | pair _ _ ih1 ih2 => simp only [Loc.bks, Dv.tell, List.length_append]; omega
  | @slice e s q j m lf f cs h1 h2 h3 h4 h5 ih =>
    have := bksN_len (f := fun k => (lf k).bks) (g := fun k => (f k).tell) (m := m) fun k hk => ih k hk
    have hs : (hdrBk s).length ≤ 1 := by cases h1 <;> simp [hdrBk]
    simp only [Loc.bks, Dv.tell, List.length_append, List.length_cons]; omega
theorem Rep.nou64 {rd : Nat → Nat → Option Value} {S : Nat → Prop} {ty : Ty} {l : Loc} {vs : List Value} {dv : Dv} (h : Rep rd S ty l vs dv) : ∀ v ∈ vs, ∀ x, v ≠ .int .u64 x := by
  induction h with
  | int x => intro v hv y e; rw [List.mem_singleton.1 hv] at e; cases e
  | bool b => intro v hv y e; rw [List.mem_singleton.1 hv] at e; cases e
  | unit => intro v hv; cases hv
  | pair _ _ ih1 ih2 =>
    intro v hv
    rcases List.mem_append.1 hv with hv | hv
    · exact ih1 v hv
    · exact ih2 v hv
  | slice cs h1 h2 h3 h4 h5 ih => intro v hv y e; rw [List.mem_singleton.1 hv] at e; subst e; cases h1
structure UB (H : Type) (ub : DataW H → Nat) (uba : List (DataW H) → Nat) : Prop where
  lit : ∀ l, 1 ≤ ub (.lit l)
  nil : 1 ≤ ub .nil
  slice : ∀ es sp, ub (.slice es sp) = uba es + uba sp + 1
  agg : ∀ ps, ub (.agg ps) = uba ps + 1
  nils : uba [] = 0
  cons : ∀ d r, uba (d :: r) = ub d + uba r
section
variable {H : Type} {ub : DataW H → Nat} {uba : List (DataW H) → Nat}
theorem UB.append (h : UB H ub uba) : ∀ a b : List (DataW H), uba (a ++ b) = uba a + uba b
  | [], b => by rw [List.nil_append, h.nils, Nat.zero_add]
  | d :: a, b => by rw [List.cons_append, h.cons, h.cons, h.append a b]; omega
theorem UB.mem (h : UB H ub uba) {d : DataW H} : ∀ {l : List (DataW H)}, d ∈ l → ub d ≤ uba l
  | x :: l, hd => by
    rw [h.cons]
    rcases List.mem_cons.1 hd with rfl | hd
    · omega
    · have := h.mem hd; omega
theorem UB.range (h : UB H ub uba) (D : Nat → DataW H) {g : Nat → List Int} : ∀ m, (∀ k, k < m → (g k).length ≤ ub (D k)) → (valsN g m).length ≤ uba ((List.range m).map D)
  | 0, _ => by simp [valsN]
  | m + 1, hk => by
    have := h.range D m fun k h => hk k (by omega)
    have h2 := hk m (by omega)
    rw [List.range_succ, List.map_append, h.append, valsN, List.length_append, List.map_cons, List.map_nil, h.cons, h.nils]; omega
theorem UB.count (h : UB H ub uba) (D : Nat → DataW H) : ∀ m, (∀ k, k < m → 1 ≤ ub (D k)) → m ≤ uba ((List.range m).map D)
  | 0, _ => Nat.zero_le _
  | m + 1, hk => by
    have := h.count D m fun k h => hk k (by omega)
    have h2 := hk m (by omega)
    rw [List.range_succ, List.map_append, h.append, List.map_cons, List.map_nil, h.cons, h.nils]; omega
end
def ReadsTy (P : Program) (ty : Ty) (t : TypeId) : Prop := ∀ {H : Type} {enc : TypeId × Value → H} {W : World} {held : Bool} {ub : DataW H → Nat} {uba : List (DataW H) → Nat} {n : Nat} {cs : List Value} {x : DataW H × List MemPlace}, UB H ub uba → (∀ j v, rdW W 0 j = some v → ∃ y, v = .int .u64 y) →
  DataW.trod enc P W 0 (fun _ => true) held n t cs = some x → W.noneFrozen x.2 → ∀ B, ub x.1 ≤ B → B < 8589934592 →
    1 ≤ ub x.1 ∧ ∃ l dv, Rep (rdW W) (okB W) ty l (cs.map nz) dv ∧ dv.tell.length ≤ ub x.1 ∧ dv.le B ∧ (∀ b ∈ l.bks, cellsB W b) ∧ ∀ v ∈ cs, zok v = true
section
variable {P : Program}
theorem readsInt {t : TypeId} (ht : P.underlying t = some (.int .i64)) : ReadsTy P .int t := by
  intro H enc W held ub uba n cs x hu h0 h hf B hB hB2
  obtain ⟨y, rfl, rfl, _⟩ := DataW.trod_int ht h
  exact ⟨hu.lit _, .int, .int y, .int y, hu.lit _, trivial, (fun b hb => by cases hb), fun v hv => by rw [List.mem_singleton.1 hv]; rfl⟩
theorem rdW_of {W : World} {q j : Nat} {c : Array Value} {t : TypeId} {fr : Nat × Nat} {v : Value} (hb : W.heap[q]? = some (.cells c t fr)) (hc : c[j]? = some v) (hf : W.frozen? ⟨q, j, none⟩ = false) (hz : zok v = true) : rdW W q j = some (nz v) := by
  unfold rdW
  rw [hb]
  simp only
  unfold World.frozen? at hf
  simp only [hb] at hf
  rw [if_neg (by simpa using hf)]
  simp only [hc, hz, if_true]
theorem nz_row {b : Addr} {l c : Nat} (h : c ≠ 0) : nz (.slice (some b) l c) = .slice (some b) l c := by
  cases c with
  | zero => exact absurd rfl h
  | succ c => rfl
theorem zok_row {b : Addr} {l c : Nat} (h : l ≤ c) : zok (.slice (some b) l c) = true := by
  cases c with
  | zero => simp only [zok, beq_iff_eq]; omega
  | succ c => rfl
theorem readsSlice {ety : Ty} {t e : TypeId} (ht : P.underlying t = some (.slice e)) (he : ReadsTy P ety e) (hc : P.cellsOf e = ety.size) (h0 : 0 < ety.size) : ReadsTy P (.slice ety) t := by
  intro H enc W held ub uba n cs x hu hz h hf B hB hB2
  have none' : ∀ s, SliceAt s 0 0 0 → ∃ l, Rep (rdW W) (okB W) (.slice ety) l [s] (.slice 0 fun _ => .unit) ∧ (hdrBk s = [] → l.bks = []) := fun s hs =>
    ⟨_, .slice (lf := fun _ => .unit) (fun _ => []) hs (by omega) (fun h => absurd rfl h) (fun k hk => by omega) (fun k hk => by omega), fun h => by simp [Loc.bks, h, bksN]⟩
  rcases open_slice ht h with ⟨rfl, rfl⟩ | ⟨a, len, cap, m, n', D, Pl, rfl, _, hl, hcap, hm, rfl, hx⟩
  · obtain ⟨l, hl, hb⟩ := none' (.slice none 0 0) (.nil 0 0)
    exact ⟨hu.nil, l, _, hl, hu.nil, ⟨Nat.zero_le _, fun k hk => by omega⟩, (fun b h => by rw [hb rfl] at h; cases h), fun v hv => by rw [List.mem_singleton.1 hv]; rfl⟩
  · simp only [if_true] at hm
    subst hm
    have hzz : ∀ v ∈ [Value.slice (some a) len m], zok v = true := fun v hv => by rw [List.mem_singleton.1 hv]; exact zok_row hl
    rw [hu.slice] at hB ⊢
    by_cases hm0 : m = 0
    · subst hm0
      obtain rfl : len = 0 := by omega
      obtain ⟨l, hl, hb⟩ := none' (.slice none 0 1) (.zero 0 0)
      exact ⟨by omega, l, _, hl, by simp only [Dv.tell, valsN, List.length_cons, List.length_nil]; omega, ⟨Nat.zero_le _, fun k hk => by omega⟩, (fun b h => by rw [hb rfl] at h; cases h), hzz⟩
    · obtain ⟨b, off, spot⟩ := a
      obtain ⟨cs0, h10, _⟩ := hx 0 (by omega)
      obtain ⟨_, hl0, hcc0⟩ := World.cells?_some h10
      have h00 := hcc0 0 (by omega)
      have hne0 : cs0[0]? = some (cs0[0]'(by omega)) := List.getElem?_eq_getElem (by omega)
      rw [hne0, Nat.zero_mul] at h00
      have hadd0 : ((⟨b, off, spot⟩ : Addr).add 0).add 0 = ⟨b, off, spot⟩ := rfl
      rw [hadd0] at h00
      unfold World.cell? at h00
      simp only at h00
      split at h00
      case h_2 => cases h00
      rename_i c row fr hblk
      split at h00
      · cases h00
      rename_i hsp
      obtain rfl : spot = none := by simpa using hsp
      have hfz : ∀ i, i < m → W.noneFrozen (Pl i) := fun i hi b' off' hp => hf b' off' (List.mem_append_right _ (List.mem_flatMap.2 ⟨i, by simpa using hi, hp⟩))
      have hub : ∀ i, i < len → ub (D i) ≤ uba ((List.range len).map D) := fun i hi => hu.mem (List.mem_map.2 ⟨i, by simpa using hi, rfl⟩)
      have each : ∀ k, ∃ y : List Value × Loc × Dv, k < len → W.cells? 0 ((⟨b, off, none⟩ : Addr).add (k * P.cellsOf e)) (P.cellsOf e) = some y.1 ∧ 1 ≤ ub (D k) ∧ Rep (rdW W) (okB W) ety y.2.1 (y.1.map nz) y.2.2 ∧ y.2.2.tell.length ≤ ub (D k) ∧ y.2.2.le B ∧ (∀ b ∈ y.2.1.bks, cellsB W b) ∧ ∀ v ∈ y.1, zok v = true := by
        intro k
        by_cases hk : k < len
        · obtain ⟨cs', h1, h2⟩ := hx k (by omega)
          obtain ⟨g0, l, dv, g1, g2, g3, g4, g5⟩ := he hu hz h2 (hfz k (by omega)) B (by have := hub k hk; simp only; omega) hB2
          exact ⟨(cs', l, dv), fun _ => ⟨h1, g0, g1, g2, g3, g4, g5⟩⟩
        · exact ⟨([], .unit, .unit), fun h => absurd h hk⟩
      obtain ⟨Y, hY⟩ := Classical.axiomOfChoice each
      have hcount := hu.count D len fun k hk => (hY k hk).2.1
      have hrange := hu.range D (g := fun k => (Y k).2.2.tell) len fun k hk => (hY k hk).2.2.2.1
      have hcell : ∀ k, k < len → ∀ d, d < ety.size → rdW W b (off + k * ety.size + d) = ((Y k).1.map nz)[d]? := by
        intro k hk d hd
        obtain ⟨_, hl', hcc⟩ := World.cells?_some (hY k hk).1
        have h1 := hcc d (by omega)
        have e1 : (Y k).1[d]? = some ((Y k).1[d]'(by omega)) := List.getElem?_eq_getElem (by omega)
        rw [List.getElem?_map, e1]
        rw [e1] at h1
        have hadd : ((⟨b, off, none⟩ : Addr).add (k * P.cellsOf e)).add d = ⟨b, off + k * ety.size + d, none⟩ := by
          rw [hc]
          unfold Addr.add
          split <;> split <;> simp_all <;> omega
        rw [hadd] at h1
        unfold World.cell? at h1
        simp only [hblk] at h1
        refine rdW_of hblk (by simpa using h1) (hf b _ (List.mem_append_left _ (MemPlace.mem_row.2 ⟨k * ety.size + d, ?_, by rw [Nat.add_assoc]⟩))) ((hY k hk).2.2.2.2.2.2 _ (List.getElem_mem _))
        rw [hc]
        have : (k + 1) * ety.size ≤ m * ety.size := Nat.mul_le_mul_right _ (by omega)
        rw [Nat.succ_mul] at this
        omega
      have hb0 : len ≠ 0 → b ≠ 0 := by
        rintro hne rfl
        have h1 := hcell 0 (by omega) 0 h0
        have hlen := (hY 0 (by omega)).2.2.1.len
        have e1 : ((Y 0).1.map nz)[0]? = some (((Y 0).1.map nz)[0]'(by omega)) := List.getElem?_eq_getElem (by omega)
        rw [e1] at h1
        obtain ⟨y, hy⟩ := hz _ _ h1
        exact (hY 0 (by omega)).2.2.1.nou64 _ (List.getElem_mem _) y hy
      refine ⟨by omega, .slice (.slice (some ⟨b, off, none⟩) len m) b off len ety.size fun k => (Y k).2.1, .slice len fun k => (Y k).2.2, ?_, ?_, ⟨by omega, fun k hk => (hY k hk).2.2.2.2.1⟩, fun b' hb' => ?_, hzz⟩
      · rw [List.map_cons, List.map_nil, nz_row hm0]
        exact .slice (fun k => (Y k).1.map nz) (.mk b off len m) (by omega) (fun hne => ⟨hb0 hne, c, row, fr, hblk⟩) hcell (fun k hk => (hY k hk).2.2.1)
      · simp only [Dv.tell, List.length_cons]; omega
      · rcases List.mem_append.1 hb' with hb' | hb'
        · simp only [hdrBk, List.mem_singleton] at hb'
          rw [hb']; exact ⟨c, row, fr, hblk⟩
        · obtain ⟨k, hk, hb'⟩ := mem_bksN hb'
          exact (hY k hk).2.2.2.2.2.1 b' hb'
def ReadsFs (P : Program) : Nat → Ty → List Field → Prop
  | _, .unit, [] => True
  | o, .pair a b, f :: fs => f.offset = o ∧ P.cellsOf f.type = a.size ∧ ReadsTy P a f.type ∧ ReadsFs P (o + a.size) b fs
  | _, _, _ => False
theorem readsFs_go {H : Type} {enc : TypeId × Value → H} {W : World} {held : Bool} {ub : DataW H → Nat} {uba : List (DataW H) → Nat} {n : Nat} (hu : UB H ub uba) (hz : ∀ j v, rdW W 0 j = some v → ∃ y, v = .int .u64 y) {B : Nat} (hB2 : B < 8589934592) :
    ∀ (fs : List Field) (o : Nat) (ty : Ty) (cs : List Value) (xs : List (DataW H × List MemPlace)), ReadsFs P o ty fs → cs.length = o + ty.size → xs.length = fs.length →
      (∀ (i : Nat) (f : Field), fs[i]? = some f → DataW.trod enc P W 0 (fun _ => true) held n f.type ((cs.drop f.offset).take (P.cellsOf f.type)) = xs[i]?) → W.noneFrozen (xs.flatMap (·.2)) → uba (xs.map (·.1)) ≤ B →
      ∃ l dv, Rep (rdW W) (okB W) ty l ((cs.drop o).map nz) dv ∧ dv.tell.length ≤ uba (xs.map (·.1)) ∧ dv.le B ∧ (∀ b ∈ l.bks, cellsB W b) ∧ ∀ v ∈ cs.drop o, zok v = true
  | [], o, ty, cs, xs, h, hl, hxl, hx, hf, hB => by
    cases ty with
    | unit =>
      have : cs.drop o = [] := List.drop_eq_nil_of_le (by simp only [Ty.size] at hl; omega)
      rw [this]
      exact ⟨.unit, .unit, .unit, Nat.zero_le _, trivial, (fun b hb => by cases hb), fun v hv => by cases hv⟩
    | int => exact h.elim
    | bool => exact h.elim
    | pair a b => exact h.elim
    | slice e => exact h.elim
  | f :: fs, o, ty, cs, xs, h, hl, hxl, hx, hf, hB => by
    cases ty with
    | unit => exact h.elim
    | int => exact h.elim
    | bool => exact h.elim
    | slice e => exact h.elim
    | pair a b =>
      obtain ⟨ho, hc, hr, hrest⟩ := h
      cases xs with
      | nil => simp at hxl
      | cons y xs =>
        have hy := hx 0 f rfl
        rw [ho, hc] at hy
        simp only [List.map_cons] at hB
        rw [hu.cons] at hB
        simp only [Ty.size] at hl
        obtain ⟨g0, l1, d1, g1, g2, g3, g4, g5⟩ := hr hu hz (show _ = some y from hy) (fun b' off' hp => hf b' off' (List.mem_flatMap.2 ⟨y, List.mem_cons_self, hp⟩)) B (by omega) hB2
        obtain ⟨l2, d2, k1, k2, k3, k4, k5⟩ := readsFs_go hu hz hB2 fs (o + a.size) b cs xs hrest (by omega) (by simpa using hxl) (fun i f' hf' => by
          have := hx (i + 1) f' (by simpa using hf')
          simpa using this) (fun b' off' hp => hf b' off' (by
            obtain ⟨z, hz1, hz2⟩ := List.mem_flatMap.1 hp
            exact List.mem_flatMap.2 ⟨z, List.mem_cons_of_mem _ hz1, hz2⟩)) (by omega)
        have hcut : cs.drop o = (cs.drop o).take a.size ++ cs.drop (o + a.size) := by rw [← List.drop_drop, List.take_append_drop]
        refine ⟨.pair a.size l1 l2, .pair d1 d2, ?_, ?_, ⟨g3, k3⟩, fun b' hb' => ?_, fun v hv => ?_⟩
        · have := Rep.pair g1 k1
          rw [← List.map_append, ← hcut] at this
          exact this
        · simp only [Dv.tell, List.length_append, List.map_cons]
          rw [hu.cons]; omega
        · rcases List.mem_append.1 hb' with hb' | hb'
          · exact g4 b' hb'
          · exact k4 b' hb'
        · rw [hcut] at hv
          rcases List.mem_append.1 hv with hv | hv
          · exact g5 v hv
          · exact k5 v hv
theorem readsStruct {ty : Ty} {t : TypeId} {fs : Array Field} (ht : P.underlying t = some (.struct fs)) (hc : P.cellsOf t = ty.size) (h : ReadsFs P 0 ty fs.toList) : ReadsTy P ty t := by
  intro H enc W held ub uba n cs x hu hz hx hf B hB hB2
  obtain ⟨xs, m, _, rfl, hl, hxl, hg⟩ := DataW.trod_struct ht hx
  rw [hu.agg] at hB ⊢
  simp only at hf
  obtain ⟨l, dv, g1, g2, g3, g4, g5⟩ := readsFs_go (held := held) (n := m) (enc := enc) hu hz hB2 fs.toList 0 ty cs xs h (by omega) (by simpa using hxl) (fun i f hf' => hg i f (by simpa using hf')) hf (by omega)
  rw [List.drop_zero] at g1 g5
  exact ⟨by omega, l, dv, g1, by omega, g3, g4, g5⟩
def Ty.arr : Nat → Ty → Ty
  | 0, _ => .unit
  | n + 1, e => .pair e (Ty.arr n e)
end
def dd : List Nat → List Nat
  | [] => []
  | a :: l => if (dd l).contains a then dd l else a :: dd l
theorem mem_dd {x : Nat} : ∀ {l : List Nat}, x ∈ dd l ↔ x ∈ l
  | [] => Iff.rfl
  | a :: l => by
    unfold dd
    have ih := mem_dd (x := x) (l := l)
    split
    · rename_i h
      rw [ih, List.mem_cons]
      have ha : a ∈ l := mem_dd.1 (by simpa using h)
      constructor
      · exact .inr
      · rintro (rfl | h) <;> assumption
    · rw [List.mem_cons, List.mem_cons, ih]
theorem nodup_dd : ∀ l : List Nat, (dd l).Nodup
  | [] => List.nodup_nil
  | a :: l => by
    unfold dd
    split
    · exact nodup_dd l
    · rename_i h
      exact List.nodup_cons.2 ⟨by simpa using h, nodup_dd l⟩
theorem len_dd : ∀ l : List Nat, (dd l).length ≤ l.length
  | [] => Nat.le_refl _
  | a :: l => by
    unfold dd
    have := len_dd l
    split <;> simp only [List.length_cons] <;> omega
def idxB (bl : List Nat) (b : Nat) : Nat := if b = 0 then 0 else bl.idxOf b + 1
def abV (bl : List Nat) : Value → Value
  | .slice (some ⟨b, o, _⟩) l c => .slice (some ⟨idxB bl b, o, none⟩) l c
  | v => v
def absV (bl : List Nat) (v : Value) : Value := abV bl (nz v)
def ok1 (bl : List Nat) : Value → Bool
  | .slice (some ⟨b, _, sp⟩) _ _ => sp.isNone && (b == 0 || bl.contains b)
  | .slice none 0 1 => true
  | v => flat v
def absOk (bl : List Nat) (v : Value) : Bool := zok v && ok1 bl (nz v)
def allPin2 (bl : List Nat) : Obj → List (Option Value)
  | .cells c _ fr => c.toList.mapIdx fun j v => if absOk bl v = true ∧ ¬ (fr.1 ≤ j ∧ j < fr.2) then some (absV bl v) else none
  | _ => []
def pins2 (W : World) (bl : List Nat) : List (Nat × List (Option Value) × Obj) := bl.filterMap fun b => (W.heap[b]?).map fun ob => (b, allPin2 bl ob, ob)
theorem topB_idx {bl : List Nat} {b : Nat} (h : b = 0 ∨ b ∈ bl) : topB bl (idxB bl b) = some ⟨b, 0, none⟩ := by
  unfold idxB
  split
  · rename_i h0; subst h0; rfl
  · rename_i h0
    have hb : b ∈ bl := h.resolve_left h0
    simp only [topB]
    have hlt := List.idxOf_lt_length_of_mem hb
    rw [List.getElem?_eq_getElem hlt, List.getElem_idxOf]; rfl
theorem absV_VR {bl : List Nat} {v : Value} (h : absOk bl v = true) : VR (topB bl) (absV bl v) v := by
  simp only [absOk, Bool.and_eq_true] at h
  obtain ⟨hz, h⟩ := h
  unfold absV
  by_cases hs : ∃ a l, v = .slice (some a) l 0
  · obtain ⟨a, l, rfl⟩ := hs
    simp only [zok, beq_iff_eq] at hz
    subst hz
    exact .slice0
  · have hn : nz v = v := by
      unfold nz
      split
      · exact absurd ⟨_, _, rfl⟩ hs
      · rfl
    rw [hn] at h ⊢
    unfold ok1 at h
    split at h
    · rename_i b o sp l c
      simp only [Bool.and_eq_true, Option.isNone_iff_eq_none, Bool.or_eq_true, beq_iff_eq, List.contains_iff_mem] at h
      obtain ⟨rfl, h⟩ := h
      exact .slice (e := ⟨b, 0, none⟩) (topB_idx h) rfl
    · cases hz
    · rename_i hv _
      have : abV bl v = v := by
        unfold abV
        split
        · exact absurd rfl (hv _ _ _ _ _)
        · rfl
      rw [this]; exact .same h
theorem allPin2_OR {bl : List Nat} {e : Bl} {c : Array Value} {t : TypeId} {fr : Nat × Nat} (h1 : e.room = none) (h2 : e.sh = 0) : OR (topB bl) e (.pin (allPin2 bl (.cells c t fr)) (.cells c t fr)) (.cells c t fr) := by
  refine .pin h1 h2 fun j v hj => ?_
  simp only [allPin2, List.getElem?_mapIdx] at hj
  rw [Array.getElem?_toList] at hj
  cases hc : c[j]? with
  | none => rw [hc] at hj; cases hj
  | some x =>
    rw [hc] at hj
    simp only [Option.map_some, Option.some.injEq] at hj
    split at hj
    · rename_i hh
      cases hj
      exact ⟨x, rfl, absV_VR hh.1, hh.2⟩
    · cases hj
theorem pins2_fst {W : World} {bl0 : List Nat} : ∀ {bl : List Nat}, (∀ b ∈ bl, ∃ ob, W.heap[b]? = some ob) → (bl.filterMap fun b => (W.heap[b]?).map fun ob => (b, allPin2 bl0 ob, ob)).map (·.1) = bl
  | [], _ => rfl
  | b :: bl, h => by
    obtain ⟨ob, hb⟩ := h b List.mem_cons_self
    have ih := pins2_fst (W := W) (bl0 := bl0) (bl := bl) fun x hx => h x (List.mem_cons_of_mem _ hx)
    simp only [List.filterMap_cons, hb, Option.map_some, List.map_cons] at ih ⊢
    rw [ih]
theorem pins2_at {W : World} {bl0 : List Nat} : ∀ {bl : List Nat}, (∀ b ∈ bl, ∃ ob, W.heap[b]? = some ob) → ∀ {i b : Nat}, bl[i]? = some b → ∃ ob, W.heap[b]? = some ob ∧ (bl.filterMap fun b => (W.heap[b]?).map fun ob => (b, allPin2 bl0 ob, ob))[i]? = some (b, allPin2 bl0 ob, ob)
  | [], _, i, b, h => by simp at h
  | a :: bl, h, i, b, hi => by
    obtain ⟨ob, hb⟩ := h a List.mem_cons_self
    cases i with
    | zero =>
      cases hi
      refine ⟨ob, hb, ?_⟩
      simp [hb]
    | succ i =>
      obtain ⟨o2, h1, h2⟩ := pins2_at (W := W) (bl0 := bl0) (bl := bl) (fun x hx => h x (List.mem_cons_of_mem _ hx)) (i := i) (b := b) (by simpa using hi)
      refine ⟨o2, h1, ?_⟩
      simp only [List.filterMap_cons, hb, Option.map_some, List.getElem?_cons_succ] at h2 ⊢
      exact h2
theorem HR.top2 {gl : AObj} {ob0 : Obj} {pins : List (Nat × List (Option Value) × Obj)} {W : World} (hgl : ∀ β e, e.room = none → e.sh = 0 → OR β e gl ob0) (h0 : W.heap[0]? = some ob0) (hnd : (pins.map (·.1)).Nodup)
    (hp : ∀ p ∈ pins, p.1 ≠ 0 ∧ W.heap[p.1]? = some p.2.2 ∧ ∀ e, e.room = none → e.sh = 0 → OR (topB (pins.map (·.1))) e (.pin p.2.1 p.2.2) p.2.2) : HR [0] (topB (pins.map (·.1))) (topH gl pins) (pins.length + 1) W := by
  have lt : ∀ {b : Nat} {o : Obj}, W.heap[b]? = some o → b < W.heap.size := by
    intro b o h
    rcases Nat.lt_or_ge b W.heap.size with h' | h'
    · exact h'
    · rw [Array.getElem?_eq_none h'] at h; cases h
  have at1 : ∀ {i : Nat} {e : Bl}, topB (pins.map (·.1)) (i + 1) = some e → ∃ p, pins[i]? = some p ∧ e = ⟨p.1, 0, none⟩ := by
    intro i e h
    simp only [topB, List.getElem?_map] at h
    cases hpi : pins[i]? with
    | none => rw [hpi] at h; cases h
    | some p => rw [hpi] at h; cases h; exact ⟨p, rfl, rfl⟩
  refine ⟨?_, ?_, ⟨pins.length + 1, ?_⟩, ?_, ?_⟩
  · intro g hg
    simp only [List.mem_cons, List.not_mem_nil, or_false] at hg
    subst hg; rfl
  · intro i e h
    cases i with
    | zero => cases h; exact ⟨.inl (by omega), lt h0⟩
    | succ i =>
      obtain ⟨p, h1, rfl⟩ := at1 h
      have hi := (List.getElem?_eq_some_iff.1 h1).1
      exact ⟨.inl (by omega), lt (hp p (List.mem_of_getElem? h1)).2.1⟩
  · intro i e h
    cases i with
    | zero => omega
    | succ i =>
      obtain ⟨p, h1, _⟩ := at1 h
      have hi := (List.getElem?_eq_some_iff.1 h1).1
      omega
  · intro i j e f hi hj _ _ hef
    cases i with
    | zero =>
      cases j with
      | zero => rfl
      | succ j =>
        obtain ⟨p, h1, rfl⟩ := at1 hj
        cases hi
        exact absurd hef.symm (hp p (List.mem_of_getElem? h1)).1
    | succ i =>
      obtain ⟨p, h1, rfl⟩ := at1 hi
      cases j with
      | zero => cases hj; exact absurd hef (hp p (List.mem_of_getElem? h1)).1
      | succ j =>
        obtain ⟨p', h2, rfl⟩ := at1 hj
        have e1 : (pins.map (·.1))[i]? = some p.1 := by rw [List.getElem?_map, h1]; rfl
        have e2 : (pins.map (·.1))[j]? = some p.1 := by rw [List.getElem?_map, h2]; exact congrArg some hef.symm
        obtain ⟨q1, r1⟩ := List.getElem?_eq_some_iff.1 e1
        obtain ⟨q2, r2⟩ := List.getElem?_eq_some_iff.1 e2
        have : i = j := (List.getElem_inj hnd).1 (r1.trans r2.symm)
        omega
  · intro i e o hi hg
    cases i with
    | zero =>
      rw [topH0] at hg
      cases hg
      cases hi
      exact ⟨ob0, h0, hgl _ _ rfl rfl⟩
    | succ i =>
      obtain ⟨p, h1, rfl⟩ := at1 hi
      rw [topHi, h1] at hg
      cases hg
      have := hp p (List.mem_of_getElem? h1)
      exact ⟨p.2.2, this.2.1, this.2.2 _ rfl rfl⟩
theorem freshTop (gl : AObj) (pins : List (Nat × List (Option Value) × Obj)) : Fresh (topH gl pins) (pins.length + 1) := by
  intro q h1 h2
  obtain ⟨i, rfl⟩ : ∃ i, q = i + 1 := ⟨q - 1, by omega⟩
  rw [topHi, List.getElem?_eq_none (by omega)]; rfl
theorem Rep.abs {W : World} {bl : List Nat} {gl : AObj} (hbl : ∀ b ∈ bl, b ≠ 0 ∧ ∃ ob, W.heap[b]? = some ob) {ty : Ty} {l : Loc} {vs : List Value} {dv : Dv} (h : Rep (rdW W) (okB W) ty l vs dv) : (∀ b ∈ l.bks, b = 0 ∨ b ∈ bl) →
    (∀ v ∈ vs, ok1 bl v = true) ∧ ∃ l', Rep (rdAt (topH gl (pins2 W bl))) (fun q => q < bl.length + 1) ty l' (vs.map (abV bl)) dv := by
  induction h with
  | int x => exact fun _ => ⟨(fun v hv => by rw [List.mem_singleton.1 hv]; rfl), _, .int x⟩
  | bool b => exact fun _ => ⟨(fun v hv => by rw [List.mem_singleton.1 hv]; rfl), _, .bool b⟩
  | unit => exact fun _ => ⟨(fun v hv => by cases hv), _, .unit⟩
  | pair _ _ ih1 ih2 =>
    intro hb
    obtain ⟨a1, l1, r1⟩ := ih1 fun b h => hb b (List.mem_append_left _ h)
    obtain ⟨a2, l2, r2⟩ := ih2 fun b h => hb b (List.mem_append_right _ h)
    refine ⟨fun v hv => ?_, _, by rw [List.map_append]; exact .pair r1 r2⟩
    rcases List.mem_append.1 hv with hv | hv
    · exact a1 v hv
    · exact a2 v hv
  | @slice e s q j m lf f cs h1 h2 h3 h4 h5 ih =>
    intro hb
    have each : ∀ k, ∃ l', k < m → (∀ v ∈ cs k, ok1 bl v = true) ∧ Rep (rdAt (topH gl (pins2 W bl))) (fun q => q < bl.length + 1) e l' ((cs k).map (abV bl)) (f k) := by
      intro k
      by_cases hk : k < m
      · obtain ⟨a1, l1, r1⟩ := ih k hk fun b h => hb b (List.mem_append_right _ (bksN_mem (f := fun k => (lf k).bks) h hk))
        exact ⟨l1, fun _ => ⟨a1, r1⟩⟩
      · exact ⟨.unit, fun h => absurd h hk⟩
    obtain ⟨lf', hlf⟩ := Classical.axiomOfChoice each
    cases h1 with
    | nil =>
      exact ⟨(fun v hv => by rw [List.mem_singleton.1 hv]; rfl), _, .slice (lf := lf') (q := 0) (j := 0) (fun k => (cs k).map (abV bl)) (.nil 0 0) (by omega) (fun h => absurd rfl h) (fun k hk => by omega) (fun k hk => by omega)⟩
    | zero =>
      exact ⟨(fun v hv => by rw [List.mem_singleton.1 hv]; rfl), _, .slice (lf := lf') (q := 0) (j := 0) (fun k => (cs k).map (abV bl)) (.zero 0 0) (by omega) (fun h => absurd rfl h) (fun k hk => by omega) (fun k hk => by omega)⟩
    | mk _ _ _ cap =>
      have hq : q = 0 ∨ q ∈ bl := hb q (List.mem_append_left _ (by simp [hdrBk]))
      refine ⟨fun v hv => ?_, _, .slice (s := .slice (some ⟨idxB bl q, j, none⟩) m cap) (lf := lf') (q := idxB bl q) (j := j) (fun k => (cs k).map (abV bl)) (.mk _ _ _ _) h2 (fun hne => ?_) (fun k hk d hd => ?_) fun k hk => (hlf k hk).2⟩
      · rw [List.mem_singleton.1 hv]
        simp only [ok1, Option.isNone_none, Bool.true_and, Bool.or_eq_true, beq_iff_eq, List.contains_iff_mem]
        exact hq
      · unfold idxB
        split
        · omega
        · rename_i hq0
          have := List.idxOf_lt_length_of_mem (hq.resolve_left hq0)
          omega
      · have hq0 : q ≠ 0 := (h3 (by omega)).1
        have hqb : q ∈ bl := hq.resolve_left hq0
        have hlt := List.idxOf_lt_length_of_mem hqb
        have hi : bl[bl.idxOf q]? = some q := by rw [List.getElem?_eq_getElem hlt, List.getElem_idxOf]
        obtain ⟨ob, e1, e2⟩ := pins2_at (W := W) (bl0 := bl) (fun b hb => (hbl b hb).2) hi
        have hidx : idxB bl q = bl.idxOf q + 1 := by unfold idxB; rw [if_neg hq0]
        have hget : aget (topH gl (pins2 W bl)) (idxB bl q) = some (.pin (allPin2 bl ob) ob) := by
          rw [hidx, topHi]
          unfold pins2
          rw [e2]; rfl
        have h6 := h4 k hk d hd
        have hl := (h5 k hk).len
        have e3 : (cs k)[d]? = some ((cs k)[d]'(by omega)) := List.getElem?_eq_getElem (by omega)
        rw [e3] at h6
        rw [List.getElem?_map, e3]
        unfold rdW at h6
        rw [e1] at h6
        cases ob with
        | cells c t fr =>
          simp only at h6
          split at h6
          · cases h6
          · rename_i hfr
            split at h6
            · rename_i x hx
              split at h6
              · rename_i hzx
                simp only [Option.some.injEq] at h6
                unfold rdAt
                rw [hget]
                have hok := (hlf k hk).1 _ (List.getElem_mem (by omega : d < (cs k).length))
                have : (allPin2 bl (.cells c t fr))[j + k * e.size + d]? = some (some (abV bl ((cs k)[d]'(by omega)))) := by
                  simp only [allPin2, List.getElem?_mapIdx]
                  rw [Array.getElem?_toList, hx]
                  have h7 : absOk bl x = true := by simp only [absOk, hzx, Bool.true_and, h6]; exact hok
                  have h8 : absV bl x = abV bl ((cs k)[d]'(by omega)) := by rw [← h6]; rfl
                  simp only [Option.map_some, h7, h8]
                  rw [if_pos ⟨trivial, hfr⟩]
                simp only [this]
                rfl
              · cases h6
            · cases h6
        | _ => simp at h6
theorem absV_VRs {bl : List Nat} : ∀ {vs : List Value}, (∀ v ∈ vs, absOk bl v = true) → VRs (topB bl) (vs.map (absV bl)) vs
  | [], _ => .nil
  | v :: vs, h => .cons (absV_VR (h v List.mem_cons_self)) (absV_VRs fun x hx => h x (List.mem_cons_of_mem _ hx))
theorem law_top {P : Program} {fl : FuncId} {fc : FC} (hcl : compF P fl = some fc) {gl : AObj} {ob0 : Obj} (hgl : ∀ β e, e.room = none → e.sh = 0 → OR β e gl ob0) (hglf : ∃ cs t, gl = .cells cs t none ∧ flats cs = true) {W : World} (h0 : W.heap[0]? = some ob0) {ty : Ty} {l : Loc} {vs : List Value} {dv : Dv}
    (h : Rep (rdW W) (okB W) ty l (vs.map nz) dv) (hb : ∀ b ∈ l.bks, cellsB W b) (hzv : ∀ v ∈ vs, zok v = true)
    (hlaw : ∀ (H : Heap) (n0 : Nat) (l : Loc) (vs : List Value), aget H 0 = some gl → Rep (rdAt H) (fun q => q < n0) ty l vs dv → Fresh H n0 → 0 < n0 → n0 ≤ dv.tell.length + 1 → F P [0] fl [.agg vs.toArray] H n0 (fun v H' n' => v = .bool true ∧ ∀ q, q < n0 → aget H' q = aget H q)) :
    Calls P fl #[.agg vs.toArray] W (fun e W' => e = .returned (.bool true) ∧ W'.os = W.os ∧ W'.output = W.output ∧ ∀ b, b < W.heap.size → W'.heap[b]? = W.heap[b]?) := by
  let bl := dd (l.bks.filter (· ≠ 0))
  have hbl : ∀ b ∈ bl, b ≠ 0 ∧ cellsB W b := fun b hm => by
    have h1 := mem_dd.1 hm
    rw [List.mem_filter] at h1
    exact ⟨by simpa using h1.2, hb b h1.1⟩
  have hbl2 : ∀ b ∈ bl, b ≠ 0 ∧ ∃ ob, W.heap[b]? = some ob := fun b hm => ⟨(hbl b hm).1, by obtain ⟨c, t, fr, h⟩ := (hbl b hm).2; exact ⟨_, h⟩⟩
  obtain ⟨a1, l', r1⟩ := h.abs (gl := gl) hbl2 fun b hm => by
    by_cases h0 : b = 0
    · exact .inl h0
    · exact .inr (mem_dd.2 (List.mem_filter.2 ⟨hm, by simpa using h0⟩))
  have hfst : (pins2 W bl).map (·.1) = bl := pins2_fst fun b hm => (hbl2 b hm).2
  have hlen : (pins2 W bl).length = bl.length := by simpa using congrArg List.length hfst
  have hr : HR [0] (topB ((pins2 W bl).map (·.1))) (topH gl (pins2 W bl)) ((pins2 W bl).length + 1) W := by
    refine HR.top2 hgl h0 (by rw [hfst]; exact nodup_dd _) fun p hp => ?_
    simp only [pins2, List.mem_filterMap, Option.map_eq_some_iff] at hp
    obtain ⟨b, hm, ob, h1, rfl⟩ := hp
    obtain ⟨g0, c, t, fr, g1⟩ := hbl b hm
    rw [g1] at h1
    cases h1
    refine ⟨g0, g1, fun e q1 q2 => ?_⟩
    rw [hfst]
    exact allPin2_OR q1 q2
  have hbks := h.bks_len
  have hfl := List.length_filter_le (· ≠ 0) l.bks
  have hdl : bl.length ≤ (l.bks.filter (· ≠ 0)).length := len_dd _
  have hl := hlaw (topH gl (pins2 W bl)) ((pins2 W bl).length + 1) l' (vs.map (absV bl)) (topH0 gl _) (by
    have := r1.weak (S' := fun q => q < (pins2 W bl).length + 1) fun q hq => by rw [hlen]; exact hq
    rw [List.map_map] at this
    exact this) (freshTop gl _) (by omega) (by omega)
  have hargs : VRs (topB ((pins2 W bl).map (·.1))) [.agg (vs.map (absV bl)).toArray] [.agg vs.toArray] := by
    rw [hfst]
    exact .cons (.agg (by simpa using absV_VRs (bl := bl) fun v hv => by simp only [absOk, hzv v hv, Bool.true_and]; exact a1 _ (List.mem_map_of_mem hv))) .nil
  refine (hl.top hcl hargs hr).mono ?_
  rintro e W' ⟨v', rfl, v, β', H', n', q1, q2, q3, rfl, q4⟩
  have := VR.flatEq q1 rfl
  subst this
  exact ⟨rfl, q3.os, q3.output, kept_all hr q2 q3 q4 (top_stays hglf)⟩
end Go.Cs
set_option maxRecDepth 1000000
set_option maxHeartbeats 1000000
namespace Go.Cs
structure IRow (rd : Nat → Nat → Option Value) (S : Nat → Prop) (s : Value) (q j : Nat) (L : List Int) : Prop where
  sl : SliceAt s q j L.length
  len : L.length ≤ 1048576
  at' : L ≠ [] → S q
  rd : ∀ d v, (ints L)[d]? = some v → rd q (j + d) = some v
theorem IRow.keep {H H' : Heap} {S : Nat → Prop} {s : Value} {q j : Nat} {L : List Int} (h : IRow (rdAt H) S s q j L) (hk : ∀ q, S q → aget H' q = aget H q) : IRow (rdAt H') S s q j L :=
  ⟨h.sl, h.len, h.at', fun d v hd => (rdAt_congr (hk q (h.at' (by rintro rfl; simp [ints] at hd))) _).trans (h.rd d v hd)⟩
theorem Rep.irow {rd : Nat → Nat → Option Value} {S : Nat → Prop} {l : Loc} {vs : List Value} {dv : Dv} (h : Rep rd S (.slice .int) l vs dv) : ∃ (s : Value) (q j : Nat) (L : List Int), vs = [s] ∧ dv.tell = (Dv.row L .int).tell ∧ (L.length : Int) ≤ dv.tell.length ∧ (L.length ≤ 1048576 → IRow rd S s q j L) := by
  obtain ⟨s, q, j, L, h1, h2, h3, h4, h5, h6, h7⟩ := h.ints
  exact ⟨s, q, j, L, h1, h5, h6, fun hl => ⟨h2, hl, h4, h7⟩⟩
theorem IRow.rep {rd : Nat → Nat → Option Value} {S : Nat → Prop} {s : Value} {q j : Nat} {L : List Int} (h : IRow rd S s q j L) : ∃ l, Rep rd S (.slice .int) l [s] (Dv.row L .int) := repInts h.sl (by have := h.len; omega) h.at' h.rd
theorem all1 {L : List Int} : (ints L).all cell1 = true := flats_cell1 (flats_ints' L)
theorem copyInts {P : Program} {G : List Nat} {E : Env} (hE : EnvOk P E) (hm : P.follows .mixedOrders = true) {f : FuncId} {t : TypeId} {z : List Value} (hc : compF P f = some (cCopy t 1 8 z)) {H : Heap} {S : Nat → Prop} {n q j : Nat} {s : Value} {L : List Int} (h : IRow (rdAt H) S s q j L) (hfr : Fresh H n) (hn : n + 2 < lim) :
    F P G f [s] H n (fun v H' n' => Fin H n 1 H' n' ∧ v = gsl n L.length ∧ (L ≠ [] → aget H' n = some (.cells (ints L) t (some 1)) ∧ n < n')) := by
  have hlen := h.len
  refine (copy_tr hE hm hc h.sl (by simp [ints]) (by decide) h.rd all1 (by omega) hfr hn).mono ?_
  rintro v H' n' ⟨rfl, h1, h2, h3, h4, h5⟩
  exact ⟨⟨h1, h5, h3, h4⟩, rfl, fun hne => by
    obtain ⟨g1, g2⟩ := h2 (fun h0 => hne (List.length_eq_zero_iff.1 h0))
    exact ⟨g2, by omega⟩⟩
theorem ldN {H : Heap} {b o m : Nat} {cs ys : List Value} {t : TypeId} {gr : Option Nat} (h : aget H b = some (.cells cs t gr)) (hl : Nat.ble (o + m) cs.length = true) (hy : (cs.drop o).take m = ys) : semR (.loadN m) [ptrAt b o] H = some (.agg ys.toArray) := by
  rw [Nat.ble_eq] at hl
  simp only [ptrAt, semR, rLoadN, h]
  simp [hl, hy]
section
variable {P : Program} {G : List Nat} {E : Env} {r : List Step} {Q : St → Prop} {as : List Operand} {d : Option Tmp} {g : Option (Tmp × Bool)} {L : List (Nat × Value)} {D : List Value} {H : Heap} {n : Nat}
theorem xStP {m b o : Nat} {ys cs : List Value} {t : TypeId} {gr : Option Nat} (cs' : List Value) (hb : aget H b = some (.cells cs t gr)) (hs : splice cs o ys = cs') (hl : Nat.beq ys.length m = true) (ho : Nat.ble (o + m) cs.length = true) (hc : ys.all cell1 = true) (hw : wantT (.lst L) g = some true)
    (ha : evs G (.lst L) as = some [.pointer (some ⟨b, o, none⟩), .agg ys.toArray]) (hn : n < lim) (h : ∀ H1 : Heap, aget H1 b = some (.cells cs' t gr) → (∀ q, q ≠ b → aget H1 q = aget H q) → RX P G E r Q { T := .lst (putL d undef L), D := D, H := H1, n := n }) :
    RX P G E (⟨.store m, as, d, g⟩ :: r) Q { T := .lst L, D := D, H := H, n := n } :=
  xStN cs' hw ha hb (by simpa [Value.cells] using hs) (by simpa [Value.cells] using hl) ho (by simpa [Value.cells] using hc) (blt_lim hn) (h _ (by simp [aget_aput]) fun q hq => by rw [aget_aput, if_neg (Ne.symm hq)])
end
theorem valsN_le {f : Nat → List Int} {c : Nat} : ∀ {m : Nat}, (∀ k, k < m → (f k).length ≤ c) → (valsN f m).length ≤ m * c
  | 0, _ => by simp [valsN]
  | m + 1, h => by
    have h1 := valsN_le (f := f) (c := c) (m := m) fun k hk => h k (by omega)
    have h2 := h m (by omega)
    rw [valsN, List.length_append, Nat.succ_mul]; omega
theorem row_len {α : Type} {L : List α} {g : α → Dv} {c : Nat} (h : ∀ a ∈ L, (g a).tell.length ≤ c) : (Dv.row L g).tell.length ≤ 1 + L.length * c := by
  simp only [Dv.row, Dv.tell, List.length_cons]
  have := valsN_le (f := fun k => ((L[k]?).elim Dv.unit g).tell) (c := c) (m := L.length) fun k hk => by
    rw [List.getElem?_eq_getElem hk]; exact h _ (List.getElem_mem hk)
  omega
theorem row_ints_len (L : List Int) : (Dv.row L .int).tell.length = L.length + 1 := by
  simp only [Dv.row, Dv.tell, List.length_cons]
  have hk : ∀ m, m ≤ L.length → (valsN (fun k => ((L[k]?).elim Dv.unit Dv.int).tell) m).length = m := by
    intro m
    induction m with
    | zero => intro _; rfl
    | succ m ih =>
      intro hm
      rw [valsN, List.length_append, ih (by omega), List.getElem?_eq_getElem (by omega)]; rfl
  rw [hk _ (Nat.le_refl _)]
theorem Rep.one {rd : Nat → Nat → Option Value} {S : Nat → Prop} {e : Ty} {l : Loc} {s : Value} {dv : Dv} (h : Rep rd S (.slice e) l [s] dv) : isHdr s = true ∧ s.cells.toList = [s] ∧ Cs.cell1 s = true := by
  cases h with
  | slice cs h1 => exact h1.hdr
def RowRes (ty : Ty) (K B : Nat) (H : Heap) (n : Nat) : Value → Heap → Nat → Prop := fun v H' n' => Fin H n K H' n' ∧ ∃ (l : Loc) (s : Value) (dv : Dv) (e : Int), v = .tuple #[s, .int .i64 e] ∧ Rep (cellAt H') (fun q => n ≤ q ∧ q < n') (.slice ty) l [s] dv ∧ dv.tell.length ≤ B
def AggRes (ty : Ty) (K B : Nat) (H : Heap) (n : Nat) : Value → Heap → Nat → Prop := fun v H' n' => Fin H n K H' n' ∧ ∃ (l : Loc) (vs : List Value) (dv : Dv) (e : Int), v = .tuple #[.agg vs.toArray, .int .i64 e] ∧ Rep (cellAt H') (fun q => n ≤ q ∧ q < n') ty l vs dv ∧ dv.tell.length ≤ B
theorem resBox {P : Program} {G : List Nat} {E : Env} (hE : EnvOk P E) (hm : P.follows .mixedOrders = true) {t : TypeId} {ty : Ty} {f f1 : FuncId} (hf : compF P f = some (cClo f1)) (hf1 : SeesTy P G t ty f1) {B : Nat} {H H' : Heap} {lo mid hi bx : Nat} {l : Loc} {vs : List Value} {dv : Dv} {t2 : TypeId} {lo' : Nat} (h : Rep (cellAt H) (fun q => lo' ≤ q ∧ q < mid) ty l vs dv)
    (hk : ∀ q, lo' ≤ q → q < mid → aget H' q = aget H q) (hlo : lo ≤ lo') (hmid : mid ≤ hi) (hbx : aget H' bx = some (.cells vs t2 none)) (hb : lo ≤ bx ∧ bx < hi) (hw : dv.tell.length ≤ B) : ResOk P G t B H' lo hi ⟨f, [], [ptrAt bx 0], l.its bx 0, l.hdr bx 0⟩ dv.tell :=
  resTy hE hm hf hf1 (h.keep fun q hq => hk q hq.1 hq.2) (fun q hq => by omega) (fun d _ => by rw [Nat.zero_add]; exact cell_cells hbx d) hb hw
theorem boxAgg {t : TypeId} {vs : List Value} (h : vs.all cell1 = true) : semA (.box t) [.agg vs.toArray] = some (.cells vs t none, .ptr) := by
  simp [semA, aBox, Value.cells, h]
theorem gslRow {H : Heap} {S : Nat → Prop} {L : List Int} {i : Nat} {t : TypeId} {gr : Option Nat} (hl : L.length ≤ 1048576) (h : L ≠ [] → aget H i = some (.cells (ints L) t gr) ∧ S i) : IRow (cellAt H) S (gsl i L.length) i 0 L :=
  ⟨.gsl i L.length, hl, fun hne => (h hne).2, fun d v hd => by
    have hne : L ≠ [] := by rintro rfl; simp [ints] at hd
    rw [Nat.zero_add, cell_cells (h hne).1]; exact hd⟩
theorem seeBox {P : Program} {G : List Nat} {t tx : TypeId} {ty : Ty} {f : FuncId} (hf : SeesTy P G t ty f) {H : Heap} {S : Nat → Prop} {b : Nat} {l : Loc} {vs : List Value} {dv : Dv} (h : Rep (rdAt H) S ty l vs dv) (hb : S b) (hbx : aget H b = some (.cells vs tx none)) : ∃ its hdr, Sees P G t f [] [ptrAt b 0] its hdr ∧ SeenAt H its hdr dv.tell S := by
  have hs := h.seen (q := b) (j := 0) (fun d hd => by rw [Nat.zero_add]; exact rd_cells' hbx d) hb
  exact ⟨_, _, hf _ _ _ _ _ h b 0 _ (fun x hx => (hs.hdr x hx).2.2) (fun x hx => hx), hs⟩
theorem seeBoxW {P : Program} {G : List Nat} {t tx : TypeId} {ty : Ty} {f : FuncId} (hf : SeesTy P G t ty f) {H : Heap} {S : Nat → Prop} {b : Nat} {l : Loc} {vs : List Value} {dv : Dv} (h : Rep (cellAt H) S ty l vs dv) (hb : S b) (hbx : aget H b = some (.cells vs tx none)) : ∃ its hdr, Sees P G t f [] [ptrAt b 0] its hdr ∧ SeenAt H its hdr dv.tell S ∧ WrAt H its := by
  have hs := h.read.seen (q := b) (j := 0) (fun d hd => by rw [Nat.zero_add]; exact rd_cells' hbx d) hb
  exact ⟨_, _, hf _ _ _ _ _ h b 0 _ (fun x hx => (hs.hdr x hx).2.2) (fun x hx => hx), hs, h.wr fun d hd => by rw [Nat.zero_add]; exact cell_cells hbx d⟩
end Go.Cs
