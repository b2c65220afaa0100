/- A part of the proof that the law spadilletop.TopSharedRing answers true and leaves its argument as it was (CsD) -/
import Derived.Test.YtmpogedhilfjgaaGreatDoorCsC
import Derived.Maps.RangeRun
import Derived.Defers
set_option linter.all false
namespace Go.Cs
variable {P : Program} {E : Env} {G : List Nat} {β : Ren} {H : Heap} {n : Nat} {ρ : Operand → Value} {o : Oper} {w : World}
theorem delete_sound {vs : List Value} {v : Value} {H' : Heap} {n' : Nat} (hr : HR G β H n w) {c : Call} {t el : TypeId} {x y : Operand} {str : Nat} (hop : o.op = .call c) (hc : c.callee = .builtin .delete)
    (h0 : c.argTypes[0]? = some t) (hargs : c.args.toList = [x, y]) (hk : keyKind P t = some (str, el)) (hvs : VRs β vs [ρ x, ρ y]) (hs : wMapDelete str H n vs = some (v, H', n')) : Acts P G β n ρ o w v H' n' := by
  obtain ⟨kt, hu, hkt⟩ := keyKind_shape hk
  obtain ⟨cs, hcall⟩ := builtin_call (ρ := ρ) hop hc
  have ha : c.args.map ρ = #[ρ x, ρ y] := by apply Array.ext'; simp [hargs]
  match vs, hvs with
  | [a, b], hvs =>
    unfold wMapDelete at hs
    split at hs
    · rename_i b0 key heq; cases heq
      split at hs
      · rename_i es clk hg
        split at hs
        · rename_i hf
          obtain ⟨e, he, hx⟩ := hvs.hd.1.map'
          have e2 := keyFits_self hf hvs.hd.2.hd.1
          obtain ⟨cc, g1, g2⟩ := hr.mapObj he hg
          have hrun : ∀ {w' : World} {r' : Option (Nat × Value)} {c2 : Array MapEntry}, (Instr.findKey kt b cc.toList).run P w = .ok r' w → (match r' with | some (i, _) => cc.eraseIdxIfInBounds i | none => cc) = c2 → (setObj e.blk (.map c2 clk)).run P w = .ok () w' →
              (Builtin.delete_ c.argTypes o.type (c.args.map ρ)).run P w = .ok (.tuple #[]) w' := by
            intro w' r' c2 h1 h2 h3
            rw [ha]
            simp only [Builtin.delete_, h0]
            simp only [List.getElem?_toArray, List.getElem?_cons_zero, List.getElem?_cons_succ, Sem.run_bind, run_underlying hu, Result.andThen_ok, hx, e2, run_getMap g1, check_sound hkt hf, h1]
            cases r' with
            | none => simp only at h2; subst h2; simp only [Sem.run_bind, h3, Result.andThen_ok, Sem.run_pure]
            | some p => obtain ⟨i, q⟩ := p; simp only at h2; subst h2; simp only [Sem.run_bind, h3, Result.andThen_ok, Sem.run_pure]
          cases hfe : findE b es 0 with
          | none => simp [hfe] at hs
          | some r =>
            obtain ⟨r', h1, h2⟩ := find_sound (P := P) (w := w) hkt hf g2 hfe
            rcases h2 with ⟨rfl, rfl⟩ | ⟨i, v0, v', rfl, rfl, hv, hi⟩
            · simp only [hfe, Option.some.injEq, Prod.mk.injEq] at hs
              obtain ⟨rfl, rfl, rfl⟩ := hs
              obtain ⟨q1, q2, q3⟩ := map_known (P := P) (es2 := es) (c2 := cc) (k2 := clk) hr he hg g1 g2
              exact acts_value (s := Builtin.delete_ c.argTypes o.type (c.args.map ρ)) (by rw [hcall]; rfl) (hrun h1 rfl q1) undef_rel q2 q3
            · simp only [hfe, Option.some.injEq, Prod.mk.injEq] at hs
              obtain ⟨rfl, rfl, rfl⟩ := hs
              have hlt : i < cc.size := by rw [← Array.length_toList, ← g2.length]; exact hi
              obtain ⟨q1, q2, q3⟩ := map_known (P := P) (es2 := es.eraseIdx i) (c2 := cc.eraseIdxIfInBounds i) (k2 := clk) hr he hg g1 (by
                have : (cc.eraseIdxIfInBounds i).toList = cc.toList.eraseIdx i := by
                  simp [Array.eraseIdxIfInBounds, hlt]
                rw [this]; exact g2.eraseIdx i)
              exact acts_value (s := Builtin.delete_ c.argTypes o.type (c.args.map ρ)) (by rw [hcall]; rfl) (hrun h1 rfl q1) undef_rel q2 q3
        · cases hs
      · cases hs
    · cases hs
theorem run_loadBytes {c : Array Value} {t : TypeId} {fr : Nat × Nat} {b : Nat} (h : w.heap[b]? = some (.cells c t fr)) : ∀ (bs : List UInt8) (o : Nat) (acc : ByteArray), bytesOfV ((c.toList.drop o).take bs.length) = some bs →
    (loadBytes ⟨b, o, none⟩ acc bs.length).run P w = .ok ⟨acc.data ++ bs.toArray⟩ w
  | [], o, acc, _ => by simp [loadBytes]
  | x :: bs, o, acc, hb => by
    simp only [List.length_cons] at hb ⊢
    have hlt : o < c.toList.length := by
      rcases Nat.lt_or_ge o c.toList.length with h | h
      · exact h
      · rw [List.drop_eq_nil_of_le h] at hb; simp [bytesOfV] at hb
    rw [List.drop_eq_getElem_cons hlt, List.take_succ_cons] at hb
    simp only [bytesOfV] at hb
    split at hb
    · rename_i b0 bs0 h1 h2
      cases hb
      unfold byteOfV at h1
      split at h1
      · rename_i c0 hc0
        split at h1
        · cases h1
          have hcell : w.cell? ⟨b, o, none⟩ = some (.int .u8 c0) := by
            rw [cell_of h]
            simp only [Array.length_toList] at hlt
            rw [Array.getElem?_eq_getElem hlt]
            rw [← hc0]; simp
          simp only [loadBytes, Sem.run_bind]
          rw [run_load1 _ _ hcell]
          simp only [Result.andThen_ok, Addr.add_lit]
          rw [run_loadBytes h bs (o + 1) _ h2]
          congr 2
          apply Array.ext'
          simp [UInt8.ofNat]
        · cases h1
      · cases h1
    · cases hb
theorem bytesOfV_length : ∀ {vs : List Value} {bs : List UInt8}, bytesOfV vs = some bs → vs.length = bs.length
  | [], _, h => by simp [bytesOfV] at h; subst h; rfl
  | v :: vs, bs, h => by
    simp only [bytesOfV] at h
    split at h
    · rename_i h1 h2; cases h; simp [bytesOfV_length h2]
    · cases h
theorem bytesOfV_rel {vs vs' : List Value} {bs : List UInt8} (h : bytesOfV vs = some bs) (hr : VRs β vs vs') : bytesOfV vs' = some bs := by
  rw [VRs.flatEq (bytesOfV_flat h) hr]; exact h
theorem unsafeStr_known (hr : HR G β H n w) {b o0 : Nat} {e : Bl} {ob : AObj} {cs : List Value} {t : TypeId} {c : Array Value} {fr : Nat × Nat} {bs : List UInt8} (hb : β b = some e) (hg : aget H b = some ob) (hl : ob.live = true) (h1 : w.heap[e.blk]? = some (.cells c t fr))
    (h2 : VRs β cs ((c.toList.drop e.sh).take cs.length)) (h3 : e.sh + cs.length ≤ c.size) (hle : o0 + bs.length ≤ cs.length) (hbs : bytesOfV ((cs.drop o0).take bs.length) = some bs) (hpos : 0 < bs.length) :
    (do let s ← loadBytes ⟨e.blk, o0 + e.sh, none⟩ .empty bs.length; freeze ⟨e.blk, o0 + e.sh, none⟩ bs.length; pure (.string s) : Sem Value).run P w = .ok (.string ⟨bs.toArray⟩) (w.freeze ⟨e.blk, o0 + e.sh, none⟩ bs.length) ∧
      HR G β (aput H b (.ro cs t)) n (w.freeze ⟨e.blk, o0 + e.sh, none⟩ bs.length) ∧ Fr β n w β n (w.freeze ⟨e.blk, o0 + e.sh, none⟩ bs.length) := by
  have hrel := (h2.drop o0).take bs.length
  simp only [List.drop_take, List.drop_drop, List.take_take] at hrel
  rw [Nat.min_eq_left (by omega), Nat.add_comm] at hrel
  have hrun := run_loadBytes (P := P) h1 bs (o0 + e.sh) .empty (bytesOfV_rel hbs hrel)
  have hheap : (w.freeze ⟨e.blk, o0 + e.sh, none⟩ bs.length).heap = w.heap.modify e.blk fun
      | .cells c elem (lo, hi) => .cells c elem (if lo == hi then (o0 + e.sh, o0 + e.sh + bs.length) else (min lo (o0 + e.sh), max hi (o0 + e.sh + bs.length)))
      | o => o := by
    simp only [World.freeze]
    rw [if_neg (by omega)]
    rfl
  have hother : ∀ k, k ≠ e.blk → (w.freeze ⟨e.blk, o0 + e.sh, none⟩ bs.length).heap[k]? = w.heap[k]? := by
    intro k hk
    rw [hheap, Array.getElem?_modify, if_neg (Ne.symm hk)]
  have hsz : (w.freeze ⟨e.blk, o0 + e.sh, none⟩ bs.length).heap.size = w.heap.size := by rw [hheap]; simp
  obtain ⟨lo, hi⟩ := fr
  have hat : (w.freeze ⟨e.blk, o0 + e.sh, none⟩ bs.length).heap[e.blk]? = some (.cells c t (if lo == hi then (o0 + e.sh, o0 + e.sh + bs.length) else (min lo (o0 + e.sh), max hi (o0 + e.sh + bs.length)))) := by
    rw [hheap, Array.getElem?_modify, if_pos rfl, h1]; rfl
  have hkeep : ∀ (w : World) (a : Addr) (k : Nat), (w.freeze a k).os = w.os ∧ (w.freeze a k).tape = w.tape ∧ (w.freeze a k).output = w.output := by
    intro w a k; unfold World.freeze; split <;> exact ⟨rfl, rfl, rfl⟩
  refine ⟨?_, hr.update hb hg hl hsz hat hother (.ro h3 h2), Fr.update hb hsz hother (hkeep _ _ _).1 (hkeep _ _ _).2.1 (hkeep _ _ _).2.2⟩
  simp only [Sem.run_bind, hrun, Result.andThen_ok, run_freeze, Sem.run_pure]
  congr 2
  simp
theorem unsafeStr_sound {vs : List Value} {v : Value} {H' : Heap} {n' : Nat} (hr : HR G β H n w) {c : Call} {t el : TypeId} {x y : Operand} (hop : o.op = .call c) (hc : c.callee = .builtin .unsafeString)
    (h0 : c.argTypes[0]? = some t) (hargs : c.args.toList = [x, y]) (hu : P.underlying t = some (.pointer el)) (hm : sizeOfT P el = some 1) (hvs : VRs β vs [ρ x, ρ y]) (hs : wUnsafeStr el H n vs = some (v, H', n')) : Acts P G β n ρ o w v H' n' := by
  obtain ⟨cs, hcall⟩ := builtin_call (ρ := ρ) hop hc
  have ha : c.args.map ρ = #[ρ x, ρ y] := by apply Array.ext'; simp [hargs]
  match vs, hvs with
  | [a, b], hvs =>
    have hsem : ∀ {A : Addr} {k : Int} {kk : IntKind} {s : Sem Value}, ρ x = .pointer (some A) → ρ y = .int kk k → 0 < k → k ≤ 2 ^ 40 → (variablesAt A el k.toNat).run P w = .ok true w →
        (Builtin.unsafeString_ c.argTypes o.type (c.args.map ρ)).run P w = (do let s ← loadBytes A .empty k.toNat; freeze A k.toNat; pure (.string s) : Sem Value).run P w := by
      intro A k kk s hx hy hk1 hk2 hva
      rw [ha, hx, hy]
      have : Builtin.unsafeString_ c.argTypes o.type #[.pointer (some A), .int kk k] = (do
          let n ← asInt (.int kk k)
          let some pt := c.argTypes[0]? | stuck "unsafe.String: no argument types"
          if n < 0 then runtimePanic (.error "unsafe.String: len out of range")
          if n > IntKind.i64.max then unsupported (.unsafePointer "String: a length above the largest int")
          if n = 0 then pure (.string .empty)
          else if ← variablesAt A (← elemOf pt) n.toNat then do
            let s ← loadBytes A .empty n.toNat
            freeze A n.toNat
            pure (.string s)
          else unsupported (.unsafePointer "String: not so many bytes at ptr") : Sem Value) := rfl
      rw [this]
      simp only [asInt, asIntOf, Sem.run_bind, Sem.run_pure, Result.andThen_ok, h0]
      rw [if_neg (by omega)]
      rw [if_neg (by rw [IntKind.max_i64]; omega)]
      rw [if_neg (by omega)]
      have he : (elemOf t).run P w = .ok el w := by simp [elemOf, run_underlying hu]
      simp only [Sem.run_bind, he, Result.andThen_ok, hva, if_true, Sem.run_pure]
    unfold wUnsafeStr at hs
    split at hs
    · rename_i b0 o0 kk k heq; cases heq
      split at hs
      · rename_i hk
        obtain ⟨e, he, hx⟩ := hvs.hd.1.ptr'
        have hy := hvs.hd.2.hd.1.int
        have main : ∀ {ob : AObj} {cs : List Value} {cc : Array Value} {fr : Nat × Nat} {bs : List UInt8}, aget H b0 = some ob → ob.live = true → w.heap[e.blk]? = some (.cells cc el fr) → VRs β cs ((cc.toList.drop e.sh).take cs.length) → e.sh + cs.length ≤ cc.size → o0 + k.toNat ≤ cs.length →
            bytesOfV ((cs.drop o0).take k.toNat) = some bs → v = .string ⟨bs.toArray⟩ → H' = aput H b0 (.ro cs el) → n' = n → Acts P G β n ρ o w v H' n' := by
          intro ob cs cc fr bs hg hl h1 h2 h3 hle hbs hv hH hn
          subst hv; subst hH; subst hn
          have hbl : bs.length = k.toNat := by rw [← bytesOfV_length hbs]; simp; omega
          rw [← hbl] at hbs hle
          obtain ⟨q1, q2, q3⟩ := unsafeStr_known (P := P) hr he hg hl h1 h2 h3 hle hbs (by omega)
          refine acts_value (s := Builtin.unsafeString_ c.argTypes o.type (c.args.map ρ)) (by rw [hcall]; rfl) ?_ (VR.s _) q2 q3
          rw [hsem (s := pure (.bool true)) hx hy hk.1 hk.2 (variablesAt_whole (m := 0) h1 hm (by omega) (by simp [Nat.mod_one]) (by simp; omega))]
          rw [← hbl]
          exact q1
        split at hs
        · rename_i cs0 t' hg
          split at hs
          · rename_i hh
            obtain ⟨rfl, hle⟩ := hh
            split at hs
            · rename_i bs hbs
              cases hs
              obtain ⟨cc, fr, h1, h2, h3, h4, h5⟩ := hr.cells he hg
              exact main hg rfl h1 h2 h3 hle hbs rfl rfl rfl
            · cases hs
          · cases hs
        · rename_i cs0 t' hg
          split at hs
          · rename_i hh
            obtain ⟨rfl, hle⟩ := hh
            split at hs
            · rename_i bs hbs
              cases hs
              obtain ⟨oo, h1, h2⟩ := hr.obj he hg
              cases h2 with | ro l h2 => exact main hg rfl h1 h2 l hle hbs rfl rfl rfl
            · cases hs
          · cases hs
        · cases hs
      · cases hs
    · cases hs
theorem semW_sound {k : Kind} {args : List Operand} {vs : List Value} {v : Value} {H' : Heap} {n' : Nat} (hr : HR G β H n w) (hnb : n < big) (hk : kindOf P o = some (k, args)) (hvs : VRs β vs (args.map ρ)) (hs : semW k vs H n = some (v, H', n')) : Acts P G β n ρ o w v H' n' := by
  cases hop : o.op with
  | store t a x =>
    simp only [kindOf, hop, Option.map_eq_some_iff, Prod.mk.injEq] at hk
    obtain ⟨m, hm, rfl, rfl⟩ := hk
    exact store_sound hr hop hm hvs hs
  | mapUpdate t m k x =>
    simp only [kindOf, hop, Option.map_eq_some_iff, Prod.mk.injEq] at hk
    obtain ⟨⟨str, el⟩, hm, rfl, rfl⟩ := hk
    exact mapUpdate_sound (t := t) (x := m) (y := k) (z := x) hr (by simp only [execOp, hop]) hm hvs hs
  | insert t m k x =>
    simp only [kindOf, hop, Option.map_eq_some_iff, Prod.mk.injEq] at hk
    obtain ⟨⟨str, el⟩, hm, rfl, rfl⟩ := hk
    exact mapUpdate_sound (t := t) (x := m) (y := k) (z := x) hr (by simp only [execOp, hop]) hm hvs hs
  | next x b =>
    cases b
    · simp only [kindOf, hop, Option.some.injEq, Prod.mk.injEq] at hk
      obtain ⟨rfl, rfl⟩ := hk
      simp [semW] at hs
    · simp only [kindOf, hop, Option.some.injEq, Prod.mk.injEq] at hk
      obtain ⟨rfl, rfl⟩ := hk
      exact nextStr_sound hr hop hvs hs
  | call c =>
    cases hc : c.callee with
    | value f =>
      cases f <;> simp only [kindOf, hop, hc] at hk <;> cases hk <;> simp [semW] at hs
    | invoke r name =>
      simp only [kindOf, hop, hc] at hk; cases hk; simp [semW] at hs
    | builtin b =>
      cases b <;> simp only [kindOf, hop, hc] at hk
      case append =>
        split at hk
        · rename_i t u x y h0 h1 hargs
          split at hk
          · rename_i el hu hu2
            split at hk
            · rename_i i z hi hz
              split at hk
              · rename_i hh; cases hk
                exact wAppendStr_sound hr hnb hop hc h0 h1 hargs hu hu2 hi hz hh.2 hh.1 hvs hs
              · cases hk
            · cases hk
          · rename_i el e2 hu hu2
            split at hk
            · rename_i i z hi hz
              split at hk
              · rename_i hh; cases hk
                exact wAppend_sound hr hnb hop hc h0 h1 hargs hu hu2 hi hz hh hvs hs
              · cases hk
            · cases hk
          · cases hk
        · cases hk
      case copy =>
        split at hk
        · rename_i t x y h0 hargs
          split at hk
          · rename_i el hu
            simp only [Option.map_eq_some_iff, Prod.mk.injEq] at hk
            obtain ⟨m, hm, rfl, rfl⟩ := hk
            exact wCopy_sound hr hop hc h0 hargs hu hm hvs hs
          · cases hk
        · cases hk
      case delete =>
        split at hk
        · rename_i t x y h0 hargs
          simp only [Option.map_eq_some_iff, Prod.mk.injEq] at hk
          obtain ⟨⟨str, el⟩, hm, rfl, rfl⟩ := hk
          exact delete_sound hr hop hc h0 hargs hm hvs hs
        · cases hk
      case unsafeString =>
        split at hk
        · rename_i t x y h0 hargs
          split at hk
          · rename_i el hu
            split at hk
            · rename_i h8 hm; cases hk
              exact unsafeStr_sound hr hop hc h0 hargs hu hm hvs hs
            · cases hk
          · cases hk
        · cases hk
      all_goals
        repeat' split at hk
        all_goals first
          | (cases hk; done)
          | (cases hk; simp [semW] at hs; done)
          | (simp only [Option.map_eq_some_iff, Prod.mk.injEq] at hk
             obtain ⟨_, _, rfl, rfl⟩ := hk
             simp [semW] at hs)
  | move _ =>
    simp only [kindOf, hop] at hk
    repeat' split at hk
    all_goals first
      | (cases hk; done)
      | (cases hk; simp [semW] at hs; done)
      | (simp only [Option.map_eq_some_iff, Prod.mk.injEq] at hk
         obtain ⟨_, _, rfl, rfl⟩ := hk
         simp [semW] at hs)
  | assign _ =>
    simp only [kindOf, hop] at hk
    repeat' split at hk
    all_goals first
      | (cases hk; done)
      | (cases hk; simp [semW] at hs; done)
      | (simp only [Option.map_eq_some_iff, Prod.mk.injEq] at hk
         obtain ⟨_, _, rfl, rfl⟩ := hk
         simp [semW] at hs)
  | pick _ _ _ =>
    simp only [kindOf, hop] at hk
    repeat' split at hk
    all_goals first
      | (cases hk; done)
      | (cases hk; simp [semW] at hs; done)
      | (simp only [Option.map_eq_some_iff, Prod.mk.injEq] at hk
         obtain ⟨_, _, rfl, rfl⟩ := hk
         simp [semW] at hs)
  | alloc _ =>
    simp only [kindOf, hop] at hk
    repeat' split at hk
    all_goals first
      | (cases hk; done)
      | (cases hk; simp [semW] at hs; done)
      | (simp only [Option.map_eq_some_iff, Prod.mk.injEq] at hk
         obtain ⟨_, _, rfl, rfl⟩ := hk
         simp [semW] at hs)
  | box _ _ =>
    simp only [kindOf, hop] at hk
    repeat' split at hk
    all_goals first
      | (cases hk; done)
      | (cases hk; simp [semW] at hs; done)
      | (simp only [Option.map_eq_some_iff, Prod.mk.injEq] at hk
         obtain ⟨_, _, rfl, rfl⟩ := hk
         simp [semW] at hs)
  | build _ _ =>
    simp only [kindOf, hop] at hk
    repeat' split at hk
    all_goals first
      | (cases hk; done)
      | (cases hk; simp [semW] at hs; done)
      | (simp only [Option.map_eq_some_iff, Prod.mk.injEq] at hk
         obtain ⟨_, _, rfl, rfl⟩ := hk
         simp [semW] at hs)
  | buildSlice _ _ _ =>
    simp only [kindOf, hop] at hk
    repeat' split at hk
    all_goals first
      | (cases hk; done)
      | (cases hk; simp [semW] at hs; done)
      | (simp only [Option.map_eq_some_iff, Prod.mk.injEq] at hk
         obtain ⟨_, _, rfl, rfl⟩ := hk
         simp [semW] at hs)
  | load _ _ =>
    simp only [kindOf, hop] at hk
    repeat' split at hk
    all_goals first
      | (cases hk; done)
      | (cases hk; simp [semW] at hs; done)
      | (simp only [Option.map_eq_some_iff, Prod.mk.injEq] at hk
         obtain ⟨_, _, rfl, rfl⟩ := hk
         simp [semW] at hs)
  | ready _ =>
    simp only [kindOf, hop] at hk
    repeat' split at hk
    all_goals first
      | (cases hk; done)
      | (cases hk; simp [semW] at hs; done)
      | (simp only [Option.map_eq_some_iff, Prod.mk.injEq] at hk
         obtain ⟨_, _, rfl, rfl⟩ := hk
         simp [semW] at hs)
  | waits _ =>
    simp only [kindOf, hop] at hk
    repeat' split at hk
    all_goals first
      | (cases hk; done)
      | (cases hk; simp [semW] at hs; done)
      | (simp only [Option.map_eq_some_iff, Prod.mk.injEq] at hk
         obtain ⟨_, _, rfl, rfl⟩ := hk
         simp [semW] at hs)
  | nilCheck _ =>
    simp only [kindOf, hop] at hk
    repeat' split at hk
    all_goals first
      | (cases hk; done)
      | (cases hk; simp [semW] at hs; done)
      | (simp only [Option.map_eq_some_iff, Prod.mk.injEq] at hk
         obtain ⟨_, _, rfl, rfl⟩ := hk
         simp [semW] at hs)
  | unOp _ _ _ =>
    simp only [kindOf, hop] at hk
    repeat' split at hk
    all_goals first
      | (cases hk; done)
      | (cases hk; simp [semW] at hs; done)
      | (simp only [Option.map_eq_some_iff, Prod.mk.injEq] at hk
         obtain ⟨_, _, rfl, rfl⟩ := hk
         simp [semW] at hs)
  | convert _ _ _ =>
    simp only [kindOf, hop] at hk
    repeat' split at hk
    all_goals first
      | (cases hk; done)
      | (cases hk; simp [semW] at hs; done)
      | (simp only [Option.map_eq_some_iff, Prod.mk.injEq] at hk
         obtain ⟨_, _, rfl, rfl⟩ := hk
         simp [semW] at hs)
  | sliceToArrayPointer _ _ =>
    simp only [kindOf, hop] at hk
    repeat' split at hk
    all_goals first
      | (cases hk; done)
      | (cases hk; simp [semW] at hs; done)
      | (simp only [Option.map_eq_some_iff, Prod.mk.injEq] at hk
         obtain ⟨_, _, rfl, rfl⟩ := hk
         simp [semW] at hs)
  | makeInterface _ _ =>
    simp only [kindOf, hop] at hk
    repeat' split at hk
    all_goals first
      | (cases hk; done)
      | (cases hk; simp [semW] at hs; done)
      | (simp only [Option.map_eq_some_iff, Prod.mk.injEq] at hk
         obtain ⟨_, _, rfl, rfl⟩ := hk
         simp [semW] at hs)
  | makeFunc _ _ _ =>
    simp only [kindOf, hop] at hk
    repeat' split at hk
    all_goals first
      | (cases hk; done)
      | (cases hk; simp [semW] at hs; done)
      | (simp only [Option.map_eq_some_iff, Prod.mk.injEq] at hk
         obtain ⟨_, _, rfl, rfl⟩ := hk
         simp [semW] at hs)
  | makeMap _ _ =>
    simp only [kindOf, hop] at hk
    repeat' split at hk
    all_goals first
      | (cases hk; done)
      | (cases hk; simp [semW] at hs; done)
      | (simp only [Option.map_eq_some_iff, Prod.mk.injEq] at hk
         obtain ⟨_, _, rfl, rfl⟩ := hk
         simp [semW] at hs)
  | makeChan _ _ =>
    simp only [kindOf, hop] at hk
    repeat' split at hk
    all_goals first
      | (cases hk; done)
      | (cases hk; simp [semW] at hs; done)
      | (simp only [Option.map_eq_some_iff, Prod.mk.injEq] at hk
         obtain ⟨_, _, rfl, rfl⟩ := hk
         simp [semW] at hs)
  | makeSlice _ _ _ =>
    simp only [kindOf, hop] at hk
    repeat' split at hk
    all_goals first
      | (cases hk; done)
      | (cases hk; simp [semW] at hs; done)
      | (simp only [Option.map_eq_some_iff, Prod.mk.injEq] at hk
         obtain ⟨_, _, rfl, rfl⟩ := hk
         simp [semW] at hs)
  | slice _ _ _ _ _ =>
    simp only [kindOf, hop] at hk
    repeat' split at hk
    all_goals first
      | (cases hk; done)
      | (cases hk; simp [semW] at hs; done)
      | (simp only [Option.map_eq_some_iff, Prod.mk.injEq] at hk
         obtain ⟨_, _, rfl, rfl⟩ := hk
         simp [semW] at hs)
  | fieldAddr _ _ _ =>
    simp only [kindOf, hop] at hk
    repeat' split at hk
    all_goals first
      | (cases hk; done)
      | (cases hk; simp [semW] at hs; done)
      | (simp only [Option.map_eq_some_iff, Prod.mk.injEq] at hk
         obtain ⟨_, _, rfl, rfl⟩ := hk
         simp [semW] at hs)
  | field _ _ _ =>
    simp only [kindOf, hop] at hk
    repeat' split at hk
    all_goals first
      | (cases hk; done)
      | (cases hk; simp [semW] at hs; done)
      | (simp only [Option.map_eq_some_iff, Prod.mk.injEq] at hk
         obtain ⟨_, _, rfl, rfl⟩ := hk
         simp [semW] at hs)
  | indexAddr _ _ _ =>
    simp only [kindOf, hop] at hk
    repeat' split at hk
    all_goals first
      | (cases hk; done)
      | (cases hk; simp [semW] at hs; done)
      | (simp only [Option.map_eq_some_iff, Prod.mk.injEq] at hk
         obtain ⟨_, _, rfl, rfl⟩ := hk
         simp [semW] at hs)
  | index _ _ _ =>
    simp only [kindOf, hop] at hk
    repeat' split at hk
    all_goals first
      | (cases hk; done)
      | (cases hk; simp [semW] at hs; done)
      | (simp only [Option.map_eq_some_iff, Prod.mk.injEq] at hk
         obtain ⟨_, _, rfl, rfl⟩ := hk
         simp [semW] at hs)
  | lookup _ _ _ _ =>
    simp only [kindOf, hop] at hk
    repeat' split at hk
    all_goals first
      | (cases hk; done)
      | (cases hk; simp [semW] at hs; done)
      | (simp only [Option.map_eq_some_iff, Prod.mk.injEq] at hk
         obtain ⟨_, _, rfl, rfl⟩ := hk
         simp [semW] at hs)
  | mapEntry _ _ _ =>
    simp only [kindOf, hop] at hk
    repeat' split at hk
    all_goals first
      | (cases hk; done)
      | (cases hk; simp [semW] at hs; done)
      | (simp only [Option.map_eq_some_iff, Prod.mk.injEq] at hk
         obtain ⟨_, _, rfl, rfl⟩ := hk
         simp [semW] at hs)
  | entryStore _ _ _ _ =>
    simp only [kindOf, hop] at hk
    repeat' split at hk
    all_goals first
      | (cases hk; done)
      | (cases hk; simp [semW] at hs; done)
      | (simp only [Option.map_eq_some_iff, Prod.mk.injEq] at hk
         obtain ⟨_, _, rfl, rfl⟩ := hk
         simp [semW] at hs)
  | range _ _ =>
    simp only [kindOf, hop] at hk
    repeat' split at hk
    all_goals first
      | (cases hk; done)
      | (cases hk; simp [semW] at hs; done)
      | (simp only [Option.map_eq_some_iff, Prod.mk.injEq] at hk
         obtain ⟨_, _, rfl, rfl⟩ := hk
         simp [semW] at hs)
  | entry _ =>
    simp only [kindOf, hop] at hk
    repeat' split at hk
    all_goals first
      | (cases hk; done)
      | (cases hk; simp [semW] at hs; done)
      | (simp only [Option.map_eq_some_iff, Prod.mk.injEq] at hk
         obtain ⟨_, _, rfl, rfl⟩ := hk
         simp [semW] at hs)
  | typeAssert _ _ _ _ =>
    simp only [kindOf, hop] at hk
    repeat' split at hk
    all_goals first
      | (cases hk; done)
      | (cases hk; simp [semW] at hs; done)
      | (simp only [Option.map_eq_some_iff, Prod.mk.injEq] at hk
         obtain ⟨_, _, rfl, rfl⟩ := hk
         simp [semW] at hs)
  | extract _ _ =>
    simp only [kindOf, hop] at hk
    repeat' split at hk
    all_goals first
      | (cases hk; done)
      | (cases hk; simp [semW] at hs; done)
      | (simp only [Option.map_eq_some_iff, Prod.mk.injEq] at hk
         obtain ⟨_, _, rfl, rfl⟩ := hk
         simp [semW] at hs)
  | go _ =>
    simp only [kindOf, hop] at hk
    repeat' split at hk
    all_goals first
      | (cases hk; done)
      | (cases hk; simp [semW] at hs; done)
      | (simp only [Option.map_eq_some_iff, Prod.mk.injEq] at hk
         obtain ⟨_, _, rfl, rfl⟩ := hk
         simp [semW] at hs)
  | defer _ =>
    simp only [kindOf, hop] at hk
    repeat' split at hk
    all_goals first
      | (cases hk; done)
      | (cases hk; simp [semW] at hs; done)
      | (simp only [Option.map_eq_some_iff, Prod.mk.injEq] at hk
         obtain ⟨_, _, rfl, rfl⟩ := hk
         simp [semW] at hs)
  | panic _ =>
    simp only [kindOf, hop] at hk
    repeat' split at hk
    all_goals first
      | (cases hk; done)
      | (cases hk; simp [semW] at hs; done)
      | (simp only [Option.map_eq_some_iff, Prod.mk.injEq] at hk
         obtain ⟨_, _, rfl, rfl⟩ := hk
         simp [semW] at hs)
  | send _ _ =>
    simp only [kindOf, hop] at hk
    repeat' split at hk
    all_goals first
      | (cases hk; done)
      | (cases hk; simp [semW] at hs; done)
      | (simp only [Option.map_eq_some_iff, Prod.mk.injEq] at hk
         obtain ⟨_, _, rfl, rfl⟩ := hk
         simp [semW] at hs)
  | recv _ _ _ =>
    simp only [kindOf, hop] at hk
    repeat' split at hk
    all_goals first
      | (cases hk; done)
      | (cases hk; simp [semW] at hs; done)
      | (simp only [Option.map_eq_some_iff, Prod.mk.injEq] at hk
         obtain ⟨_, _, rfl, rfl⟩ := hk
         simp [semW] at hs)
  | select _ _ =>
    simp only [kindOf, hop] at hk
    repeat' split at hk
    all_goals first
      | (cases hk; done)
      | (cases hk; simp [semW] at hs; done)
      | (simp only [Option.map_eq_some_iff, Prod.mk.injEq] at hk
         obtain ⟨_, _, rfl, rfl⟩ := hk
         simp [semW] at hs)
  | binOp op t x y yt =>
    cases op <;> simp only [kindOf, hop, Option.map_eq_some_iff, Option.some.injEq, Prod.mk.injEq] at hk
    case eql =>
      obtain ⟨k', hk', rfl, rfl⟩ := hk
      rcases eqKind_shape hk' with rfl | ⟨rfl, _⟩ | ⟨_, rfl, _⟩ | ⟨_, rfl, _⟩ | ⟨_, _, rfl, _⟩ | ⟨_, _, _, rfl, _⟩ | ⟨_, rfl, _⟩ | ⟨_, rfl, _⟩ <;> simp [semW] at hs
    case neq =>
      obtain ⟨k', hk', rfl, rfl⟩ := hk
      rcases eqKind_shape hk' with rfl | ⟨rfl, _⟩ | ⟨_, rfl, _⟩ | ⟨_, rfl, _⟩ | ⟨_, _, rfl, _⟩ | ⟨_, _, _, rfl, _⟩ | ⟨_, rfl, _⟩ | ⟨_, rfl, _⟩ <;> simp [semW] at hs
    all_goals
      obtain ⟨rfl, rfl⟩ := hk
      simp [semW] at hs
end Go.Cs
namespace Go.Cs
variable {P : Program} {E : Env} {G : List Nat} {β : Ren} {H : Heap} {n : Nat} {ρ : Operand → Value} {o : Oper} {w : World}
def SNrange (H : Heap) (n : Nat) (post : Value → Heap → Nat → Prop) : List Value → Prop
  | [.map none] => n < big ∧ post (ptrTo n) (aput H n (.miter none 0 [] 0)) (n + 1)
  | [.map (some b)] => n < big ∧ ∃ es clk, aget H b = some (.map es clk) ∧ post (ptrTo n) (aput H n (.miter (some b) clk [] clk)) (n + 1)
  | _ => False
def SNnext (H : Heap) (n : Nat) (post : Value → Heap → Nat → Prop) : List Value → Prop
  | [.pointer (some ⟨r, 0, none⟩)] =>
    (∃ since seen last, aget H r = some (.miter none since seen last) ∧ post (.tuple #[.bool false]) H n) ∨
    ∃ m since seen last es clk, aget H r = some (.miter (some m) since seen last) ∧ aget H m = some (.map es clk) ∧ (∀ e ∈ es, e.born < since) ∧ since ≤ last ∧
      ((∀ e ∈ es, e.born ∈ seen) → post (.tuple #[.bool false]) H n) ∧ ∀ e ∈ es, e.born ∉ seen → post (.tuple #[.bool true, e.key, e.val]) (aput H r (.miter (some m) since (seen ++ [e.born]) clk)) n
  | _ => False
def SNentry (H : Heap) (n : Nat) (post : Value → Heap → Nat → Prop) : List Value → Prop
  | [.pointer (some ⟨r, 0, none⟩)] => ∃ m since seen last es e, aget H r = some (.miter (some m) since (seen ++ [e.born]) last) ∧ aget H m = some (.map es last) ∧ (es.map (·.born)).Nodup ∧ e ∈ es ∧ post (.tuple #[e.key, e.val]) H n
  | _ => False
def SN (k : Kind) (vs : List Value) (H : Heap) (n : Nat) (post : Value → Heap → Nat → Prop) : Prop :=
  match k with
  | .rangeMap => SNrange H n post vs
  | .nextMap => SNnext H n post vs
  | .entry => SNentry H n post vs
  | _ => False
theorem SNrange.mono {vs : List Value} {post post' : Value → Heap → Nat → Prop} (hp : ∀ v H n, post v H n → post' v H n) (h : SNrange H n post vs) : SNrange H n post' vs := by
  unfold SNrange at *
  split <;> rename_i heq <;> simp only at h
  · exact ⟨h.1, hp _ _ _ h.2⟩
  · obtain ⟨h0, es, clk, h1, h2⟩ := h; exact ⟨h0, es, clk, h1, hp _ _ _ h2⟩
theorem SNnext.mono {vs : List Value} {post post' : Value → Heap → Nat → Prop} (hp : ∀ v H n, post v H n → post' v H n) (h : SNnext H n post vs) : SNnext H n post' vs := by
  unfold SNnext at *
  split <;> rename_i heq <;> simp only at h
  · rcases h with ⟨a, b, c, h1, h2⟩ | ⟨m, a, b, c, es, clk, h1, h2, h3, h4, h5, h6⟩
    · exact .inl ⟨a, b, c, h1, hp _ _ _ h2⟩
    · exact .inr ⟨m, a, b, c, es, clk, h1, h2, h3, h4, fun h => hp _ _ _ (h5 h), fun e he hn => hp _ _ _ (h6 e he hn)⟩
theorem SNentry.mono {vs : List Value} {post post' : Value → Heap → Nat → Prop} (hp : ∀ v H n, post v H n → post' v H n) (h : SNentry H n post vs) : SNentry H n post' vs := by
  unfold SNentry at *
  split <;> rename_i heq <;> simp only at h
  · obtain ⟨m, a, b, c, es, e, h1, h2, h3, h4, h5⟩ := h; exact ⟨m, a, b, c, es, e, h1, h2, h3, h4, hp _ _ _ h5⟩
theorem SN.mono {k : Kind} {vs : List Value} {post post' : Value → Heap → Nat → Prop} (hp : ∀ v H n, post v H n → post' v H n) (h : SN k vs H n post) : SN k vs H n post' := by
  unfold SN at *
  split <;> simp only at h
  · exact h.mono hp
  · exact h.mono hp
  · exact h.mono hp
def ActsN (P : Program) (G : List Nat) (β : Ren) (n : Nat) (ρ : Operand → Value) (o : Oper) (w : World) (post : Value → Heap → Nat → Prop) : Prop :=
  ∃ v v' w' β' H' n', (execOp ρ o).run P w = .ok (.value v') w' ∧ VR β' v v' ∧ HR G β' H' n' w' ∧ Fr β n w β' n' w' ∧ post v H' n'
theorem actsN_value {post : Value → Heap → Nat → Prop} {s : Sem Value} {v v' : Value} {w' : World} {β' : Ren} {H' : Heap} {n' : Nat} (he : execOp ρ o = (do pure (Next.value (← s)))) (h : s.run P w = .ok v' w') (hv : VR β' v v') (hr : HR G β' H' n' w') (hf : Fr β n w β' n' w') (hp : post v H' n') :
    ActsN P G β n ρ o w post := ⟨v, v', w', β', H', n', by rw [he]; exact run_okv2 h, hv, hr, hf, hp⟩
theorem ERs.mem {β : Ren} : ∀ {xs ys : List MapEntry}, ERs β xs ys → ∀ {y : MapEntry}, y ∈ ys → ∃ x ∈ xs, VR β x.key y.key ∧ VR β x.val y.val ∧ x.born = y.born
  | _, _, .cons a b c d, y, hy => by
    rcases List.mem_cons.1 hy with h | h
    · subst h; exact ⟨_, List.mem_cons_self, a, b, c⟩
    · obtain ⟨x, h1, h2⟩ := ERs.mem d h; exact ⟨x, List.mem_cons_of_mem _ h1, h2⟩
theorem ERs.mem' {β : Ren} : ∀ {xs ys : List MapEntry}, ERs β xs ys → ∀ {x : MapEntry}, x ∈ xs → ∃ y ∈ ys, VR β x.key y.key ∧ VR β x.val y.val ∧ x.born = y.born
  | _, _, .cons a b c d, y, hy => by
    rcases List.mem_cons.1 hy with h | h
    · subst h; exact ⟨_, List.mem_cons_self, a, b, c⟩
    · obtain ⟨x, h1, h2⟩ := ERs.mem' d h; exact ⟨x, List.mem_cons_of_mem _ h1, h2⟩
theorem ERs.borns {β : Ren} : ∀ {xs ys : List MapEntry}, ERs β xs ys → xs.map (·.born) = ys.map (·.born)
  | _, _, .nil => rfl
  | _, _, .cons a b c d => by simp [c, ERs.borns d]
theorem HR.drewn (hr : HR G β H n w) : HR G β H n w.drew := ⟨hr.glob, hr.dom, hr.fin, hr.inj, hr.obj⟩
theorem kind_N {k : Kind} {args : List Operand} (hk : kindOf P o = some (k, args)) (h : k = .rangeMap ∨ k = .nextMap ∨ k = .entry) :
    (∃ t x a b, o.op = .range t x ∧ P.underlying t = some (.map a b) ∧ args = [x] ∧ k = .rangeMap) ∨ (∃ x, o.op = .next x false ∧ args = [x] ∧ k = .nextMap) ∨ (∃ x, o.op = .entry x ∧ args = [x] ∧ k = .entry) := by
  cases hop : o.op with
  | range t x =>
    simp only [kindOf, hop] at hk
    split at hk
    · cases hk; rcases h with h | h | h <;> cases h
    · rename_i a b hu; cases hk; exact .inl ⟨t, x, a, b, rfl, hu, rfl, rfl⟩
    · cases hk
  | next x b =>
    cases b
    · simp only [kindOf, hop, Option.some.injEq, Prod.mk.injEq] at hk
      obtain ⟨rfl, rfl⟩ := hk
      exact .inr (.inl ⟨x, rfl, rfl, rfl⟩)
    · simp only [kindOf, hop, Option.some.injEq, Prod.mk.injEq] at hk
      obtain ⟨rfl, rfl⟩ := hk
      rcases h with h | h | h <;> cases h
  | entry x =>
    simp only [kindOf, hop, Option.some.injEq, Prod.mk.injEq] at hk
    obtain ⟨rfl, rfl⟩ := hk
    exact .inr (.inr ⟨x, rfl, rfl, rfl⟩)
  | binOp op t x y yt =>
    exfalso
    rcases h with rfl | rfl | rfl <;>
    (cases op <;> simp only [kindOf, hop, Option.map_eq_some_iff, Option.some.injEq, Prod.mk.injEq] at hk
     case eql =>
      obtain ⟨k', hk', e, _⟩ := hk
      rcases eqKind_shape hk' with rfl | ⟨rfl, _⟩ | ⟨_, rfl, _⟩ | ⟨_, rfl, _⟩ | ⟨_, _, rfl, _⟩ | ⟨_, _, _, rfl, _⟩ | ⟨_, rfl, _⟩ | ⟨_, rfl, _⟩ <;> cases e
     case neq =>
      obtain ⟨k', hk', e, _⟩ := hk
      rcases eqKind_shape hk' with rfl | ⟨rfl, _⟩ | ⟨_, rfl, _⟩ | ⟨_, rfl, _⟩ | ⟨_, _, rfl, _⟩ | ⟨_, _, _, rfl, _⟩ | ⟨_, rfl, _⟩ | ⟨_, rfl, _⟩ <;> cases e
     all_goals
      obtain ⟨e, _⟩ := hk
      cases e)
  | call c =>
    exfalso
    rcases h with rfl | rfl | rfl <;>
    (cases hc : c.callee with
    | value f => cases f <;> simp [kindOf, hop, hc] at hk
    | invoke r name => simp [kindOf, hop, hc] at hk
    | builtin b =>
      cases b <;> simp only [kindOf, hop, hc] at hk
      all_goals
        repeat' split at hk
        all_goals first
          | (cases hk; done)
          | (simp [Option.map_eq_some_iff] at hk; done))
  | _ =>
    exfalso
    rcases h with rfl | rfl | rfl <;>
    (simp only [kindOf, hop] at hk
     repeat' split at hk
     all_goals first
      | (cases hk; done)
      | (simp [Option.map_eq_some_iff] at hk; done))
theorem alloc_step {post : Value → Heap → Nat → Prop} {s : Sem Value} {o' : Obj} {ob : AObj} (hr : HR G β H n w) (hn : n < big) (he : execOp ρ o = (do pure (Next.value (← s)))) (h : s.run P w = .ok (.pointer (some ⟨w.heap.size, 0, none⟩)) { w with heap := w.heap.push o' })
    (ho : ∀ β', Ren.le β β' → OR β' ⟨w.heap.size, 0, none⟩ ob o') (hp : post (ptrTo n) (aput H n ob) (n + 1)) : ActsN P G β n ρ o w post := by
  have hle : Ren.le β (β.add n ⟨w.heap.size, 0, none⟩) := Ren.le_add (hr.fresh hn)
  exact actsN_value he h (ptr_new (w := w) (by simp [Ren.add])) (hr.alloc hn (w' := { w with heap := w.heap.push o' }) rfl rfl (ho _ hle)) (Fr.alloc hr hn (w' := { w with heap := w.heap.push o' }) rfl rfl rfl rfl rfl) hp
theorem SN_sound {k : Kind} {args : List Operand} {vs : List Value} {post : Value → Heap → Nat → Prop} (hr : HR G β H n w) (hk : kindOf P o = some (k, args)) (hvs : VRs β vs (args.map ρ)) (hs : SN k vs H n post) : ActsN P G β n ρ o w post := by
  have hkind : k = .rangeMap ∨ k = .nextMap ∨ k = .entry := by
    unfold SN at hs
    split at hs
    · exact .inl rfl
    · exact .inr (.inl rfl)
    · exact .inr (.inr rfl)
    · exact hs.elim
  rcases kind_N hk hkind with ⟨t, x, a, b, hop, hu, rfl, rfl⟩ | ⟨x, hop, rfl, rfl⟩ | ⟨x, hop, rfl, rfl⟩
  · simp only [SN] at hs
    match vs, hvs with
    | [v], hvs =>
      unfold SNrange at hs
      split at hs
      · rename_i heq; cases heq
        have e := hvs.hd.1.flatEq rfl
        refine alloc_step (s := Instr.range t (ρ x)) (o' := .mapIter none 0 #[] 0) hr hs.1 (by simp only [execOp, hop]) ?_ (fun β' _ => .miter0 (seen := #[]) rfl) hs.2
        simp [Instr.range, run_underlying hu, e]
      · rename_i b0 heq; cases heq
        obtain ⟨h0, es, clk, h1, h2⟩ := hs
        obtain ⟨e, he, hx⟩ := hvs.hd.1.map'
        obtain ⟨cc, g1, g2⟩ := hr.mapObj he h1
        refine alloc_step (s := Instr.range t (ρ x)) (o' := .mapIter (some e.blk) clk #[] clk) hr h0 (by simp only [execOp, hop]) ?_ (fun β' hle => .miter (seen := #[]) rfl (hle _ _ he)) h2
        simp [Instr.range, run_underlying hu, hx, getObj, Sem.run, g1]
      · exact hs.elim
  · simp only [SN] at hs
    match vs, hvs with
    | [v], hvs =>
      unfold SNnext at hs
      split at hs
      · rename_i r heq; cases heq
        obtain ⟨e, he, hx⟩ := hvs.hd.1.ptr'
        rcases hs with ⟨since, seen, last, h1, h2⟩ | ⟨m, since, seen, last, es, clk, h1, h2, h3, h4, h5, h6⟩
        · obtain ⟨ob, g1, g2⟩ := hr.obj he h1
          cases g2 with
          | miter0 hsh =>
            refine actsN_value (w' := w) (v' := .tuple #[.bool false]) (s := Instr.next (ρ x) false o.type) (by simp only [execOp, hop]) ?_ (.tuple (.cons (VR.b _) .nil)) hr (Fr.refl _ _ _) h2
            simp [Instr.next, hx, hsh, getObj, Sem.run, g1]
        · obtain ⟨ob, g1, g2⟩ := hr.obj he h1
          cases g2 with
          | miter hsh hm =>
            rename_i f seen'
            obtain ⟨cc, q1, q2⟩ := hr.mapObj hm h2
            have hold : ∀ x ∈ cc.toList, x.born < since := by
              intro y hy
              obtain ⟨x, hx, _, _, hb⟩ := q2.mem hy
              rw [← hb]; exact h3 x hx
            have hx' : ρ x = .pointer (some ⟨e.blk, 0, none⟩) := by rw [hx, hsh]
            rcases run_next_at (P := P) w o.type e.blk f.blk since last seen' cc clk g1 q1 hold h4 with ⟨z0, z1⟩ | ⟨y, hy, w1, hw1, z1⟩
            · refine actsN_value (w' := w) (v' := .tuple #[.bool false]) (s := Instr.next (ρ x) false o.type) (by simp only [execOp, hop]) (by rw [hx']; exact z1) (.tuple (.cons (VR.b _) .nil)) hr (Fr.refl _ _ _) (h5 ?_)
              intro z hz
              obtain ⟨y, hy, _, _, hb⟩ := q2.mem' hz
              have : leftOf cc seen' = #[] := Array.eq_empty_of_size_eq_zero z0
              unfold leftOf at this
              rw [Array.filter_eq_empty_iff] at this
              have := this y (by simpa using hy)
              rw [hb]
              simpa using this
            · have hy' : y ∈ cc.toList ∧ y.born ∉ seen'.toList := by
                unfold leftOf at hy
                simp at hy
                exact ⟨by simpa using hy.1, by simpa using hy.2⟩
              obtain ⟨z, hz, k1, k2, k3⟩ := q2.mem hy'.1
              have hr1 : HR G β H n w1 := by rcases hw1 with h | h <;> subst h <;> first | exact hr | exact hr.drewn
              have e1 : w1.heap = w.heap ∧ w1.os = w.os ∧ w1.tape = w.tape ∧ w1.output = w.output := by rcases hw1 with h | h <;> subst h <;> exact ⟨rfl, rfl, rfl, rfl⟩
              have hlt : e.blk < w1.heap.size := (hr1.dom he).2
              refine actsN_value (v := .tuple #[.bool true, z.key, z.val]) (s := Instr.next (ρ x) false o.type) (by simp only [execOp, hop]) (by rw [hx']; exact z1) (.tuple (.cons (VR.b _) (.cons k1 (.cons k2 .nil)))) (H' := aput H r (.miter (some m) since (seen'.toList ++ [z.born]) clk)) (n' := n)
                (hr1.update he h1 rfl ?_ ?_ ?_ ?_ (o' := .mapIter (some f.blk) since (seen'.push y.born) clk)) ?_ (h6 z hz (by rw [k3]; exact hy'.2))
              · simp [ChangeMaps.setBlock]
              · simp [ChangeMaps.setBlock, hlt]
              · intro k hk; simp only [ChangeMaps.setBlock]; exact Array.getElem?_setIfInBounds_ne (Ne.symm hk)
              · have := OR.miter (β := β) (e := e) (since := since) (last := clk) (seen := seen'.push y.born) hsh hm
                rw [k3]
                simpa using this
              · refine Fr.update (β := β) (n := n) he ?_ ?_ ?_ ?_ ?_
                · simp [ChangeMaps.setBlock, e1.1]
                · intro k hk; simp only [ChangeMaps.setBlock]; rw [Array.getElem?_setIfInBounds_ne (Ne.symm hk), e1.1]
                · exact e1.2.1
                · exact e1.2.2.1
                · exact e1.2.2.2
      · exact hs.elim
  · simp only [SN] at hs
    match vs, hvs with
    | [v], hvs =>
      unfold SNentry at hs
      split at hs
      · rename_i r heq; cases heq
        obtain ⟨e, he, hx⟩ := hvs.hd.1.ptr'
        obtain ⟨m, since, seen, last, es, en, h1, h2, h3, h4, h5⟩ := hs
        obtain ⟨ob, g1, g2⟩ := hr.obj he h1
        generalize hseen : seen ++ [en.born] = sl at g2
        cases g2 with
        | miter hsh hm =>
          rename_i f seen'
          obtain ⟨cc, q1, q2⟩ := hr.mapObj hm h2
          obtain ⟨y, hy, k1, k2, k3⟩ := q2.mem' h4
          have hx' : ρ x = .pointer (some ⟨e.blk, 0, none⟩) := by rw [hx, hsh]
          have hs' : seen' = (seen.toArray).push y.born := by
            apply Array.ext'
            rw [← hseen, k3]; simp
          refine actsN_value (w' := w) (s := Instr.entry (ρ x)) (by simp only [execOp, hop]) ?_ (.tuple (.cons k1 (.cons k2 .nil))) hr (Fr.refl _ _ _) h5
          rw [hx']
          exact run_entry_at w e.blk f.blk since seen.toArray cc last y (by rw [g1, hs']) q1 hy (by rw [← q2.borns]; exact h3)
      · exact hs.elim
end Go.Cs
namespace Go.Cs
variable {P : Program} {E : Env} {G : List Nat} {β : Ren} {H : Heap} {n : Nat} {ρ : Operand → Value} {o : Oper} {w : World}
theorem zeroCells_flat {z : Array Value} (h : flats z.toList = true) (hz : 0 < z.size) (k : Nat) : flats (Builtin.zeroCells z k).toList = true := by
  unfold flats at *
  rw [List.all_eq_true] at *
  intro x hx
  simp only [Builtin.zeroCells, Array.toList_map, Array.toList_range, List.mem_map] at hx
  obtain ⟨i, _, rfl⟩ := hx
  have hlt : i % z.size < z.size := Nat.mod_lt _ hz
  rw [getElem!_pos z _ hlt]
  exact h _ (by simp)
theorem run_append_growsX {A : Array TypeId} {T t el u : TypeId} {i : TypeInfo} {z : List Value} (hE : Elem P t el i z) (h0 : A[0]? = some t) (h1 : A[1]? = some u) (h2 : ∃ d, P.underlying u = some d ∧ ∀ k, d ≠ .int k) {base : Option Addr} {len cap m : Nat} {y : Value} {old new : List Value}
    (hlen : (Builtin.lenOf y).run P w = .ok m w) (hfirst : ∀ w', w'.heap = w.heap → (Builtin.firstCells i.size m y).run P w' = .ok new.toArray w') (hfit : ¬ len + m ≤ cap) (hlc : len ≤ cap) (hbound : (2 * (len + m) + 1000) * i.bytes ≤ 2 ^ 40)
    (hold : ∀ w', w'.heap = w.heap → (Builtin.firstCells i.size len (.slice base len cap)).run P w' = .ok old.toArray w') (hl1 : old.length = len * i.size) (hl2 : new.length = m * i.size) (hzl : z.length = i.size) :
    ∃ newCap rest, len + m ≤ newCap ∧ rest.length = (newCap - (len + m)) * i.size ∧ flats rest = true ∧
      (Builtin.append_ A T #[.slice base len cap, y]).run P w = .ok (.slice (some ⟨w.heap.size, 0, none⟩) (len + m) newCap) { w with heap := w.heap.push (.cells (old ++ new ++ rest).toArray el), drawn := w.drawn + 1 } := by
  have hs : sizeOfT P el = some i.size := by simp [sizeOfT, hE.hi]
  obtain ⟨d, hd, hdk⟩ := h2
  obtain ⟨zv, z1, z2, z3, z4⟩ := run_zeroOf { w with drawn := w.drawn + 1 } hE.hz
  have hzs : zv.cells.size = i.size := by rw [← Array.length_toList, z2]; exact hzl
  have hb2 : Builtin.nextslicecap (len + m) cap * i.bytes ≤ 2 ^ 48 := by
    have := nextcap_le (need := len + m) (cap := cap) (by omega)
    have := Nat.mul_le_mul_right i.bytes this
    omega
  have hbytes := hE.hb
  have hcut : len + m ≤ (Question.appendCap (len + m) cap el).cut (w.tape w.drawn (.appendCap (len + m) cap el)) := by simp [Question.cut]
  generalize hnc : (Question.appendCap (len + m) cap el).cut (w.tape w.drawn (.appendCap (len + m) cap el)) = newCap at hcut
  have hch : (choose (.appendCap (len + m) cap el)).run P w = .ok newCap { w with drawn := w.drawn + 1 } := by rw [run_choose]; simp [Question.forced, hnc]
  have e1 := hold { w with drawn := w.drawn + 1 } rfl
  have e2 := hfirst { w with drawn := w.drawn + 1 } rfl
  refine ⟨newCap, (Builtin.zeroCells zv.cells (newCap - (len + m))).toList, hcut, ?_, zeroCells_flat (by rw [z2]; exact z3) (by rw [hzs]; exact hE.hsz) _, ?_⟩
  · simp [Builtin.zeroCells, hzs]
  · have ea : (old ++ new ++ (Builtin.zeroCells zv.cells (newCap - (len + m))).toList).toArray = (old ++ new).toArray ++ Builtin.zeroCells zv.cells (newCap - (len + m)) := by
      apply Array.ext'; simp
    rw [ea]
    simp only [Builtin.append_, h0, h1]
    simp only [List.getElem?_toArray, List.getElem?_cons_zero, List.getElem?_cons_succ, Sem.run_bind, run_underlying hE.hu, Result.andThen_ok, run_size w hs, run_underlying hd, Sem.run_pure]
    cases d <;> first
      | (exact absurd rfl (hdk _))
      | (simp only [Bool.false_eq_true, if_false, hlen, Result.andThen_ok, hfit, Bool.not_false, if_true, Sem.run_bind, run_info w hE.hi, false_or]
         rw [if_neg (by intro h; have := h.2; omega)]
         simp only [Sem.run_bind, run_info w hE.hi, Result.andThen_ok]
         rw [if_neg (by omega)]
         simp only [Sem.run_bind, hch, Result.andThen_ok, run_info _ hE.hi, run_askRoom, e1, e2, z1, newRow, run_newObj, Sem.run_pure, List.append_toArray])
def knownRoom (H : Heap) (cap : Nat) : Option Addr → Prop
  | none => cap = 0
  | some ⟨b, _, none⟩ => ∃ cs t, aget H b = some (.cells cs t none)
  | _ => False
def SNapp (k : Kind) (vs : List Value) (H : Heap) (n : Nat) (post : Value → Heap → Nat → Prop) : Prop :=
  match k, vs with
  | .append t es bytes _, [.slice base len cap, .slice base2 m cap2] => ∃ new old, cellsOfSlice H es (.slice base2 m cap2) = some new ∧ cellsOfSlice H es (.slice base len cap) = some old ∧ (2 * (len + m) + 1000) * bytes ≤ 2 ^ 40 ∧
      len ≤ cap ∧ ¬ len + m ≤ cap ∧ knownRoom H cap base ∧
      ∀ nc rest, len + m ≤ nc → rest.length = (nc - (len + m)) * es → flats rest = true → post (.slice (some ⟨n, 0, none⟩) (len + m) nc) (aput H n (.cells (old ++ new ++ rest) t none)) (n + 1)
  | _, _ => False
theorem SNapp.mono {k : Kind} {vs : List Value} {post post' : Value → Heap → Nat → Prop} (hp : ∀ v H n, post v H n → post' v H n) (h : SNapp k vs H n post) : SNapp k vs H n post' := by
  unfold SNapp at *
  split <;> simp only at h
  · obtain ⟨a, b, h1, h2, h3, h4, h5, h6, h7⟩ := h
    exact ⟨a, b, h1, h2, h3, h4, h5, h6, fun nc rest q1 q2 q3 => hp _ _ _ (h7 nc rest q1 q2 q3)⟩
theorem SNapp_sound {k : Kind} {args : List Operand} {vs : List Value} {post : Value → Heap → Nat → Prop} (hr : HR G β H n w) (hnb : n < big) (hk : kindOf P o = some (k, args)) (hvs : VRs β vs (args.map ρ)) (hs : SNapp k vs H n post) : ActsN P G β n ρ o w post := by
  unfold SNapp at hs
  split at hs
  case h_2 => exact hs.elim
  rename_i el es bytes zz base len cap base2 m cap2
  obtain ⟨new, old, hn, ho, hb, hlc, hfit, hroom, hpost⟩ := hs
  cases hop : o.op with
  | call c =>
    cases hc : c.callee with
    | value f => cases f <;> simp [kindOf, hop, hc] at hk
    | invoke r name => simp [kindOf, hop, hc] at hk
    | builtin b =>
      cases b <;> simp only [kindOf, hop, hc] at hk
      case append =>
        split at hk
        · rename_i t u x y h0 h1 hargs
          split at hk
          · split at hk
            · split at hk <;> cases hk
            · cases hk
          · rename_i el' e2 hu hu2
            split at hk
            · rename_i i z hi hz
              split at hk
              · rename_i hh
                simp only [Option.some.injEq, Prod.mk.injEq, Kind.append.injEq] at hk
                obtain ⟨⟨rfl, rfl, rfl, rfl⟩, rfl⟩ := hk
                obtain ⟨cs, hcall⟩ := builtin_call (ρ := ρ) hop hc
                have ha : c.args.map ρ = #[ρ x, ρ y] := by apply Array.ext'; simp [hargs]
                have hvs' : VRs β [.slice base len cap, .slice base2 m cap2] [ρ x, ρ y] := hvs
                obtain ⟨a', l, c', hy, hq, hlen2⟩ := cellsOfSlice_sound hr hvs'.hd.2.hd.1 hn
                have hm : l = m := by
                  obtain ⟨_, _, e, _⟩ := hvs'.hd.2.hd.1.sliceAny
                  rw [hy] at e; cases e; rfl
                subst hm
                obtain ⟨new', hnew, hfirst⟩ : ∃ new', VRs β new new' ∧ ∀ w', w'.heap = w.heap → (Builtin.firstCells i.size l (ρ y)).run P w' = .ok new'.toArray w' := by
                  rw [hy]
                  rcases hq with ⟨rfl, rfl⟩ | ⟨A, rfl, hsp, cc, tt, ff, hcc⟩
                  · exact ⟨[], .nil, fun w' _ => by cases a' with
                    | none => simp [Builtin.firstCells]
                    | some A => simp [Builtin.firstCells, loadCells, loadCellsFrom]⟩
                  · by_cases hz0 : l * i.size = 0
                    · have : new = [] := List.eq_nil_of_length_eq_zero (by omega)
                      subst this
                      exact ⟨[], .nil, fun w' _ => by simp [Builtin.firstCells, hz0, loadCells, loadCellsFrom]⟩
                    · obtain ⟨r1, r2, r3⟩ := hcc hz0
                      exact ⟨_, r3, fun w' hw' => by
                        simp only [Builtin.firstCells]
                        exact run_loadL (w := w') A cc hsp (by rw [hw']; exact r1) (l * i.size) r2⟩
                obtain ⟨a1, l1, c1, hx, hq1, hlen1⟩ := cellsOfSlice_sound hr hvs'.hd.1 ho
                have hcap : ρ x = .slice a1 len cap := by
                  match base, hroom, hvs'.hd.1 with
                  | none, hroom, hv =>
                    obtain ⟨g1, ⟨g2, this⟩ | ⟨g2, _⟩⟩ := hv.nilsliceA
                    · subst g1; subst g2
                      rw [this] at hx ⊢; cases hx; rfl
                    · have : cap = 0 := hroom
                      omega
                  | some ⟨b, off, none⟩, hroom, hv =>
                    obtain ⟨cs, tt, hg⟩ := hroom
                    obtain ⟨e, o', cq, he, ex, hh2⟩ := hv.slice'
                    obtain ⟨cb, fr, k1, k2, k3, k4, k5⟩ := hr.cells he hg
                    have hrm : e.room = none := by
                      rcases k5 with ⟨_, a, _⟩ | ⟨es, h, _⟩
                      · exact a
                      · cases h
                    have : cq = cap := by
                      rcases hh2 with ⟨_, _, h⟩ | ⟨_, _, h, _⟩
                      · exact h
                      · rw [hrm] at h; cases h
                    subst this
                    rw [ex] at hx ⊢; cases hx; rfl
                  | some ⟨b, off, some _⟩, hroom, _ => exact hroom.elim
                rw [hcap] at hx
                cases hx
                obtain ⟨old', hold1, hold2⟩ : ∃ old', VRs β old old' ∧ ∀ w', w'.heap = w.heap → (Builtin.firstCells i.size len (.slice a1 len cap)).run P w' = .ok old'.toArray w' := by
                  rcases hq1 with ⟨rfl, rfl⟩ | ⟨A, rfl, hsp, cc, tt, ff, hcc⟩
                  · exact ⟨[], .nil, fun w' _ => by cases a1 with
                    | none => simp [Builtin.firstCells]
                    | some A => simp [Builtin.firstCells, loadCells, loadCellsFrom]⟩
                  · by_cases hz0 : len * i.size = 0
                    · have : old = [] := List.eq_nil_of_length_eq_zero (by omega)
                      subst this
                      exact ⟨[], .nil, fun w' _ => by simp [Builtin.firstCells, hz0, loadCells, loadCellsFrom]⟩
                    · obtain ⟨r1, r2, r3⟩ := hcc hz0
                      exact ⟨_, r3, fun w' hw' => by
                        simp only [Builtin.firstCells]
                        exact run_loadL (w := w') A cc hsp (by rw [hw']; exact r1) (len * i.size) r2⟩
                obtain ⟨nc, rest, q1, q2, q3, q4⟩ := run_append_growsX (A := c.argTypes) (T := o.type) (w := w) (old := old') (new := new') ⟨hu, hi, hz, hh.2.1, hh.2.2⟩ h0 h1 ⟨_, hu2, by simp⟩ (y := ρ y) (by rw [hy]; rfl) hfirst hfit hlc hb hold2
                  (by rw [← hold1.length]; exact hlen1) (by rw [← hnew.length]; exact hlen2) hh.1
                have hrel : VRs β (old ++ new ++ rest) (old' ++ new' ++ rest) := (hold1.append hnew).append (VRs.flat q3)
                refine actsN_value (s := Builtin.append_ c.argTypes o.type (c.args.map ρ)) (by rw [hcall]; rfl) (by rw [ha, hcap]; exact q4) (v := .slice (some ⟨n, 0, none⟩) (len + l) nc) (β' := β.add n ⟨w.heap.size, 0, none⟩) (.slice Ren.add_self rfl)
                  (hr.alloc hnb (w' := { w with heap := w.heap.push (.cells (old' ++ new' ++ rest).toArray el'), drawn := w.drawn + 1 }) rfl rfl (.exact rfl rfl (hrel.mono (Ren.le_add (hr.fresh hnb))) rfl))
                  (Fr.alloc hr hnb (w' := { w with heap := w.heap.push (.cells (old' ++ new' ++ rest).toArray el'), drawn := w.drawn + 1 }) rfl rfl rfl rfl rfl) (hpost nc rest q1 q2 q3)
              · cases hk
            · cases hk
          · cases hk
        · cases hk
      all_goals
        repeat' split at hk
        all_goals first
          | (cases hk; done)
          | (simp [Option.map_eq_some_iff] at hk; done)
  | binOp op t x y yt =>
    exfalso
    cases op <;> simp only [kindOf, hop, Option.map_eq_some_iff, Option.some.injEq, Prod.mk.injEq] at hk
    case eql =>
      obtain ⟨k', hk', e, _⟩ := hk
      rcases eqKind_shape hk' with rfl | ⟨rfl, _⟩ | ⟨_, rfl, _⟩ | ⟨_, rfl, _⟩ | ⟨_, _, rfl, _⟩ | ⟨_, _, _, rfl, _⟩ | ⟨_, rfl, _⟩ | ⟨_, rfl, _⟩ <;> cases e
    case neq =>
      obtain ⟨k', hk', e, _⟩ := hk
      rcases eqKind_shape hk' with rfl | ⟨rfl, _⟩ | ⟨_, rfl, _⟩ | ⟨_, rfl, _⟩ | ⟨_, _, rfl, _⟩ | ⟨_, _, _, rfl, _⟩ | ⟨_, rfl, _⟩ | ⟨_, rfl, _⟩ <;> cases e
    all_goals
      obtain ⟨e, _⟩ := hk
      cases e
  | next x b => cases b <;> simp [kindOf, hop] at hk
  | _ =>
    exfalso
    simp only [kindOf, hop] at hk
    repeat' split at hk
    all_goals first
      | (cases hk; done)
      | (simp [Option.map_eq_some_iff] at hk; done)
def WP (k : Kind) (vs : List Value) (H : Heap) (n : Nat) (post : Value → Heap → Nat → Prop) : Prop := (∃ v H' n', semW k vs H n = some (v, H', n') ∧ post v H' n') ∨ SNapp k vs H n post
theorem WP.mono {k : Kind} {vs : List Value} {post post' : Value → Heap → Nat → Prop} (hp : ∀ v H n, post v H n → post' v H n) (h : WP k vs H n post) : WP k vs H n post' :=
  h.imp (fun ⟨v, H', n', h1, h2⟩ => ⟨v, H', n', h1, hp _ _ _ h2⟩) (SNapp.mono hp)
theorem WP_sound {k : Kind} {args : List Operand} {vs : List Value} {post : Value → Heap → Nat → Prop} (hr : HR G β H n w) (hnb : n < big) (hk : kindOf P o = some (k, args)) (hvs : VRs β vs (args.map ρ)) (hs : WP k vs H n post) : ∃ v H' n', Acts P G β n ρ o w v H' n' ∧ post v H' n' := by
  rcases hs with ⟨v, H', n', h1, h2⟩ | h
  · exact ⟨v, H', n', semW_sound hr hnb hk hvs h1, h2⟩
  · obtain ⟨v, v', w', β', H', n', h1, h2, h3, h4, h5⟩ := SNapp_sound hr hnb hk hvs h
    exact ⟨v, H', n', ⟨v', w', β', .inl h1, h2, h3, h4⟩, h5⟩
end Go.Cs
namespace Go.Cs
inductive Cls | P | R | A | W | C | D | N
  deriving DecidableEq
def Kind.cls : Kind → Cls
  | .sliceS .. | .sliceA .. | .load1 | .loadN _ | .lookup .. | .lenMap | .toUnsafe | .ofUnsafe .. | .bytesToStr => .R
  | .alloc .. | .box _ | .buildSlice .. | .mkMap | .mkSlice .. | .rangeStr | .strToBytes _ => .A
  | .store _ | .mapUpdate _ | .append .. | .copyB _ | .nextStr | .mapDelete _ | .appendStr _ | .unsafeStr _ => .W
  | .callF _ | .callV | .invoke _ => .C
  | .deferV => .D
  | .rangeMap | .nextMap | .entry => .N
  | _ => .P
structure Step where
  k : Kind
  args : List Operand
  dst : Option Tmp
  guard : Option (Tmp × Bool)
  deriving Inhabited
def stepOf (P : Program) (ops : Array Oper) (o : Oper) : Option Step :=
  match kindOf P o with
  | some (k, args) =>
    match o.guard with
    | none => some { k, args, dst := o.dst, guard := none }
    | some (j, b) => match (ops[j]?).bind (·.dst) with
      | some d => some { k, args, dst := o.dst, guard := some (d, b) }
      | none => none
  | none => none
structure St where
  T : AL Value
  D : List Value
  H : Heap
  n : Nat
def putT (dst : Option Tmp) (v : Value) (T : AL Value) : AL Value :=
  match dst with
  | some d => aput T d v
  | none => T
def wantT (T : AL Value) (g : Option (Tmp × Bool)) : Option Bool :=
  match g with
  | none => some true
  | some (d, b) => match aget T d with
    | some (.bool c) => some (c == b)
    | some (.tuple _) => some false
    | _ => none
def target (E : Env) (k : Kind) (vs : List Value) : Option (FuncId × List Value) :=
  match k with
  | .callF f => some (f, vs)
  | .callV => match vs with
    | .func (.func f) a b :: vs => some (f, a.toList ++ vs ++ b.toList)
    | _ => none
  | .invoke name => match vs with
    | .iface t v :: vs => (E.meth t name).map fun f => (f, v :: vs)
    | _ => none
  | _ => none
def isFn : Value → Bool
  | .func (.func _) _ _ => true
  | _ => false
section
variable (P : Program) (G : List Nat) (E : Env)
def Ret (β : Ren) (n : Nat) (w : World) (post : Value → Heap → Nat → Prop) (v' : Value) (w' : World) : Prop :=
  ∃ v β' H' n', VR β' v v' ∧ HR G β' H' n' w' ∧ Fr β n w β' n' w' ∧ post v H' n'
def RetE (β : Ren) (n : Nat) (w : World) (post : Value → Heap → Nat → Prop) (e : Ending) (w' : World) : Prop :=
  ∃ v', e = .returned v' ∧ Ret G β n w post v' w'
def F (f : FuncId) (args : List Value) (H : Heap) (n : Nat) (post : Value → Heap → Nat → Prop) : Prop :=
  ∀ β w args', VRs β args args' → HR G β H n w →
    ((callFunc f args'.toArray).run P w = .ok (.enter f args'.toArray) w ∧ Calls P f args'.toArray w (RetE G β n w post)) ∨
    (∃ v' w', (callFunc f args'.toArray).run P w = .ok (.value v') w' ∧ Ret G β n w post v' w')
def FD (f : FuncId) (args : List Value) (H : Heap) (n : Nat) (post : Value → Heap → Nat → Prop) : Prop :=
  ∀ β w args', VRs β args args' → HR G β H n w → (callFunc f args'.toArray).run P w = .ok (.enter f args'.toArray) w ∧ ∀ u, CallsD P f args'.toArray u w fun e u' w' => u' = u ∧ RetE G β n w post e w'
def SW (st : Step) (s : St) (post : Value → List Value → Heap → Nat → Prop) : Prop :=
  match wantT s.T st.guard with
  | none => False
  | some false => post undef s.D s.H s.n
  | some true =>
    match evs G s.T st.args with
    | none => False
    | some vs =>
      match st.k.cls with
      | .P => ∃ v, semP E st.k vs = some v ∧ post v s.D s.H s.n
      | .R => ∃ v, semR st.k vs s.H = some v ∧ post v s.D s.H s.n
      | .A => ∃ ob mk, semA st.k vs = some (ob, mk) ∧ s.n < big ∧ post (mk.val s.n) s.D (aput s.H s.n ob) (s.n + 1)
      | .W => s.n < big ∧ WP st.k vs s.H s.n fun v H' n' => post v s.D H' n'
      | .N => SN st.k vs s.H s.n fun v H' n' => post v s.D H' n'
      | .C => ∃ f args, target E st.k vs = some (f, args) ∧ F P G f args s.H s.n fun v H' n' => post v s.D H' n'
      | .D => ∃ d, vs = [d] ∧ isFn d = true ∧ post undef (d :: s.D) s.H s.n
end
inductive DR (β : Ren) : List Value → List Deferred → Prop
  | nil : DR β [] []
  | cons {f : FuncId} {a b a' b' : Array Value} {ds : List Value} {ds' : List Deferred} : VRs β a.toList a'.toList → VRs β b.toList b'.toList → DR β ds ds' →
      DR β (.func (.func f) a b :: ds) ({ target := .fn (.func f) b', args := a' } :: ds')
theorem DR.mono {β β' : Ren} (h : Ren.le β β') : ∀ {v v'}, DR β v v' → DR β' v v'
  | _, _, .nil => .nil
  | _, _, .cons a b c => .cons (a.mono h) (b.mono h) (DR.mono h c)
section
variable {P : Program} {G : List Nat} {E : Env} {ops : Array Oper} {N : Nat} {Q : Exit → Act → World → Prop}
theorem Ret.mono {β : Ren} {n : Nat} {w w' : World} {v' : Value} {post post' : Value → Heap → Nat → Prop} (hp : ∀ v H n, post v H n → post' v H n) (h : Ret G β n w post v' w') : Ret G β n w post' v' w' :=
  let ⟨v, β', H', n', a, b, c, d⟩ := h; ⟨v, β', H', n', a, b, c, hp _ _ _ d⟩
theorem F.mono {f : FuncId} {args : List Value} {H : Heap} {n : Nat} {post post' : Value → Heap → Nat → Prop} (hp : ∀ v H n, post v H n → post' v H n) (h : F P G f args H n post) : F P G f args H n post' := by
  intro β w args' ha hr
  rcases h β w args' ha hr with ⟨h1, h2⟩ | ⟨v', w', h1, h2⟩
  · exact .inl ⟨h1, h2.mono fun e w' ⟨v', he, hv⟩ => ⟨v', he, hv.mono hp⟩⟩
  · exact .inr ⟨v', w', h1, h2.mono hp⟩
theorem SW.mono {st : Step} {s : St} {post post' : Value → List Value → Heap → Nat → Prop} (hp : ∀ v D H n, post v D H n → post' v D H n) (h : SW P G E st s post) : SW P G E st s post' := by
  unfold SW at *
  split
  · rename_i hw; simp only [hw] at h
  · rename_i hw; simp only [hw] at h; exact hp _ _ _ _ h
  · rename_i hw; simp only [hw] at h
    split
    · rename_i he; simp only [he] at h
    · rename_i vs he; simp only [he] at h
      split <;> rename_i hc <;> simp only [hc] at h
      · obtain ⟨v, h1, h2⟩ := h; exact ⟨v, h1, hp _ _ _ _ h2⟩
      · obtain ⟨v, h1, h2⟩ := h; exact ⟨v, h1, hp _ _ _ _ h2⟩
      · obtain ⟨ob, mk, h1, h0, h2⟩ := h; exact ⟨ob, mk, h1, h0, hp _ _ _ _ h2⟩
      · exact ⟨h.1, h.2.mono fun v H n => hp _ _ _ _⟩
      · exact h.mono fun v H n => hp _ _ _ _
      · obtain ⟨f, args, h1, h2⟩ := h; exact ⟨f, args, h1, h2.mono fun v H n => hp _ _ _ _⟩
      · obtain ⟨d, h1, h2, h3⟩ := h; exact ⟨d, h1, h2, hp _ _ _ _ h3⟩
theorem put_tmps (a : Act) (dst : Option Tmp) (v : Value) : (a.put dst v).tmps = match dst with | some d => a.tmps.setIfInBounds d v | none => a.tmps := by
  cases dst <;> rfl
theorem put_defers (a : Act) (dst : Option Tmp) (v : Value) : (a.put dst v).defers = a.defers := by cases dst <;> rfl
theorem TR.putT {β : Ren} {T : AL Value} {a : Act} {dst : Option Tmp} {v v' : Value} (h : TR β N T a.tmps) (hd : ∀ d, dst = some d → d < N) (hv : VR β v v') : TR β N (putT dst v T) (a.put dst v').tmps := by
  rw [put_tmps]
  cases dst with
  | none => exact h
  | some d => exact h.put (hd d rfl) hv
theorem run_methodP {t : TypeId} {name : String} {f : FuncId} (h : methP P t name = some f) (k : Nat) (v : Value) (w : World) : (method (k + 1) t v name).run P w = .ok (f, v) w := by
  unfold methP at h
  cases hi : P.info? t with
  | none => simp [hi] at h
  | some i =>
    simp only [hi] at h
    cases hm : i.methods.find? (·.name == name) with
    | none => simp [hm] at h
    | some m =>
      simp only [hm] at h
      split at h
      · rename_i hp
        have hp' : m.path.toList = [] := by simpa using hp
        split at h
        · rename_i hf hu
          cases h
          simp [method, typeInfo, hi, hm, hp', follow, hf, receiverAt, run_underlying hu, Place.get]
        · cases h
        · rename_i hne hf hu
          cases h
          simp only [method, Sem.run_bind, run_info w hi, Result.andThen_ok, hm, hp', follow, Sem.run_pure, hf, receiverAt, run_underlying hu]
          rename_i d
          cases d <;> simp_all [Place.get]
        · cases h
      · cases h
theorem kind_call {o : Oper} {k : Kind} {args : List Operand} {vs : List Value} {p : FuncId × List Value} (hk : kindOf P o = some (k, args)) (hs : target E k vs = some p) :
    ∃ c, o.op = .call c ∧ ((∃ f, c.callee = .value f) ∨ ∃ r n, c.callee = .invoke r n) := by
  cases hop : o.op with
  | move _ =>
    simp only [kindOf, hop] at hk
    repeat' split at hk
    all_goals first
      | (cases hk; done)
      | (cases hk; simp [target] at hs; done)
      | (simp only [Option.map_eq_some_iff, Prod.mk.injEq] at hk
         obtain ⟨_, _, rfl, rfl⟩ := hk
         simp [target] at hs)
  | assign _ =>
    simp only [kindOf, hop] at hk
    repeat' split at hk
    all_goals first
      | (cases hk; done)
      | (cases hk; simp [target] at hs; done)
      | (simp only [Option.map_eq_some_iff, Prod.mk.injEq] at hk
         obtain ⟨_, _, rfl, rfl⟩ := hk
         simp [target] at hs)
  | pick _ _ _ =>
    simp only [kindOf, hop] at hk
    repeat' split at hk
    all_goals first
      | (cases hk; done)
      | (cases hk; simp [target] at hs; done)
      | (simp only [Option.map_eq_some_iff, Prod.mk.injEq] at hk
         obtain ⟨_, _, rfl, rfl⟩ := hk
         simp [target] at hs)
  | alloc _ =>
    simp only [kindOf, hop] at hk
    repeat' split at hk
    all_goals first
      | (cases hk; done)
      | (cases hk; simp [target] at hs; done)
      | (simp only [Option.map_eq_some_iff, Prod.mk.injEq] at hk
         obtain ⟨_, _, rfl, rfl⟩ := hk
         simp [target] at hs)
  | box _ _ =>
    simp only [kindOf, hop] at hk
    repeat' split at hk
    all_goals first
      | (cases hk; done)
      | (cases hk; simp [target] at hs; done)
      | (simp only [Option.map_eq_some_iff, Prod.mk.injEq] at hk
         obtain ⟨_, _, rfl, rfl⟩ := hk
         simp [target] at hs)
  | build _ _ =>
    simp only [kindOf, hop] at hk
    repeat' split at hk
    all_goals first
      | (cases hk; done)
      | (cases hk; simp [target] at hs; done)
      | (simp only [Option.map_eq_some_iff, Prod.mk.injEq] at hk
         obtain ⟨_, _, rfl, rfl⟩ := hk
         simp [target] at hs)
  | buildSlice _ _ _ =>
    simp only [kindOf, hop] at hk
    repeat' split at hk
    all_goals first
      | (cases hk; done)
      | (cases hk; simp [target] at hs; done)
      | (simp only [Option.map_eq_some_iff, Prod.mk.injEq] at hk
         obtain ⟨_, _, rfl, rfl⟩ := hk
         simp [target] at hs)
  | insert _ _ _ _ =>
    simp only [kindOf, hop] at hk
    repeat' split at hk
    all_goals first
      | (cases hk; done)
      | (cases hk; simp [target] at hs; done)
      | (simp only [Option.map_eq_some_iff, Prod.mk.injEq] at hk
         obtain ⟨_, _, rfl, rfl⟩ := hk
         simp [target] at hs)
  | load _ _ =>
    simp only [kindOf, hop] at hk
    repeat' split at hk
    all_goals first
      | (cases hk; done)
      | (cases hk; simp [target] at hs; done)
      | (simp only [Option.map_eq_some_iff, Prod.mk.injEq] at hk
         obtain ⟨_, _, rfl, rfl⟩ := hk
         simp [target] at hs)
  | store _ _ _ =>
    simp only [kindOf, hop] at hk
    repeat' split at hk
    all_goals first
      | (cases hk; done)
      | (cases hk; simp [target] at hs; done)
      | (simp only [Option.map_eq_some_iff, Prod.mk.injEq] at hk
         obtain ⟨_, _, rfl, rfl⟩ := hk
         simp [target] at hs)
  | ready _ =>
    simp only [kindOf, hop] at hk
    repeat' split at hk
    all_goals first
      | (cases hk; done)
      | (cases hk; simp [target] at hs; done)
      | (simp only [Option.map_eq_some_iff, Prod.mk.injEq] at hk
         obtain ⟨_, _, rfl, rfl⟩ := hk
         simp [target] at hs)
  | waits _ =>
    simp only [kindOf, hop] at hk
    repeat' split at hk
    all_goals first
      | (cases hk; done)
      | (cases hk; simp [target] at hs; done)
      | (simp only [Option.map_eq_some_iff, Prod.mk.injEq] at hk
         obtain ⟨_, _, rfl, rfl⟩ := hk
         simp [target] at hs)
  | nilCheck _ =>
    simp only [kindOf, hop] at hk
    repeat' split at hk
    all_goals first
      | (cases hk; done)
      | (cases hk; simp [target] at hs; done)
      | (simp only [Option.map_eq_some_iff, Prod.mk.injEq] at hk
         obtain ⟨_, _, rfl, rfl⟩ := hk
         simp [target] at hs)
  | unOp _ _ _ =>
    simp only [kindOf, hop] at hk
    repeat' split at hk
    all_goals first
      | (cases hk; done)
      | (cases hk; simp [target] at hs; done)
      | (simp only [Option.map_eq_some_iff, Prod.mk.injEq] at hk
         obtain ⟨_, _, rfl, rfl⟩ := hk
         simp [target] at hs)
  | convert _ _ _ =>
    simp only [kindOf, hop] at hk
    repeat' split at hk
    all_goals first
      | (cases hk; done)
      | (cases hk; simp [target] at hs; done)
      | (simp only [Option.map_eq_some_iff, Prod.mk.injEq] at hk
         obtain ⟨_, _, rfl, rfl⟩ := hk
         simp [target] at hs)
  | sliceToArrayPointer _ _ =>
    simp only [kindOf, hop] at hk
    repeat' split at hk
    all_goals first
      | (cases hk; done)
      | (cases hk; simp [target] at hs; done)
      | (simp only [Option.map_eq_some_iff, Prod.mk.injEq] at hk
         obtain ⟨_, _, rfl, rfl⟩ := hk
         simp [target] at hs)
  | makeInterface _ _ =>
    simp only [kindOf, hop] at hk
    repeat' split at hk
    all_goals first
      | (cases hk; done)
      | (cases hk; simp [target] at hs; done)
      | (simp only [Option.map_eq_some_iff, Prod.mk.injEq] at hk
         obtain ⟨_, _, rfl, rfl⟩ := hk
         simp [target] at hs)
  | makeFunc _ _ _ =>
    simp only [kindOf, hop] at hk
    repeat' split at hk
    all_goals first
      | (cases hk; done)
      | (cases hk; simp [target] at hs; done)
      | (simp only [Option.map_eq_some_iff, Prod.mk.injEq] at hk
         obtain ⟨_, _, rfl, rfl⟩ := hk
         simp [target] at hs)
  | makeMap _ _ =>
    simp only [kindOf, hop] at hk
    repeat' split at hk
    all_goals first
      | (cases hk; done)
      | (cases hk; simp [target] at hs; done)
      | (simp only [Option.map_eq_some_iff, Prod.mk.injEq] at hk
         obtain ⟨_, _, rfl, rfl⟩ := hk
         simp [target] at hs)
  | makeChan _ _ =>
    simp only [kindOf, hop] at hk
    repeat' split at hk
    all_goals first
      | (cases hk; done)
      | (cases hk; simp [target] at hs; done)
      | (simp only [Option.map_eq_some_iff, Prod.mk.injEq] at hk
         obtain ⟨_, _, rfl, rfl⟩ := hk
         simp [target] at hs)
  | makeSlice _ _ _ =>
    simp only [kindOf, hop] at hk
    repeat' split at hk
    all_goals first
      | (cases hk; done)
      | (cases hk; simp [target] at hs; done)
      | (simp only [Option.map_eq_some_iff, Prod.mk.injEq] at hk
         obtain ⟨_, _, rfl, rfl⟩ := hk
         simp [target] at hs)
  | slice _ _ _ _ _ =>
    simp only [kindOf, hop] at hk
    repeat' split at hk
    all_goals first
      | (cases hk; done)
      | (cases hk; simp [target] at hs; done)
      | (simp only [Option.map_eq_some_iff, Prod.mk.injEq] at hk
         obtain ⟨_, _, rfl, rfl⟩ := hk
         simp [target] at hs)
  | fieldAddr _ _ _ =>
    simp only [kindOf, hop] at hk
    repeat' split at hk
    all_goals first
      | (cases hk; done)
      | (cases hk; simp [target] at hs; done)
      | (simp only [Option.map_eq_some_iff, Prod.mk.injEq] at hk
         obtain ⟨_, _, rfl, rfl⟩ := hk
         simp [target] at hs)
  | field _ _ _ =>
    simp only [kindOf, hop] at hk
    repeat' split at hk
    all_goals first
      | (cases hk; done)
      | (cases hk; simp [target] at hs; done)
      | (simp only [Option.map_eq_some_iff, Prod.mk.injEq] at hk
         obtain ⟨_, _, rfl, rfl⟩ := hk
         simp [target] at hs)
  | indexAddr _ _ _ =>
    simp only [kindOf, hop] at hk
    repeat' split at hk
    all_goals first
      | (cases hk; done)
      | (cases hk; simp [target] at hs; done)
      | (simp only [Option.map_eq_some_iff, Prod.mk.injEq] at hk
         obtain ⟨_, _, rfl, rfl⟩ := hk
         simp [target] at hs)
  | index _ _ _ =>
    simp only [kindOf, hop] at hk
    repeat' split at hk
    all_goals first
      | (cases hk; done)
      | (cases hk; simp [target] at hs; done)
      | (simp only [Option.map_eq_some_iff, Prod.mk.injEq] at hk
         obtain ⟨_, _, rfl, rfl⟩ := hk
         simp [target] at hs)
  | lookup _ _ _ _ =>
    simp only [kindOf, hop] at hk
    repeat' split at hk
    all_goals first
      | (cases hk; done)
      | (cases hk; simp [target] at hs; done)
      | (simp only [Option.map_eq_some_iff, Prod.mk.injEq] at hk
         obtain ⟨_, _, rfl, rfl⟩ := hk
         simp [target] at hs)
  | mapUpdate _ _ _ _ =>
    simp only [kindOf, hop] at hk
    repeat' split at hk
    all_goals first
      | (cases hk; done)
      | (cases hk; simp [target] at hs; done)
      | (simp only [Option.map_eq_some_iff, Prod.mk.injEq] at hk
         obtain ⟨_, _, rfl, rfl⟩ := hk
         simp [target] at hs)
  | mapEntry _ _ _ =>
    simp only [kindOf, hop] at hk
    repeat' split at hk
    all_goals first
      | (cases hk; done)
      | (cases hk; simp [target] at hs; done)
      | (simp only [Option.map_eq_some_iff, Prod.mk.injEq] at hk
         obtain ⟨_, _, rfl, rfl⟩ := hk
         simp [target] at hs)
  | entryStore _ _ _ _ =>
    simp only [kindOf, hop] at hk
    repeat' split at hk
    all_goals first
      | (cases hk; done)
      | (cases hk; simp [target] at hs; done)
      | (simp only [Option.map_eq_some_iff, Prod.mk.injEq] at hk
         obtain ⟨_, _, rfl, rfl⟩ := hk
         simp [target] at hs)
  | range _ _ =>
    simp only [kindOf, hop] at hk
    repeat' split at hk
    all_goals first
      | (cases hk; done)
      | (cases hk; simp [target] at hs; done)
      | (simp only [Option.map_eq_some_iff, Prod.mk.injEq] at hk
         obtain ⟨_, _, rfl, rfl⟩ := hk
         simp [target] at hs)
  | entry _ =>
    simp only [kindOf, hop] at hk
    repeat' split at hk
    all_goals first
      | (cases hk; done)
      | (cases hk; simp [target] at hs; done)
      | (simp only [Option.map_eq_some_iff, Prod.mk.injEq] at hk
         obtain ⟨_, _, rfl, rfl⟩ := hk
         simp [target] at hs)
  | typeAssert _ _ _ _ =>
    simp only [kindOf, hop] at hk
    repeat' split at hk
    all_goals first
      | (cases hk; done)
      | (cases hk; simp [target] at hs; done)
      | (simp only [Option.map_eq_some_iff, Prod.mk.injEq] at hk
         obtain ⟨_, _, rfl, rfl⟩ := hk
         simp [target] at hs)
  | extract _ _ =>
    simp only [kindOf, hop] at hk
    repeat' split at hk
    all_goals first
      | (cases hk; done)
      | (cases hk; simp [target] at hs; done)
      | (simp only [Option.map_eq_some_iff, Prod.mk.injEq] at hk
         obtain ⟨_, _, rfl, rfl⟩ := hk
         simp [target] at hs)
  | go _ =>
    simp only [kindOf, hop] at hk
    repeat' split at hk
    all_goals first
      | (cases hk; done)
      | (cases hk; simp [target] at hs; done)
      | (simp only [Option.map_eq_some_iff, Prod.mk.injEq] at hk
         obtain ⟨_, _, rfl, rfl⟩ := hk
         simp [target] at hs)
  | defer _ =>
    simp only [kindOf, hop] at hk
    repeat' split at hk
    all_goals first
      | (cases hk; done)
      | (cases hk; simp [target] at hs; done)
      | (simp only [Option.map_eq_some_iff, Prod.mk.injEq] at hk
         obtain ⟨_, _, rfl, rfl⟩ := hk
         simp [target] at hs)
  | panic _ =>
    simp only [kindOf, hop] at hk
    repeat' split at hk
    all_goals first
      | (cases hk; done)
      | (cases hk; simp [target] at hs; done)
      | (simp only [Option.map_eq_some_iff, Prod.mk.injEq] at hk
         obtain ⟨_, _, rfl, rfl⟩ := hk
         simp [target] at hs)
  | send _ _ =>
    simp only [kindOf, hop] at hk
    repeat' split at hk
    all_goals first
      | (cases hk; done)
      | (cases hk; simp [target] at hs; done)
      | (simp only [Option.map_eq_some_iff, Prod.mk.injEq] at hk
         obtain ⟨_, _, rfl, rfl⟩ := hk
         simp [target] at hs)
  | recv _ _ _ =>
    simp only [kindOf, hop] at hk
    repeat' split at hk
    all_goals first
      | (cases hk; done)
      | (cases hk; simp [target] at hs; done)
      | (simp only [Option.map_eq_some_iff, Prod.mk.injEq] at hk
         obtain ⟨_, _, rfl, rfl⟩ := hk
         simp [target] at hs)
  | select _ _ =>
    simp only [kindOf, hop] at hk
    repeat' split at hk
    all_goals first
      | (cases hk; done)
      | (cases hk; simp [target] at hs; done)
      | (simp only [Option.map_eq_some_iff, Prod.mk.injEq] at hk
         obtain ⟨_, _, rfl, rfl⟩ := hk
         simp [target] at hs)
  | next x b =>
    cases b <;>
    (simp only [kindOf, hop, Option.some.injEq, Prod.mk.injEq] at hk
     obtain ⟨rfl, rfl⟩ := hk
     simp [target] at hs)
  | binOp op t x y yt =>
    cases op <;> simp only [kindOf, hop, Option.map_eq_some_iff, Option.some.injEq, Prod.mk.injEq] at hk
    case eql =>
      obtain ⟨k', hk', rfl, rfl⟩ := hk
      rcases eqKind_shape hk' with rfl | ⟨rfl, _⟩ | ⟨_, rfl, _⟩ | ⟨_, rfl, _⟩ | ⟨_, _, rfl, _⟩ | ⟨_, _, _, rfl, _⟩ | ⟨_, rfl, _⟩ | ⟨_, rfl, _⟩ <;> simp [target] at hs
    case neq =>
      obtain ⟨k', hk', rfl, rfl⟩ := hk
      rcases eqKind_shape hk' with rfl | ⟨rfl, _⟩ | ⟨_, rfl, _⟩ | ⟨_, rfl, _⟩ | ⟨_, _, rfl, _⟩ | ⟨_, _, _, rfl, _⟩ | ⟨_, rfl, _⟩ | ⟨_, rfl, _⟩ <;> simp [target] at hs
    all_goals
      obtain ⟨rfl, rfl⟩ := hk
      simp [target] at hs
  | call c =>
    cases hc : c.callee with
    | value f => exact ⟨c, rfl, .inl ⟨f, hc⟩⟩
    | invoke r name => exact ⟨c, rfl, .inr ⟨r, name, hc⟩⟩
    | builtin b =>
      cases b <;> simp only [kindOf, hop, hc] at hk
      all_goals
        repeat' split at hk
        all_goals first
          | (cases hk; done)
          | (cases hk; simp [target] at hs; done)
          | (simp only [Option.map_eq_some_iff, Prod.mk.injEq] at hk
             obtain ⟨_, _, rfl, rfl⟩ := hk
             simp [target] at hs)
theorem kind_defer {o : Oper} {args : List Operand} (hk : kindOf P o = some (.deferV, args)) : ∃ c f, o.op = .defer c ∧ c.callee = .value f ∧ c.args.toList = [] ∧ args = [f] := by
  cases hop : o.op with
  | move _ =>
    simp only [kindOf, hop] at hk
    repeat' split at hk
    all_goals first
      | (cases hk; done)
      | (simp [Option.map_eq_some_iff] at hk; done)
  | assign _ =>
    simp only [kindOf, hop] at hk
    repeat' split at hk
    all_goals first
      | (cases hk; done)
      | (simp [Option.map_eq_some_iff] at hk; done)
  | pick _ _ _ =>
    simp only [kindOf, hop] at hk
    repeat' split at hk
    all_goals first
      | (cases hk; done)
      | (simp [Option.map_eq_some_iff] at hk; done)
  | alloc _ =>
    simp only [kindOf, hop] at hk
    repeat' split at hk
    all_goals first
      | (cases hk; done)
      | (simp [Option.map_eq_some_iff] at hk; done)
  | box _ _ =>
    simp only [kindOf, hop] at hk
    repeat' split at hk
    all_goals first
      | (cases hk; done)
      | (simp [Option.map_eq_some_iff] at hk; done)
  | build _ _ =>
    simp only [kindOf, hop] at hk
    repeat' split at hk
    all_goals first
      | (cases hk; done)
      | (simp [Option.map_eq_some_iff] at hk; done)
  | buildSlice _ _ _ =>
    simp only [kindOf, hop] at hk
    repeat' split at hk
    all_goals first
      | (cases hk; done)
      | (simp [Option.map_eq_some_iff] at hk; done)
  | insert _ _ _ _ =>
    simp only [kindOf, hop] at hk
    repeat' split at hk
    all_goals first
      | (cases hk; done)
      | (simp [Option.map_eq_some_iff] at hk; done)
  | load _ _ =>
    simp only [kindOf, hop] at hk
    repeat' split at hk
    all_goals first
      | (cases hk; done)
      | (simp [Option.map_eq_some_iff] at hk; done)
  | store _ _ _ =>
    simp only [kindOf, hop] at hk
    repeat' split at hk
    all_goals first
      | (cases hk; done)
      | (simp [Option.map_eq_some_iff] at hk; done)
  | ready _ =>
    simp only [kindOf, hop] at hk
    repeat' split at hk
    all_goals first
      | (cases hk; done)
      | (simp [Option.map_eq_some_iff] at hk; done)
  | waits _ =>
    simp only [kindOf, hop] at hk
    repeat' split at hk
    all_goals first
      | (cases hk; done)
      | (simp [Option.map_eq_some_iff] at hk; done)
  | nilCheck _ =>
    simp only [kindOf, hop] at hk
    repeat' split at hk
    all_goals first
      | (cases hk; done)
      | (simp [Option.map_eq_some_iff] at hk; done)
  | unOp _ _ _ =>
    simp only [kindOf, hop] at hk
    repeat' split at hk
    all_goals first
      | (cases hk; done)
      | (simp [Option.map_eq_some_iff] at hk; done)
  | convert _ _ _ =>
    simp only [kindOf, hop] at hk
    repeat' split at hk
    all_goals first
      | (cases hk; done)
      | (simp [Option.map_eq_some_iff] at hk; done)
  | sliceToArrayPointer _ _ =>
    simp only [kindOf, hop] at hk
    repeat' split at hk
    all_goals first
      | (cases hk; done)
      | (simp [Option.map_eq_some_iff] at hk; done)
  | makeInterface _ _ =>
    simp only [kindOf, hop] at hk
    repeat' split at hk
    all_goals first
      | (cases hk; done)
      | (simp [Option.map_eq_some_iff] at hk; done)
  | makeFunc _ _ _ =>
    simp only [kindOf, hop] at hk
    repeat' split at hk
    all_goals first
      | (cases hk; done)
      | (simp [Option.map_eq_some_iff] at hk; done)
  | makeMap _ _ =>
    simp only [kindOf, hop] at hk
    repeat' split at hk
    all_goals first
      | (cases hk; done)
      | (simp [Option.map_eq_some_iff] at hk; done)
  | makeChan _ _ =>
    simp only [kindOf, hop] at hk
    repeat' split at hk
    all_goals first
      | (cases hk; done)
      | (simp [Option.map_eq_some_iff] at hk; done)
  | makeSlice _ _ _ =>
    simp only [kindOf, hop] at hk
    repeat' split at hk
    all_goals first
      | (cases hk; done)
      | (simp [Option.map_eq_some_iff] at hk; done)
  | slice _ _ _ _ _ =>
    simp only [kindOf, hop] at hk
    repeat' split at hk
    all_goals first
      | (cases hk; done)
      | (simp [Option.map_eq_some_iff] at hk; done)
  | fieldAddr _ _ _ =>
    simp only [kindOf, hop] at hk
    repeat' split at hk
    all_goals first
      | (cases hk; done)
      | (simp [Option.map_eq_some_iff] at hk; done)
  | field _ _ _ =>
    simp only [kindOf, hop] at hk
    repeat' split at hk
    all_goals first
      | (cases hk; done)
      | (simp [Option.map_eq_some_iff] at hk; done)
  | indexAddr _ _ _ =>
    simp only [kindOf, hop] at hk
    repeat' split at hk
    all_goals first
      | (cases hk; done)
      | (simp [Option.map_eq_some_iff] at hk; done)
  | index _ _ _ =>
    simp only [kindOf, hop] at hk
    repeat' split at hk
    all_goals first
      | (cases hk; done)
      | (simp [Option.map_eq_some_iff] at hk; done)
  | lookup _ _ _ _ =>
    simp only [kindOf, hop] at hk
    repeat' split at hk
    all_goals first
      | (cases hk; done)
      | (simp [Option.map_eq_some_iff] at hk; done)
  | mapUpdate _ _ _ _ =>
    simp only [kindOf, hop] at hk
    repeat' split at hk
    all_goals first
      | (cases hk; done)
      | (simp [Option.map_eq_some_iff] at hk; done)
  | mapEntry _ _ _ =>
    simp only [kindOf, hop] at hk
    repeat' split at hk
    all_goals first
      | (cases hk; done)
      | (simp [Option.map_eq_some_iff] at hk; done)
  | entryStore _ _ _ _ =>
    simp only [kindOf, hop] at hk
    repeat' split at hk
    all_goals first
      | (cases hk; done)
      | (simp [Option.map_eq_some_iff] at hk; done)
  | range _ _ =>
    simp only [kindOf, hop] at hk
    repeat' split at hk
    all_goals first
      | (cases hk; done)
      | (simp [Option.map_eq_some_iff] at hk; done)
  | entry _ =>
    simp only [kindOf, hop] at hk
    repeat' split at hk
    all_goals first
      | (cases hk; done)
      | (simp [Option.map_eq_some_iff] at hk; done)
  | typeAssert _ _ _ _ =>
    simp only [kindOf, hop] at hk
    repeat' split at hk
    all_goals first
      | (cases hk; done)
      | (simp [Option.map_eq_some_iff] at hk; done)
  | extract _ _ =>
    simp only [kindOf, hop] at hk
    repeat' split at hk
    all_goals first
      | (cases hk; done)
      | (simp [Option.map_eq_some_iff] at hk; done)
  | go _ =>
    simp only [kindOf, hop] at hk
    repeat' split at hk
    all_goals first
      | (cases hk; done)
      | (simp [Option.map_eq_some_iff] at hk; done)
  | panic _ =>
    simp only [kindOf, hop] at hk
    repeat' split at hk
    all_goals first
      | (cases hk; done)
      | (simp [Option.map_eq_some_iff] at hk; done)
  | send _ _ =>
    simp only [kindOf, hop] at hk
    repeat' split at hk
    all_goals first
      | (cases hk; done)
      | (simp [Option.map_eq_some_iff] at hk; done)
  | recv _ _ _ =>
    simp only [kindOf, hop] at hk
    repeat' split at hk
    all_goals first
      | (cases hk; done)
      | (simp [Option.map_eq_some_iff] at hk; done)
  | select _ _ =>
    simp only [kindOf, hop] at hk
    repeat' split at hk
    all_goals first
      | (cases hk; done)
      | (simp [Option.map_eq_some_iff] at hk; done)
  | next x b =>
    cases b <;> simp [kindOf, hop] at hk
  | binOp op t x y yt =>
    cases op <;> simp only [kindOf, hop, Option.map_eq_some_iff, Option.some.injEq, Prod.mk.injEq] at hk
    case eql =>
      obtain ⟨k', hk', e, _⟩ := hk
      rcases eqKind_shape hk' with rfl | ⟨rfl, _⟩ | ⟨_, rfl, _⟩ | ⟨_, rfl, _⟩ | ⟨_, _, rfl, _⟩ | ⟨_, _, _, rfl, _⟩ | ⟨_, rfl, _⟩ | ⟨_, rfl, _⟩ <;> cases e
    case neq =>
      obtain ⟨k', hk', e, _⟩ := hk
      rcases eqKind_shape hk' with rfl | ⟨rfl, _⟩ | ⟨_, rfl, _⟩ | ⟨_, rfl, _⟩ | ⟨_, _, rfl, _⟩ | ⟨_, _, _, rfl, _⟩ | ⟨_, rfl, _⟩ | ⟨_, rfl, _⟩ <;> cases e
    all_goals
      obtain ⟨e, _⟩ := hk
      cases e
  | call c =>
    cases hc : c.callee with
    | value f => cases f <;> simp [kindOf, hop, hc] at hk
    | invoke r name => simp [kindOf, hop, hc] at hk
    | builtin b =>
      cases b <;> simp only [kindOf, hop, hc] at hk
      all_goals
        repeat' split at hk
        all_goals first
          | (cases hk; done)
          | (simp [Option.map_eq_some_iff] at hk; done)
  | defer c =>
    simp only [kindOf, hop] at hk
    split at hk
    · rename_i f h1 h2
      cases hk
      exact ⟨c, f, rfl, h1, h2, rfl⟩
    · cases hk
theorem SW_sound {i : Nat} {o : Oper} {st : Step} {s : St} {post : Value → List Value → Heap → Nat → Prop} {β : Ren} {a : Act} {w : World} {K : Act → World → Prop} (hE : EnvOk P E) (hi : ops[i]? = some o) (hst : stepOf P ops o = some st)
    (hT : TR β N s.T a.tmps) (hD : DR β s.D a.defers) (hR : HR G β s.H s.n w) (h : SW P G E st s post)
    (hK : ∀ β' v v' D' H' n' a' w', VR β' v v' → DR β' D' a'.defers → a'.tmps = (a.put o.dst v').tmps → HR G β' H' n' w' → Fr β s.n w β' n' w' → post v D' H' n' → K a' w') : wpOp P ops Q i K a w := by
  unfold stepOf at hst
  split at hst
  case h_2 => cases hst
  rename_i k args hk
  have hput : ∀ v', DR β s.D (a.put o.dst v').defers := fun v' => by rw [put_defers]; exact hD
  have main : st.k = k → st.args = args → st.dst = o.dst → (wantT s.T st.guard = some true → Region.wanted o (yielded ops a.tmps) = true) → (wantT s.T st.guard = some false → Region.wanted o (yielded ops a.tmps) = false) → wpOp P ops Q i K a w := by
    intro e1 e2 e3 hw1 hw2
    unfold wpOp
    simp only [hi]
    unfold SW at h
    split at h
    · exact h.elim
    · rename_i hwt
      rw [if_neg (by rw [hw2 hwt]; simp)]
      exact hK β undef undef s.D s.H s.n _ w undef_rel (hput _) rfl hR (Fr.refl _ _ _) h
    · rename_i hwt
      rw [if_pos (hw1 hwt)]
      refine .inl ?_
      split at h
      · exact h.elim
      · rename_i vs hvs
        rw [e2] at hvs
        have hrel := evs_sound hR.glob hT hvs
        unfold Oper.wp
        split at h
        · obtain ⟨v, h1, h2⟩ := h
          rw [e1] at h1
          obtain ⟨v', r1, r2⟩ := kind_sound (w := w) hE hk hrel h1
          rw [r1, Oper.upon_value]
          exact hK β v v' s.D s.H s.n _ w r2 (hput _) rfl hR (Fr.refl _ _ _) h2
        · obtain ⟨v, h1, h2⟩ := h
          rw [e1] at h1
          obtain ⟨v', r1, r2⟩ := semR_sound hR hk hrel h1
          rw [r1, Oper.upon_value]
          exact hK β v v' s.D s.H s.n _ w r2 (hput _) rfl hR (Fr.refl _ _ _) h2
        · obtain ⟨ob, mk, h1, hnb, h2⟩ := h
          rw [e1] at h1
          obtain ⟨v', w', o', room, r1, r2, r3, r4, r5, r6⟩ := semA_sound (w := w) hk hrel h1
          rw [r1, Oper.upon_value]
          have hle : Ren.le β (β.add s.n ⟨w.heap.size, 0, room⟩) := Ren.le_add (hR.fresh hnb)
          exact hK (β.add s.n ⟨w.heap.size, 0, room⟩) (mk.val s.n) v' s.D _ _ _ w' (r6 _ _ hle Ren.add_self).1 ((hput _).mono hle) rfl (hR.alloc hnb r2 rfl (r6 _ s.n hle Ren.add_self).2) (Fr.alloc hR hnb r2 rfl r3 r4 r5) h2
        · obtain ⟨hnb, h1⟩ := h
          rw [e1] at h1
          obtain ⟨v, H', n', ⟨v', w', β', r1, r2, r3, r4⟩, h2⟩ := WP_sound hR hnb hk hrel h1
          rcases r1 with r1 | ⟨r1, rfl⟩
          · rw [r1, Oper.upon_value]
            exact hK β' v v' s.D H' n' _ w' r2 ((hput _).mono r4.ext) rfl r3 r4 h2
          · rw [r1, Oper.upon_skip]
            exact hK β' v undef s.D H' n' _ w' r2 ((hput _).mono r4.ext) rfl r3 r4 h2
        · rw [e1] at h
          obtain ⟨v, v', w', β', H', n', r1, r2, r3, r4, h2⟩ := SN_sound hR hk hrel h
          rw [r1, Oper.upon_value]
          exact hK β' v v' s.D H' n' _ w' r2 ((hput _).mono r4.ext) rfl r3 r4 h2
        · obtain ⟨f, fargs, h1, h2⟩ := h
          rw [e1] at h1
          have hcall : ∀ (args' : List Value), VRs β fargs args' → execOp a.eval o = callFunc f args'.toArray → o.upon P a K Q ((execOp a.eval o).run P w) := by
            intro args' hargs' he
            rw [he]
            rcases h2 β w args' hargs' hR with ⟨g1, g2⟩ | ⟨v', w', g1, g2⟩
            · rw [g1, Oper.upon_enter]
              refine g2.mono fun e w' ⟨v', he, hv⟩ => ?_
              subst he
              obtain ⟨v, β', H', n', q1, q2, q3, q4⟩ := hv
              exact hK β' v v' s.D H' n' _ w' q1 ((hput _).mono q3.ext) rfl q2 q3 q4
            · rw [g1, Oper.upon_value]
              obtain ⟨v, β', H', n', q1, q2, q3, q4⟩ := g2
              exact hK β' v v' s.D H' n' _ w' q1 ((hput _).mono q3.ext) rfl q2 q3 q4
          cases hop : o.op with
          | call c =>
            cases hc : c.callee with
            | value fo =>
              have hargsM : (c.args.map a.eval).toList = c.args.toList.map a.eval := by simp
              cases fo with
              | func g =>
                simp only [kindOf, hop, hc, Option.some.injEq, Prod.mk.injEq] at hk
                obtain ⟨rfl, rfl⟩ := hk
                simp only [target, Option.some.injEq, Prod.mk.injEq] at h1
                obtain ⟨rfl, rfl⟩ := h1
                refine hcall _ hrel ?_
                simp only [execOp, hop, resolve, hc, Act.eval, Deferred.ofValue, pure_bind, invoke]
                congr 1
                apply Array.ext'
                simp
              | _ =>
                simp only [kindOf, hop, hc, Option.some.injEq, Prod.mk.injEq] at hk
                obtain ⟨rfl, rfl⟩ := hk
                simp only [target] at h1
                split at h1
                · rename_i g fa fb vs'
                  cases h1
                  obtain ⟨ya, yb, hy, p1, p2⟩ := hrel.hd.1.func'
                  refine hcall (ya.toList ++ c.args.toList.map a.eval ++ yb.toList) ((p1.append hrel.hd.2).append p2) ?_
                  simp only [execOp, hop, resolve, hc, hy, Deferred.ofValue, pure_bind, invoke]
                  congr 1
                  apply Array.ext'
                  simp
                · cases h1
            | invoke r name =>
              simp only [kindOf, hop, hc, Option.some.injEq, Prod.mk.injEq] at hk
              obtain ⟨rfl, rfl⟩ := hk
              simp only [target] at h1
              split at h1
              · rename_i t v0 vs'
                simp only [Option.map_eq_some_iff, Prod.mk.injEq] at h1
                obtain ⟨g, hm, rfl, rfl⟩ := h1
                obtain ⟨v0', hy, hv0⟩ := hrel.hd.1.iface'
                have hmm := hE.meth hm
                have he : (execOp a.eval o).run P w = (callFunc g (v0' :: c.args.toList.map a.eval).toArray).run P w := by
                  simp only [execOp, hop, resolve, hc, pure_bind, invoke]
                  have hA : #[a.eval r] ++ c.args.map a.eval = (a.eval r :: c.args.toList.map a.eval).toArray := by apply Array.ext'; simp
                  have h0 : (a.eval r :: c.args.toList.map a.eval).toArray[0]? = some (.iface t v0') := by simp [hy]
                  have hx : (a.eval r :: c.args.toList.map a.eval).toArray.extract 1 (a.eval r :: c.args.toList.map a.eval).toArray.size = c.args.map a.eval := by
                    apply Array.ext'
                    simp [List.extract_eq_take_drop]
                    rw [List.take_of_length_le (by simp)]
                  rw [hA]
                  simp only [h0, hx, callMethod, Sem.run_bind, run_program, Result.andThen_ok]
                  have hd : P.types.size + Made.depth = (P.types.size + (Made.depth - 1)) + 1 := by simp [Made.depth]
                  rw [hd, run_methodP hmm]
                  simp only [Result.andThen_ok]
                  congr 2
                  apply Array.ext'
                  simp
                rw [he]
                rcases h2 β w _ (.cons hv0 hrel.hd.2) hR with ⟨g1, g2⟩ | ⟨v', w', g1, g2⟩
                · rw [g1, Oper.upon_enter]
                  refine g2.mono fun e w' ⟨v', he, hv⟩ => ?_
                  subst he
                  obtain ⟨v, β', H', n', q1, q2, q3, q4⟩ := hv
                  exact hK β' v v' s.D H' n' _ w' q1 ((hput _).mono q3.ext) rfl q2 q3 q4
                · rw [g1, Oper.upon_value]
                  obtain ⟨v, β', H', n', q1, q2, q3, q4⟩ := g2
                  exact hK β' v v' s.D H' n' _ w' q1 ((hput _).mono q3.ext) rfl q2 q3 q4
              · cases h1
            | builtin b =>
              obtain ⟨c', q1, q2⟩ := kind_call hk h1
              rw [hop] at q1; cases q1
              rcases q2 with ⟨f, q⟩ | ⟨r, m, q⟩ <;> (rw [hc] at q; cases q)
          | _ =>
              obtain ⟨c', q1, q2⟩ := kind_call hk h1
              rw [hop] at q1; cases q1
        · rename_i hcls
          obtain ⟨d, rfl, hd, h2⟩ := h
          rw [e1] at hcls
          have hk2 : k = .deferV := by cases k <;> simp [Kind.cls] at hcls; rfl
          subst hk2
          obtain ⟨c, f, hop, hcal, hca, rfl⟩ : ∃ c f, o.op = .defer c ∧ c.callee = .value f ∧ c.args.toList = [] ∧ args = [f] := kind_defer hk
          cases d <;> simp only [isFn] at hd <;> first | contradiction | skip
          rename_i fn xa xb
          cases fn <;> simp only at hd <;> first | contradiction | skip
          rename_i g
          obtain ⟨ya, yb, hy, p1, p2⟩ := hrel.hd.1.func'
          have he : (execOp a.eval o).run P w = .ok (.defer { target := .fn (.func g) yb, args := ya }) w := by
            have hm : c.args.map a.eval = #[] := by apply Array.ext'; simp [hca]
            simp [execOp, hop, resolve, hcal, hm, hy, Deferred.ofValue]
          rw [he, Oper.upon_defer]
          refine hK β undef undef _ s.H s.n _ w undef_rel ?_ (by simp [put_tmps]) hR (Fr.refl _ _ _) h2
          rw [put_defers]
          exact .cons p1 p2 hD
  cases hg : o.guard with
  | none =>
    rw [hg] at hst
    cases hst
    exact main rfl rfl rfl (fun _ => by simp [Region.wanted, hg]) (fun h => by simp [wantT] at h)
  | some jb =>
    obtain ⟨j, b⟩ := jb
    rw [hg] at hst
    simp only at hst
    cases hd : (ops[j]?).bind (·.dst) with
    | none => simp [hd] at hst
    | some d =>
      simp only [hd, Option.some.injEq] at hst
      subst hst
      have hy : ∀ c, aget s.T d = some (.bool c) → yielded ops a.tmps j = some c := by
        intro c hc
        obtain ⟨v', h1, h2⟩ := hT.2 d _ hc
        have := h2.bool; subst this
        simp [yielded, hd, h1]
      have hz : ∀ c, aget s.T d = some (.tuple c) → yielded ops a.tmps j = none := by
        intro c hc
        obtain ⟨v', h1, h2⟩ := hT.2 d _ hc
        cases h2 with
        | same hf => cases hf
        | tuple _ => simp [yielded, hd, h1]
      refine main rfl rfl rfl ?_ ?_
      · intro hw
        simp only [wantT] at hw
        split at hw
        · rename_i c hc
          simp only [Option.some.injEq] at hw
          simp only [Region.wanted, hg, hy c hc]
          simpa using hw
        · rename_i c hc
          simp only [Region.wanted, hg, hz c hc]
          first | rfl | cases hw
        · cases hw
      · intro hw
        simp only [wantT] at hw
        split at hw
        · rename_i c hc
          simp only [Option.some.injEq] at hw
          simp only [Region.wanted, hg, hy c hc]
          simpa using hw
        · rename_i c hc
          simp only [Region.wanted, hg, hz c hc]
          first | rfl | cases hw
        · cases hw
end
end Go.Cs
