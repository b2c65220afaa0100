/- A part of the proof that the law spadilletop.TopSharedRing answers true and leaves its argument as it was (CsB) -/
import Derived.Test.YtmpogedhilfjgaaGreatDoorCsA
import Derived.Laws.BytesString
set_option linter.all false
namespace Go.Cs
variable {P : Program} {E : Env} {β : Ren} {ρ : Operand → Value} {o : Oper} {w : World}
theorem VRs.hd {x : Value} {xs : List Value} {y : Value} {ys : List Value} (h : VRs β (x :: xs) (y :: ys)) : VR β x y ∧ VRs β xs ys := by
  cases h with | cons a b => exact ⟨a, b⟩
theorem run_nilAhead {t : TypeId} {name : String} {f : FuncId} (h : methP P t name = some f) (k : Nat) (v : Value) : (nilAhead (k + 1) t v name).run P w = .ok (some false) w := by
  unfold methP at h
  cases hi : P.info? t with
  | none => simp [hi] at h
  | some i =>
    simp only [hi] at h
    cases hm : i.methods.find? (·.name == name) with
    | none => simp [hm] at h
    | some m =>
      simp only [hm] at h
      split at h
      · rename_i hp
        have hp' : m.path.toList = [] := by simpa using hp
        split at h
        · rename_i hf hu
          simp [nilAhead, typeInfo, hi, hm, hp', followBlind, hf]
        · cases h
        · rename_i hne hf hu
          simp only [nilAhead, Sem.run_bind, run_info w hi, Result.andThen_ok, hm, hp', followBlind, Sem.run_pure, hf, run_underlying hu]
          rename_i d
          cases d <;> simp_all
        · cases h
      · cases h
theorem run_sliceData {A : Array TypeId} {T : TypeId} {a : Addr} {l c : Nat} (h : c ≠ 0) : (Builtin.unsafeSliceData_ A T #[.slice (some a) l c]).run P w = .ok (.pointer (some a)) w := by
  have : Builtin.unsafeSliceData_ A T #[.slice (some a) l c] = (do
    if c ≠ 0 then pure (.pointer (some a))
    else if (← viewAt a.block).isSome then pure (.pointer (some a))
    else pure (.pointer (some ⟨← newObj (.view a (← elemOf T)), 0, none⟩)) : Sem Value) := rfl
  rw [this]
  simp [h]
theorem bin_says {op : BinOp} {t yt : TypeId} {x y : Operand} {vs : List Value} {v : Value} (hop : o.op = .binOp op t x y yt) (hg : ∀ u v, eqGuard op t x y u v = pure ()) (hvs : VRs β vs [ρ x, ρ y])
    (hs : semP E (.bin op) vs = some v) : Says P β ρ o w v := by
  match vs, hvs with
  | [a, b], hvs =>
    simp only [semP, sBin] at hs
    obtain ⟨f1, f2, f3⟩ := bin_flat hs
    have e1 := hvs.hd.1.flatEq f1
    have e2 := hvs.hd.2.hd.1.flatEq f2
    refine says_of (s := do eqGuard op t x y (ρ x) (ρ y); binOp op t (ρ x) (ρ y)) (by simp only [execOp, hop]) ⟨v, ?_, .same f3⟩
    rw [e1, e2, hg]
    simp [bin_sound hs t w]
theorem kind_sound {k : Kind} {args : List Operand} {vs : List Value} {v : Value} (hE : EnvOk P E) (hk : kindOf P o = some (k, args)) (hvs : VRs β vs (args.map ρ)) (hs : semP E k vs = some v) : Says P β ρ o w v := by
  cases hop : o.op with
  | move x =>
    simp only [kindOf, hop, Option.some.injEq, Prod.mk.injEq] at hk
    obtain ⟨rfl, rfl⟩ := hk
    match vs, hvs with
    | [a], hvs =>
      simp only [semP, sMove, Option.some.injEq] at hs; subst hs
      exact ⟨ρ x, by simp [execOp, hop], hvs.hd.1⟩
  | assign x =>
    simp only [kindOf, hop, Option.some.injEq, Prod.mk.injEq] at hk
    obtain ⟨rfl, rfl⟩ := hk
    match vs, hvs with
    | [a], hvs =>
      simp only [semP, sMove, Option.some.injEq] at hs; subst hs
      exact ⟨ρ x, by simp [execOp, hop], hvs.hd.1⟩
  | pick c a b =>
    simp only [kindOf, hop, Option.some.injEq, Prod.mk.injEq] at hk
    obtain ⟨rfl, rfl⟩ := hk
    match vs, hvs with
    | [p, q, r], hvs =>
      simp only [semP] at hs
      unfold sPick at hs
      split at hs
      · rename_i heq; cases heq; cases hs
        have e := hvs.hd.1.bool
        rename_i _ c'
        refine ⟨if c' then ρ a else ρ b, by simp [execOp, hop, e, asBool], ?_⟩
        cases c'
        · exact hvs.hd.2.hd.2.hd.1
        · exact hvs.hd.2.hd.1
      · cases hs
  | binOp op t x y yt =>
    cases op <;> simp only [kindOf, hop, Option.map_eq_some_iff, Option.some.injEq, Prod.mk.injEq] at hk
    case eql =>
      obtain ⟨k', hk', rfl, rfl⟩ := hk
      exact says_of (s := do eqGuard .eql t x y (ρ x) (ρ y); binOp .eql t (ρ x) (ρ y)) (by simp [execOp, hop]) (eq_sound (E := E) (neg := false) hk' hvs hs)
    case neq =>
      obtain ⟨k', hk', rfl, rfl⟩ := hk
      exact says_of (s := do eqGuard .neq t x y (ρ x) (ρ y); binOp .neq t (ρ x) (ρ y)) (by simp [execOp, hop]) (eq_sound (E := E) (neg := true) hk' hvs hs)
    all_goals
      obtain ⟨rfl, rfl⟩ := hk
      exact bin_says hop (fun _ _ => rfl) hvs hs
  | unOp op t x =>
    simp only [kindOf, hop, Option.some.injEq, Prod.mk.injEq] at hk
    obtain ⟨rfl, rfl⟩ := hk
    match vs, hvs with
    | [a], hvs =>
      simp only [semP, sUn] at hs
      split at hs
      · cases hs; have e := hvs.hd.1.bool; exact says_of (s := Op.unary .not (ρ x)) (by simp only [execOp, hop]) ⟨_, by rw [e]; rfl, VR.b _⟩
      · cases hs; have e := hvs.hd.1.int; exact says_of (s := Op.unary .neg (ρ x)) (by simp only [execOp, hop]) ⟨_, by rw [e]; rfl, VR.i _ _⟩
      · cases hs
  | convert src dst x =>
    simp only [kindOf, hop] at hk
    split at hk
    · rename_i k1 k2 h1 h2
      cases hk
      match vs, hvs with
      | [a], hvs =>
        simp only [semP] at hs
        unfold sConv at hs
        split at hs
        · rename_i heq; cases heq; cases hs
          have e := hvs.hd.1.int
          exact says_of (s := Go.convert src dst (ρ x)) (by simp only [execOp, hop]) ⟨_, by rw [e]; simp [convert, run_underlying h1, run_underlying h2, Conv.intToInt], VR.i _ _⟩
        · cases hs
    · rename_i h1 h2
      cases hk
      match vs, hvs with
      | [a], hvs =>
        simp only [semP] at hs
        unfold sConvStr at hs
        split at hs
        · rename_i heq; cases heq; cases hs
          have e := hvs.hd.1.string
          exact says_of (s := Go.convert src dst (ρ x)) (by simp only [execOp, hop]) ⟨_, by rw [e]; simp [convert, run_underlying h1, run_underlying h2], VR.s _⟩
        · cases hs
    all_goals
      first
        | (split at hk
           · cases hk; simp [semP] at hs
           · cases hk)
        | cases hk
  | makeInterface t x =>
    simp only [kindOf, hop] at hk
    split at hk
    · cases hk
    · cases hk
    · rename_i d h1 h2
      cases hk
      match vs, hvs with
      | [a], hvs =>
        simp only [semP, sMkIface, Option.some.injEq] at hs; subst hs
        refine says_of (s := Instr.makeInterface t (ρ x)) (by simp only [execOp, hop]) ⟨.iface t (ρ x), ?_, .iface hvs.hd.1⟩
        simp only [Instr.makeInterface, Sem.run_bind, run_underlying h2, Result.andThen_ok]
        cases d <;> simp_all
  | makeFunc fn first captured =>
    simp only [kindOf, hop, Option.some.injEq, Prod.mk.injEq] at hk
    obtain ⟨rfl, rfl⟩ := hk
    simp only [semP, Option.some.injEq] at hs; subst hs
    refine says_of (s := Instr.makeFunc fn (first.map ρ) (captured.map ρ)) (by simp only [execOp, hop]) ⟨_, rfl, .func ?_ ?_⟩
    · have := hvs.take first.size
      simpa using this
    · have := hvs.drop first.size
      simpa using this
  | extract x i =>
    simp only [kindOf, hop, Option.some.injEq, Prod.mk.injEq] at hk
    obtain ⟨rfl, rfl⟩ := hk
    match vs, hvs with
    | [a], hvs =>
      simp only [semP] at hs
      unfold sExtract at hs
      split at hs
      · rename_i heq; cases heq
        obtain ⟨ys, e, hy⟩ := hvs.hd.1.tuple'
        obtain ⟨v', h1, h2⟩ := hy.get hs
        refine says_of (s := Instr.extract (ρ x) i) (by simp only [execOp, hop]) ⟨v', ?_, h2⟩
        have : ys[i]? = some v' := by simpa using h1
        simp [e, Instr.extract, this]
      · cases hs
  | field t x i =>
    simp only [kindOf, hop] at hk
    split at hk
    · rename_i fs hu
      split at hk
      · rename_i f hf
        have main : ∀ (b : Bool) (n : Nat), isAggT P f.type = some b → sizeOfT P f.type = some n → k = .field f.offset (if b then some n else none) → args = [x] → Says P β ρ o w v := by
          intro b n hb hn hkk ha
          subst hkk; subst ha
          match vs, hvs with
          | [a], hvs =>
            simp only [semP] at hs
            unfold sField at hs
            split at hs
            · rename_i heq; cases heq
              obtain ⟨ys, e, hy⟩ := hvs.hd.1.agg'
              obtain ⟨v', h1, h2⟩ := run_part w hb hn hy hs
              refine says_of (s := Instr.field t (ρ x) i) (by simp only [execOp, hop]) ⟨v', ?_, h2⟩
              simp only [Instr.field, Sem.run_bind, run_underlying hu, Result.andThen_ok, hf, e, asAgg, Sem.run_pure]
              exact h1
            · cases hs
        split at hk
        · rename_i n hb hn; cases hk; exact main true n hb hn rfl rfl
        · rename_i n hb hn; cases hk; exact main false n hb hn rfl rfl
        · cases hk
      · cases hk
    · cases hk
  | build t parts =>
    simp only [kindOf, hop] at hk
    split at hk
    · rename_i z fs hz hu
      split at hk
      · rename_i ps ss hps hss
        cases hk
        simp only [semP, Option.map_eq_some_iff] at hs
        obtain ⟨cs, hf, rfl⟩ := hs
        obtain ⟨zv, hz1, hz2, hz3, hz4⟩ := run_zeroOf w hz
        have hplaces : ∃ places : Array (Nat × Nat), (fs.mapM (m := Sem) fun (f : Field) => do pure (f.offset, ← sizeOf f.type)).run P w = .ok places w ∧ ∀ (i : Nat) (f : Field) (n : Nat), fs[i]? = some f → sizeOfT P f.type = some n → places[i]? = some (f.offset, n) := by
          have := fun (L : List Field) => (show ∀ ss, L.mapM (fun f => sizeOfT P f.type) = some ss → ∃ places : List (Nat × Nat), (L.mapM (m := Sem) fun (f : Field) => do pure (f.offset, ← sizeOf f.type)).run P w = .ok places w ∧ ∀ (i : Nat) (f : Field) (n : Nat), L[i]? = some f → sizeOfT P f.type = some n → places[i]? = some (f.offset, n) from by
            induction L with
            | nil => intro ss _; exact ⟨[], by simp, by simp⟩
            | cons f L ih =>
              intro ss hss
              simp only [List.mapM_cons, Option.pure_def, Option.bind_eq_bind] at hss
              cases h1 : sizeOfT P f.type with
              | none => simp [h1] at hss
              | some n =>
                cases h2 : L.mapM (fun f => sizeOfT P f.type) with
                | none => simp [h1, h2] at hss
                | some rest =>
                  obtain ⟨pl, hp1, hp2⟩ := ih rest h2
                  refine ⟨(f.offset, n) :: pl, ?_, ?_⟩
                  · simp only [List.mapM_cons, Sem.run_bind, run_size w h1, Result.andThen_ok, Sem.run_pure, hp1]
                  · intro i g m hg hm
                    cases i with
                    | zero => simp at hg; subst hg; rw [h1] at hm; cases hm; rfl
                    | succ i => simp at hg ⊢; exact hp2 i g m hg hm)
          obtain ⟨pl, h1, h2⟩ := this fs.toList ss hss
          refine ⟨pl.toArray, ?_, ?_⟩
          · rw [Array.mapM_eq_mapM_toList]
            simp only [Sem.run_map, h1, Result.andThen_ok]
          · intro i f n hf hn
            simpa using h2 i f n (by simpa using hf) hn
        obtain ⟨places, hp1, hp2⟩ := hplaces
        have hps' : ∀ (L : List (Nat × Operand)) (ps : List (Nat × Nat)), L.mapM (fun (x : Nat × Operand) => (do let f ← fs[x.1]?; let n ← sizeOfT P f.type; pure (f.offset, n) : Option (Nat × Nat))) = some ps → L.mapM (fun x => places[x.1]?) = some ps := by
          intro L
          induction L with
          | nil => intro ps h; simpa using h
          | cons x L ih =>
            intro ps h
            simp only [List.mapM_cons, Option.pure_def, Option.bind_eq_bind] at h ⊢
            cases h1 : fs[x.1]? with
            | none => simp [h1] at h
            | some f =>
              cases h2 : sizeOfT P f.type with
              | none => simp [h1, h2] at h
              | some n =>
                simp only [h1, h2, Option.bind_some] at h
                rw [hp2 _ _ _ h1 h2]
                cases h3 : L.mapM (fun (x : Nat × Operand) => (fs[x.1]?).bind fun f => (sizeOfT P f.type).bind fun n => some (f.offset, n)) with
                | none => simp [h3] at h
                | some r =>
                  have := ih r (by simpa using h3)
                  simp [h3] at h
                  simp [this, h]
        have hv' : VRs β vs (parts.toList.map fun x => ρ x.2) := by simpa [List.map_map, Function.comp_def] using hvs
        obtain ⟨r', hr1, hr2⟩ := fill_sound (ρ := ρ) (fun i => places[i]?) parts.toList ps vs z zv.cells cs (hps' _ _ hps) hv' (by rw [hz2]; exact VRs.flat hz3) hf
        refine says_of (s := Instr.build t (parts.map fun (i, x) => (i, ρ x))) (by simp only [execOp, hop]) ⟨.agg r', ?_, .agg hr2⟩
        simp only [Instr.build, Sem.run_bind, hz1, Result.andThen_ok, run_underlying hu, hp1]
        have : (parts.map fun x => (x.1, ρ x.2)).toList = parts.toList.map fun x => (x.1, ρ x.2) := by simp
        simp only [this, hr1, Sem.run_pure]
      · cases hk
    · rename_i z len e hz hu
      split at hk
      · rename_i n hn
        cases hk
        simp only [semP, Option.map_eq_some_iff] at hs
        obtain ⟨cs, hf, rfl⟩ := hs
        obtain ⟨zv, hz1, hz2, hz3, hz4⟩ := run_zeroOf w hz
        have hv' : VRs β vs (parts.toList.map fun x => ρ x.2) := by simpa [List.map_map, Function.comp_def] using hvs
        have hps : parts.toList.mapM (fun x => (fun i => some (i * n, n) : Nat → Option (Nat × Nat)) x.1) = some (parts.toList.map fun x => (x.1 * n, n)) := by
          generalize parts.toList = L
          induction L with
          | nil => rfl
          | cons x L ih => simp at ih; simp [ih]
        obtain ⟨r', hr1, hr2⟩ := fill_sound (ρ := ρ) (fun i => some (i * n, n)) parts.toList _ vs z zv.cells cs hps hv' (by rw [hz2]; exact VRs.flat hz3) hf
        refine says_of (s := Instr.build t (parts.map fun (i, x) => (i, ρ x))) (by simp only [execOp, hop]) ⟨.agg r', ?_, .agg hr2⟩
        simp only [Instr.build, Sem.run_bind, hz1, Result.andThen_ok, run_underlying hu, run_size w hn]
        have : (parts.map fun x => (x.1, ρ x.2)).toList = parts.toList.map fun x => (x.1, ρ x.2) := by simp
        simp only [this, hr1, Sem.run_pure]
      · cases hk
    · cases hk
  | fieldAddr t x i =>
    simp only [kindOf, hop] at hk
    split at hk
    · rename_i fs hu
      split at hk
      · rename_i f hf
        split at hk
        · rename_i n hn
          cases hk
          match vs, hvs with
          | [a], hvs =>
            simp only [semP] at hs
            unfold sFieldAddr at hs
            split at hs
            · rename_i b0 o0 heq; cases heq; cases hs
              obtain ⟨e, he, hx⟩ := hvs.hd.1.ptr'
              refine says_of (s := Instr.fieldAt t (ρ x) i) (by simp only [execOp, hop]) ⟨_, ?_, .ptr he⟩
              simp only [Instr.fieldAt, Sem.run_bind, run_underlying hu, Result.andThen_ok, hf, hx, Instr.sureAddr, Sem.run_pure, fieldPlace, run_size w hn]
              rw [if_neg (by omega)]
              simp only [Sem.run_pure, Result.andThen_ok, Addr.add_lit]
              rw [show o0 + e.sh + f.offset = o0 + f.offset + e.sh by omega]
            · cases hs
        · cases hk
      · cases hk
    · cases hk
  | indexAddr t x ix =>
    simp only [kindOf, hop] at hk
    split at hk
    · rename_i el hu
      simp only [Option.map_eq_some_iff, Prod.mk.injEq] at hk
      obtain ⟨n, hn, rfl, rfl⟩ := hk
      match vs, hvs with
      | [a, b], hvs =>
        simp only [semP] at hs
        unfold sIndexAddrS at hs
        split at hs
        · rename_i heq; cases heq
          split at hs
          · rename_i hi
            cases hs
            rename_i b0 o0 len cap k i
            obtain ⟨e, o', c', he, hx, hh⟩ := hvs.hd.1.slice'
            have e2 := hvs.hd.2.hd.1.int
            have ho : o' = o0 + e.sh := by
              rcases hh with ⟨_, h, _⟩ | ⟨sz, es, _, h1, h2, h3, _⟩
              · exact h
              · exact h3 (by omega)
            subst ho
            refine says_of (s := Instr.indexAt t (ρ x) (ρ ix)) (by simp only [execOp, hop]) ⟨_, ?_, .ptr he⟩
            simp only [Instr.indexAt, e2, hx, asIntOf, Sem.run_bind, Sem.run_pure, Result.andThen_ok, run_underlying hu]
            rw [if_pos hi]
            simp only [Sem.run_bind, run_size w hn, Result.andThen_ok, Sem.run_pure, Addr.add_lit]
            rw [show o0 + e.sh + i.toNat * n = o0 + i.toNat * n + e.sh by omega]
          · cases hs
        · cases hs
    · rename_i len el hu
      simp only [Option.map_eq_some_iff, Prod.mk.injEq] at hk
      obtain ⟨n, hn, rfl, rfl⟩ := hk
      match vs, hvs with
      | [a, b], hvs =>
        simp only [semP] at hs
        unfold sIndexAddrA at hs
        split at hs
        · rename_i b0 o0 k i heq; cases heq
          split at hs
          · rename_i hi
            cases hs
            obtain ⟨e, he, hx⟩ := hvs.hd.1.ptr'
            have e2 := hvs.hd.2.hd.1.int
            refine says_of (s := Instr.indexAt t (ρ x) (ρ ix)) (by simp only [execOp, hop]) ⟨_, ?_, .ptr he⟩
            simp only [Instr.indexAt, e2, hx, asIntOf, Sem.run_bind, Sem.run_pure, Result.andThen_ok, run_underlying hu, Instr.sureAddr]
            rw [if_pos hi]
            simp only [Sem.run_bind, run_size w hn, Result.andThen_ok, Sem.run_pure, Addr.add_lit]
            rw [show o0 + e.sh + i.toNat * n = o0 + i.toNat * n + e.sh by omega]
          · cases hs
        · cases hs
    · cases hk
  | index t x ix =>
    simp only [kindOf, hop] at hk
    split at hk
    · rename_i hu
      cases hk
      match vs, hvs with
      | [a, b], hvs =>
        simp only [semP] at hs
        unfold sIndexStr at hs
        split at hs
        · rename_i s k i heq; cases heq
          split at hs
          · rename_i hi
            simp only [Option.map_eq_some_iff] at hs
            obtain ⟨c, hc, rfl⟩ := hs
            have e1 := hvs.hd.1.string
            have e2 := hvs.hd.2.hd.1.int
            refine says_of (s := Instr.index t (ρ x) (ρ ix)) (by simp only [execOp, hop]) ⟨.int .u8 c.toNat, ?_, VR.i _ _⟩
            have hc' : s[i.toNat]? = some c := by
              have : s.data[i.toNat]? = some c := by simpa using hc
              rw [← this]; rfl
            simp only [Instr.index, e1, e2, asIntOf, Sem.run_bind, Sem.run_pure, Result.andThen_ok, run_underlying hu, if_pos hi, hc']
          · cases hs
        · cases hs
    · rename_i len el hu
      split at hk
      · rename_i bb n hb hn
        cases hk
        match vs, hvs with
        | [a, b], hvs =>
          simp only [semP] at hs
          unfold sIndexA at hs
          split at hs
          · rename_i heq; cases heq
            split at hs
            · rename_i hi
              obtain ⟨ys, e1, hy⟩ := hvs.hd.1.agg'
              have e2 := hvs.hd.2.hd.1.int
              obtain ⟨v', h1, h2⟩ := run_part w hb hn hy hs
              refine says_of (s := Instr.index t (ρ x) (ρ ix)) (by simp only [execOp, hop]) ⟨v', ?_, h2⟩
              simp only [Instr.index, e1, e2, asIntOf, Sem.run_bind, Sem.run_pure, Result.andThen_ok, run_underlying hu, if_pos hi, run_size w hn]
              exact h1
            · cases hs
          · cases hs
      · cases hk
    · cases hk
  | slice t x lo hi mx =>
    simp only [kindOf, hop] at hk
    split at hk
    · cases hk
    · split at hk
      · rename_i hu
        simp only [Option.map_eq_some_iff, Prod.mk.injEq] at hk
        obtain ⟨n, hn, rfl, rfl⟩ := hk
        simp [semP] at hs
      · rename_i hu
        cases hk
        match vs, hvs with
        | a :: us, hvs =>
          simp only [semP] at hs
          unfold sSliceStr at hs
          split at hs
          · rename_i s vs' heq; cases heq
            simp only [Option.map_eq_some_iff] at hs
            obtain ⟨⟨l, h⟩, hb, rfl⟩ := hs
            have e1 := hvs.hd.1.string
            obtain ⟨h1, h2, h3⟩ := bounds_sound (P := P) (isSlice := false) hb hvs.hd.2 s.data.toList.length (Nat.le_refl _) w
            refine says_of (s := Instr.sliceAt t (ρ x) (lo.map ρ) (hi.map ρ) none) (by simp [execOp, hop]) ⟨_, ?_, VR.s _⟩
            have hsz : s.size = s.data.toList.length := by simp
            simp only [Instr.sliceAt, Instr.slice, e1, Sem.run_bind, run_underlying hu, Result.andThen_ok, hsz]
            simp only [Option.isSome_none, Bool.false_eq_true, if_false, Sem.run_bind, h1, Result.andThen_ok, Sem.run_pure]
            congr 2
            apply ByteArray.ext
            simp [ByteArray.data_extract]
            apply Array.ext'
            simp [List.extract_eq_take_drop]
          · cases hs
      · rename_i len el hu
        simp only [Option.map_eq_some_iff, Prod.mk.injEq] at hk
        obtain ⟨n, hn, rfl, rfl⟩ := hk
        simp [semP] at hs
      · cases hk
  | nilCheck x =>
    simp only [kindOf, hop, Option.some.injEq, Prod.mk.injEq] at hk
    obtain ⟨rfl, rfl⟩ := hk
    match vs, hvs with
    | [a], hvs =>
      simp only [semP] at hs
      unfold sNilCheck at hs
      split at hs
      · rename_i heq; cases heq; cases hs
        obtain ⟨e, he, hx⟩ := hvs.hd.1.ptr'
        exact ⟨_, by simp [execOp, hop, hx], .ptr he⟩
      · rename_i heq; cases heq; cases hs
        obtain ⟨v', hx, hv⟩ := hvs.hd.1.iface'
        exact ⟨_, by simp [execOp, hop, hx], .iface hv⟩
      · rename_i heq; cases heq; cases hs
        obtain ⟨ys, zs, hx, h1, h2⟩ := hvs.hd.1.func'
        exact ⟨_, by simp [execOp, hop, hx], .func h1 h2⟩
      · rename_i nm xs us heq; cases heq
        split at hs
        · rename_i t v0 hxs
          split at hs
          · rename_i hm
            cases hs
            obtain ⟨f, hf⟩ := Option.isSome_iff_exists.1 hm
            have hf' := hE.meth hf
            obtain ⟨ys, zs, hx, h1, h2⟩ := hvs.hd.1.func'
            refine ⟨_, ?_, .func h1 h2⟩
            rw [hxs] at h1
            have hy0 : ∃ v1, ys[0]? = some (.iface t v1) := by
              have hl := h1.length
              have := h1.get (k := 0) (v := .iface t v0) rfl
              obtain ⟨v', g1, g2⟩ := this
              obtain ⟨v1, rfl, _⟩ := g2.iface'
              exact ⟨v1, by simpa using g1⟩
            obtain ⟨v1, hv1⟩ := hy0
            simp only [execOp, hop, hx, hv1]
            simp only [Sem.run_bind, run_program, Result.andThen_ok]
            have hd : P.types.size + Made.depth = (P.types.size + (Made.depth - 1)) + 1 := by simp [Made.depth]
            rw [hd, run_nilAhead hf']
            simp
          · cases hs
        · cases hs
      · cases hs
  | typeAssert x xt t ok =>
    simp only [kindOf, hop] at hk
    split at hk
    · cases hk
    · cases hk
    · rename_i d hni hu
      split at hk
      · rename_i z hz
        split at hk
        · rename_i hfz
          cases hk
          have hzero : (zeroValue t).run P w = .ok z w := by
            cases hi : P.info? t with
            | none => simp [hi] at hz
            | some i => simp [hi] at hz; simp [zeroValue, typeInfo, hi, hz]
          match vs, hvs with
          | [a], hvs =>
            simp only [semP] at hs
            unfold sAs at hs
            split at hs
            · rename_i t' v0 heq; cases heq
              obtain ⟨v', hx, hv⟩ := hvs.hd.1.iface'
              split at hs
              · rename_i htt; subst htt
                cases hs
                refine says_of (s := Instr.typeAssert (ρ x) xt t' ok) (by simp only [execOp, hop]) ⟨if ok then .tuple #[v', .bool true] else v', ?_, ?_⟩
                · simp only [Instr.typeAssert, Sem.run_bind, run_underlying hu, Result.andThen_ok, hx]
                  cases d <;> simp_all
                · cases ok
                  · exact hv
                  · exact .tuple (.cons hv (.cons (VR.b _) .nil))
              · rename_i htt
                split at hs
                · rename_i hok; subst hok
                  cases hs
                  refine says_of (s := Instr.typeAssert (ρ x) xt t true) (by simp only [execOp, hop]) ⟨.tuple #[z, .bool false], ?_, .tuple (.cons (VR.flatCells hfz) (.cons (VR.b _) .nil))⟩
                  simp only [Instr.typeAssert, Sem.run_bind, run_underlying hu, Result.andThen_ok, hx]
                  cases d <;> simp_all
                · cases hs
            · rename_i heq; cases heq
              have hx := hvs.hd.1.niliface
              split at hs
              · rename_i hok; subst hok
                cases hs
                refine says_of (s := Instr.typeAssert (ρ x) xt t true) (by simp only [execOp, hop]) ⟨.tuple #[z, .bool false], ?_, .tuple (.cons (VR.flatCells hfz) (.cons (VR.b _) .nil))⟩
                simp only [Instr.typeAssert, Sem.run_bind, run_underlying hu, Result.andThen_ok, hx]
                cases d <;> simp_all
              · cases hs
            · cases hs
        · cases hk
      · cases hk
  | call c =>
    have hres : ∀ b, c.callee = .builtin b → ∃ cs, execOp ρ o = builtin b c.argTypes o.type cs (c.args.map ρ) := by
      intro b hb
      exact ⟨_, by simp only [execOp, hop, resolve, hb, invoke, pure_bind]; rfl⟩
    cases hc : c.callee with
    | value f =>
      cases f <;> simp only [kindOf, hop, hc] at hk <;> cases hk <;> simp [semP] at hs
    | invoke r name =>
      simp only [kindOf, hop, hc] at hk; cases hk; simp [semP] at hs
    | builtin b =>
      cases b <;> simp only [kindOf, hop, hc] at hk
      case len =>
        split at hk
        · rename_i t x ht hx
          have hargs : c.args.map ρ = #[ρ x] := by
            apply Array.ext'
            simp [hx]
          have ht' : c.argTypes[0]? = some t := ht
          have base : ∀ {n : Int}, (Builtin.len_ c.argTypes o.type #[ρ x]).run P w = .ok (goInt n) w → (execOp ρ o).run P w = .ok (.value (.int .i64 n)) w := by
            intro n h
            obtain ⟨cs, hr⟩ := hres _ hc
            rw [hr, hargs]
            exact run_okv h
          split at hk
          · rename_i hu; cases hk
            match vs, hvs with
            | [a], hvs =>
              simp only [semP] at hs
              unfold sLenStr at hs
              split at hs
              · rename_i heq; cases heq; cases hs
                have e := hvs.hd.1.string
                exact ⟨_, base (by simp [Builtin.len_, ht', e, run_underlying hu]), VR.i _ _⟩
              · cases hs
          · rename_i el hu; cases hk
            match vs, hvs with
            | [a], hvs =>
              simp only [semP] at hs
              unfold sLenS at hs
              split at hs
              · rename_i heq; cases heq; cases hs
                obtain ⟨a', c', e, _⟩ := hvs.hd.1.sliceAny
                exact ⟨_, base (by simp [Builtin.len_, ht', e, run_underlying hu]), VR.i _ _⟩
              · cases hs
          · rename_i n el hu; cases hk
            match vs, hvs with
            | [a], hvs =>
              simp only [semP, sLenC, Option.some.injEq] at hs; subst hs
              exact ⟨_, base (by simp [Builtin.len_, ht', run_underlying hu]), VR.i _ _⟩
          · rename_i t' hu
            split at hk
            · rename_i n el hu2
              cases hk
              match vs, hvs with
              | [a], hvs =>
                simp only [semP, sLenC, Option.some.injEq] at hs; subst hs
                exact ⟨_, base (by simp [Builtin.len_, ht', run_underlying hu, run_underlying hu2]), VR.i _ _⟩
            · cases hk
          · cases hk; simp [semP] at hs
          · cases hk
        · cases hk
      case min =>
        cases hk
        simp only [semP] at hs
        match vs, hvs, hs with
        | u :: us, hvs, hs =>
          simp only [sFold] at hs
          cases hca : c.args.toList with
          | nil => rw [hca] at hvs; cases hvs
          | cons x xs =>
            rw [hca] at hvs
            simp only [List.map_cons] at hvs
            obtain ⟨r', h1, h2⟩ := run_foldV (P := P) (g := Builtin.min2) (fun k k' a b w => run_min2 k k' a b w) w us _ u _ v hvs.hd.1 hvs.hd.2 hs
            refine ⟨r', ?_, h2⟩
            obtain ⟨cs, hr⟩ := hres _ hc
            rw [hr]
            refine run_okv ?_
            simp only [Builtin.min_, Array.toList_map, hca, List.map_cons]
            exact h1
      case max =>
        cases hk
        simp only [semP] at hs
        match vs, hvs, hs with
        | u :: us, hvs, hs =>
          simp only [sFold] at hs
          cases hca : c.args.toList with
          | nil => rw [hca] at hvs; cases hvs
          | cons x xs =>
            rw [hca] at hvs
            simp only [List.map_cons] at hvs
            obtain ⟨r', h1, h2⟩ := run_foldV (P := P) (g := Builtin.max2) (fun k k' a b w => run_max2 k k' a b w) w us _ u _ v hvs.hd.1 hvs.hd.2 hs
            refine ⟨r', ?_, h2⟩
            obtain ⟨cs, hr⟩ := hres _ hc
            rw [hr]
            refine run_okv ?_
            simp only [Builtin.max_, Array.toList_map, hca, List.map_cons]
            exact h1
      case unsafeSliceData =>
        split at hk
        · rename_i x hx
          cases hk
          match vs, hvs with
          | [a], hvs =>
            simp only [semP] at hs
            unfold sSliceData at hs
            split at hs
            · rename_i b0 o0 l0 c0 heq; cases heq; cases hs
              obtain ⟨e, o', c', he, hxx, hh⟩ := hvs.hd.1.slice'
              have ho : o' = o0 + e.sh ∧ c' ≠ 0 := by
                rcases hh with ⟨_, h, h2⟩ | ⟨sz, es, _, h1, h2, h3, _⟩
                · exact ⟨h, by omega⟩
                · exact ⟨h3 (by omega), by omega⟩
              obtain ⟨rfl, hc0⟩ := ho
              have hargs : c.args.map ρ = #[ρ x] := by
                apply Array.ext'
                simp [hx]
              refine ⟨_, ?_, .ptr he⟩
              obtain ⟨cs, hr⟩ := hres _ hc
              rw [hr, hargs, hxx]
              refine run_okv ?_
              exact run_sliceData hc0
            · cases hs
        · cases hk
      all_goals
        repeat' split at hk
        all_goals first
          | (cases hk; done)
          | (cases hk; simp [semP] at hs; done)
          | (simp only [Option.map_eq_some_iff, Prod.mk.injEq] at hk
             obtain ⟨_, _, rfl, rfl⟩ := hk
             simp [semP] at hs)
  | alloc _ =>
    simp only [kindOf, hop] at hk
    repeat' split at hk
    all_goals first
      | (cases hk; done)
      | (cases hk; simp [semP] at hs; done)
      | (simp only [Option.map_eq_some_iff, Prod.mk.injEq] at hk
         obtain ⟨_, _, rfl, rfl⟩ := hk
         simp [semP] at hs)
  | box _ _ =>
    simp only [kindOf, hop] at hk
    repeat' split at hk
    all_goals first
      | (cases hk; done)
      | (cases hk; simp [semP] at hs; done)
      | (simp only [Option.map_eq_some_iff, Prod.mk.injEq] at hk
         obtain ⟨_, _, rfl, rfl⟩ := hk
         simp [semP] at hs)
  | buildSlice _ _ _ =>
    simp only [kindOf, hop] at hk
    repeat' split at hk
    all_goals first
      | (cases hk; done)
      | (cases hk; simp [semP] at hs; done)
      | (simp only [Option.map_eq_some_iff, Prod.mk.injEq] at hk
         obtain ⟨_, _, rfl, rfl⟩ := hk
         simp [semP] at hs)
  | insert _ _ _ _ =>
    simp only [kindOf, hop] at hk
    repeat' split at hk
    all_goals first
      | (cases hk; done)
      | (cases hk; simp [semP] at hs; done)
      | (simp only [Option.map_eq_some_iff, Prod.mk.injEq] at hk
         obtain ⟨_, _, rfl, rfl⟩ := hk
         simp [semP] at hs)
  | load _ _ =>
    simp only [kindOf, hop] at hk
    repeat' split at hk
    all_goals first
      | (cases hk; done)
      | (cases hk; simp [semP] at hs; done)
      | (simp only [Option.map_eq_some_iff, Prod.mk.injEq] at hk
         obtain ⟨_, _, rfl, rfl⟩ := hk
         simp [semP] at hs)
  | store _ _ _ =>
    simp only [kindOf, hop] at hk
    repeat' split at hk
    all_goals first
      | (cases hk; done)
      | (cases hk; simp [semP] at hs; done)
      | (simp only [Option.map_eq_some_iff, Prod.mk.injEq] at hk
         obtain ⟨_, _, rfl, rfl⟩ := hk
         simp [semP] at hs)
  | ready _ =>
    simp only [kindOf, hop] at hk
    repeat' split at hk
    all_goals first
      | (cases hk; done)
      | (cases hk; simp [semP] at hs; done)
      | (simp only [Option.map_eq_some_iff, Prod.mk.injEq] at hk
         obtain ⟨_, _, rfl, rfl⟩ := hk
         simp [semP] at hs)
  | waits _ =>
    simp only [kindOf, hop] at hk
    repeat' split at hk
    all_goals first
      | (cases hk; done)
      | (cases hk; simp [semP] at hs; done)
      | (simp only [Option.map_eq_some_iff, Prod.mk.injEq] at hk
         obtain ⟨_, _, rfl, rfl⟩ := hk
         simp [semP] at hs)
  | sliceToArrayPointer _ _ =>
    simp only [kindOf, hop] at hk
    repeat' split at hk
    all_goals first
      | (cases hk; done)
      | (cases hk; simp [semP] at hs; done)
      | (simp only [Option.map_eq_some_iff, Prod.mk.injEq] at hk
         obtain ⟨_, _, rfl, rfl⟩ := hk
         simp [semP] at hs)
  | makeMap _ _ =>
    simp only [kindOf, hop] at hk
    repeat' split at hk
    all_goals first
      | (cases hk; done)
      | (cases hk; simp [semP] at hs; done)
      | (simp only [Option.map_eq_some_iff, Prod.mk.injEq] at hk
         obtain ⟨_, _, rfl, rfl⟩ := hk
         simp [semP] at hs)
  | makeChan _ _ =>
    simp only [kindOf, hop] at hk
    repeat' split at hk
    all_goals first
      | (cases hk; done)
      | (cases hk; simp [semP] at hs; done)
      | (simp only [Option.map_eq_some_iff, Prod.mk.injEq] at hk
         obtain ⟨_, _, rfl, rfl⟩ := hk
         simp [semP] at hs)
  | makeSlice _ _ _ =>
    simp only [kindOf, hop] at hk
    repeat' split at hk
    all_goals first
      | (cases hk; done)
      | (cases hk; simp [semP] at hs; done)
      | (simp only [Option.map_eq_some_iff, Prod.mk.injEq] at hk
         obtain ⟨_, _, rfl, rfl⟩ := hk
         simp [semP] at hs)
  | lookup _ _ _ _ =>
    simp only [kindOf, hop] at hk
    repeat' split at hk
    all_goals first
      | (cases hk; done)
      | (cases hk; simp [semP] at hs; done)
      | (simp only [Option.map_eq_some_iff, Prod.mk.injEq] at hk
         obtain ⟨_, _, rfl, rfl⟩ := hk
         simp [semP] at hs)
  | mapUpdate _ _ _ _ =>
    simp only [kindOf, hop] at hk
    repeat' split at hk
    all_goals first
      | (cases hk; done)
      | (cases hk; simp [semP] at hs; done)
      | (simp only [Option.map_eq_some_iff, Prod.mk.injEq] at hk
         obtain ⟨_, _, rfl, rfl⟩ := hk
         simp [semP] at hs)
  | mapEntry _ _ _ =>
    simp only [kindOf, hop] at hk
    repeat' split at hk
    all_goals first
      | (cases hk; done)
      | (cases hk; simp [semP] at hs; done)
      | (simp only [Option.map_eq_some_iff, Prod.mk.injEq] at hk
         obtain ⟨_, _, rfl, rfl⟩ := hk
         simp [semP] at hs)
  | entryStore _ _ _ _ =>
    simp only [kindOf, hop] at hk
    repeat' split at hk
    all_goals first
      | (cases hk; done)
      | (cases hk; simp [semP] at hs; done)
      | (simp only [Option.map_eq_some_iff, Prod.mk.injEq] at hk
         obtain ⟨_, _, rfl, rfl⟩ := hk
         simp [semP] at hs)
  | range _ _ =>
    simp only [kindOf, hop] at hk
    repeat' split at hk
    all_goals first
      | (cases hk; done)
      | (cases hk; simp [semP] at hs; done)
      | (simp only [Option.map_eq_some_iff, Prod.mk.injEq] at hk
         obtain ⟨_, _, rfl, rfl⟩ := hk
         simp [semP] at hs)
  | next x b =>
    cases b
    · simp only [kindOf, hop, Option.some.injEq, Prod.mk.injEq] at hk
      obtain ⟨rfl, rfl⟩ := hk
      simp [semP] at hs
    · simp only [kindOf, hop, Option.some.injEq, Prod.mk.injEq] at hk
      obtain ⟨rfl, rfl⟩ := hk
      simp [semP] at hs
  | entry _ =>
    simp only [kindOf, hop] at hk
    repeat' split at hk
    all_goals first
      | (cases hk; done)
      | (cases hk; simp [semP] at hs; done)
      | (simp only [Option.map_eq_some_iff, Prod.mk.injEq] at hk
         obtain ⟨_, _, rfl, rfl⟩ := hk
         simp [semP] at hs)
  | go _ =>
    simp only [kindOf, hop] at hk
    repeat' split at hk
    all_goals first
      | (cases hk; done)
      | (cases hk; simp [semP] at hs; done)
      | (simp only [Option.map_eq_some_iff, Prod.mk.injEq] at hk
         obtain ⟨_, _, rfl, rfl⟩ := hk
         simp [semP] at hs)
  | defer _ =>
    simp only [kindOf, hop] at hk
    repeat' split at hk
    all_goals first
      | (cases hk; done)
      | (cases hk; simp [semP] at hs; done)
      | (simp only [Option.map_eq_some_iff, Prod.mk.injEq] at hk
         obtain ⟨_, _, rfl, rfl⟩ := hk
         simp [semP] at hs)
  | panic _ =>
    simp only [kindOf, hop] at hk
    repeat' split at hk
    all_goals first
      | (cases hk; done)
      | (cases hk; simp [semP] at hs; done)
      | (simp only [Option.map_eq_some_iff, Prod.mk.injEq] at hk
         obtain ⟨_, _, rfl, rfl⟩ := hk
         simp [semP] at hs)
  | send _ _ =>
    simp only [kindOf, hop] at hk
    repeat' split at hk
    all_goals first
      | (cases hk; done)
      | (cases hk; simp [semP] at hs; done)
      | (simp only [Option.map_eq_some_iff, Prod.mk.injEq] at hk
         obtain ⟨_, _, rfl, rfl⟩ := hk
         simp [semP] at hs)
  | recv _ _ _ =>
    simp only [kindOf, hop] at hk
    repeat' split at hk
    all_goals first
      | (cases hk; done)
      | (cases hk; simp [semP] at hs; done)
      | (simp only [Option.map_eq_some_iff, Prod.mk.injEq] at hk
         obtain ⟨_, _, rfl, rfl⟩ := hk
         simp [semP] at hs)
  | select _ _ =>
    simp only [kindOf, hop] at hk
    repeat' split at hk
    all_goals first
      | (cases hk; done)
      | (cases hk; simp [semP] at hs; done)
      | (simp only [Option.map_eq_some_iff, Prod.mk.injEq] at hk
         obtain ⟨_, _, rfl, rfl⟩ := hk
         simp [semP] at hs)
end Go.Cs
namespace Go.Cs
variable {P : Program} {E : Env} {G : List Nat} {β : Ren} {H : Heap} {n : Nat} {ρ : Operand → Value} {o : Oper} {w : World}
theorem HR.cells (hr : HR G β H n w) {b : Nat} {e : Bl} {cs : List Value} {t : TypeId} {gr : Option Nat} (hb : β b = some e) (hg : aget H b = some (.cells cs t gr)) :
    ∃ c fr, w.heap[e.blk]? = some (.cells c t fr) ∧ VRs β cs ((c.toList.drop e.sh).take cs.length) ∧ e.sh + cs.length ≤ c.size ∧ unfrozen fr e.sh c.size ∧
      ((gr = none ∧ e.room = none ∧ e.sh = 0 ∧ c.size = cs.length) ∨ (∃ es, gr = some es ∧ e.room = some (c.size, es))) := by
  obtain ⟨o, h1, h2⟩ := hr.obj hb hg
  cases h2 with
  | exact a b c d =>
    rename_i cc fr
    have hl := c.length
    refine ⟨cc, fr, h1, ?_, ?_, by rw [d]; intro k _ _ h; omega, .inl ⟨rfl, a, b, ?_⟩⟩
    · rw [b, List.drop_zero, List.take_of_length_le (by simp at hl ⊢; omega)]; exact c
    · rw [b]; simp at hl; omega
    · simp at hl; omega
  | grown a l b c =>
    rename_i cc fr es
    exact ⟨cc, fr, h1, b, l, c, .inr ⟨es, rfl, a⟩⟩
theorem HR.pin (hr : HR G β H n w) {b : Nat} {e : Bl} {cs : List (Option Value)} {o : Obj} (hb : β b = some e) (hg : aget H b = some (.pin cs o)) :
    ∃ c t fr, o = .cells c t fr ∧ w.heap[e.blk]? = some (.cells c t fr) ∧ e.room = none ∧ e.sh = 0 ∧ ∀ (j : Nat) (v : Value), cs[j]? = some (some v) → ∃ v', c[j]? = some v' ∧ VR β v v' ∧ ¬ (fr.1 ≤ j ∧ j < fr.2) := by
  obtain ⟨o', h1, h2⟩ := hr.obj hb hg
  cases h2 with
  | pin a b d => exact ⟨_, _, _, rfl, h1, a, b, d⟩
theorem pinGet_length {cs : List (Option Value)} : ∀ {n o : Nat} {vs : List Value}, pinGet cs o n = some vs → vs.length = n
  | 0, o, vs, h => by cases h; rfl
  | n + 1, o, vs, h => by
    simp only [pinGet] at h
    split at h
    · simp only [Option.map_eq_some_iff] at h
      obtain ⟨us, h1, rfl⟩ := h
      simp [pinGet_length h1]
    · cases h
theorem pinGet_sound {cs : List (Option Value)} {c : Array Value} (hk : ∀ (j : Nat) (v : Value), cs[j]? = some (some v) → ∃ v', c[j]? = some v' ∧ VR β v v') : ∀ {n o : Nat} {vs : List Value}, pinGet cs o n = some vs → (n ≠ 0 → o + n ≤ c.size) ∧ VRs β vs ((c.toList.drop o).take n)
  | 0, o, vs, h => by cases h; exact ⟨fun h => absurd rfl h, by simp; exact .nil⟩
  | n + 1, o, vs, h => by
    simp only [pinGet] at h
    split at h
    · rename_i v hv
      simp only [Option.map_eq_some_iff] at h
      obtain ⟨us, h1, rfl⟩ := h
      obtain ⟨v', q1, q2⟩ := hk o v hv
      obtain ⟨r1, r2⟩ := pinGet_sound hk h1
      have hlt : o < c.size := (Array.getElem?_eq_some_iff.1 q1).1
      refine ⟨fun _ => ?_, ?_⟩
      · by_cases hn : n = 0
        · subst hn; omega
        · have := r1 hn; omega
      · have e : c.toList.drop o = v' :: c.toList.drop (o + 1) := by
          rw [List.drop_eq_getElem_cons (by simpa using hlt)]
          congr 1
          have := (Array.getElem?_eq_some_iff.1 q1).2
          simpa using this
        rw [e]
        exact .cons q2 r2
    · cases h
theorem cell_of {c : Array Value} {t : TypeId} {fr : Nat × Nat} {b k : Nat} (h : w.heap[b]? = some (.cells c t fr)) : w.cell? ⟨b, k, none⟩ = c[k]? := by
  simp [World.cell?, h]
theorem HR.cell (hr : HR G β H n w) {b o : Nat} {e : Bl} {cs : List Value} {t : TypeId} {gr : Option Nat} {v : Value} (hb : β b = some e) (hg : aget H b = some (.cells cs t gr)) (hv : cs[o]? = some v) :
    ∃ v', w.cell? ⟨e.blk, o + e.sh, none⟩ = some v' ∧ VR β v v' := by
  obtain ⟨c, fr, h1, h2, h3, h4, h5⟩ := hr.cells hb hg
  obtain ⟨v', h6, h7⟩ := h2.get hv
  refine ⟨v', ?_, h7⟩
  rw [cell_of h1]
  have : o < cs.length := (List.getElem?_eq_some_iff.1 hv).1
  simp [List.getElem?_take, this] at h6
  rw [← h6, Nat.add_comm]
theorem run_loadL (a : Addr) (c : Array Value) (ha : a.spot = none) {t : TypeId} {fr : Nat × Nat} (h : w.heap[a.block]? = some (.cells c t fr)) (n : Nat) (hn : a.off + n ≤ c.size) :
    (loadCells a n).run P w = .ok ((c.toList.drop a.off).take n).toArray w := by
  obtain ⟨b, o, s⟩ := a
  simp only at ha hn h
  subst ha
  have hl : ((c.toList.drop o).take n).length = n := by simp; omega
  have := run_loadCells_list (P := P) w ⟨b, o, none⟩ ((c.toList.drop o).take n) (fun j v hj => by
    rw [Addr.add_lit, cell_of h]
    have hj' : j < n := by have := (List.getElem?_eq_some_iff.1 hj).1; omega
    rw [List.getElem?_take_of_lt hj', List.getElem?_drop] at hj
    simpa using hj)
  rwa [hl] at this
theorem run_load1 (a : Addr) (v : Value) (h : w.cell? a = some v) : (load a).run P w = .ok v w := by simp [h]
theorem load1_sound {k : Kind} {args : List Operand} {vs : List Value} {v : Value} (hr : HR G β H n w) {t : TypeId} {x : Operand} (hop : o.op = .load t x) (ha : isAggT P t = some false) (hvs : VRs β vs [ρ x]) (hs : rLoad1 H vs = some v) : Says P β ρ o w v := by
  unfold rLoad1 at hs
  split at hs
  · rename_i b0 o0
    split at hs
    · rename_i hg
      obtain ⟨e, he, hx⟩ := hvs.hd.1.ptr'
      obtain ⟨v', h1, h2⟩ := hr.cell he hg hs
      refine says_of (s := Instr.loadAt t (ρ x)) (by simp only [execOp, hop]) ⟨v', ?_, h2⟩
      simp only [Instr.loadAt, hx, Instr.sureAddr, Sem.run_bind, Sem.run_pure, Result.andThen_ok, loadVar, run_isAggT w ha, Bool.false_eq_true, if_false]
      exact run_load1 _ _ h1
    · rename_i cs ob hg
      split at hs
      · rename_i v0 hv0
        cases hs
        obtain ⟨e, he, hx⟩ := hvs.hd.1.ptr'
        obtain ⟨c, t', fr, rfl, h1, h2, h3, h4⟩ := hr.pin he hg
        obtain ⟨v', h5, h6, _⟩ := h4 _ _ hv0
        refine says_of (s := Instr.loadAt t (ρ x)) (by simp only [execOp, hop]) ⟨v', ?_, h6⟩
        simp only [Instr.loadAt, hx, Instr.sureAddr, Sem.run_bind, Sem.run_pure, Result.andThen_ok, loadVar, run_isAggT w ha, Bool.false_eq_true, if_false]
        exact run_load1 _ _ (by rw [h3, Nat.add_zero, cell_of h1]; exact h5)
      · cases hs
    · cases hs
  · cases hs
theorem loadN_sound {vs : List Value} {v : Value} (hr : HR G β H n w) {t : TypeId} {x : Operand} {m : Nat} (hop : o.op = .load t x) (ha : isAggT P t = some true) (hm : sizeOfT P t = some m) (hvs : VRs β vs [ρ x]) (hs : rLoadN m H vs = some v) : Says P β ρ o w v := by
  unfold rLoadN at hs
  split at hs
  · rename_i b0 o0
    split at hs
    · rename_i cs t' gr hg
      split at hs
      · rename_i hle
        cases hs
        obtain ⟨e, he, hx⟩ := hvs.hd.1.ptr'
        obtain ⟨c, fr, h1, h2, h3, h4, h5⟩ := hr.cells he hg
        refine says_of (s := Instr.loadAt t (ρ x)) (by simp only [execOp, hop]) ⟨_, ?_, .agg ((h2.drop o0).take m)⟩
        simp only [Instr.loadAt, hx, Instr.sureAddr, Sem.run_bind, Sem.run_pure, Result.andThen_ok, loadVar, run_isAggT w ha, if_true, run_size w hm]
        rw [run_loadL ⟨e.blk, o0 + e.sh, none⟩ c rfl h1 m (by simp only; omega)]
        simp only [Result.andThen_ok]
        congr 2
        apply Array.ext'
        simp only [List.drop_take, List.drop_drop, List.take_take]
        rw [Nat.min_eq_left (by omega), Nat.add_comm]
      · cases hs
    · rename_i cs ob hg
      split at hs
      · rename_i hm0
        simp only [Option.map_eq_some_iff] at hs
        obtain ⟨us, hus, rfl⟩ := hs
        obtain ⟨e, he, hx⟩ := hvs.hd.1.ptr'
        obtain ⟨c, t', fr, rfl, h1, h2, h3, h4⟩ := hr.pin he hg
        obtain ⟨h5, h6⟩ := pinGet_sound (fun j v hj => let ⟨v', a, b, _⟩ := h4 j v hj; ⟨v', a, b⟩) hus
        refine says_of (s := Instr.loadAt t (ρ x)) (by simp only [execOp, hop]) ⟨_, ?_, .agg (ys := ((c.toList.drop o0).take m).toArray) h6⟩
        simp only [Instr.loadAt, hx, Instr.sureAddr, Sem.run_bind, Sem.run_pure, Result.andThen_ok, loadVar, run_isAggT w ha, if_true, run_size w hm]
        have h7 := h5 (by omega)
        rw [h3, Nat.add_zero, run_loadL ⟨e.blk, o0, none⟩ c rfl h1 m (by simp only; omega)]
        rfl
      · cases hs
    · cases hs
  · cases hs
theorem sliceS_sound {vs : List Value} {v : Value} (hr : HR G β H n w) {t el : TypeId} {x : Operand} {lo hi : Option Operand} {m : Nat} (hop : o.op = .slice t x lo hi none) (hu : P.underlying t = some (.slice el)) (hm : sizeOfT P el = some m)
    (hvs : VRs β vs ((x :: (optArg lo ++ optArg hi)).map ρ)) (hs : rSlice m lo.isSome hi.isSome H vs = some v) : Says P β ρ o w v := by
  match vs, hvs with
  | a :: us, hvs =>
    have hsem : ∀ {A : Option Addr} {len cap l h : Nat}, ρ x = .slice A len cap → (Instr.sliceBounds true len cap (lo.map ρ) (hi.map ρ) none).run P w = .ok (l, h, cap) w →
        (Instr.sliceAt t (ρ x) (lo.map ρ) (hi.map ρ) none).run P w = .ok (.slice (if cap = l then A else A.map (·.add (l * m))) (h - l) (cap - l)) w := by
      intro A len cap l h hx hb
      simp only [Instr.sliceAt, Instr.slice, hx, Sem.run_bind, run_underlying hu, Result.andThen_ok, hb, run_size w hm, Sem.run_pure]
    unfold rSlice at hs
    split at hs
    · rename_i us' heq; cases heq
      simp only [Option.map_eq_some_iff] at hs
      obtain ⟨⟨l, h⟩, hb, rfl⟩ := hs
      obtain ⟨h1, h2, h3⟩ := bounds_sound (P := P) (isSlice := true) hb hvs.hd.2 0 (Nat.le_refl _) w
      have hx := hvs.hd.1.nilslice
      obtain rfl : h = 0 := by omega
      obtain rfl : l = 0 := by omega
      refine says_of (s := Instr.sliceAt t (ρ x) (lo.map ρ) (hi.map ρ) none) (by simp [execOp, hop]) ⟨_, hsem hx h1, ?_⟩
      simp only [Option.map_none, ite_self]
      exact .same rfl
    · rename_i b0 o0 len cap us' heq; cases heq
      obtain ⟨e, o', c', he, hx, hh⟩ := hvs.hd.1.slice'
      split at hs
      · rename_i cs' t' hg
        obtain ⟨c, fr, g1, g2, g3, g4, g5⟩ := hr.cells he hg
        have hroom : e.room = none ∧ e.sh = 0 := by
          rcases g5 with ⟨_, a, b, _⟩ | ⟨es, h, _⟩
          · exact ⟨a, b⟩
          · cases h
        obtain ⟨rfl, rfl⟩ : o' = o0 + e.sh ∧ c' = cap := by
          rcases hh with ⟨_, a, b⟩ | ⟨sz, es, h, _⟩
          · exact ⟨a, b⟩
          · rw [hroom.1] at h; cases h
        simp only [Option.map_eq_some_iff] at hs
        obtain ⟨⟨l, h⟩, hb, rfl⟩ := hs
        obtain ⟨h1, h2, h3⟩ := bounds_sound (P := P) (isSlice := true) hb hvs.hd.2 c' (Nat.le_refl _) w
        refine says_of (s := Instr.sliceAt t (ρ x) (lo.map ρ) (hi.map ρ) none) (by simp [execOp, hop]) ⟨_, hsem hx h1, ?_⟩
        by_cases hl : c' = l
        · simp only [hl, if_true]; exact .slice he hroom.1
        · simp only [hl, if_false, Option.map_some, Addr.add_lit]
          rw [show o0 + e.sh + l * m = o0 + l * m + e.sh by omega]
          exact .slice he hroom.1
      · rename_i cs' t' es' hg
        split at hs
        · rename_i hes; subst hes
          obtain ⟨c, fr, g1, g2, g3, g4, g5⟩ := hr.cells he hg
          have hroom : e.room = some (c.size, m) := by
            rcases g5 with ⟨h, _⟩ | ⟨es, h, h'⟩
            · cases h
            · cases h; exact h'
          simp only [Option.map_eq_some_iff] at hs
          obtain ⟨⟨l, h⟩, hb, rfl⟩ := hs
          obtain ⟨sz, es, q0, q1, q2, q3, q4⟩ : ∃ sz es, e.room = some (sz, es) ∧ len ≤ cap ∧ cap ≤ c' ∧ (c' ≠ 0 → o' = o0 + e.sh) ∧ o0 + e.sh + c' * es ≤ sz := by
            rcases hh with ⟨h, _⟩ | h
            · rw [hroom] at h; cases h
            · exact h
          rw [hroom] at q0; cases q0
          obtain ⟨h1, h2, h3⟩ := bounds_sound (P := P) (isSlice := true) hb hvs.hd.2 c' q2 w
          have hlc : l ≤ c' := by omega
          have hmul : c' * m = l * m + (c' - l) * m := by rw [← Nat.add_mul]; congr 1; omega
          refine says_of (s := Instr.sliceAt t (ρ x) (lo.map ρ) (hi.map ρ) none) (by simp [execOp, hop]) ⟨_, hsem hx h1, ?_⟩
          by_cases hl : c' = l
          · subst hl
            simp only [if_true, Nat.sub_self]
            exact .sliceR he hroom (by omega) (by omega) (by omega) (by omega)
          · simp only [hl, if_false, Option.map_some, Addr.add_lit]
            refine .sliceR he hroom (by omega) (by omega) (fun _ => ?_) (by omega)
            rw [q3 (by omega)]; omega
        · cases hs
      · cases hs
    · cases hs
theorem sliceA_sound {vs : List Value} {v : Value} (hr : HR G β H n w) {t el : TypeId} {x : Operand} {lo hi : Option Operand} {m len : Nat} (hop : o.op = .slice t x lo hi none) (hu : P.underlying t = some (.array len el)) (hm : sizeOfT P el = some m)
    (hvs : VRs β vs ((x :: (optArg lo ++ optArg hi)).map ρ)) (hs : rSliceA len m lo.isSome hi.isSome H vs = some v) : Says P β ρ o w v := by
  match vs, hvs with
  | a :: us, hvs =>
    unfold rSliceA at hs
    split at hs
    · rename_i b0 o0 us' heq; cases heq
      obtain ⟨e, he, hx⟩ := hvs.hd.1.ptr'
      split at hs
      · rename_i cs' t' hg
        obtain ⟨c, fr, g1, g2, g3, g4, g5⟩ := hr.cells he hg
        have hroom : e.room = none ∧ e.sh = 0 := by
          rcases g5 with ⟨_, a, b, _⟩ | ⟨es, h, _⟩
          · exact ⟨a, b⟩
          · cases h
        simp only [Option.map_eq_some_iff] at hs
        obtain ⟨⟨l, h⟩, hb, rfl⟩ := hs
        obtain ⟨h1, h2, h3⟩ := bounds_sound (P := P) (isSlice := false) hb hvs.hd.2 len (Nat.le_refl _) w
        refine says_of (s := Instr.sliceAt t (ρ x) (lo.map ρ) (hi.map ρ) none) (by simp [execOp, hop]) ⟨.slice (some (if len = l then ⟨e.blk, o0 + e.sh, none⟩ else ⟨e.blk, o0 + e.sh + l * m, none⟩)) (h - l) (len - l), ?_, ?_⟩
        · simp only [Instr.sliceAt, hx, Instr.sureAddr, Sem.run_bind, Sem.run_pure, run_underlying hu, Result.andThen_ok, h1, run_size w hm, Addr.add_lit]
        · by_cases hl : len = l
          · simp only [hl, if_true]; exact .slice he hroom.1
          · simp only [hl, if_false]
            rw [show o0 + e.sh + l * m = o0 + l * m + e.sh by omega]
            exact .slice he hroom.1
      · cases hs
    · cases hs
theorem HR.mapObj (hr : HR G β H n w) {b : Nat} {e : Bl} {es : List MapEntry} {k : Nat} (hb : β b = some e) (hg : aget H b = some (.map es k)) :
    ∃ c, w.heap[e.blk]? = some (.map c k) ∧ ERs β es c.toList := by
  obtain ⟨o, h1, h2⟩ := hr.obj hb hg
  cases h2 with | map a => exact ⟨_, h1, a⟩
theorem ERs.length : ∀ {xs ys : List MapEntry}, ERs β xs ys → xs.length = ys.length
  | _, _, .nil => rfl
  | _, _, .cons _ _ _ b => by simp [ERs.length b]
theorem run_getMap {r : Nat} {c : Array MapEntry} {k : Nat} (h : w.heap[r]? = some (.map c k)) : (getObj r).run P w = .ok (.map c k) w := by
  simp [getObj, Sem.run, h]
inductive KeyT (P : Program) : Nat → TypeId → Prop
  | int {t : TypeId} {k : IntKind} : P.underlying t = some (.int k) → KeyT P 0 t
  | str {t : TypeId} : P.underlying t = some .string → KeyT P 1 t
  | ints {t : TypeId} {m : Nat} : intsN P 8 t = some m → isAggT P t = some true → KeyT P (2 + m) t
theorem keyKind_shape {t : TypeId} {str : Nat} {el : TypeId} (h : keyKind P t = some (str, el)) : ∃ kt, P.underlying t = some (.map kt el) ∧ KeyT P str kt := by
  unfold keyKind at h
  split at h
  · rename_i k e hu
    split at h
    · rename_i h2; cases h; exact ⟨k, hu, .int h2⟩
    · rename_i h2; cases h; exact ⟨k, hu, .str h2⟩
    · rename_i h2; split at h
      · rename_i m hm; cases h; exact ⟨k, hu, .ints hm (by unfold isAggT; rw [h2])⟩
      · cases h
    · rename_i h2; split at h
      · rename_i m hm; cases h; exact ⟨k, hu, .ints hm (by unfold isAggT; rw [h2])⟩
      · cases h
    · cases h
  · cases h
theorem flats_ints {cs : List Value} (h : cs.all isInt = true) : flats cs = true := by
  simp only [flats, List.all_eq_true] at *
  intro x hx
  have := h x hx
  cases x <;> simp_all [isInt, flat]
theorem keyFits_self {str : Nat} {k : Value} (h : keyFits str k = true) {y : Value} (hv : VR β k y) : y = k := by
  cases k <;> simp only [keyFits] at h <;> first
    | exact hv.int
    | exact hv.string
    | (obtain ⟨ys, rfl, hy⟩ := hv.agg'
       simp only [Bool.and_eq_true] at h
       rw [Array.ext' (VRs.flatEq (flats_ints h.2) hy)])
    | contradiction
theorem keyEq_self {k k' : Value} {r : Bool} (h : keyEq k k' = some r) {y : Value} (hv : VR β k' y) : y = k' := by
  unfold keyEq at h
  split at h
  · exact hv.int
  · exact hv.string
  · obtain ⟨ys, rfl, hy⟩ := hv.agg'
    rw [Array.ext' (VRs.flatEq (eqIntsL_flat _ _ _ h).2 hy)]
  · cases h
theorem run_checkInts : ∀ (d : Nat) (t : TypeId) (m : Nat), intsN P d t = some m → ∀ (em : Bool) (D : Nat) (b : Bool) (cs : List Value), isAggT P t = some b → cs.length = m →
    (Instr.checkKey em (D + d) t (mkV b cs)).run P w = .ok () w
  | 0, t, m, h, _, _, _, _, _, _ => by simp [intsN] at h
  | d + 1, t, m, h, em, D, b, cs, hb, hl => by
    unfold intsN at h
    rw [show D + (d + 1) = D + d + 1 from rfl, Instr.checkKey]
    split at h
    · rename_i k hu
      simp only [Sem.run_bind, run_underlying hu, Result.andThen_ok]
      rfl
    · rename_i fs hu
      split at h
      · cases h
      · have : b = true := by unfold isAggT at hb; rw [hu] at hb; simpa using hb.symm
        subst this
        simp only [Sem.run_bind, run_underlying hu, Result.andThen_ok, mkV, if_true]
        rw [← Array.forIn_toList]
        have hgen : ∀ (L : List Field) (acc : Nat), intsRun P (intsN P d) acc L = some m →
            (forIn L PUnit.unit fun f _ => do
              if f.name ≠ "_" then
                Instr.checkKey em (D + d) f.type (← part f.type cs.toArray f.offset)
                pure (ForInStep.yield PUnit.unit)
              else pure (ForInStep.yield PUnit.unit) : Sem PUnit).run P w = .ok PUnit.unit w := by
          intro L
          induction L with
          | nil => intro acc _; simp
          | cons f L ih =>
            intro acc hrun
            unfold intsRun at hrun
            split at hrun
            · rename_i q hq
              split at hrun
              · rename_i hc
                obtain ⟨c1, c2, c3⟩ := hc
                have hqle : acc + q ≤ m := by
                  have : ∀ (L : List Field) (a : Nat), intsRun P (intsN P d) a L = some m → a ≤ m := by
                    intro L
                    induction L with
                    | nil => intro a h; simp [intsRun] at h; omega
                    | cons g L ih2 =>
                      intro a h
                      unfold intsRun at h
                      split at h
                      · split at h
                        · have := ih2 _ h; omega
                        · cases h
                      · cases h
                  exact this L _ hrun
                obtain ⟨bf, hbf, hbf1⟩ := intsN_agg hq
                have hx := run_partL w (cs := cs) (off := acc) hbf c1 (by omega) (fun e => (hbf1 e).1)
                have hrec := run_checkInts d f.type q hq em D bf _ hbf (show ((cs.drop acc).take q).length = q by simp; omega)
                simp only [List.forIn_cons, c2, ne_eq, not_false_eq_true, if_true, Sem.run_bind, c3, hx, Result.andThen_ok, hrec, Sem.run_pure]
                exact ih _ hrun
              · cases hrun
            · cases hrun
        have := hgen fs.toList 0 h
        refine (congrArg (fun z => Result.andThen z _) this).trans ?_
        rfl
    · rename_i len e hu
      split at h
      · rename_i q hq
        split at h
        · rename_i hsz
          cases h
          have : b = true := by unfold isAggT at hb; rw [hu] at hb; simpa using hb.symm
          subst this
          obtain ⟨bf, hbf, hbf1⟩ := intsN_agg hq
          simp only [Sem.run_bind, run_underlying hu, Result.andThen_ok, mkV, if_true]
          simp only [Std.Legacy.Range.forIn_eq_forIn_range', Std.Legacy.Range.size, Nat.sub_zero, Nat.add_one_sub_one, Nat.div_one]
          have hgen : ∀ (k i : Nat), i + k = len →
              (forIn (List.range' i k) PUnit.unit fun i _ => do
                Instr.checkKey em (D + d) e (← part e cs.toArray (i * (← sizeOf e)))
                pure (ForInStep.yield PUnit.unit) : Sem PUnit).run P w = .ok PUnit.unit w := by
            intro k
            induction k with
            | zero => intro i _; simp
            | succ k ih =>
              intro i hi
              have hle : i * q + q ≤ len * q := by rw [← Nat.succ_mul]; exact Nat.mul_le_mul_right q (by omega)
              have hx := run_partL w (cs := cs) (off := i * q) hbf hsz (by omega) (fun e => (hbf1 e).1)
              have hrec := run_checkInts d e q hq em D bf _ hbf (show ((cs.drop (i * q)).take q).length = q by simp; omega)
              simp only [List.range'_succ, List.forIn_cons, Sem.run_bind, run_size w hsz, Result.andThen_ok, hx, hrec, Sem.run_pure]
              exact ih (i + 1) (by omega)
          have := hgen len 0 (by omega)
          refine (congrArg (fun z => Result.andThen z _) this).trans ?_
          rfl
        · cases h
      · cases h
    · cases h
theorem eqIntsL_length : ∀ {a b : List Value} {r : Bool}, eqIntsL a b = some r → a.length = b.length
  | [], [], _, _ => rfl
  | [], _ :: _, r, h => by simp [eqIntsL] at h
  | x :: a, [], r, h => by cases x <;> simp [eqIntsL] at h
  | x :: a, y :: b, r, h => by
    cases x <;> cases y <;> simp only [eqIntsL] at h <;> first
      | (cases h; done)
      | (split at h
         · cases hq : eqIntsL a b with
           | none => simp [hq] at h
           | some s => simp [eqIntsL_length hq]
         · cases h)
theorem keyFits_agg {m : Nat} {k : Value} (h : keyFits (2 + m) k = true) : ∃ cs, k = .agg cs ∧ cs.toList.length = m := by
  cases k with
  | agg cs =>
    simp only [keyFits, Bool.and_eq_true, beq_iff_eq] at h
    exact ⟨cs, rfl, by omega⟩
  | int k n => simp [keyFits] at h; try omega
  | string s => simp [keyFits] at h; try omega
  | _ => simp [keyFits] at h
theorem keyFits_int {k : Value} (h : keyFits 0 k = true) : ∃ q n, k = .int q n := by
  cases k with
  | int k n => exact ⟨k, n, rfl⟩
  | agg cs => simp [keyFits] at h; try omega
  | _ => simp [keyFits] at h
theorem keyFits_str {k : Value} (h : keyFits 1 k = true) : ∃ s, k = .string s := by
  cases k with
  | string s => exact ⟨s, rfl⟩
  | agg cs => simp [keyFits] at h; omega
  | _ => simp [keyFits] at h
theorem check_sound {str : Nat} {kt : TypeId} (hk : KeyT P str kt) {k : Value} (hf : keyFits str k = true) (em : Bool) : (Instr.checkKey em 10000 kt k).run P w = .ok () w := by
  cases hk with
  | int hu =>
    have : ∀ d, (Instr.checkKey em (d + 1) kt k).run P w = .ok () w := by
      intro d
      rw [Instr.checkKey]
      simp only [Sem.run_bind, run_underlying hu, Result.andThen_ok]
      rfl
    exact this 9999
  | str hu =>
    have : ∀ d, (Instr.checkKey em (d + 1) kt k).run P w = .ok () w := by
      intro d
      rw [Instr.checkKey]
      simp only [Sem.run_bind, run_underlying hu, Result.andThen_ok]
      rfl
    exact this 9999
  | ints hm ha =>
    rename_i m
    obtain ⟨cs, rfl, hlen⟩ := keyFits_agg hf
    have := run_checkInts (w := w) 8 kt m hm em (10000 - 8) true cs.toList ha hlen
    simpa [mkV] using this
def FR (β : Ren) (N : Nat) (r r' : Option (Nat × Value)) : Prop := r = none ∧ r' = none ∨ ∃ i v v', r = some (i, v) ∧ r' = some (i, v') ∧ VR β v v' ∧ i < N
theorem findNow_sound {kind : TypeDesc} {k : Value} (hsame : ∀ k' r, keyEq k k' = some r → Instr.sameNow kind k k' = some r) {es es' : List MapEntry} (he : ERs β es es') :
    ∀ (i : Nat) (r : Option (Nat × Value)), findE k es i = some r → ∃ r', Instr.findNow kind k es' i = some r' ∧ FR β (i + es.length) r r' := by
  induction he with
  | nil => intro i r h; simp [findE] at h; subst h; exact ⟨none, rfl, .inl ⟨rfl, rfl⟩⟩
  | cons hkey hval hb _ ih =>
    rename_i x y xs ys _
    intro i r h
    unfold findE at h
    split at h
    · rename_i heq; cases h
      have e := keyEq_self heq hkey
      refine ⟨some (i, y.val), ?_, .inr ⟨i, _, _, rfl, rfl, hval, by simp⟩⟩
      simp only [Instr.findNow, e, hsame _ _ heq]
    · rename_i heq
      have e := keyEq_self heq hkey
      obtain ⟨r', h1, h2⟩ := ih (i + 1) r h
      refine ⟨r', ?_, ?_⟩
      · simp only [Instr.findNow, e, hsame _ _ heq, h1]
      · rcases h2 with h2 | ⟨j, v, v', p, q, s, t⟩
        · exact .inl h2
        · exact .inr ⟨j, v, v', p, q, s, by simp; omega⟩
    · cases h
theorem findAsking_sound {kt : TypeId} {k : Value} (heqv : ∀ k' r, keyEq k k' = some r → (Op.equal kt k k').run P w = .ok r w) {es es' : List MapEntry} (he : ERs β es es') :
    ∀ (i : Nat) (r : Option (Nat × Value)), findE k es i = some r → ∃ r', (Instr.findAsking kt k es' i).run P w = .ok r' w ∧ FR β (i + es.length) r r' := by
  induction he with
  | nil => intro i r h; simp [findE] at h; subst h; exact ⟨none, rfl, .inl ⟨rfl, rfl⟩⟩
  | cons hkey hval hb _ ih =>
    rename_i x y xs ys _
    intro i r h
    unfold findE at h
    split at h
    · rename_i heq; cases h
      have e := keyEq_self heq hkey
      refine ⟨some (i, y.val), ?_, .inr ⟨i, _, _, rfl, rfl, hval, by simp⟩⟩
      simp [Instr.findAsking, e, heqv _ _ heq]
    · rename_i heq
      have e := keyEq_self heq hkey
      obtain ⟨r', h1, h2⟩ := ih (i + 1) r h
      refine ⟨r', ?_, ?_⟩
      · simp [Instr.findAsking, e, heqv _ _ heq, h1]
      · rcases h2 with h2 | ⟨j, v, v', p, q, s, t⟩
        · exact .inl h2
        · exact .inr ⟨j, v, v', p, q, s, by simp; omega⟩
    · cases h
theorem find_sound {str : Nat} {kt : TypeId} (hk : KeyT P str kt) {k : Value} (hf : keyFits str k = true) {es es' : List MapEntry} {r : Option (Nat × Value)} (he : ERs β es es') (h : findE k es 0 = some r) :
    ∃ r', (Instr.findKey kt k es').run P w = .ok r' w ∧ FR β es.length r r' := by
  cases hk with
  | int hu =>
    rename_i kk
    obtain ⟨q, a, rfl⟩ := keyFits_int hf
    obtain ⟨r', h1, h2⟩ := findNow_sound (kind := .int kk) (fun k' r hr => by cases k' <;> simp_all [keyEq, Instr.sameNow]) he 0 r h
    exact ⟨r', by simp only [Instr.findKey, Sem.run_bind, run_underlying hu, Result.andThen_ok, h1, Sem.run_pure], by simpa using h2⟩
  | str hu =>
    obtain ⟨s, rfl⟩ := keyFits_str hf
    obtain ⟨r', h1, h2⟩ := findNow_sound (kind := .string) (fun k' r hr => by
        cases k' <;> simp only [keyEq] at hr <;> first | (cases hr; done) | skip
        simp only [Instr.sameNow]
        rw [← hr, beq_toListBytes, ByteArray.toList_eq, ByteArray.toList_eq]) he 0 r h
    exact ⟨r', by simp only [Instr.findKey, Sem.run_bind, run_underlying hu, Result.andThen_ok, h1, Sem.run_pure], by simpa using h2⟩
  | ints hm ha =>
    rename_i m
    obtain ⟨cs, rfl, hlen⟩ := keyFits_agg hf
    have hdesc : ∃ d, P.underlying kt = some d ∧ ((∃ fs, d = .struct fs) ∨ ∃ l e, d = .array l e) := by
      unfold isAggT at ha
      split at ha
      · rename_i hu; exact ⟨_, hu, .inl ⟨_, rfl⟩⟩
      · rename_i hu; exact ⟨_, hu, .inr ⟨_, _, rfl⟩⟩
      · simp at ha
      · simp at ha
    obtain ⟨d, hu, hd⟩ := hdesc
    have hnow : ∀ (e : MapEntry) (l : List MapEntry), Instr.findNow d (.agg cs) (e :: l) 0 = none := by
      intro e l
      have : Instr.sameNow d (.agg cs) e.key = none := by
        rcases hd with ⟨fs, rfl⟩ | ⟨a, b, rfl⟩ <;> rfl
      simp [Instr.findNow, this]
    have hask := findAsking_sound (P := P) (w := w) (kt := kt) (k := .agg cs) (fun k' r hr => by
        cases k' <;> simp only [keyEq] at hr <;> first | (cases hr; done) | skip
        rename_i cs'
        have hl := eqIntsL_length hr
        have := run_equalInts 8 kt m hm w (10000 - 8) true cs.toList cs'.toList r ha hlen (by omega) hr
        simp only [mkV, if_true, Array.toArray_toList] at this
        exact this) he 0 r h
    cases he with
    | nil =>
      simp [findE] at h; subst h
      exact ⟨none, by simp only [Instr.findKey, Sem.run_bind, run_underlying hu, Result.andThen_ok, Instr.findNow, Sem.run_pure], .inl ⟨rfl, rfl⟩⟩
    | cons a b c d =>
      obtain ⟨r', h1, h2⟩ := hask
      exact ⟨r', by simp only [Instr.findKey, Sem.run_bind, run_underlying hu, Result.andThen_ok, hnow]; exact h1, by simpa using h2⟩
theorem lookup_sound {vs : List Value} {v : Value} (hr : HR G β H n w) {t : TypeId} {x y : Operand} {ok : Bool} {str : Nat} {el : TypeId} {z : Value} (hop : o.op = .lookup t x y ok) (hk : keyKind P t = some (str, el)) (hz : (P.info? el).bind (·.zero) = some z)
    (hfz : flats z.cells.toList = true) (hvs : VRs β vs [ρ x, ρ y]) (hs : rLookup str z ok H vs = some v) : Says P β ρ o w v := by
  obtain ⟨kt, hu, hkt⟩ := keyKind_shape hk
  have hzero : (zeroValue el).run P w = .ok z w := by
    cases hi : P.info? el with
    | none => simp [hi] at hz
    | some i => simp [hi] at hz; simp [zeroValue, typeInfo, hi, hz]
  match vs, hvs with
  | [a, b], hvs =>
    unfold rLookup at hs
    split at hs
    · rename_i key heq; cases heq
      split at hs
      · rename_i hf
        cases hs
        have e1 := hvs.hd.1.nilmap
        have e2 := keyFits_self hf hvs.hd.2.hd.1
        refine says_of (s := Instr.lookup t (ρ x) (ρ y) ok) (by simp only [execOp, hop]) ⟨if ok then .tuple #[z, .bool false] else z, ?_, ?_⟩
        · have := find_sound (P := P) (w := w) (β := β) hkt hf (ERs.nil) (r := none) rfl
          obtain ⟨r', h1, h2⟩ := this
          have : r' = none := by
            rcases h2 with ⟨_, h⟩ | ⟨_, _, _, h, _⟩
            · exact h
            · cases h
          subst this
          simp only [Instr.lookup, Sem.run_bind, run_underlying hu, Result.andThen_ok, e1, e2, Sem.run_pure, check_sound hkt hf, h1, hzero]
        · cases ok
          · exact VR.flatCells hfz
          · exact .tuple (.cons (VR.flatCells hfz) (.cons (VR.b _) .nil))
      · cases hs
    · rename_i b0 key heq; cases heq
      split at hs
      · rename_i es clk hg
        split at hs
        · rename_i hf
          obtain ⟨e, he, hx⟩ := hvs.hd.1.map'
          have e2 := keyFits_self hf hvs.hd.2.hd.1
          obtain ⟨c, g1, g2⟩ := hr.mapObj he hg
          cases hfe : findE b es 0 with
          | none => simp [hfe] at hs
          | some r =>
            obtain ⟨r', h1, h2⟩ := find_sound (P := P) (w := w) hkt hf g2 hfe
            rcases h2 with ⟨rfl, rfl⟩ | ⟨i, v0, v', rfl, rfl, hv, _⟩
            · simp only [hfe, Option.some.injEq] at hs; subst hs
              refine says_of (s := Instr.lookup t (ρ x) (ρ y) ok) (by simp only [execOp, hop]) ⟨if ok then .tuple #[z, .bool false] else z, ?_, ?_⟩
              · simp only [Instr.lookup, Sem.run_bind, run_underlying hu, Result.andThen_ok, hx, e2, run_getMap g1, Sem.run_pure, check_sound hkt hf, h1, hzero]
              · cases ok
                · exact VR.flatCells hfz
                · exact .tuple (.cons (VR.flatCells hfz) (.cons (VR.b _) .nil))
            · simp only [hfe, Option.some.injEq] at hs; subst hs
              refine says_of (s := Instr.lookup t (ρ x) (ρ y) ok) (by simp only [execOp, hop]) ⟨if ok then .tuple #[v', .bool true] else v', ?_, ?_⟩
              · simp only [Instr.lookup, Sem.run_bind, run_underlying hu, Result.andThen_ok, hx, e2, run_getMap g1, Sem.run_pure, check_sound hkt hf, h1]
              · cases ok
                · exact hv
                · exact .tuple (.cons hv (.cons (VR.b _) .nil))
        · cases hs
      · cases hs
    · cases hs
theorem lenMap_sound {vs : List Value} {v : Value} (hr : HR G β H n w) {A : Array TypeId} {T : TypeId} {t kt el : TypeId} {x : Value} (ht : A[0]? = some t) (hu : P.underlying t = some (.map kt el))
    (hvs : VRs β vs [x]) (hs : rLenMap H vs = some v) : ∃ v', (Builtin.len_ A T #[x]).run P w = .ok v' w ∧ VR β v v' := by
  match vs, hvs with
  | [a], hvs =>
    unfold rLenMap at hs
    split at hs
    · rename_i heq; cases heq; cases hs
      have e := hvs.hd.1.nilmap
      exact ⟨_, by simp [Builtin.len_, ht, e, run_underlying hu]; rfl, VR.i _ _⟩
    · rename_i b0 heq; cases heq
      split at hs
      · rename_i es clk hg
        cases hs
        obtain ⟨e, he, hx⟩ := hvs.hd.1.map'
        obtain ⟨c, g1, g2⟩ := hr.mapObj he hg
        have hl := g2.length
        refine ⟨.int .i64 c.size, by simp [Builtin.len_, ht, hx, run_underlying hu, run_getMap g1]; rfl, ?_⟩
        simp only [Array.length_toList] at hl
        rw [hl]; exact VR.i _ _
      · cases hs
    · cases hs
theorem cellsOfSlice_sound (hr : HR G β H n w) {m : Nat} {v v' : Value} {cs : List Value} (hv : VR β v v') (h : cellsOfSlice H m v = some cs) :
    ∃ a' l c', v' = .slice a' l c' ∧ ((l = 0 ∧ cs = []) ∨ ∃ a, a' = some a ∧ a.spot = none ∧ ∃ c t fr, (l * m ≠ 0 → w.heap[a.block]? = some (.cells c t fr) ∧ a.off + l * m ≤ c.size ∧ VRs β cs ((c.toList.drop a.off).take (l * m)))) ∧ cs.length = l * m := by
  unfold cellsOfSlice at h
  split at h
  · cases h
    obtain ⟨a', c', this, _⟩ := hv.sliceAny
    exact ⟨_, _, _, this, .inl ⟨rfl, rfl⟩, by simp⟩
  · cases h
    obtain ⟨a', c', this, _⟩ := hv.sliceAny
    exact ⟨_, _, _, this, .inl ⟨rfl, rfl⟩, by simp⟩
  · rename_i b0 o0 l cap _
    split at h
    · rename_i cs0 t gr hg
      split at h
      · rename_i hle
        cases h
        obtain ⟨e, o', c', he, hx, hh⟩ := hv.slice'
        obtain ⟨c, fr, h1, h2, h3, h4, h5⟩ := hr.cells he hg
        refine ⟨_, _, _, hx, .inr ⟨⟨e.blk, o', none⟩, rfl, rfl, c, t, fr, fun hne => ?_⟩, by simp; omega⟩
        have ho : o' = o0 + e.sh := by
          rcases hh with ⟨_, h, _⟩ | ⟨sz, es, _, q1, q2, q3, _⟩
          · exact h
          · refine q3 ?_
            intro hc
            have : l = 0 := by omega
            subst this; simp at hne
        subst ho
        refine ⟨h1, by simp only; omega, ?_⟩
        have := (h2.drop o0).take (l * m)
        simp only [List.drop_take, List.drop_drop, List.take_take] at this
        rwa [Nat.min_eq_left (by omega), Nat.add_comm] at this
      · cases h
    · rename_i cs0 ob hg
      obtain ⟨e, o', c', he, hx, hh⟩ := hv.slice'
      obtain ⟨c, t', fr, rfl, h1, h2, h3, h4⟩ := hr.pin he hg
      obtain ⟨h5, h6⟩ := pinGet_sound (fun j v hj => let ⟨v', a, b, _⟩ := h4 j v hj; ⟨v', a, b⟩) h
      refine ⟨_, _, _, hx, .inr ⟨⟨e.blk, o', none⟩, rfl, rfl, c, t', fr, fun hne => ?_⟩, pinGet_length h⟩
      have ho : o' = o0 := by
        rcases hh with ⟨_, h, _⟩ | ⟨sz, es, q0, _⟩
        · rw [h, h3, Nat.add_zero]
        · rw [h2] at q0; cases q0
      subst ho
      exact ⟨h1, h5 hne, h6⟩
    · cases h
  · cases h
theorem run_bytesL : ∀ (vs : List Value) (bs : List UInt8) (acc : ByteArray), bytesOfV vs = some bs →
    (forIn vs acc fun c s => do
      let .int .u8 n := c | (stuck "bytesToString: byte expected" : Sem (ForInStep ByteArray))
      pure (ForInStep.yield (s.push (UInt8.ofNat n.toNat))) : Sem ByteArray).run P w = .ok ⟨acc.data ++ bs.toArray⟩ w
  | [], bs, acc, h => by simp [bytesOfV] at h; subst h; simp
  | v :: vs, bs, acc, h => by
    simp only [bytesOfV] at h
    split at h
    · rename_i b0 bs0 h1 h2
      cases h
      unfold byteOfV at h1
      split at h1
      · rename_i c0
        split at h1
        · cases h1
          simp only [List.forIn_cons, Sem.run_bind, Sem.run_pure, Result.andThen_ok]
          rw [run_bytesL vs bs0 _ h2]
          congr 2
          apply Array.ext'
          simp
        · cases h1
      · cases h1
    · cases h
theorem bytesOfV_flat : ∀ {vs : List Value} {bs : List UInt8}, bytesOfV vs = some bs → flats vs = true
  | [], _, _ => rfl
  | v :: vs, bs, h => by
    simp only [bytesOfV] at h
    split at h
    · rename_i b0 bs0 h1 h2
      have := bytesOfV_flat h2
      unfold byteOfV at h1
      split at h1
      · simp only [flats, List.all_cons, Bool.and_eq_true] at *
        exact ⟨rfl, this⟩
      · cases h1
    · cases h
theorem bytesToStr_sound {vs : List Value} {v : Value} (hr : HR G β H n w) {src dst el : TypeId} {x : Operand} (hop : o.op = .convert src dst x) (h1 : P.underlying src = some (.slice el)) (h2 : P.underlying dst = some .string) (h3 : P.underlying el = some (.int .u8))
    (hvs : VRs β vs [ρ x]) (hs : rBytesToStr H vs = some v) : Says P β ρ o w v := by
  match vs, hvs with
  | [a], hvs =>
    simp only [rBytesToStr] at hs
    split at hs
    · rename_i cs hc
      simp only [Option.map_eq_some_iff] at hs
      obtain ⟨bs, hb, rfl⟩ := hs
      obtain ⟨a', l, c', hx, hh, hlen⟩ := cellsOfSlice_sound hr hvs.hd.1 hc
      have hfin : ∀ s, (Conv.bytesToString (ρ x)).run P w = .ok (.string s) w → (convert src dst (ρ x)).run P w = .ok (.string s) w := by
        intro s h
        simp only [convert, hx, Sem.run_bind, run_underlying h1, run_underlying h2, Result.andThen_ok, run_underlying h3]
        rw [hx] at h
        exact h
      refine says_of (s := Go.convert src dst (ρ x)) (by simp only [execOp, hop]) ⟨_, hfin _ ?_, VR.s _⟩
      rcases hh with ⟨rfl, rfl⟩ | ⟨A, rfl, hsp, c, t, fr, hh⟩
      · simp [bytesOfV] at hb; subst hb
        rw [hx]
        cases a' with
        | none => rfl
        | some A =>
          simp [Conv.bytesToString, loadCells, loadCellsFrom]
          rfl
      · by_cases hl : l * 1 = 0
        · have : l = 0 := by omega
          subst this
          have : cs = [] := List.eq_nil_of_length_eq_zero (by simpa using hlen)
          subst this
          simp [bytesOfV] at hb; subst hb
          rw [hx]
          simp [Conv.bytesToString, loadCells, loadCellsFrom]
          rfl
        · obtain ⟨g1, g2, g3⟩ := hh hl
          have e := VRs.flatEq (bytesOfV_flat hb) g3
          rw [hx]
          simp only [Conv.bytesToString, Sem.run_bind]
          rw [run_loadL A c hsp g1 l (by omega)]
          simp only [Nat.mul_one] at e
          rw [e]
          simp only [Result.andThen_ok]
          rw [← Array.forIn_toList]
          have := run_bytesL (P := P) (w := w) cs bs ByteArray.empty hb
          refine (congrArg (fun z => Result.andThen z _) (show _ = _ from this)).trans ?_
          simp
    · cases hs
end Go.Cs
namespace Go.Cs
variable {P : Program} {E : Env} {G : List Nat} {β : Ren} {H : Heap} {n : Nat} {ρ : Operand → Value} {o : Oper} {w : World}
theorem shape_of {c : Array Value} {t : TypeId} {fr : Nat × Nat} {b : Nat} (h : w.heap[b]? = some (.cells c t fr)) : w.shape? b = some (t, c.size) := by
  simp [World.shape?, h]
theorem run_seenAt {c : Array Value} {t : TypeId} {fr : Nat × Nat} {a : Addr} (h : w.heap[a.block]? = some (.cells c t fr)) : (Conv.seenAt a).run P w = .ok a w := by
  simp [Conv.seenAt, viewAt, shape_of h]
theorem toUnsafe_sound {vs : List Value} {v : Value} (hr : HR G β H n w) {src dst el : TypeId} {x : Operand} {m : Nat} (hop : o.op = .convert src dst x) (h1 : P.underlying src = some (.pointer el)) (h2 : P.underlying dst = some .unsafePointer) (hm : sizeOfT P el = some (m + 1))
    (hvs : VRs β vs [ρ x]) (hs : rToUnsafe H vs = some v) : Says P β ρ o w v := by
  unfold rToUnsafe at hs
  split at hs
  · rename_i b0 o0
    split at hs
    · rename_i cs t gr hg
      split at hs
      · rename_i hlt
        cases hs
        obtain ⟨e, he, hx⟩ := hvs.hd.1.ptr'
        obtain ⟨c, fr, g1, g2, g3, g4, g5⟩ := hr.cells he hg
        refine says_of (s := Go.convert src dst (ρ x)) (by simp only [execOp, hop]) ⟨_, ?_, .ptr he⟩
        simp only [convert, hx, Sem.run_bind, run_underlying h1, run_underlying h2, Result.andThen_ok, Conv.unsafePointer]
        rw [run_seenAt (a := ⟨e.blk, o0 + e.sh, none⟩) g1]
        simp only [Result.andThen_ok, cellsIn, Sem.run_bind, run_shape, shape_of g1, Sem.run_pure, run_size w hm]
        have : ¬ (c.size ≤ o0 + e.sh) := by omega
        simp [this]
      · cases hs
    · cases hs
  · cases hs
theorem variablesAt_whole {c : Array Value} {t : TypeId} {fr : Nat × Nat} {a : Addr} {m k : Nat} (h : w.heap[a.block]? = some (.cells c t fr)) (hm : sizeOfT P t = some (m + 1)) (hk : 0 < k) (hoff : a.off % (m + 1) = 0) (hle : a.off / (m + 1) + k ≤ c.size / (m + 1)) :
    (variablesAt a t k).run P w = .ok true w := by
  have hc : P.cellsOf t = m + 1 := by
    unfold sizeOfT at hm
    simp [Program.cellsOf, hm]
  have hd : P.depth = (2 * (P.types.size + Made.depth) + 1) + 1 := by simp [Program.depth]
  simp only [variablesAt, Sem.run_bind, run_program, run_shape, Result.andThen_ok, shape_of h, Sem.run_pure, hc]
  have hrow : rowAt P (sameLayout P P.depth · t) P.depth t (c.size / (m + 1)) a.off k = true := by
    rw [hd]
    simp [rowAt, hc, hoff, hle, sameLayout]
  have : liesAt P P.depth t (c.size / (m + 1)) a.off t k = true := by
    rw [hd, liesAt, hrow]
    rfl
  rw [this]
theorem ofUnsafe_sound {vs : List Value} {v : Value} (hr : HR G β H n w) {src dst el : TypeId} {x : Operand} {m : Nat} (hop : o.op = .convert src dst x) (h1 : P.underlying src = some .unsafePointer) (h2 : P.underlying dst = some (.pointer el)) (hm : sizeOfT P el = some (m + 1))
    (hvs : VRs β vs [ρ x]) (hs : rOfUnsafe el (m + 1) H vs = some v) : Says P β ρ o w v := by
  unfold rOfUnsafe at hs
  split at hs
  · rename_i b0
    split at hs
    · rename_i cs t hg
      split at hs
      · rename_i hh
        obtain ⟨rfl, hlen⟩ := hh
        cases hs
        obtain ⟨e, he, hx⟩ := hvs.hd.1.ptr'
        obtain ⟨c, fr, g1, g2, g3, g4, g5⟩ := hr.cells he hg
        obtain ⟨hsh, hsz⟩ : e.sh = 0 ∧ c.size = m + 1 := by
          rcases g5 with ⟨_, _, b, d⟩ | ⟨es, h, _⟩
          · exact ⟨b, by omega⟩
          · cases h
        refine says_of (s := Go.convert src dst (ρ x)) (by simp only [execOp, hop]) ⟨_, ?_, .ptr he⟩
        have hv := variablesAt_whole (P := P) (w := w) (a := ⟨e.blk, 0 + e.sh, none⟩) (k := 1) g1 hm (by omega) (by simp [hsh]) (by simp [hsh, hsz])
        simp only [convert, hx, Sem.run_bind, run_underlying h1, run_underlying h2, Result.andThen_ok, Conv.unsafePointer]
        rw [run_seenAt (a := ⟨e.blk, 0 + e.sh, none⟩) g1]
        simp only [Result.andThen_ok, run_size w hm, Sem.run_bind, hv]
        simp
      · cases hs
    · cases hs
  · cases hs
theorem semR_sound {k : Kind} {args : List Operand} {vs : List Value} {v : Value} (hr : HR G β H n w) (hk : kindOf P o = some (k, args)) (hvs : VRs β vs (args.map ρ)) (hs : semR k vs H = some v) : Says P β ρ o w v := by
  cases hop : o.op with
  | load t a =>
    simp only [kindOf, hop] at hk
    split at hk
    · rename_i m ha hm; cases hk; exact loadN_sound hr hop ha hm hvs hs
    · rename_i m ha hm; cases hk; exact load1_sound (k := .load1) (args := [a]) hr hop ha hvs hs
    · cases hk
  | slice t x lo hi mx =>
    simp only [kindOf, hop] at hk
    split at hk
    · cases hk
    · split at hk
      · rename_i hu
        simp only [Option.map_eq_some_iff, Prod.mk.injEq] at hk
        obtain ⟨m, hm, rfl, rfl⟩ := hk
        exact sliceS_sound hr hop hu hm hvs hs
      · cases hk; simp [semR] at hs
      · rename_i hu
        simp only [Option.map_eq_some_iff, Prod.mk.injEq] at hk
        obtain ⟨m, hm, rfl, rfl⟩ := hk
        exact sliceA_sound hr hop hu hm hvs hs
      · cases hk
  | lookup t m key ok =>
    simp only [kindOf, hop] at hk
    split at hk
    · rename_i str el hkk
      split at hk
      · rename_i z hz
        split at hk
        · rename_i hf; cases hk; exact lookup_sound hr hop hkk hz hf hvs hs
        · cases hk
      · cases hk
    · cases hk
  | convert src dst x =>
    simp only [kindOf, hop] at hk
    split at hk
    · cases hk; simp [semR] at hs
    · cases hk; simp [semR] at hs
    · rename_i h1 h2
      split at hk
      · rename_i m hm; cases hk; exact toUnsafe_sound hr hop h1 h2 hm hvs hs
      · cases hk
    · rename_i h1 h2
      split at hk
      · rename_i m hm; cases hk; exact ofUnsafe_sound hr hop h1 h2 hm hvs hs
      · cases hk
    · rename_i h1 h2
      split at hk
      · rename_i h3; cases hk; exact bytesToStr_sound hr hop h1 h2 h3 hvs hs
      · cases hk
    · split at hk
      · cases hk; simp [semR] at hs
      · cases hk
    · cases hk
  | call c =>
    cases hc : c.callee with
    | value f =>
      cases f <;> simp only [kindOf, hop, hc] at hk <;> cases hk <;> simp [semR] at hs
    | invoke r name =>
      simp only [kindOf, hop, hc] at hk; cases hk; simp [semR] at hs
    | builtin b =>
      cases b <;> simp only [kindOf, hop, hc] at hk
      case len =>
        split at hk
        · rename_i t x ht hx
          have hargs : c.args.map ρ = #[ρ x] := by
            apply Array.ext'
            simp [hx]
          split at hk
          · cases hk; simp [semR] at hs
          · cases hk; simp [semR] at hs
          · cases hk; simp [semR] at hs
          · split at hk
            · cases hk; simp [semR] at hs
            · cases hk
          · rename_i kt el hu; cases hk
            obtain ⟨v', h1, h2⟩ := lenMap_sound (T := o.type) hr ht hu hvs hs
            refine ⟨v', ?_, h2⟩
            have : ∃ cs, execOp ρ o = builtin .len c.argTypes o.type cs (c.args.map ρ) := ⟨_, by simp only [execOp, hop, resolve, hc, invoke, pure_bind]; rfl⟩
            obtain ⟨cs, hr⟩ := this
            rw [hr, hargs]
            exact run_okv h1
          · cases hk
        · cases hk
      all_goals
        repeat' split at hk
        all_goals first
          | (cases hk; done)
          | (cases hk; simp [semR] at hs; done)
          | (simp only [Option.map_eq_some_iff, Prod.mk.injEq] at hk
             obtain ⟨_, _, rfl, rfl⟩ := hk
             simp [semR] at hs)
  | move _ =>
    simp only [kindOf, hop] at hk
    repeat' split at hk
    all_goals first
      | (cases hk; done)
      | (cases hk; simp [semR] at hs; done)
      | (simp only [Option.map_eq_some_iff, Prod.mk.injEq] at hk
         obtain ⟨_, _, rfl, rfl⟩ := hk
         simp [semR] at hs)
  | assign _ =>
    simp only [kindOf, hop] at hk
    repeat' split at hk
    all_goals first
      | (cases hk; done)
      | (cases hk; simp [semR] at hs; done)
      | (simp only [Option.map_eq_some_iff, Prod.mk.injEq] at hk
         obtain ⟨_, _, rfl, rfl⟩ := hk
         simp [semR] at hs)
  | pick _ _ _ =>
    simp only [kindOf, hop] at hk
    repeat' split at hk
    all_goals first
      | (cases hk; done)
      | (cases hk; simp [semR] at hs; done)
      | (simp only [Option.map_eq_some_iff, Prod.mk.injEq] at hk
         obtain ⟨_, _, rfl, rfl⟩ := hk
         simp [semR] at hs)
  | alloc _ =>
    simp only [kindOf, hop] at hk
    repeat' split at hk
    all_goals first
      | (cases hk; done)
      | (cases hk; simp [semR] at hs; done)
      | (simp only [Option.map_eq_some_iff, Prod.mk.injEq] at hk
         obtain ⟨_, _, rfl, rfl⟩ := hk
         simp [semR] at hs)
  | box _ _ =>
    simp only [kindOf, hop] at hk
    repeat' split at hk
    all_goals first
      | (cases hk; done)
      | (cases hk; simp [semR] at hs; done)
      | (simp only [Option.map_eq_some_iff, Prod.mk.injEq] at hk
         obtain ⟨_, _, rfl, rfl⟩ := hk
         simp [semR] at hs)
  | build _ _ =>
    simp only [kindOf, hop] at hk
    repeat' split at hk
    all_goals first
      | (cases hk; done)
      | (cases hk; simp [semR] at hs; done)
      | (simp only [Option.map_eq_some_iff, Prod.mk.injEq] at hk
         obtain ⟨_, _, rfl, rfl⟩ := hk
         simp [semR] at hs)
  | buildSlice _ _ _ =>
    simp only [kindOf, hop] at hk
    repeat' split at hk
    all_goals first
      | (cases hk; done)
      | (cases hk; simp [semR] at hs; done)
      | (simp only [Option.map_eq_some_iff, Prod.mk.injEq] at hk
         obtain ⟨_, _, rfl, rfl⟩ := hk
         simp [semR] at hs)
  | insert _ _ _ _ =>
    simp only [kindOf, hop] at hk
    repeat' split at hk
    all_goals first
      | (cases hk; done)
      | (cases hk; simp [semR] at hs; done)
      | (simp only [Option.map_eq_some_iff, Prod.mk.injEq] at hk
         obtain ⟨_, _, rfl, rfl⟩ := hk
         simp [semR] at hs)
  | store _ _ _ =>
    simp only [kindOf, hop] at hk
    repeat' split at hk
    all_goals first
      | (cases hk; done)
      | (cases hk; simp [semR] at hs; done)
      | (simp only [Option.map_eq_some_iff, Prod.mk.injEq] at hk
         obtain ⟨_, _, rfl, rfl⟩ := hk
         simp [semR] at hs)
  | ready _ =>
    simp only [kindOf, hop] at hk
    repeat' split at hk
    all_goals first
      | (cases hk; done)
      | (cases hk; simp [semR] at hs; done)
      | (simp only [Option.map_eq_some_iff, Prod.mk.injEq] at hk
         obtain ⟨_, _, rfl, rfl⟩ := hk
         simp [semR] at hs)
  | waits _ =>
    simp only [kindOf, hop] at hk
    repeat' split at hk
    all_goals first
      | (cases hk; done)
      | (cases hk; simp [semR] at hs; done)
      | (simp only [Option.map_eq_some_iff, Prod.mk.injEq] at hk
         obtain ⟨_, _, rfl, rfl⟩ := hk
         simp [semR] at hs)
  | nilCheck _ =>
    simp only [kindOf, hop] at hk
    repeat' split at hk
    all_goals first
      | (cases hk; done)
      | (cases hk; simp [semR] at hs; done)
      | (simp only [Option.map_eq_some_iff, Prod.mk.injEq] at hk
         obtain ⟨_, _, rfl, rfl⟩ := hk
         simp [semR] at hs)
  | unOp _ _ _ =>
    simp only [kindOf, hop] at hk
    repeat' split at hk
    all_goals first
      | (cases hk; done)
      | (cases hk; simp [semR] at hs; done)
      | (simp only [Option.map_eq_some_iff, Prod.mk.injEq] at hk
         obtain ⟨_, _, rfl, rfl⟩ := hk
         simp [semR] at hs)
  | sliceToArrayPointer _ _ =>
    simp only [kindOf, hop] at hk
    repeat' split at hk
    all_goals first
      | (cases hk; done)
      | (cases hk; simp [semR] at hs; done)
      | (simp only [Option.map_eq_some_iff, Prod.mk.injEq] at hk
         obtain ⟨_, _, rfl, rfl⟩ := hk
         simp [semR] at hs)
  | makeInterface _ _ =>
    simp only [kindOf, hop] at hk
    repeat' split at hk
    all_goals first
      | (cases hk; done)
      | (cases hk; simp [semR] at hs; done)
      | (simp only [Option.map_eq_some_iff, Prod.mk.injEq] at hk
         obtain ⟨_, _, rfl, rfl⟩ := hk
         simp [semR] at hs)
  | makeFunc _ _ _ =>
    simp only [kindOf, hop] at hk
    repeat' split at hk
    all_goals first
      | (cases hk; done)
      | (cases hk; simp [semR] at hs; done)
      | (simp only [Option.map_eq_some_iff, Prod.mk.injEq] at hk
         obtain ⟨_, _, rfl, rfl⟩ := hk
         simp [semR] at hs)
  | makeMap _ _ =>
    simp only [kindOf, hop] at hk
    repeat' split at hk
    all_goals first
      | (cases hk; done)
      | (cases hk; simp [semR] at hs; done)
      | (simp only [Option.map_eq_some_iff, Prod.mk.injEq] at hk
         obtain ⟨_, _, rfl, rfl⟩ := hk
         simp [semR] at hs)
  | makeChan _ _ =>
    simp only [kindOf, hop] at hk
    repeat' split at hk
    all_goals first
      | (cases hk; done)
      | (cases hk; simp [semR] at hs; done)
      | (simp only [Option.map_eq_some_iff, Prod.mk.injEq] at hk
         obtain ⟨_, _, rfl, rfl⟩ := hk
         simp [semR] at hs)
  | makeSlice _ _ _ =>
    simp only [kindOf, hop] at hk
    repeat' split at hk
    all_goals first
      | (cases hk; done)
      | (cases hk; simp [semR] at hs; done)
      | (simp only [Option.map_eq_some_iff, Prod.mk.injEq] at hk
         obtain ⟨_, _, rfl, rfl⟩ := hk
         simp [semR] at hs)
  | fieldAddr _ _ _ =>
    simp only [kindOf, hop] at hk
    repeat' split at hk
    all_goals first
      | (cases hk; done)
      | (cases hk; simp [semR] at hs; done)
      | (simp only [Option.map_eq_some_iff, Prod.mk.injEq] at hk
         obtain ⟨_, _, rfl, rfl⟩ := hk
         simp [semR] at hs)
  | field _ _ _ =>
    simp only [kindOf, hop] at hk
    repeat' split at hk
    all_goals first
      | (cases hk; done)
      | (cases hk; simp [semR] at hs; done)
      | (simp only [Option.map_eq_some_iff, Prod.mk.injEq] at hk
         obtain ⟨_, _, rfl, rfl⟩ := hk
         simp [semR] at hs)
  | indexAddr _ _ _ =>
    simp only [kindOf, hop] at hk
    repeat' split at hk
    all_goals first
      | (cases hk; done)
      | (cases hk; simp [semR] at hs; done)
      | (simp only [Option.map_eq_some_iff, Prod.mk.injEq] at hk
         obtain ⟨_, _, rfl, rfl⟩ := hk
         simp [semR] at hs)
  | index _ _ _ =>
    simp only [kindOf, hop] at hk
    repeat' split at hk
    all_goals first
      | (cases hk; done)
      | (cases hk; simp [semR] at hs; done)
      | (simp only [Option.map_eq_some_iff, Prod.mk.injEq] at hk
         obtain ⟨_, _, rfl, rfl⟩ := hk
         simp [semR] at hs)
  | mapUpdate _ _ _ _ =>
    simp only [kindOf, hop] at hk
    repeat' split at hk
    all_goals first
      | (cases hk; done)
      | (cases hk; simp [semR] at hs; done)
      | (simp only [Option.map_eq_some_iff, Prod.mk.injEq] at hk
         obtain ⟨_, _, rfl, rfl⟩ := hk
         simp [semR] at hs)
  | mapEntry _ _ _ =>
    simp only [kindOf, hop] at hk
    repeat' split at hk
    all_goals first
      | (cases hk; done)
      | (cases hk; simp [semR] at hs; done)
      | (simp only [Option.map_eq_some_iff, Prod.mk.injEq] at hk
         obtain ⟨_, _, rfl, rfl⟩ := hk
         simp [semR] at hs)
  | entryStore _ _ _ _ =>
    simp only [kindOf, hop] at hk
    repeat' split at hk
    all_goals first
      | (cases hk; done)
      | (cases hk; simp [semR] at hs; done)
      | (simp only [Option.map_eq_some_iff, Prod.mk.injEq] at hk
         obtain ⟨_, _, rfl, rfl⟩ := hk
         simp [semR] at hs)
  | range _ _ =>
    simp only [kindOf, hop] at hk
    repeat' split at hk
    all_goals first
      | (cases hk; done)
      | (cases hk; simp [semR] at hs; done)
      | (simp only [Option.map_eq_some_iff, Prod.mk.injEq] at hk
         obtain ⟨_, _, rfl, rfl⟩ := hk
         simp [semR] at hs)
  | entry _ =>
    simp only [kindOf, hop] at hk
    repeat' split at hk
    all_goals first
      | (cases hk; done)
      | (cases hk; simp [semR] at hs; done)
      | (simp only [Option.map_eq_some_iff, Prod.mk.injEq] at hk
         obtain ⟨_, _, rfl, rfl⟩ := hk
         simp [semR] at hs)
  | typeAssert _ _ _ _ =>
    simp only [kindOf, hop] at hk
    repeat' split at hk
    all_goals first
      | (cases hk; done)
      | (cases hk; simp [semR] at hs; done)
      | (simp only [Option.map_eq_some_iff, Prod.mk.injEq] at hk
         obtain ⟨_, _, rfl, rfl⟩ := hk
         simp [semR] at hs)
  | extract _ _ =>
    simp only [kindOf, hop] at hk
    repeat' split at hk
    all_goals first
      | (cases hk; done)
      | (cases hk; simp [semR] at hs; done)
      | (simp only [Option.map_eq_some_iff, Prod.mk.injEq] at hk
         obtain ⟨_, _, rfl, rfl⟩ := hk
         simp [semR] at hs)
  | go _ =>
    simp only [kindOf, hop] at hk
    repeat' split at hk
    all_goals first
      | (cases hk; done)
      | (cases hk; simp [semR] at hs; done)
      | (simp only [Option.map_eq_some_iff, Prod.mk.injEq] at hk
         obtain ⟨_, _, rfl, rfl⟩ := hk
         simp [semR] at hs)
  | defer _ =>
    simp only [kindOf, hop] at hk
    repeat' split at hk
    all_goals first
      | (cases hk; done)
      | (cases hk; simp [semR] at hs; done)
      | (simp only [Option.map_eq_some_iff, Prod.mk.injEq] at hk
         obtain ⟨_, _, rfl, rfl⟩ := hk
         simp [semR] at hs)
  | panic _ =>
    simp only [kindOf, hop] at hk
    repeat' split at hk
    all_goals first
      | (cases hk; done)
      | (cases hk; simp [semR] at hs; done)
      | (simp only [Option.map_eq_some_iff, Prod.mk.injEq] at hk
         obtain ⟨_, _, rfl, rfl⟩ := hk
         simp [semR] at hs)
  | send _ _ =>
    simp only [kindOf, hop] at hk
    repeat' split at hk
    all_goals first
      | (cases hk; done)
      | (cases hk; simp [semR] at hs; done)
      | (simp only [Option.map_eq_some_iff, Prod.mk.injEq] at hk
         obtain ⟨_, _, rfl, rfl⟩ := hk
         simp [semR] at hs)
  | recv _ _ _ =>
    simp only [kindOf, hop] at hk
    repeat' split at hk
    all_goals first
      | (cases hk; done)
      | (cases hk; simp [semR] at hs; done)
      | (simp only [Option.map_eq_some_iff, Prod.mk.injEq] at hk
         obtain ⟨_, _, rfl, rfl⟩ := hk
         simp [semR] at hs)
  | select _ _ =>
    simp only [kindOf, hop] at hk
    repeat' split at hk
    all_goals first
      | (cases hk; done)
      | (cases hk; simp [semR] at hs; done)
      | (simp only [Option.map_eq_some_iff, Prod.mk.injEq] at hk
         obtain ⟨_, _, rfl, rfl⟩ := hk
         simp [semR] at hs)
  | next x b =>
    cases b
    · simp only [kindOf, hop, Option.some.injEq, Prod.mk.injEq] at hk
      obtain ⟨rfl, rfl⟩ := hk
      simp [semR] at hs
    · simp only [kindOf, hop, Option.some.injEq, Prod.mk.injEq] at hk
      obtain ⟨rfl, rfl⟩ := hk
      simp [semR] at hs
  | binOp op t x y yt =>
    cases op <;> simp only [kindOf, hop, Option.map_eq_some_iff, Option.some.injEq, Prod.mk.injEq] at hk
    case eql =>
      obtain ⟨k', hk', rfl, rfl⟩ := hk
      rcases eqKind_shape hk' with rfl | ⟨rfl, _⟩ | ⟨_, rfl, _⟩ | ⟨_, rfl, _⟩ | ⟨_, _, rfl, _⟩ | ⟨_, _, _, rfl, _⟩ | ⟨_, rfl, _⟩ | ⟨_, rfl, _⟩ <;> simp [semR] at hs
    case neq =>
      obtain ⟨k', hk', rfl, rfl⟩ := hk
      rcases eqKind_shape hk' with rfl | ⟨rfl, _⟩ | ⟨_, rfl, _⟩ | ⟨_, rfl, _⟩ | ⟨_, _, rfl, _⟩ | ⟨_, _, _, rfl, _⟩ | ⟨_, rfl, _⟩ | ⟨_, rfl, _⟩ <;> simp [semR] at hs
    all_goals
      obtain ⟨rfl, rfl⟩ := hk
      simp [semR] at hs
end Go.Cs
