/- Each operation does what the reading says: parts of slices and strings, calls; all of them. No program in sight. -/
import Derived.Test.YtdiebciejcmmhaaM1
import Derived.Laws.BytesArg
import Derived.Laws.IdiomStrings
import Derived.Laws.AppendOwn
import Derived.Laws.MakeOwn
set_option linter.unusedSimpArgs false
set_option linter.unusedVariables false
namespace Go.Proofs.Ytdiebciejcmmhaa
section
variable {ρ : Type} {P : Program} {Γ : Cx} {id : Nat} {rd : Nat → Option (List EV)} {g : Option Bool} {A : Operand → EV} {o : Oper} {q : EV → Option (List EV) → List Wr → List Nat → Option ρ} {r : ρ}
theorem bound_run {w : World} {k : IntKind} {m : Int} {y : Nat} {code : BoundsCode} (h0 : 0 ≤ m) (h1 : m ≤ (y : Int)) : (Instr.sliceBound (.int k m) y code).run P w = .ok m.toNat w := by
  simp [Instr.sliceBound, asIntOf, h0, h1]
theorem sound_slice {T : TypeId} {x : Operand} {lo hi mx : Option Operand} (hΓ : CxOK P Γ) (ho : o.op = .slice T x lo hi mx) (h : opE Γ id rd g A (.slice T x lo hi mx) q = some r) : Sound P id rd g A o q r := by
  have hx : ∀ {ow bx w ev}, Args ow bx w A ev o.op → RepEV ow bx w (A x) (ev x) ∧ (∀ y, lo = some y → RepEV ow bx w (A y) (ev y)) ∧ (∀ y, hi = some y → RepEV ow bx w (A y) (ev y)) := by
    intro ow bx w ev hA
    rw [ho] at hA
    have hall := args_of hA (by intros; simp)
    exact ⟨hall x (by simp [Op.operands]), fun y hy => hall y (by simp [Op.operands, hy]), fun y hy => hall y (by simp [Op.operands, hy])⟩
  have val : ∀ {y : Operand} {ow bx w} {ev : Operand → Value} {m : Int}, intOf (A y) = some m → RepEV ow bx w (A y) (ev y) → ∃ k, ev y = .int k m := by
    intro y ow bx w ev m hm hv
    obtain ⟨k, hk⟩ := intOf_spec hm
    rw [hk] at hv
    exact ⟨k, (repInt hv).1⟩
  simp only [opE] at h
  cases mx with
  | some m => cases h
  | none =>
    simp only at h
    split at h
    · rename_i ty l he
      split at h
      · cases h
      · rename_i hs
        split at h
        · rename_i a b ha hb
          obtain ⟨h1, h2⟩ := chk_spec h
          refine sound_pure h1 fun hg B ow bx nb bg w act hi' hA hbb => ?_
          obtain ⟨hp, hlo, hhi⟩ := hx hA
          replace hp := raw_rep hp
          rw [he] at hp
          have hck := h2 hg
          simp only [Bool.and_eq_true, decide_eq_true_eq] at hck
          obtain ⟨⟨c1, c2⟩, c3⟩ := hck
          obtain ⟨d, e, s, b', gi, hd, hw, hu, g1, g2⟩ := sliceOf_spec hΓ hs
          generalize hpe : act.eval x = u at hp
          cases hp with
          | dat hp =>
            obtain ⟨ad, cap, h3, ⟨h4, h4'⟩, h5⟩ := hp
            simp only [List.cons.injEq, and_true] at h3
            have hlow : ∀ (y : Nat) (hy : b = (y : Int)), (do match lo.map act.eval with | some v => Instr.sliceBound v y .sliceB | none => pure 0 : Sem Nat).run P w = .ok a.toNat w := by
              intro y hy
              cases lo with
              | none => simp only at ha; cases ha; rfl
              | some z =>
                simp only at ha
                obtain ⟨k, hk⟩ := val ha (hlo z rfl)
                simp only [Option.map_some, hk]
                exact bound_run c1 (by omega)
            have hhigh : (do match hi.map act.eval with | some v => Instr.sliceBound v cap .sliceAcap | none => pure l.length : Sem Nat).run P w = .ok b.toNat w := by
              cases hi with
              | none => simp only at hb; cases hb; simp
              | some z =>
                simp only at hb
                obtain ⟨k, hk⟩ := val hb (hhi z rfl)
                simp only [Option.map_some, hk]
                exact bound_run (by omega) (by omega)
            have hbounds : (Instr.sliceBounds true l.length cap (lo.map act.eval) (hi.map act.eval) none).run P w = .ok (a.toNat, b.toNat, cap) w := by
              have h6 := hlow b.toNat (by omega)
              unfold Instr.sliceBounds
              cases hi with
              | none =>
                simp only at hb
                cases hb
                cases lo with
                | none => simp only at ha; cases ha; simp
                | some z =>
                  simp only [Option.map_some] at h6 ⊢
                  simp only [Option.map_none, Sem.run_bind, Sem.run_pure, Result.andThen_ok, Option.isSome_none, Bool.false_eq_true, if_false]
                  simp at h6 ⊢
                  rw [h6]
                  rfl
              | some z' =>
                simp only [Option.map_some] at hhigh
                cases lo with
                | none =>
                  simp only at ha
                  cases ha
                  simp only [Option.map_some, Option.map_none, Sem.run_bind, Sem.run_pure, Result.andThen_ok, if_true]
                  simp at hhigh ⊢
                  rw [hhigh]
                  rfl
                | some z =>
                  simp only [Option.map_some] at h6 ⊢
                  simp only [Sem.run_bind, Sem.run_pure, Result.andThen_ok, if_true, Option.isSome_none, Bool.false_eq_true, if_false]
                  (try simp at hhigh); (try simp at h6); (try simp)
                  rw [hhigh]
                  simp only [Result.andThen_ok]
                  rw [h6]
                  rfl
            refine ⟨.slice (if cap = a.toNat then ad else ad.map (·.add (a.toNat * gi.size))) (b.toNat - a.toNat) (cap - a.toNat), ?_, .dat ?_⟩
            · unfold execOp
              rw [ho]
              simp [hpe, h3, Instr.sliceAt, Instr.slice, underlying, hu, hbounds, sizeOf, typeInfo, g1]
            · have hlen : ((l.take b.toNat).drop a.toNat).length = b.toNat - a.toNat := by simp; omega
              refine ⟨_, _, by rw [hlen], ⟨by omega, by omega⟩, fun hne => ?_⟩
              have hlt : a.toNat < b.toNat := by
                apply Classical.byContradiction
                intro hn
                exact hne (List.eq_nil_of_length_eq_zero (by omega))
              obtain ⟨blk, off, c, U, fz, k1, k2, k3, k4⟩ := h5 (by intro e; subst e; simp at c3; omega)
              rw [if_neg (by omega), k1]
              have hle : off + a.toNat * gi.size + ((l.take b.toNat).drop a.toNat).length * ty.size ≤ off + l.length * ty.size := by
                have h7 : (a.toNat + ((l.take b.toNat).drop a.toNat).length) * ty.size ≤ l.length * ty.size := Nat.mul_le_mul_right _ (by omega)
                rw [Nat.add_mul] at h7
                rw [g2]
                omega
              refine ⟨blk, off + a.toNat * gi.size, c, U, fz, by simp [add_at], rigid_mono k2 hle, k3, fun i y hy => ?_⟩
              rw [List.getElem?_drop, List.getElem?_take] at hy
              split at hy
              · have := k4 _ y hy
                rw [Nat.add_mul] at this
                rw [g2, Nat.add_assoc]
                exact this
              · cases hy
        · cases h
    · rename_i s he
      split at h
      · cases h
      · rename_i hs
        split at h
        · rename_i a b ha hb
          obtain ⟨h1, h2⟩ := chk_spec h
          refine sound_pure h1 fun hg B ow bx nb bg w act hi' hA hbb => ?_
          obtain ⟨hp, hlo, hhi⟩ := hx hA
          replace hp := raw_rep hp
          rw [he] at hp
          have hck := h2 hg
          simp only [Bool.and_eq_true, decide_eq_true_eq] at hck
          obtain ⟨⟨c1, c2⟩, c3⟩ := hck
          have hu := isStr_spec hΓ hs
          obtain ⟨h3, h4⟩ := repStr hp
          have hlow : ∀ (y : Nat) (hy : b = (y : Int)), (do match lo.map act.eval with | some v => Instr.sliceBound v y .sliceB | none => pure 0 : Sem Nat).run P w = .ok a.toNat w := by
            intro y hy
            cases lo with
            | none => simp only at ha; cases ha; rfl
            | some z =>
              simp only at ha
              obtain ⟨k, hk⟩ := val ha (hlo z rfl)
              simp only [Option.map_some, hk]
              exact bound_run c1 (by omega)
          have hhigh : (do match hi.map act.eval with | some v => Instr.sliceBound v s.size .sliceAlen | none => pure s.size : Sem Nat).run P w = .ok b.toNat w := by
            cases hi with
            | none => simp only at hb; cases hb; simp
            | some z =>
              simp only at hb
              obtain ⟨k, hk⟩ := val hb (hhi z rfl)
              simp only [Option.map_some, hk]
              exact bound_run (by omega) (by omega)
          have hbounds : (Instr.sliceBounds false s.size s.size (lo.map act.eval) (hi.map act.eval) none).run P w = .ok (a.toNat, b.toNat, s.size) w := by
            have h6 := hlow b.toNat (by omega)
            unfold Instr.sliceBounds
            cases hi with
            | none =>
              simp only at hb
              cases hb
              cases lo with
              | none => simp only at ha; cases ha; simp
              | some z =>
                simp only [Option.map_some] at h6 ⊢
                simp only [Option.map_none, Sem.run_bind, Sem.run_pure, Result.andThen_ok, Option.isSome_none, Bool.false_eq_true, if_false]
                simp at h6 ⊢
                rw [h6]
                rfl
            | some z' =>
              simp only [Option.map_some] at hhigh
              cases lo with
              | none =>
                simp only at ha
                cases ha
                simp only [Option.map_some, Option.map_none, Sem.run_bind, Sem.run_pure, Result.andThen_ok, Bool.false_eq_true, if_false]
                simp at hhigh ⊢
                rw [hhigh]
                rfl
              | some z =>
                simp only [Option.map_some] at h6 ⊢
                simp only [Sem.run_bind, Sem.run_pure, Result.andThen_ok, Option.isSome_none, Bool.false_eq_true, if_false]
                (try simp at hhigh); (try simp at h6); (try simp)
                rw [hhigh]
                simp only [Result.andThen_ok]
                rw [h6]
                rfl
          refine ⟨.string (s.extract a.toNat b.toNat), ?_, .dat ⟨rfl, ?_⟩⟩
          · unfold execOp
            rw [ho]
            simp [h3, Instr.sliceAt, Instr.slice, underlying, hu, hbounds]
          · simp [ByteArray.size_extract]; omega
        · cases h
    · cases h
theorem sound_index {T : TypeId} {x i : Operand} (hΓ : CxOK P Γ) (ho : o.op = .index T x i) (h : opE Γ id rd g A (.index T x i) q = some r) : Sound P id rd g A o q r := by
  have hx : ∀ {ow bx w ev}, Args ow bx w A ev o.op → RepEV ow bx w (A x) (ev x) ∧ RepEV ow bx w (A i) (ev i) := by
    intro ow bx w ev hA
    rw [ho] at hA
    exact ⟨args_of hA (by intros; simp) x (by simp [Op.operands]), args_of hA (by intros; simp) i (by simp [Op.operands])⟩
  simp only [opE] at h
  split at h
  · rename_i s he
    split at h
    · rename_i m hm hs
      obtain ⟨h1, h2⟩ := chk_spec h
      obtain ⟨k, hk⟩ := intOf_spec hm
      refine sound_pure h1 fun hg B ow bx nb bg w a hi hA hb => ?_
      obtain ⟨hp, hpi⟩ := hx hA
      rw [he] at hp
      rw [hk] at hpi
      have hck := h2 hg
      simp only [Bool.and_eq_true, decide_eq_true_eq] at hck
      have hlt : m.toNat < s.size := by omega
      refine ⟨.int .u8 (s[m.toNat]'hlt).toNat, ?_, ?_⟩
      · unfold execOp
        rw [ho]
        simp [(repStr hp).1, (repInt hpi).1, Instr.index, asIntOf, underlying, isStr_spec hΓ hs, hck.1, hlt]
      · have : s[m.toNat]?.getD 0 = s[m.toNat]'hlt := by simp [hlt]
        rw [this]
        refine repInt_mk ((fits_iff _ _).2 ?_)
        have := (s[m.toNat]'hlt).toNat_lt
        simp [IntKind.min, IntKind.max, IntKind.signed, IntKind.bits]
        omega
    · cases h
  · rename_i c v he
    split at h
    · rename_i m d hm hd
      split at h
      · rename_i n e s hhow
        split at h
        · rename_i ed hed
          split at h
          · rename_i ty hty
            split at h
            · rename_i l hl
              obtain ⟨h1, h2⟩ := chk_spec h
              obtain ⟨k, hk⟩ := intOf_spec hm
              refine sound_pure h1 fun hg B ow bx nb bg w a hi hA hb => ?_
              obtain ⟨hp, hpi⟩ := hx hA
              rw [he] at hp
              rw [hk] at hpi
              have hck := h2 hg
              simp only [Bool.and_eq_true, decide_eq_true_eq] at hck
              obtain ⟨hln, hall⟩ := sames_spec _ _ _ hl
              have hlt : m.toNat < l.length := by omega
              obtain ⟨ev, g1, g2⟩ := hall m.toNat hlt
              have hh := (hΓ.td T d hd).how
              simp only [hhow] at hh
              obtain ⟨hu, ei, hei, hes⟩ := hh
              generalize hpe : a.eval x = u at hp
              cases hp with
              | dat hp =>
                obtain ⟨cells, hcells, hrep⟩ := hp
                obtain ⟨u', k1, k2⟩ := part_read (hΓ.td e ed hed) g1 (rep_flat (bx := bx) _ _ _ hrep)
                rw [Nat.zero_add] at k1
                have hsz : (sizeOf e).run P w = .ok s w := by simp [Go.sizeOf, typeInfo, hei, hes]
                refine ⟨u', ?_, ?_⟩
                · unfold execOp
                  rw [ho]
                  simp [hpe, hcells, (repInt hpi).1, Instr.index, asIntOf, underlying, hu, hck.1, hck.2, hsz, k1]
                · have : l.getD m.toNat ty.dflt = l[m.toNat]'hlt := by simp [List.getD, hlt]
                  rw [this]
                  exact .dat (to_rep g2 k2)
            · cases h
          · cases h
        · cases h
      · cases h
    · cases h
  · cases h
end
end Go.Proofs.Ytdiebciejcmmhaa

/- A call does what is promised of the function. No program in sight. -/
set_option linter.unusedSimpArgs false
set_option linter.unusedVariables false
namespace Go.Proofs.Ytdiebciejcmmhaa
/-- Which boxes are meant by which numbers: one each. -/
structure AsgOK (a : List (Nat × Nat)) : Prop where
  key : ∀ i b, (i, b) ∈ a → asgGet a i = some b
  inj : ∀ i j b, (i, b) ∈ a → (j, b) ∈ a → i = j
theorem asgGet_mem : ∀ (a : List (Nat × Nat)) (i b : Nat), asgGet a i = some b → (i, b) ∈ a
  | [], _, _, h => by cases h
  | (k, c) :: r, i, b, h => by
    simp only [asgGet] at h
    split at h
    · rename_i hk
      cases h
      have := Nat.eq_of_beq_eq_true hk
      subst this
      simp
    · exact List.mem_cons_of_mem _ (asgGet_mem r i b h)
theorem asgGet_none : ∀ (a : List (Nat × Nat)) (i : Nat), asgGet a i = none → ∀ b, (i, b) ∉ a
  | [], _, _, _ => by simp
  | (k, c) :: r, i, h, b => by
    simp only [asgGet] at h
    split at h
    · cases h
    · rename_i hk
      intro hm
      rcases List.mem_cons.1 hm with e | hm
      · cases e; rw [Nat.beq_refl] at hk; cases hk
      · exact asgGet_none r i h b hm
theorem hasB_false : ∀ (a : List (Nat × Nat)) (b : Nat), hasB a b = false → ∀ i, (i, b) ∉ a
  | [], _, _, _ => by simp
  | (k, c) :: r, b, h, i => by
    simp only [hasB, Bool.or_eq_false_iff] at h
    intro hm
    rcases List.mem_cons.1 hm with e | hm
    · cases e; have := h.1; rw [Nat.beq_refl] at this; cases this
    · exact hasB_false r b h.2 i hm
theorem AsgOK.cons {a : List (Nat × Nat)} (h : AsgOK a) {i b : Nat} (h1 : asgGet a i = none) (h2 : hasB a b = false) : AsgOK ((i, b) :: a) := by
  refine ⟨fun j c hm => ?_, fun j k c hj hk => ?_⟩
  · simp only [asgGet]
    rcases List.mem_cons.1 hm with e | hm
    · cases e; simp [Nat.beq_refl]
    · split
      · rename_i hk
        have := Nat.eq_of_beq_eq_true hk
        subst this
        exact absurd hm (asgGet_none a _ h1 c)
      · exact h.key j c hm
  · rcases List.mem_cons.1 hj with e | hj <;> rcases List.mem_cons.1 hk with e' | hk
    · cases e; cases e'; rfl
    · cases e; exact absurd hk (hasB_false a _ h2 k)
    · cases e'; exact absurd hj (hasB_false a _ h2 j)
    · exact h.inj j k c hj hk
theorem AsgOK.nil : AsgOK [] := ⟨fun _ _ h => by simp at h, fun _ _ _ h => by simp at h⟩
/-- How the caller's blocks look to the function. -/
structure TrOK (a : List (Nat × Nat)) (ow : Nat → Owner) (bx : Bx) (ow' : Nat → Owner) (bx' : Bx) : Prop where
  st : ∀ blk n, Rigid ow blk n → Rigid ow' blk n
  bo : ∀ i b, (i, b) ∈ a → ow (bx b) = .box b → bx' i = bx b ∧ ow' (bx b) = .box i
theorem match_fill {ow ow' : Nat → Owner} {bx bx' : Bx} {w : World} : ∀ (n : Nat) (deep : Bool) (ps : List PT) (es : List EV) (a : List (Nat × Nat)) (l : List EV) (a' : List (Nat × Nat)),
    matchP n ps es a = some (l, a') → ptPlain deep n ps = true → (AsgOK a → AsgOK a') ∧ (∀ p ∈ a, p ∈ a') ∧
      ∀ rest, ∃ es', fillP n ps (l ++ rest) = (es', rest) ∧ es'.length = es.length ∧
        ∀ af, (∀ p ∈ a', p ∈ af) → TrOK af ow bx ow' bx' → ∀ (i : Nat) e e' v, es[i]? = some e → es'[i]? = some e' → RepEV ow bx w e v → RepEV ow' bx' w e' v := by
  intro n
  induction n with
  | zero => intro deep ps es a l a' h; simp only [matchP] at h; cases h
  | succ n ih =>
    intro deep ps es a l a' h hp
    cases ps with
    | nil =>
      cases es with
      | nil => simp only [matchP] at h; cases h; exact ⟨id, fun _ h => h, fun rest => ⟨[], rfl, rfl, fun _ _ _ i e e' v he => by simp at he⟩⟩
      | cons e es => simp only [matchP] at h; cases h
    | cons p ps =>
      cases es with
      | nil => cases p <;> simp only [matchP] at h <;> cases h
      | cons e es =>
        cases p with
        | own t => simp [ptPlain] at hp
        | dat t =>
          simp only [ptPlain] at hp
          simp only [matchP] at h
          split at h
          · rename_i v hv
            split at h
            · rename_i l1 a1 h1
              cases h
              obtain ⟨g1, g2, g3⟩ := ih deep ps es a l1 a' h1 hp
              refine ⟨g1, g2, fun rest => ?_⟩
              obtain ⟨es', k1, k2, k3⟩ := g3 rest
              refine ⟨.dat t v :: es', by simp only [List.cons_append, fillP, k1], by simp [k2], fun af haf htr i e0 e1 u he0 he1 hu => ?_⟩
              cases i with
              | zero =>
                simp only [List.getElem?_cons_zero, Option.some.injEq] at he0 he1
                subst he0 he1
                exact .dat ((toA_rep hv hu).keep (KeepSt.of fun blk n hs => ⟨htr.st blk n hs, rfl⟩))
              | succ i => exact k3 af haf htr i e0 e1 u (by simpa using he0) (by simpa using he1) hu
            · cases h
          · cases h
        | ref i0 off =>
          simp only [ptPlain] at hp
          cases e with
          | ptr b off' =>
            simp only [matchP] at h
            split at h
            · rename_i hoff
              have hoff := Nat.eq_of_beq_eq_true hoff
              subst hoff
              have fin : ∀ a1, matchP n ps es a1 = some (l, a') → (i0, b) ∈ a1 → (AsgOK a → AsgOK a1) → (∀ p ∈ a, p ∈ a1) → (AsgOK a → AsgOK a') ∧ (∀ p ∈ a, p ∈ a') ∧
                  ∀ rest, ∃ es', fillP (n + 1) (.ref i0 off :: ps) (l ++ rest) = (es', rest) ∧ es'.length = (EV.ptr b off :: es).length ∧
                    ∀ af, (∀ p ∈ a', p ∈ af) → TrOK af ow bx ow' bx' → ∀ (i : Nat) e e' v, (EV.ptr b off :: es)[i]? = some e → es'[i]? = some e' → RepEV ow bx w e v → RepEV ow' bx' w e' v := by
                intro a1 h1 hmem hok hsub
                obtain ⟨g1, g2, g3⟩ := ih deep ps es a1 l a' h1 hp
                refine ⟨fun h => g1 (hok h), fun p hp => g2 p (hsub p hp), fun rest => ?_⟩
                obtain ⟨es', k1, k2, k3⟩ := g3 rest
                refine ⟨.ptr i0 off :: es', by simp only [fillP, k1], by simp [k2], fun af haf htr i e0 e1 u he0 he1 hu => ?_⟩
                cases i with
                | zero =>
                  simp only [List.getElem?_cons_zero, Option.some.injEq] at he0 he1
                  subst he0 he1
                  cases hu with
                  | ptr hq =>
                    obtain ⟨j1, j2⟩ := htr.bo i0 b (haf _ (g2 _ hmem)) hq
                    rw [← j1]
                    exact .ptr (by rw [j1]; exact j2)
                | succ i => exact k3 af haf htr i e0 e1 u (by simpa using he0) (by simpa using he1) hu
              split at h
              · rename_i b' hb'
                split at h
                · rename_i hbb
                  have hbb := Nat.eq_of_beq_eq_true hbb
                  subst hbb
                  exact fin a h (asgGet_mem _ _ _ hb') id (fun _ h => h)
                · cases h
              · rename_i hnone
                split at h
                · cases h
                · rename_i hhas
                  exact fin _ h (by simp) (fun hok => hok.cons hnone hhas) (fun p hp => by simp [hp])
            · cases h
          | _ => simp only [matchP] at h; cases h
        | clo f pf pc =>
          simp only [ptPlain, Bool.and_eq_true] at hp
          obtain ⟨⟨⟨hd, hpf⟩, hpc⟩, hps⟩ := hp
          cases e with
          | clo f' fst caps =>
            simp only [matchP] at h
            split at h
            · rename_i hff
              have hff := Nat.eq_of_beq_eq_true hff
              subst hff
              split at h
              · rename_i l1 a1 h1
                split at h
                · rename_i l2 a2 h2
                  split at h
                  · rename_i l3 a3 h3
                    cases h
                    obtain ⟨g1, g2, g3⟩ := ih deep pf fst a l1 a1 h1 hpf
                    obtain ⟨i1, i2, i3⟩ := ih deep pc caps a1 l2 a2 h2 hpc
                    obtain ⟨j1, j2, j3⟩ := ih deep ps es a2 l3 a' h3 hps
                    refine ⟨fun h => j1 (i1 (g1 h)), fun p hp => j2 p (i2 p (g2 p hp)), fun rest => ?_⟩
                    obtain ⟨e1, k1, k2, k3⟩ := g3 (l2 ++ (l3 ++ rest))
                    obtain ⟨e2, m1, m2, m3⟩ := i3 (l3 ++ rest)
                    obtain ⟨e3, n1, n2, n3⟩ := j3 rest
                    refine ⟨.clo f e1 e2 :: e3, by simp only [fillP, List.append_assoc, k1, m1, n1], by simp [n2], fun af haf htr i e0 e0' u he0 he1 hu => ?_⟩
                    cases i with
                    | zero =>
                      simp only [List.getElem?_cons_zero, Option.some.injEq] at he0 he1
                      subst he0 he1
                      cases hu with
                      | clo q1 q2 q3 q4 =>
                        refine .clo (by rw [k2, q1]) (by rw [m2, q2]) (fun i x v hx hv => ?_) (fun i x v hx hv => ?_)
                        · have hlt : i < fst.length := by rw [← k2]; exact (List.getElem?_eq_some_iff.1 hx).1
                          exact k3 af (fun p hp => haf p (j2 p (i2 p hp))) htr i _ x v (List.getElem?_eq_getElem hlt) hx (q3 i _ v (List.getElem?_eq_getElem hlt) hv)
                        · have hlt : i < caps.length := by rw [← m2]; exact (List.getElem?_eq_some_iff.1 hx).1
                          exact m3 af (fun p hp => haf p (j2 p hp)) htr i _ x v (List.getElem?_eq_getElem hlt) hx (q4 i _ v (List.getElem?_eq_getElem hlt) hv)
                    | succ i => exact n3 af haf htr i e0 e0' u (by simpa using he0) (by simpa using he1) hu
                  · cases h
                · cases h
              · cases h
            · cases h
          | _ => simp only [matchP] at h; cases h
        | sl pp =>
          simp only [ptPlain, Bool.and_eq_true] at hp
          obtain ⟨⟨hd, hpp⟩, hps⟩ := hp
          cases e with
          | sl es1 =>
            simp only [matchP] at h
            split at h
            · rename_i l1 a1 h1
              split at h
              · rename_i l3 a3 h3
                cases h
                obtain ⟨g1, g2, g3⟩ := ih deep pp es1 a l1 a1 h1 hpp
                obtain ⟨j1, j2, j3⟩ := ih deep ps es a1 l3 a' h3 hps
                refine ⟨fun h => j1 (g1 h), fun p hp => j2 p (g2 p hp), fun rest => ?_⟩
                obtain ⟨e1, k1, k2, k3⟩ := g3 (l3 ++ rest)
                obtain ⟨e3, n1, n2, n3⟩ := j3 rest
                refine ⟨.sl e1 :: e3, by simp only [fillP, List.append_assoc, k1, n1], by simp [n2], fun af haf htr i e0 e0' u he0 he1 hu => ?_⟩
                cases i with
                | zero =>
                  simp only [List.getElem?_cons_zero, Option.some.injEq] at he0 he1
                  subst he0 he1
                  cases hu with
                  | sl q0 q1 qs qb q2 q3 =>
                    rw [← k2] at q0 q1 qs q3 ⊢
                    refine .sl q0 q1 (htr.st _ _ qs) qb (fun i x v hx hv => ?_) q3
                    have hlt : i < es1.length := by rw [← k2]; exact (List.getElem?_eq_some_iff.1 hx).1
                    exact k3 af (fun p hp => haf p (j2 p hp)) htr i _ x v (List.getElem?_eq_getElem hlt) hx (q2 i _ v (List.getElem?_eq_getElem hlt) hv)
                | succ i => exact n3 af haf htr i e0 e0' u (by simpa using he0) (by simpa using he1) hu
              · cases h
            · cases h
          | _ => simp only [matchP] at h; cases h
theorem packL_unpackL : ∀ (t : Ty) (es : List EV) (x : t.den), packL t es = some x → (∀ e ∈ es, ∃ t v, e = .dat t v) → unpackL t es.length x = es := by
  have one : ∀ (t : Ty) (e : EV) (x : t.den), e.to t = some x → (∃ t v, e = .dat t v) → EV.dat t x = e := by
    rintro t e x h ⟨t', v, rfl⟩
    rcases to_spec h with h | ⟨h, _⟩ | ⟨_, _, _, h, _⟩
    · exact h.symm
    · cases h
    · cases h
  intro t
  induction t with
  | unit =>
    intro es x h _
    cases es with
    | nil => rfl
    | cons e r => simp only [packL] at h; cases h
  | pair a b iha ihb =>
    intro es x h hd
    cases es with
    | nil => simp only [packL] at h; cases h
    | cons e r =>
      cases r with
      | nil =>
        simp only [packL] at h
        simp only [List.length_cons, List.length_nil, unpackL, one _ _ _ h (hd e (by simp))]
      | cons e' r =>
        simp only [packL] at h
        split at h
        · rename_i x1 h1
          split at h
          · rename_i x2 h2
            cases h
            have h3 := ihb (e' :: r) x2 h2 (fun y hy => hd y (by simp [hy]))
            simp only [List.length_cons] at h3 ⊢
            simp only [unpackL]
            rw [h3, one _ _ _ h1 (hd e (by simp))]
          · cases h
        · cases h
  | _ =>
    intro es x h hd
    cases es with
    | nil => simp only [packL] at h; cases h
    | cons e r =>
      cases r with
      | nil =>
        simp only [packL] at h
        simp only [List.length_cons, List.length_nil, unpackL, one _ _ _ h (hd e (by simp))]
      | cons e' r => simp only [packL] at h; cases h
theorem matchP_dat : ∀ (n : Nat) (ps : List PT) (es : List EV) (a : List (Nat × Nat)) (l : List EV) (a' : List (Nat × Nat)), matchP n ps es a = some (l, a') → ∀ e ∈ l, ∃ t v, e = .dat t v := by
  intro n
  induction n with
  | zero => intro ps es a l a' h; simp only [matchP] at h; cases h
  | succ n ih =>
    intro ps es a l a' h
    cases ps with
    | nil =>
      cases es with
      | nil => simp only [matchP] at h; cases h; simp
      | cons e es => simp only [matchP] at h; cases h
    | cons p ps =>
      cases es with
      | nil => cases p <;> simp only [matchP] at h <;> cases h
      | cons e es =>
        cases p with
        | dat t =>
          simp only [matchP] at h
          split at h
          · split at h
            · rename_i h1
              cases h
              intro x hx
              rcases List.mem_cons.1 hx with rfl | hx
              · exact ⟨_, _, rfl⟩
              · exact ih _ _ _ _ _ h1 x hx
            · cases h
          · cases h
        | own t =>
          simp only [matchP] at h
          split at h
          · split at h
            · rename_i h1
              cases h
              intro x hx
              rcases List.mem_cons.1 hx with rfl | hx
              · exact ⟨_, _, rfl⟩
              · exact ih _ _ _ _ _ h1 x hx
            · cases h
          · cases h
        | ref i off =>
          cases e with
          | ptr b off' =>
            simp only [matchP] at h
            split at h
            · split at h
              · split at h
                · exact ih _ _ _ _ _ h
                · cases h
              · split at h
                · cases h
                · exact ih _ _ _ _ _ h
            · cases h
          | _ => simp only [matchP] at h; cases h
        | clo f pf pc =>
          cases e with
          | clo f' fst caps =>
            simp only [matchP] at h
            split at h
            · split at h
              · rename_i h1
                split at h
                · rename_i h2
                  split at h
                  · rename_i h3
                    cases h
                    intro x hx
                    rcases List.mem_append.1 hx with hx | hx
                    · exact ih _ _ _ _ _ h1 x hx
                    · rcases List.mem_append.1 hx with hx | hx
                      · exact ih _ _ _ _ _ h2 x hx
                      · exact ih _ _ _ _ _ h3 x hx
                  · cases h
                · cases h
              · cases h
            · cases h
          | _ => simp only [matchP] at h; cases h
        | sl pp =>
          cases e with
          | sl es1 =>
            simp only [matchP] at h
            split at h
            · rename_i h1
              split at h
              · rename_i h2
                cases h
                intro x hx
                rcases List.mem_append.1 hx with hx | hx
                · exact ih _ _ _ _ _ h1 x hx
                · exact ih _ _ _ _ _ h2 x hx
              · cases h
            · cases h
          | _ => simp only [matchP] at h; cases h
end Go.Proofs.Ytdiebciejcmmhaa

/- A call does what is promised of the function: the boxes, and all together. No program in sight. -/
set_option linter.unusedSimpArgs false
set_option linter.unusedVariables false
namespace Go.Proofs.Ytdiebciejcmmhaa
theorem boxGet_spec {l : List (Option (List EV))} {b : Nat} {cs : List EV} : boxGet l b = some cs ↔ l[b]? = some (some cs) := by
  unfold boxGet
  split
  · rename_i cs' h; rw [h]; simp
  · rename_i h
    constructor
    · intro h; cases h
    · intro h'; exact absurd h' (h cs)
/-- A reference among a box's cells: which box is meant. -/
theorem matchP_ref : ∀ (n : Nat) (ps : List PT) (es : List EV) (a : List (Nat × Nat)) (l : List EV) (a' : List (Nat × Nat)), matchP n ps es a = some (l, a') → ptPlain false n ps = true → (∀ p ∈ a, p ∈ a') ∧
    ∀ (k i off : Nat), ps[k]? = some (.ref i off) → ∃ b, es[k]? = some (.ptr b off) ∧ (i, b) ∈ a' := by
  intro n
  induction n with
  | zero => intro ps es a l a' h; simp only [matchP] at h; cases h
  | succ n ih =>
    intro ps es a l a' h hp
    cases ps with
    | nil =>
      cases es with
      | nil => simp only [matchP] at h; cases h; exact ⟨fun _ h => h, fun k i off h => by simp at h⟩
      | cons e es => simp only [matchP] at h; cases h
    | cons p ps =>
      cases es with
      | nil => cases p <;> simp only [matchP] at h <;> cases h
      | cons e es =>
        cases p with
        | own t => simp [ptPlain] at hp
        | clo f b c => simp [ptPlain] at hp
        | sl b => simp [ptPlain] at hp
        | dat t =>
          simp only [ptPlain] at hp
          simp only [matchP] at h
          split at h
          · split at h
            · rename_i h1
              cases h
              obtain ⟨g1, g2⟩ := ih _ _ _ _ _ h1 hp
              refine ⟨g1, fun k i off hk => ?_⟩
              cases k with
              | zero => simp at hk
              | succ k => exact g2 k i off (by simpa using hk)
            · cases h
          · cases h
        | ref i0 off0 =>
          simp only [ptPlain] at hp
          cases e with
          | ptr b off' =>
            simp only [matchP] at h
            split at h
            · rename_i hoff
              have hoff := Nat.eq_of_beq_eq_true hoff
              subst hoff
              split at h
              · rename_i b' hb'
                split at h
                · rename_i hbb
                  have hbb := Nat.eq_of_beq_eq_true hbb
                  subst hbb
                  obtain ⟨g1, g2⟩ := ih _ _ _ _ _ h hp
                  refine ⟨g1, fun k i off hk => ?_⟩
                  cases k with
                  | zero =>
                    simp only [List.getElem?_cons_zero, Option.some.injEq, PT.ref.injEq] at hk
                    obtain ⟨rfl, rfl⟩ := hk
                    exact ⟨b, rfl, g1 _ (asgGet_mem _ _ _ hb')⟩
                  | succ k => exact g2 k i off (by simpa using hk)
                · cases h
              · split at h
                · cases h
                · obtain ⟨g1, g2⟩ := ih _ _ _ _ _ h hp
                  refine ⟨fun p hp => g1 p (by simp [hp]), fun k i off hk => ?_⟩
                  cases k with
                  | zero =>
                    simp only [List.getElem?_cons_zero, Option.some.injEq, PT.ref.injEq] at hk
                    obtain ⟨rfl, rfl⟩ := hk
                    exact ⟨b, rfl, g1 _ (by simp)⟩
                  | succ k => exact g2 k i off (by simpa using hk)
            · cases h
          | _ => simp only [matchP] at h; cases h
/-- The boxes that a function is given. -/
theorem matchB_fill {rd : Nat → Option (List EV)} : ∀ (bs : List (List PT)) (i : Nat) (a : List (Nat × Nat)) (l : List EV) (a' : List (Nat × Nat)), matchB rd i bs a = some (l, a') → bs.all (ptPlain false 200) = true →
    (AsgOK a → AsgOK a') ∧ (∀ p ∈ a, p ∈ a') ∧ (fillB bs l).length = bs.length ∧
      ∀ j, j < bs.length → ∃ b cs cs', (i + j, b) ∈ a' ∧ rd b = some cs ∧ (fillB bs l)[j]? = some (some cs') ∧ cs'.length = cs.length ∧
        (∀ (ow ow' : Nat → Owner) (bx bx' : Bx) (w : World), TrOK a' ow bx ow' bx' → ∀ (k : Nat) e e' v, cs[k]? = some e → cs'[k]? = some e' → RepEV ow bx w e v → RepEV ow' bx' w e' v) ∧
        ∀ (k i' off : Nat) pts, bs[j]? = some pts → pts[k]? = some (.ref i' off) → ∃ b', cs[k]? = some (.ptr b' off) ∧ (i', b') ∈ a'
  | [], i, a, l, a', h, _ => by
    simp only [matchB] at h
    cases h
    exact ⟨id, fun _ h => h, rfl, fun j hj => absurd hj (by simp)⟩
  | pts :: r, i, a, l, a', h, hp => by
    simp only [List.all_cons, Bool.and_eq_true] at hp
    simp only [matchB] at h
    split at h
    · rename_i b hb
      split at h
      · rename_i cs hcs
        split at h
        · rename_i l1 a1 h1
          split at h
          · rename_i l2 a2 h2
            cases h
            obtain ⟨j1, j2, j3, j4⟩ := matchB_fill r (i + 1) a1 l2 a' h2 hp.2
            have hmem : (i, b) ∈ a' := by
              have hm := (match_fill (ow := fun _ => .junk) (ow' := fun _ => .junk) (bx := ⟨id, fun _ => false, fun _ => none⟩) (bx' := ⟨id, fun _ => false, fun _ => none⟩) (w := default) 200 false pts cs a l1 a1 h1 hp.1).2.1
              exact j2 _ (hm _ (asgGet_mem _ _ _ hb))
            have hok := (match_fill (ow := fun _ => .junk) (ow' := fun _ => .junk) (bx := ⟨id, fun _ => false, fun _ => none⟩) (bx' := ⟨id, fun _ => false, fun _ => none⟩) (w := default) 200 false pts cs a l1 a1 h1 hp.1)
            obtain ⟨es0, f1, f2, _⟩ := hok.2.2 l2
            have hfb : fillB (pts :: r) (l1 ++ l2) = some es0 :: fillB r l2 := by simp only [fillB, f1]
            refine ⟨fun h => j1 (hok.1 h), fun p hp => j2 p (hok.2.1 p hp), by rw [hfb]; simp [j3], fun j hj => ?_⟩
            cases j with
            | zero =>
              refine ⟨b, cs, es0, hmem, hcs, by rw [hfb]; rfl, f2, fun ow ow' bx bx' w htr => ?_, fun k i' off pts' hpt hk => ?_⟩
              rotate_left
              · simp at hpt
                subst hpt
                obtain ⟨b', q1, q2⟩ := (matchP_ref 200 pts cs a l1 a1 h1 hp.1).2 k i' off hk
                exact ⟨b', q1, j2 _ q2⟩
              obtain ⟨es1, f1', _, f3⟩ := (match_fill (ow := ow) (ow' := ow') (bx := bx) (bx' := bx') (w := w) 200 false pts cs a l1 a1 h1 hp.1).2.2 l2
              have e : es1 = es0 := by rw [f1] at f1'; cases f1'; rfl
              subst e
              exact f3 a' j2 htr
            | succ j =>
              obtain ⟨b', cs', cs'', k1, k2, k3, k4, k5, k6⟩ := j4 j (by simpa using hj)
              exact ⟨b', cs', cs'', by rw [show i + (j + 1) = i + 1 + j by omega]; exact k1, k2, by rw [hfb]; simpa using k3, k4, k5, fun k i' off pts' hpt hk => k6 k i' off pts' (by simpa using hpt) hk⟩
          · cases h
        · cases h
      · cases h
    · cases h
/-- A box's cells behind the call: as the function has them, and as the caller has them. -/
theorem refill_fill : ∀ (n : Nat) (ps : List PT) (cs new out rest : List EV), refill ps cs new = some (out, rest) → ptPlain false n ps = true → ps.length < n →
    ∃ es', fillP n ps new = (es', rest) ∧ es'.length = out.length ∧ out.length = cs.length ∧
      ∀ (k : Nat) e e', out[k]? = some e → es'[k]? = some e' → ((e = e' ∧ e' ∈ new) ∨ ∃ i off, ps[k]? = some (.ref i off) ∧ e' = .ptr i off ∧ cs[k]? = some e) := by
  intro n
  induction n with
  | zero => intro ps cs new out rest h hp hn; omega
  | succ n ih =>
    intro ps cs new out rest h hp hn
    cases ps with
    | nil =>
      cases cs with
      | nil =>
        simp only [refill] at h
        cases h
        exact ⟨[], rfl, rfl, rfl, fun k e e' he => by simp at he⟩
      | cons c cs => simp only [refill] at h; cases h
    | cons p ps =>
      cases cs with
      | nil => cases p <;> simp only [refill] at h <;> cases h
      | cons c cs =>
        cases p with
        | own t => simp [ptPlain] at hp
        | clo f a b => simp [ptPlain] at hp
        | sl b => simp [ptPlain] at hp
        | dat t =>
          simp only [ptPlain] at hp
          cases new with
          | nil => simp only [refill] at h; cases h
          | cons x new =>
            simp only [refill] at h
            split at h
            · rename_i l r h1
              cases h
              obtain ⟨es', g1, g2, g3, g4⟩ := ih ps cs new l rest h1 hp (by simp at hn; omega)
              refine ⟨x :: es', by simp only [fillP, g1], by simp [g2], by simp [g3], fun k e e' he he' => ?_⟩
              cases k with
              | zero => simp at he he'; subst he; exact .inl ⟨he', by simp [he']⟩
              | succ k =>
                rcases g4 k e e' (by simpa using he) (by simpa using he') with h | ⟨i, off, h1, h2, h3⟩
                · exact .inl ⟨h.1, by simp [h.2]⟩
                · exact .inr ⟨i, off, by simpa using h1, h2, by simpa using h3⟩
            · cases h
        | ref i off =>
          simp only [ptPlain] at hp
          simp only [refill] at h
          split at h
          · rename_i l r h1
            cases h
            obtain ⟨es', g1, g2, g3, g4⟩ := ih ps cs new l rest h1 hp (by simp at hn; omega)
            refine ⟨.ptr i off :: es', by simp only [fillP, g1], by simp [g2], by simp [g3], fun k e e' he he' => ?_⟩
            cases k with
            | zero =>
              simp at he he'
              subst he he'
              exact .inr ⟨i, off, rfl, rfl, rfl⟩
            | succ k =>
              rcases g4 k e e' (by simpa using he) (by simpa using he') with h | ⟨i', off', h1, h2, h3⟩
              · exact .inl h
              · exact .inr ⟨i', off', by simpa using h1, h2, by simpa using h3⟩
          · cases h
end Go.Proofs.Ytdiebciejcmmhaa

/- A call does what is promised of the function. No program in sight. -/
set_option linter.unusedSimpArgs false
set_option linter.unusedVariables false
namespace Go.Proofs.Ytdiebciejcmmhaa
/-- The number under which the function knows a box. -/
def asgInv (a : List (Nat × Nat)) (b : Nat) : Option Nat := match a with
  | [] => none
  | (k, c) :: r => if c = b then some k else asgInv r b
theorem asgInv_mem : ∀ (a : List (Nat × Nat)) (b i : Nat), asgInv a b = some i → (i, b) ∈ a
  | [], _, _, h => by cases h
  | (k, c) :: r, b, i, h => by
    simp only [asgInv] at h
    split at h
    · rename_i hc; cases h; subst hc; simp
    · exact List.mem_cons_of_mem _ (asgInv_mem r b i h)
theorem asgInv_some : ∀ (a : List (Nat × Nat)) (b i : Nat), (i, b) ∈ a → ∃ j, asgInv a b = some j
  | [], _, _, h => by simp at h
  | (k, c) :: r, b, i, h => by
    simp only [asgInv]
    split
    · exact ⟨k, rfl⟩
    · rename_i hc
      rcases List.mem_cons.1 h with e | h
      · cases e; exact absurd rfl hc
      · exact asgInv_some r b i h
theorem asgBelow_spec : ∀ (n : Nat) (a : List (Nat × Nat)), asgBelow n a = true → ∀ i b, (i, b) ∈ a → i < n
  | n, [], _, _, _, h => by simp at h
  | n, (k, c) :: r, h, i, b, hm => by
    simp only [asgBelow, Bool.and_eq_true] at h
    rcases List.mem_cons.1 hm with e | hm
    · cases e; exact Nat.le_of_ble_eq_true h.1
    · exact asgBelow_spec n r h.2 i b hm
def owCall (a : List (Nat × Nat)) (ow : Nat → Owner) : Nat → Owner := fun blk => match ow blk with
  | .stable => .stable
  | .box b => match asgInv a b with
    | some i => .box i
    | none => .junk
  | .tok _ fr => .part fr
  | .part fr => .part fr
  | .junk => .junk
def bxCall (a : List (Nat × Nat)) (bx : Bx) : Bx := ⟨fun i => match asgGet a i with
  | some b => bx b
  | none => 0, fun _ => false, fun _ => none⟩
theorem owCall_rigid {a : List (Nat × Nat)} {ow : Nat → Owner} {blk n : Nat} (h : Rigid ow blk n) : Rigid (owCall a ow) blk n := by
  rcases rigid_cases h with h | ⟨k, fr, h, hn⟩ | ⟨fr, h, hn⟩
  · exact rigid_stable (by simp [owCall, h])
  · exact rigid_part (by simp [owCall, h]) hn
  · exact rigid_part (by simp [owCall, h]) hn
theorem trCall {a : List (Nat × Nat)} (ha : AsgOK a) (ow : Nat → Owner) (bx : Bx) : TrOK a ow bx (owCall a ow) (bxCall a bx) := by
  refine ⟨fun blk n h => owCall_rigid h, fun i b hm hb => ⟨by simp [bxCall, ha.key i b hm], ?_⟩⟩
  obtain ⟨j, hj⟩ := asgInv_some a b i hm
  have : j = i := ha.inj j i b (asgInv_mem a b j hj) hm
  simp [owCall, hb, hj, this]
theorem res_dat : ∀ (l : List EV) {ow ow' : Nat → Owner} {bx bx' : Bx} {w : World} {v : Value}, (∀ e ∈ l, ∃ t x, e = .dat t x) → (∀ blk n, Rigid ow blk n → Rigid ow' blk n) → RepEV ow bx w (resEV l) v → RepEV ow' bx' w (resEV l) v := by
  intro l ow ow' bx bx' w v hd hst h
  have one : ∀ e v, (∃ t x, e = EV.dat t x) → RepEV ow bx w e v → RepEV ow' bx' w e v := by
    rintro e v ⟨t, x, rfl⟩ h
    cases h with
    | dat h => exact .dat (h.keep (KeepSt.of fun blk n hs => ⟨hst blk n hs, rfl⟩))
  unfold resEV at h ⊢
  split at h
  · exact one _ _ (hd _ (by simp)) h
  · cases h with
    | tup h1 h2 => exact .tup h1 fun i e v he hv => one e v (hd e (List.mem_of_getElem? he)) (h2 i e v he hv)
theorem unpack_dat : ∀ (t : Ty) (n : Nat) (x : t.den), ∀ e ∈ unpackL t n x, ∃ t v, e = .dat t v := by
  intro t
  induction t with
  | pair a b iha ihb =>
    intro n x e he
    cases n with
    | zero => simp [unpackL] at he
    | succ n =>
      cases n with
      | zero => simp [unpackL] at he; exact ⟨_, _, he⟩
      | succ n =>
        simp only [unpackL] at he
        rcases List.mem_cons.1 he with he | he
        · exact ⟨_, _, he⟩
        · exact ihb _ _ e he
  | _ =>
    intro n x e he
    cases n with
    | zero => simp [unpackL] at he
    | succ n => simp [unpackL] at he; exact ⟨_, _, he⟩
theorem refill_rest : ∀ (ps : List PT) (cs new out rest : List EV), refill ps cs new = some (out, rest) → ∀ e ∈ rest, e ∈ new := by
  intro ps
  induction ps with
  | nil =>
    intro cs new out rest h
    cases cs with
    | nil => simp only [refill] at h; cases h; exact fun e he => he
    | cons c cs => simp only [refill] at h; cases h
  | cons p ps ih =>
    intro cs new out rest h
    cases cs with
    | nil => cases p <;> simp only [refill] at h <;> cases h
    | cons c cs =>
      cases p with
      | own t => simp only [refill] at h; cases h
      | dat t =>
        cases new with
        | nil => simp only [refill] at h; cases h
        | cons x new =>
          simp only [refill] at h
          split at h
          · rename_i h1; cases h; exact fun e he => List.mem_cons_of_mem _ (ih _ _ _ _ h1 e he)
          · cases h
      | ref i off =>
        simp only [refill] at h
        split at h
        · rename_i h1; cases h; exact ih _ _ _ _ h1
        · cases h
      | sl b => simp only [refill] at h; cases h
      | clo f a b =>
        simp only [refill] at h
        split at h
        · rename_i h1; cases h; exact ih _ _ _ _ h1
        · cases h
/-- What is written into the boxes, one by one. -/
theorem refillB_spec {rd : Nat → Option (List EV)} {asg : List (Nat × Nat)} : ∀ (bs : List (List PT)) (i : Nat) (new : List EV) (ws : List Wr), refillB rd asg i bs new = some ws → bs.all (ptPlain false 200) = true → (∀ p ∈ bs, p.length < 200) →
    ws.length = bs.length ∧ (fillB bs new).length = bs.length ∧ ∀ j, j < bs.length → ∃ b cs out es', asgGet asg (i + j) = some b ∧ rd b = some cs ∧ ws[j]? = some ⟨b, 0, out⟩ ∧ (fillB bs new)[j]? = some (some es') ∧ es'.length = out.length ∧ out.length = cs.length ∧
      ∀ (k : Nat) e e', out[k]? = some e → es'[k]? = some e' → ((e = e' ∧ e' ∈ new) ∨ ∃ i' off pts, bs[j]? = some pts ∧ pts[k]? = some (.ref i' off) ∧ e' = .ptr i' off ∧ cs[k]? = some e)
  | [], i, new, ws, h, _, _ => by
    simp only [refillB] at h
    cases h
    exact ⟨rfl, rfl, fun j hj => absurd hj (by simp)⟩
  | pts :: r, i, new, ws, h, hp, hl => by
    simp only [List.all_cons, Bool.and_eq_true] at hp
    simp only [refillB] at h
    split at h
    · rename_i b hb
      split at h
      · rename_i cs hcs
        split at h
        · rename_i l rest hr
          split at h
          · rename_i ws' hws
            cases h
            obtain ⟨es', g1, g2, g3, g4⟩ := refill_fill 200 pts cs new l rest hr hp.1 (hl pts (by simp))
            have hsub : ∀ e ∈ rest, e ∈ new := refill_rest pts cs new l rest hr
            obtain ⟨k1, k2, k3⟩ := refillB_spec r (i + 1) rest ws' hws hp.2 (fun p hp => hl p (by simp [hp]))
            have hfb : fillB (pts :: r) new = some es' :: fillB r rest := by simp only [fillB, g1]
            refine ⟨by simp [k1], by rw [hfb]; simp [k2], fun j hj => ?_⟩
            cases j with
            | zero =>
              refine ⟨b, cs, l, es', hb, hcs, rfl, by rw [hfb]; rfl, g2, g3, fun k e e' he he' => ?_⟩
              rcases g4 k e e' he he' with h | ⟨i', off, h1, h2, h3⟩
              · exact .inl h
              · exact .inr ⟨i', off, pts, rfl, h1, h2, h3⟩
            | succ j =>
              obtain ⟨b', cs', out, es'', q1, q2, q3, q4, q5, q6, q7⟩ := k3 j (by simpa using hj)
              refine ⟨b', cs', out, es'', by rw [show i + (j + 1) = i + 1 + j by omega]; exact q1, q2, by simpa using q3, by rw [hfb]; simpa using q4, q5, q6, fun k e e' he he' => ?_⟩
              rcases q7 k e e' he he' with h | ⟨i', off, pts', h0, h1, h2, h3⟩
              · exact .inl ⟨h.1, hsub _ h.2⟩
              · exact .inr ⟨i', off, pts', by simpa using h0, h1, h2, h3⟩
          · cases h
        · cases h
      · cases h
    · cases h
theorem foldl_updW_other : ∀ (ws : List Wr) (bg : Nat → Option (List EV)) (b : Nat), (∀ x ∈ ws, x.b ≠ b) → ws.foldl updW bg b = bg b
  | [], _, _, _ => rfl
  | x :: r, bg, b, h => by
    simp only [List.foldl_cons]
    rw [foldl_updW_other r _ b (fun y hy => h y (by simp [hy]))]
    unfold updW
    rw [if_neg (fun e => h x (by simp) e.symm)]
theorem foldl_updW_isSome : ∀ (ws : List Wr) (bg : Nat → Option (List EV)) (b : Nat), (ws.foldl updW bg b).isSome = (bg b).isSome
  | [], _, _ => rfl
  | x :: r, bg, b => by
    simp only [List.foldl_cons]
    rw [foldl_updW_isSome r _ b]
    unfold updW
    split <;> simp
theorem foldl_updW_at : ∀ (ws : List Wr) (bg : Nat → Option (List EV)) (b : Nat) (out cs : List EV) (j : Nat), ws[j]? = some ⟨b, 0, out⟩ → bg b = some cs → out.length = cs.length →
    (∀ (k : Nat) x, ws[k]? = some x → x.b = b → k = j) → ws.foldl updW bg b = some out
  | [], _, _, _, _, j, h, _, _, _ => by simp at h
  | x :: r, bg, b, out, cs, j, h, hb, hl, hu => by
    simp only [List.foldl_cons]
    cases j with
    | zero =>
      simp at h
      subst h
      rw [foldl_updW_other r _ b (fun y hy e => by
        obtain ⟨k, hk⟩ := List.getElem?_of_mem hy
        have := hu (k + 1) y (by simpa using hk) e
        omega)]
      unfold updW
      simp only [if_true, hb, Option.map_some, splice]
      simp [← hl]
    | succ j =>
      have hx : x.b ≠ b := fun e => by have := hu 0 x rfl e; omega
      refine foldl_updW_at r _ b out cs j (by simpa using h) ?_ hl (fun k y hk e => by have := hu (k + 1) y (by simpa using hk) e; omega)
      unfold updW
      rw [if_neg (fun e => hx e.symm)]
      exact hb
end Go.Proofs.Ytdiebciejcmmhaa

/- A call does what is promised of the function: all together. No program in sight. -/
set_option linter.unusedSimpArgs false
set_option linter.unusedVariables false
namespace Go.Proofs.Ytdiebciejcmmhaa
theorem setEnv_call {P : Program} {c : Con} (hc : ConOK P c) {es l l' : List EV} {a a' : List (Nat × Nat)} {rd : Nat → Option (List EV)} {x : c.ins.den} {y : c.outs.den} {ws : List Wr}
    (h1 : matchP 200 c.ps es [] = some (l, a)) (h2 : matchB rd 0 c.boxes a = some (l', a')) (hp : conPlain c (l ++ l').length a' = true) (h3 : packL c.ins (l ++ l') = some x) (h4 : c.F x = some y)
    (h5 : refillB rd a' 0 c.boxes ((unpackL c.outs c.nout y).drop c.rs.length) = some ws)
    {B : Base} {ow : Nat → Owner} {bx : Bx} {nb : Nat} {bg : Nat → Option (List EV)} {w : World} {args : Array Value} (id : Nat) (hi : Inv B ow bx nb bg w) (hargs : RepL ow bx w es args)
    (hrd : ∀ b ∈ a'.map (·.2), bg b = rd b) :
    Calls P c.f args w fun e w' => ∃ v ow', e = .returned v ∧ Keeps ow bx w ow' bx w' ∧ RepEV ow' bx w' (resEV ((unpackL c.outs c.nout y).take c.rs.length)) v ∧ Inv B ow' bx nb (upd bg id none ws) w' := by
  simp only [conPlain, Bool.and_eq_true] at hp
  obtain ⟨⟨⟨⟨⟨⟨hps, hbs⟩, hbl⟩, hrs⟩, hnin⟩, hbel⟩, hnout⟩ := hp
  have hnin := Nat.eq_of_beq_eq_true hnin
  obtain ⟨m1, m2, m3⟩ := match_fill (ow := ow) (ow' := owCall a' ow) (bx := bx) (bx' := bxCall a' bx) (w := w) 200 true c.ps es [] l a h1 hps
  obtain ⟨b1, b2, b3, b4⟩ := matchB_fill c.boxes 0 a l' a' h2 hbs
  have hok : AsgOK a' := b1 (m1 .nil)
  have htr := trCall hok ow bx
  obtain ⟨es', f1, f2, f3⟩ := m3 l'
  have hun : unpackL c.ins c.nin x = l ++ l' := by
    have := packL_unpackL c.ins (l ++ l') x h3 (fun e he => by
      rcases List.mem_append.1 he with he | he
      · exact matchP_dat _ _ _ _ _ _ h1 e he
      · have : ∀ (bs : List (List PT)) (i : Nat) (a : List (Nat × Nat)) (l : List EV) (a' : List (Nat × Nat)), matchB rd i bs a = some (l, a') → ∀ e ∈ l, ∃ t v, e = EV.dat t v := by
          intro bs
          induction bs with
          | nil => intro i a l a' h; simp only [matchB] at h; cases h; simp
          | cons pts r ih =>
            intro i a l a' h
            simp only [matchB] at h
            split at h
            · split at h
              · split at h
                · rename_i hm
                  split at h
                  · rename_i hr
                    cases h
                    intro e he
                    rcases List.mem_append.1 he with he | he
                    · exact matchP_dat _ _ _ _ _ _ hm e he
                    · exact ih _ _ _ _ hr e he
                  · cases h
                · cases h
              · cases h
            · cases h
        exact this _ _ _ _ _ h2 e he)
    rw [hnin] at this
    exact this
  have hargs0 : c.args0 x = es' := by unfold Con.args0; rw [hun, f1]
  have hboxes0 : c.boxes0 x = fillB c.boxes l' := by unfold Con.boxes0; rw [hun, f1]
  have hbelow := asgBelow_spec _ _ hbel
  -- what each box is
  have hbox : ∀ i, i < c.boxes.length → ∃ b cs cs', (i, b) ∈ a' ∧ bg b = some cs ∧ (fillB c.boxes l')[i]? = some (some cs') ∧ cs'.length = cs.length ∧
      (∀ (k : Nat) e e' v, cs[k]? = some e → cs'[k]? = some e' → RepEV ow bx w e v → RepEV (owCall a' ow) (bxCall a' bx) w e' v) ∧
      ∀ (k i' off : Nat) pts, c.boxes[i]? = some pts → pts[k]? = some (.ref i' off) → ∃ b', cs[k]? = some (.ptr b' off) ∧ (i', b') ∈ a' := by
    intro i hlt
    obtain ⟨b, cs, cs', k1, k2, k3, k4, k5, k6⟩ := b4 i hlt
    rw [Nat.zero_add] at k1
    refine ⟨b, cs, cs', k1, ?_, k3, k4, k5 ow _ bx _ w htr, k6⟩
    rw [hrd b (List.mem_map.2 ⟨(i, b), k1, rfl⟩)]
    exact k2
  have hcall : ∀ blk i, owCall a' ow blk = .box i → ∃ b, (i, b) ∈ a' ∧ ow blk = .box b ∧ blk = bx b := by
    intro blk i h
    unfold owCall at h
    split at h
    · cases h
    · rename_i b hb
      split at h
      · rename_i j hj
        cases h
        exact ⟨b, asgInv_mem _ _ _ hj, hb, (hi.back blk b hb).1⟩
      · cases h
    · cases h
    · cases h
    · cases h
  have hnotok : ∀ blk k fr, owCall a' ow blk ≠ .tok k fr := by
    intro blk k fr h
    unfold owCall at h
    split at h
    · cases h
    · split at h <;> cases h
    · cases h
    · cases h
    · cases h
  have hglob : GlobOK (owCall a' ow) w := hi.glob.keep (.of fun blk n h => ⟨owCall_rigid h, rfl⟩)
  have hinv : Inv ⟨w, fun blk => ∃ b, owCall a' ow blk = .box b, owCall a' ow, c.boxes.length, bxCall a' bx, hglob⟩ (owCall a' ow) (bxCall a' bx) c.boxes.length (boxGet (c.boxes0 x)) w := by
    rw [hboxes0]
    constructor
    · intro i cs' hcs'
      rw [boxGet_spec] at hcs'
      have hlt : i < c.boxes.length := by rw [← b3]; exact (List.getElem?_eq_some_iff.1 hcs').1
      obtain ⟨b, cs, cs'', k1, k2, k3, k4, k5, _⟩ := hbox i hlt
      rw [hcs'] at k3
      cases k3
      obtain ⟨g1, c0, T, g2, g3⟩ := hi.box b cs k2
      obtain ⟨t1, t2⟩ := htr.bo i b k1 g1
      refine ⟨by rw [t1]; exact t2, c0, T, by rw [t1]; exact g2, by rw [k4, g3.1], fun k e v he hv => ?_⟩
      have hklt : k < cs.length := by rw [← k4]; exact (List.getElem?_eq_some_iff.1 he).1
      exact ⟨k5 k _ e v (List.getElem?_eq_getElem hklt) he (g3.2 k _ v (List.getElem?_eq_getElem hklt) hv).1, (g3.2 k _ v (List.getElem?_eq_getElem hklt) hv).2⟩
    · intro blk i h
      obtain ⟨b, k1, k2, k3⟩ := hcall blk i h
      have hlt := hbelow i b k1
      obtain ⟨t1, t2⟩ := htr.bo i b k1 (by rw [← k3]; exact k2)
      refine ⟨by rw [t1]; exact k3, ?_, hlt⟩
      obtain ⟨_, _, cs'', _, _, j3, _⟩ := hbox i hlt
      rw [boxGet_spec.2 j3]
      rfl
    · intro blk h
      refine hi.here blk fun e => h ?_
      simp [owCall, e]
    · intro blk _ h
      exact ⟨rfl, rfl, fun b hb => h ⟨b, hb⟩, hnotok blk⟩
    · exact Nat.le_refl _
    · exact ⟨rfl, rfl, rfl⟩
    · intro i hlt
      obtain ⟨_, _, cs'', _, _, j3, _⟩ := hbox i hlt
      exact ⟨rfl, by rw [boxGet_spec.2 j3]; rfl⟩
    · exact .refl _ _
    · exact fun j h => by simp [bxCall] at h
  have hrepl : RepL (owCall a' ow) (bxCall a' bx) w (c.args0 x) args := by
    rw [hargs0]
    refine ⟨by rw [f2]; exact hargs.1, fun i e v he hv => ?_⟩
    have hlt : i < es.length := by rw [← f2]; exact (List.getElem?_eq_some_iff.1 he).1
    exact f3 a' b2 htr i _ e v (List.getElem?_eq_getElem hlt) he (hargs.2 i _ v (List.getElem?_eq_getElem hlt) hv)
  refine (hc.go x y h4 w (owCall a' ow) (bxCall a' bx) args hglob (fun _ => rfl) hinv hrepl).mono fun e w' ⟨v, ow', he, hinv', hv⟩ => ?_
  subst he
  -- the caller's view of the new world
  have hsz := hinv'.size
  simp only at hsz
  let ow2 : Nat → Owner := fun blk => if blk < w.heap.size then ow blk else match ow' blk with | .stable => .stable | .tok _ _ => .stable | .part _ => .stable | _ => .junk
  have hM : ∀ blk b, ow blk = .box b → (∀ i, (i, b) ∉ a') → owCall a' ow blk = .junk := by
    intro blk b hb hn
    unfold owCall
    rw [hb]
    simp only
    split
    · rename_i j hj; exact absurd (asgInv_mem _ _ _ hj) (hn j)
    · rfl
  have hold : ∀ blk, blk < w.heap.size → (∀ b, owCall a' ow blk ≠ .box b) → w'.heap[blk]? = w.heap[blk]? ∧ ow' blk = owCall a' ow blk := by
    intro blk hlt h
    obtain ⟨g1, g2, _⟩ := hinv'.old blk hlt (fun ⟨b, hb⟩ => h b hb)
    exact ⟨g1, g2⟩
  have hback : ∀ blk n, Rigid (owCall a' ow) blk n → Rigid ow blk n := by
    intro blk n h
    cases hb : ow blk with
    | stable => exact rigid_stable hb
    | tok k fr => rcases rigid_cases h with h | ⟨_, _, h, _⟩ | ⟨fr', h, hn⟩ <;> simp [owCall, hb] at h; subst h; exact rigid_tok hb hn
    | part fr => rcases rigid_cases h with h | ⟨_, _, h, _⟩ | ⟨fr', h, hn⟩ <;> simp [owCall, hb] at h; subst h; exact rigid_part hb hn
    | junk => rcases rigid_cases h with h | ⟨_, _, h, _⟩ | ⟨fr', h, hn⟩ <;> simp [owCall, hb] at h
    | box b =>
      rcases rigid_cases h with h | ⟨_, _, h, _⟩ | ⟨fr', h, hn⟩ <;> (simp only [owCall, hb] at h; split at h <;> cases h)
  have hst2 : ∀ blk n, Rigid ow' blk n → Rigid ow2 blk n := by
    intro blk n h
    by_cases hlt : blk < w.heap.size
    · refine rigid_eq (ow := ow) (hback blk n ?_) (by simp only [ow2, if_pos hlt])
      by_cases hm : ∀ b, owCall a' ow blk ≠ .box b
      · exact rigid_eq h (hold blk hlt hm).2.symm
      · exfalso
        obtain ⟨i, hcb⟩ : ∃ i, owCall a' ow blk = .box i := Classical.byContradiction fun hn => hm fun b hb => hn ⟨b, hb⟩
        obtain ⟨b, k1, k2, k3⟩ := hcall blk i hcb
        have hlt' := hbelow i b k1
        obtain ⟨t1, t2⟩ := htr.bo i b k1 (by rw [← k3]; exact k2)
        obtain ⟨k1', k2', k3'⟩ := refillB_spec c.boxes 0 _ ws h5 hbs (fun p hp => Nat.le_of_ble_eq_true (List.all_eq_true.1 hbl p hp))
        obtain ⟨b', cs', out', es'', q1, q2, q3, q4, _⟩ := k3' i hlt'
        have := (hinv'.box i es'' (boxGet_spec.2 q4)).1
        rw [t1, ← k3] at this
        exact rigid_box h i this
    · refine rigid_stable ?_
      simp only [ow2, if_neg hlt]
      rcases rigid_cases h with h | ⟨_, _, h, _⟩ | ⟨fr', h, hn⟩ <;> rw [h]
  have hkeep : Keeps ow bx w ow2 bx w' := by
    refine ⟨.of fun blk n h => ?_, fun blk k fr h _ => ?_, fun _ h => h, fun b h => ?_, fun _ _ h => h⟩
    · have hlt := hi.here blk (rigid_live h)
      exact ⟨rigid_eq h (by simp only [ow2, if_pos hlt]), (hold blk hlt (rigid_box (owCall_rigid h))).1⟩
    · have hlt := hi.here blk (by rw [h]; intro e; cases e)
      exact ⟨by simp only [ow2, if_pos hlt]; exact h, (hold blk hlt (by simp [owCall, h])).1⟩
    · have hlt := hi.here (bx b) (by rw [h]; intro e; cases e)
      exact ⟨rfl, by simp only [ow2, if_pos hlt]; exact h⟩
  have hdat : ∀ e ∈ unpackL c.outs c.nout y, ∃ t v, e = EV.dat t v := unpack_dat _ _ _
  have hv2 : RepEV ow2 bx w' (resEV ((unpackL c.outs c.nout y).take c.rs.length)) v := by
    unfold Con.res at hv
    exact res_dat _ (fun e he => hdat e (List.mem_of_mem_take he)) hst2 hv
  refine ⟨v, ow2, rfl, hkeep, hv2, ?_⟩
  obtain ⟨k1, k2, k3⟩ := refillB_spec c.boxes 0 _ ws h5 hbs (fun p hp => Nat.le_of_ble_eq_true (List.all_eq_true.1 hbl p hp))
  have hws : ∀ j, j < c.boxes.length → ∃ b out, (j, b) ∈ a' ∧ ws[j]? = some ⟨b, 0, out⟩ := by
    intro j hj
    obtain ⟨b, cs, out, es'', q1, q2, q3, _⟩ := k3 j hj
    rw [Nat.zero_add] at q1
    exact ⟨b, out, asgGet_mem _ _ _ q1, q3⟩
  have hwsb : ∀ (k : Nat) x, ws[k]? = some x → (k, x.b) ∈ a' := by
    intro k x hx
    have hk : k < c.boxes.length := by rw [← k1]; exact (List.getElem?_eq_some_iff.1 hx).1
    obtain ⟨b, out, g1, g2⟩ := hws k hk
    rw [hx] at g2
    cases g2
    exact g1
  constructor
  · intro b cs2 hb2
    simp only [upd, updN] at hb2
    by_cases hin : ∃ i, (i, b) ∈ a'
    · obtain ⟨i, hi'⟩ := hin
      have hlt := hbelow i b hi'
      obtain ⟨b', cs, out, es'', q1, q2, q3, q4, q5, q6, q7⟩ := k3 i hlt
      rw [Nat.zero_add, hok.key i b hi'] at q1
      cases q1
      obtain ⟨b0, cs0, cs0', p1, p2, p3, p4, p5, p6⟩ := hbox i hlt
      have : b0 = b := by have := hok.key i b0 p1; rw [hok.key i b hi'] at this; cases this; rfl
      subst this
      have hrdb : rd b0 = bg b0 := (hrd b0 (List.mem_map.2 ⟨(i, b0), hi', rfl⟩)).symm
      have hcs : cs = cs0 := by rw [hrdb, p2] at q2; cases q2; rfl
      subst hcs
      rw [foldl_updW_at ws bg b0 out cs i q3 p2 q6 (fun k x hx he => by
        have := hwsb k x hx
        rw [he] at this
        exact hok.inj k i b0 this hi')] at hb2
      cases hb2
      obtain ⟨g1, c0, T, g2, g3⟩ := hi.box b0 cs p2
      obtain ⟨t1, t2⟩ := htr.bo i b0 hi' g1
      obtain ⟨r1, c1, T1, r2, r3⟩ := hinv'.box i es'' (boxGet_spec.2 q4)
      rw [t1] at r1 r2
      have hltb := hi.here (bx b0) (by rw [g1]; intro e; cases e)
      refine ⟨by simp only [ow2, if_pos hltb]; exact g1, c1, T1, r2, by rw [← q5, r3.1], fun k e v' he hv' => ?_⟩
      have hklt : k < es''.length := by rw [q5]; exact (List.getElem?_eq_some_iff.1 he).1
      obtain ⟨r4, r5⟩ := r3.2 k _ v' (List.getElem?_eq_getElem hklt) hv'
      refine ⟨?_, r5⟩
      rcases q7 k e _ he (List.getElem?_eq_getElem hklt) with ⟨heq, hnew⟩ | ⟨i', off, pts, z1, z2, z3, z4⟩
      · rw [← heq] at r4 hnew
        obtain ⟨t, x, hx⟩ := hdat e (List.mem_of_mem_drop hnew)
        subst hx
        cases r4 with
        | dat r4 => exact .dat (r4.keep (KeepSt.of fun blk n hs => ⟨hst2 blk n hs, rfl⟩))
      · obtain ⟨b', y1, y2⟩ := p6 k i' off pts z1 z2
        rw [z4] at y1
        cases y1
        rw [z3] at r4
        have hklt' : k < c0.toList.length := by rw [← g3.1]; exact (List.getElem?_eq_some_iff.1 z4).1
        have hold' := (g3.2 k _ _ z4 (List.getElem?_eq_getElem hklt')).1
        generalize c0.toList[k]'hklt' = u at hold'
        cases hold' with
        | ptr hq =>
          obtain ⟨t3, _⟩ := htr.bo i' b' y2 hq
          have hltb' := hi.here (bx b') (by rw [hq]; intro e; cases e)
          cases r4 with
          | ptr _ =>
            rw [t3]
            exact .ptr (by simp only [ow2, if_pos hltb']; exact hq)
    · have hne : ∀ x ∈ ws, x.b ≠ b := fun x hx e => by
        obtain ⟨k, hk⟩ := List.getElem?_of_mem hx
        exact hin ⟨k, e ▸ hwsb k x hk⟩
      rw [foldl_updW_other ws bg b hne] at hb2
      obtain ⟨g1, c0, T, g2, g3⟩ := hi.box b cs2 hb2
      have hltb := hi.here (bx b) (by rw [g1]; intro e; cases e)
      have hj := hM (bx b) b g1 (fun i h => hin ⟨i, h⟩)
      exact ⟨by simp only [ow2, if_pos hltb]; exact g1, c0, T, by rw [(hold (bx b) hltb (by rw [hj]; intro b h; cases h)).1]; exact g2, g3.keep hkeep⟩
  · intro blk b h
    simp only [ow2] at h
    split at h
    · obtain ⟨g1, g2, g3⟩ := hi.back blk b h
      exact ⟨g1, by simp only [upd, updN]; rw [foldl_updW_isSome]; exact g2, g3⟩
    · split at h <;> cases h
  · intro blk h
    simp only [ow2] at h
    split at h
    · rename_i hlt; omega
    · split at h
      · rename_i hs; exact hinv'.here blk (by rw [hs]; intro e; cases e)
      · rename_i hs; exact hinv'.here blk (by rw [hs]; intro e; cases e)
      · rename_i hs; exact hinv'.here blk (by rw [hs]; intro e; cases e)
      · exact absurd rfl h
  · intro blk hlt hnm
    obtain ⟨g1, g2, g3⟩ := hi.old blk hlt hnm
    have hs := hi.size
    have hlt2 : blk < w.heap.size := by omega
    have hc' : ∀ b, owCall a' ow blk ≠ .box b := by
      intro b hb
      obtain ⟨b', _, k2, _⟩ := hcall blk b hb
      exact g3.1 b' k2
    refine ⟨by rw [(hold blk hlt2 hc').1]; exact g1, ?_, ?_⟩
    · simp only [ow2, if_pos hlt2]; exact g2
    · simp only [ow2, if_pos hlt2]; exact g3
  · have := hi.size; omega
  · obtain ⟨e1, e2, e3⟩ := hinv'.env
    obtain ⟨e4, e5, e6⟩ := hi.env
    exact ⟨by rw [e1]; exact e4, by rw [e2]; exact e5, by rw [e3]; exact e6⟩
  · intro b hb
    obtain ⟨h1, h2⟩ := hi.kept b hb
    exact ⟨h1, by simp only [upd, updN]; rw [foldl_updW_isSome]; exact h2⟩
  · exact hi.st.trans hkeep.st
  · exact hi.born
end Go.Proofs.Ytdiebciejcmmhaa

/- Conversions do what the reading says. No program in sight. -/
set_option linter.unusedSimpArgs false
set_option linter.unusedVariables false
namespace Go.Proofs.Ytdiebciejcmmhaa
section
variable {ρ : Type} {P : Program} {Γ : Cx} {id : Nat} {rd : Nat → Option (List EV)} {g : Option Bool} {A : Operand → EV} {o : Oper} {q : EV → Option (List EV) → List Wr → List Nat → Option ρ} {r : ρ}
theorem isInt_spec {T : Nat} {k : IntKind} (hΓ : CxOK P Γ) (h : tyIs (Γ.td T) (.int k) = true) : P.underlying T = some (.int k) := by
  obtain ⟨d, hT, hk⟩ := tyIs_spec h
  have hOK := hΓ.td T d hT
  have hh := hOK.how
  have hag := (hOK.agg _ hk).2
  cases hw : d.how with
  | scalar => simp only [hw] at hh; obtain ⟨_, u, hu, _, _, h5, _⟩ := hh; rw [hu, h5 k hk]
  | struct fs => rw [hw] at hag; simp [Ty.isAgg] at hag
  | array n e s => rw [hw] at hag; simp [Ty.isAgg] at hag
  | slice e s b => simp only [hw] at hh; exact absurd hk (hh.2.2.2.2.1 k)
theorem Inv.pushDrew {B : Base} {ow : Nat → Owner} {bx : Bx} {nb : Nat} {bg : Nat → Option (List EV)} {w : World} (hi : Inv B ow bx nb bg w) (own : Owner) (x : Obj) (hown : own = .stable ∨ own = .junk ∨ ∃ k fr, own = .tok k fr) :
    Keeps ow bx w (fun blk => if blk = w.heap.size then own else ow blk) bx (w.drew.alloc x) ∧
    Inv B (fun blk => if blk = w.heap.size then own else ow blk) bx nb bg (w.drew.alloc x) := by
  obtain ⟨h1, h2⟩ := hi.pushStable own x hown
  have hk : Keeps (fun blk => if blk = w.heap.size then own else ow blk) bx { w with heap := w.heap.push x } (fun blk => if blk = w.heap.size then own else ow blk) bx (w.drew.alloc x) :=
    ⟨.of fun _ _ h => ⟨h, rfl⟩, fun _ _ _ h _ => ⟨h, rfl⟩, fun _ h => h, fun _ h => ⟨rfl, h⟩, fun _ _ h => h⟩
  refine ⟨h1.trans hk, ?_⟩
  constructor
  · intro b cs hb
    obtain ⟨g1, c, T, g2, g3⟩ := h2.box b cs hb
    exact ⟨g1, c, T, g2, g3.keep hk⟩
  · exact h2.back
  · exact h2.here
  · exact h2.old
  · exact h2.size
  · exact h2.env
  · exact h2.kept
  · exact h2.st
  · exact h2.born
theorem numsOf_len (s : ByteArray) : (numsOf s).length = s.size := by unfold numsOf; rw [List.length_map, Array.length_toList]; rfl
theorem sound_convert {S D : TypeId} {x : Operand} (hΓ : CxOK P Γ) (ho : o.op = .convert S D x) (h : opE Γ id rd g A (.convert S D x) q = some r) : Sound P id rd g A o q r := by
  have hx : ∀ {ow bx w ev}, Args ow bx w A ev o.op → RepEV ow bx w (A x) (ev x) := by
    intro ow bx w ev hA
    rw [ho] at hA
    exact args_of hA (by intros; simp) x (by simp [Op.operands])
  simp only [opE] at h
  have hr : ∀ {ow bx w ev}, Args ow bx w A ev o.op → RepEV ow bx w (A x).raw (ev x) := fun hA => raw_rep (hx hA)
  split at h
  · rename_i k n he
    split at h
    · rename_i dd hdd htd
      split at h
      · rename_i k' hk'
        refine sound_pure h fun _ B ow bx nb bg w a hi hA hb => ?_
        have hp := hr hA
        rw [he] at hp
        have hD : P.underlying D = some (.int k') := isInt_spec hΓ (by rw [hdd]; simp [tyIs, hk'])
        refine ⟨_, ?_, repInt_mk (fits_wrap k' n)⟩
        unfold execOp
        rw [ho]
        simp [(repInt hp).1, convert, underlying, isInt_spec hΓ htd, hD, Conv.intToInt]
      · cases h
    · cases h
  · rename_i b he
    split at h
    · rename_i dd hdd hst
      split at h
      · rename_i e es bs hw
        split at h
        · rename_i hc
          simp only [Bool.and_eq_true] at hc
          obtain ⟨hu8, hlt⟩ := hc
          have hlt : e < 25000 := Nat.le_of_ble_eq_true hlt
          refine ⟨_, _, _, _, h, fun _ => ⟨rfl, rfl⟩, fun x hx => (by cases hx), fun _ B ow bx nb bg w a hi hA hb _ => ?_⟩
          have hp := hr hA
          rw [he] at hp
          have hS := isStr_spec hΓ hst
          have hE := isInt_spec hΓ hu8
          have hD : P.underlying D = some (.slice e) := by
            have hh := (hΓ.td D dd hdd).how
            simp only [hw] at hh
            exact hh.2.1
          generalize hp' : a.eval x = u at hp
          cases hp with
          | dat hp =>
          obtain ⟨hp1, hsz⟩ := hp
          simp only [List.cons.injEq, and_true] at hp1
          subst hp1
          have hge := grownCap_ge w b.size 0 e
          intro K Q hK
          unfold Oper.wp
          have hrun : (execOp a.eval o).run P w = .ok (.value (.slice (some ⟨w.heap.size, 0, none⟩) b.size (grownCap w b.size 0 e))) (w.drew.alloc (.cells (bytesRow b (grownCap w b.size 0 e)) e ((bytesRow b (grownCap w b.size 0 e)).size, (bytesRow b (grownCap w b.size 0 e)).size + 1))) := by
            unfold execOp
            rw [ho]
            simp only [hp', Sem.run_bind]
            rw [run_bytes_of_string w S D e b hS hD hE]
            simp
          rw [hrun]
          have hsf : soft (900000000 + e) = false := by
            unfold soft
            rw [show (900000000 + e) % 100000 = e by omega]
            cases hb : Nat.ble 50000 e with
            | false => rfl
            | true => have := Nat.le_of_ble_eq_true hb; omega
          obtain ⟨j1, j2⟩ := hi.pushDrew (.tok (900000000 + e) ((numsOf b).length * 1)) (.cells (bytesRow b (grownCap w b.size 0 e)) e ((bytesRow b (grownCap w b.size 0 e)).size, (bytesRow b (grownCap w b.size 0 e)).size + 1)) (.inr (.inr ⟨_, _, rfl⟩))
          have hnew : (w.drew.alloc (.cells (bytesRow b (grownCap w b.size 0 e)) e ((bytesRow b (grownCap w b.size 0 e)).size, (bytesRow b (grownCap w b.size 0 e)).size + 1))).heap[w.heap.size]? = some (.cells (bytesRow b (grownCap w b.size 0 e)) e ((bytesRow b (grownCap w b.size 0 e)).size, (bytesRow b (grownCap w b.size 0 e)).size + 1)) := heap_alloc_new w.drew _
          have hbs : (bytesRow b (grownCap w b.size 0 e)).size = grownCap w b.size 0 e := by
            unfold bytesRow
            rw [Array.size_append, Array.size_map, Array.size_replicate]
            have : b.data.size = b.size := rfl
            omega
          refine hK _ _ _ _ j1 (.own (fun _ => ?_) (fun _ => .inr ⟨w.heap.size, grownCap w b.size 0 e, _, _, by rw [numsOf_len], by simp [frOf, hsf, Ty.size], by rw [show (900000000 + e) % 25000 = e by omega]; exact hnew, .inr (Nat.le_refl _), by rw [hbs]; simp [Ty.size], by rw [numsOf_len]; exact hge, fun h => (by rw [hsf] at h; cases h)⟩) (fun h => (by rw [hsf] at h; cases h))) j2 rfl
          refine ⟨some ⟨w.heap.size, 0, none⟩, grownCap w b.size 0 e, by rw [numsOf_len], ⟨by rw [numsOf_len]; exact hsz, by rw [numsOf_len]; exact hge⟩, fun _ => ⟨w.heap.size, 0, _, _, _, rfl, rigid_tok (k := 900000000 + e) (fr := (numsOf b).length * 1) (by simp) (by simp [Ty.size]), hnew, fun i y hy => ?_⟩⟩
          unfold numsOf at hy
          rw [List.getElem?_map] at hy
          cases hbi : b.data.toList[i]? with
          | none => rw [hbi] at hy; cases hy
          | some c =>
            rw [hbi] at hy
            simp only [Option.map_some, Option.some.injEq] at hy
            subst hy
            have hil : i < b.data.size := by simpa using (List.getElem?_eq_some_iff.1 hbi).1
            have hbd : b.data[i] = c := by simpa using (List.getElem?_eq_some_iff.1 hbi).2
            have hcell := bytesRow_at b (grownCap w b.size 0 e) i hil
            rw [hbd] at hcell
            refine ⟨?_, ?_⟩
            · simp only [Ty.size, Nat.zero_add, Nat.mul_one]
              apply List.ext_getElem?
              intro j
              rw [List.getElem?_take, List.getElem?_drop]
              cases j with
              | zero => simpa using hcell
              | succ j => simp
            · have := c.toNat_lt
              simp only [fits, Bool.and_eq_true, decide_eq_true_eq]
              omega
        · cases h
      · cases h
    · cases h
  · rename_i ty l he
    split at h
    · rename_i hty
      subst hty
      split at h
      · rename_i hc
        simp only [Bool.and_eq_true] at hc
        refine sound_pure h fun _ B ow bx nb bg w a hi hA hb => ?_
        have hp := hr hA
        rw [he] at hp
        have hD := isStr_spec hΓ hc.1
        obtain ⟨d, e, s, bb, gi, q1, q2, q3, _⟩ := sliceOf_spec hΓ hc.2
        have hE : P.underlying e = some (.int .u8) := by
          have := hc.2
          unfold sliceOf at this
          rw [q1] at this
          simp only [q2] at this
          exact isInt_spec hΓ this
        cases hp with
        | dat hp =>
        obtain ⟨ad, cap, h1, ⟨h2, h3⟩, h4⟩ := hp
        simp only [List.cons.injEq, and_true] at h1
        refine ⟨.string (bytesOf l), ?_, .dat ⟨rfl, ?_⟩⟩
        · unfold execOp
          rw [ho]
          simp only [h1, Sem.run_bind]
          by_cases hne : l = []
          · subst hne
            have : (convert S D (.slice ad ([] : List Int).length cap)).run P w = .ok (.string (bytesOf [])) w := by
              cases ad with
              | none => rw [run_convert_bytes_nil w S e q3 hE _ _ D hD]; rfl
              | some ad =>
                have hl : (loadCells ad 0).run P w = .ok (([] : List Int).map (Value.int .u8)).toArray w := by
                  have := run_loadCells_list (P := P) w ad [] (fun j v hj => by simp at hj)
                  simpa using this
                rw [List.length_nil, run_convert_bytes_string w S D e _ 0 cap q3 hE hD, run_bytesToString w ad 0 cap [] hl]
                rfl
            rw [this]
            simp
          · obtain ⟨blk, off, c, T, fz, k1, k2, k3, k4⟩ := h4 hne
            subst k1
            rw [run_convert_bytes_arg w S e q3 hE blk off l.length cap l rfl (fun i hi' => ?_) D hD]
            · simp [strOfNums, bytesOf]
            · have := (k4 i _ (List.getElem?_eq_getElem hi')).1
              simp only [Ty.size, Nat.mul_one] at this
              have h0 := congrArg (·[0]?) this
              simp only [List.getElem?_take, List.getElem?_drop, Nat.lt_add_one, if_true, Nat.add_zero, List.getElem?_cons_zero] at h0
              simp only [World.cell?, k3]
              simp only [Array.getElem?_toList] at h0
              rw [h0]
              simp [hi']
        · have : (bytesOf l).size = l.length := by simp [bytesOf, ByteArray.size]
          rw [this]
          exact h2
      · cases h
    · cases h
  · rename_i he
    split at h
    · rename_i hc
      simp only [Bool.and_eq_true] at hc
      refine sound_pure h fun _ B ow bx nb bg w a hi hA hb => ?_
      have hp := hr hA
      rw [he] at hp
      have hD := isStr_spec hΓ hc.1
      obtain ⟨d, e, s, bb, gi, q1, q2, q3, _⟩ := sliceOf_spec hΓ hc.2
      have hE : P.underlying e = some (.int .u8) := by
        have := hc.2
        unfold sliceOf at this
        rw [q1] at this
        simp only [q2] at this
        exact isInt_spec hΓ this
      generalize hv : a.eval x = v at hp
      cases hp
      refine ⟨.string (bytesOf []), ?_, .dat ⟨rfl, by simp [bytesOf, ByteArray.size]⟩⟩
      unfold execOp
      rw [ho]
      simp only [hv, Sem.run_bind]
      rw [run_convert_bytes_nil w S e q3 hE _ _ D hD]
      simp [bytesOf]
      rfl
    · cases h
  · cases h
end
end Go.Proofs.Ytdiebciejcmmhaa

/- Each operation does what the reading says: all of them. No program in sight. -/
set_option linter.unusedSimpArgs false
set_option linter.unusedVariables false
namespace Go.Proofs.Ytdiebciejcmmhaa
section
variable {ρ : Type} {P : Program} {Γ : Cx} {id : Nat} {rd : Nat → Option (List EV)} {g : Option Bool} {A : Operand → EV} {o : Oper} {q : EV → Option (List EV) → List Wr → List Nat → Option ρ} {r : ρ}
theorem refill_length : ∀ (ps : List PT) (cs new out rest : List EV), refill ps cs new = some (out, rest) → out.length = cs.length := by
  intro ps
  induction ps with
  | nil =>
    intro cs new out rest h
    cases cs with
    | nil => simp only [refill] at h; cases h; rfl
    | cons c cs => simp only [refill] at h; cases h
  | cons p ps ih =>
    intro cs new out rest h
    cases cs with
    | nil => cases p <;> simp only [refill] at h <;> cases h
    | cons c cs =>
      cases p with
      | own t => simp only [refill] at h; cases h
      | dat t =>
        cases new with
        | nil => simp only [refill] at h; cases h
        | cons x new =>
          simp only [refill] at h
          split at h
          · rename_i h1; cases h; simp [ih _ _ _ _ h1]
          · cases h
      | ref i off =>
        simp only [refill] at h
        split at h
        · rename_i h1; cases h; simp [ih _ _ _ _ h1]
        · cases h
      | sl b => simp only [refill] at h; cases h
      | clo f a b =>
        simp only [refill] at h
        split at h
        · rename_i h1; cases h; simp [ih _ _ _ _ h1]
        · cases h
theorem conFind_spec {f : Nat} {ok : Con → Bool} : ∀ (l : List Con) (c : Con), conFind f ok l = some c → c ∈ l ∧ c.f = f
  | [], c, h => by cases h
  | d :: r, c, h => by
    simp only [conFind] at h
    split at h
    · rename_i hk
      cases h
      simp only [Bool.and_eq_true] at hk
      exact ⟨by simp, Nat.eq_of_beq_eq_true hk.1⟩
    · obtain ⟨h1, h2⟩ := conFind_spec r c h
      exact ⟨by simp [h1], h2⟩
theorem goes_call {c : Con} {B : Base} {ow : Nat → Owner} {bx : Bx} {nb : Nat} {bg : Nat → Option (List EV)} {w : World} {a : Act} {args : Array Value} {v : EV} {ws : List Wr} (hc : ConOK P c)
    (hrun : (execOp a.eval o).run P w = .ok (.enter c.f args) w)
    (h : Calls P c.f args w fun e w' => ∃ u ow', e = .returned u ∧ Keeps ow bx w ow' bx w' ∧ RepEV ow' bx w' v u ∧ Inv B ow' bx nb (upd bg id none ws) w') :
    Goes P B ow bx nb bg w a o id v none ws := by
  intro K Q hK
  unfold Oper.wp
  rw [hrun]
  exact h.mono fun e w' ⟨u, ow', he, h1, h2, h3⟩ => by subst he; exact hK u ow' bx w' h1 h2 h3 rfl
theorem ren_rep {ow ow' : Nat → Owner} {bx bx' : Bx} {w : World} {k : Nat} (hst : ∀ blk n, Rigid ow blk n → Rigid ow' blk n) (hb : ow (bx 0) = .box 0 → bx' k = bx 0 ∧ ow' (bx 0) = .box k) :
    ∀ (n : Nat) (e : EV) (v : Value), RepEV ow bx w e v → RepEV ow' bx' w (ren n k e) v := by
  intro n
  induction n with
  | zero => exact fun e v _ => .undef v
  | succ n ih =>
    intro e v h
    cases h with
    | undef => exact .undef _
    | dat h => exact .dat (h.keep (KeepSt.of fun blk n hs => ⟨hst blk n hs, rfl⟩))
    | nil => exact .undef _
    | own => exact .undef _
    | elo => exact .undef _
    | fre => exact .undef _
    | ptr hq =>
      rename_i b off
      cases b with
      | zero =>
        obtain ⟨h1, h2⟩ := hb hq
        simp only [ren]
        rw [← h1]
        exact .ptr (by rw [h1]; exact h2)
      | succ b => exact .undef _
    | pix => exact .undef _
    | elt => exact .undef _
    | elx => exact .undef _
    | clo h1 h2 h3 h4 =>
      simp only [ren]
      refine .clo (by simp [h1]) (by simp [h2]) (fun i e v he hv => ?_) (fun i e v he hv => ?_)
      · simp only [List.getElem?_map, Option.map_eq_some_iff] at he
        obtain ⟨x, hx, rfl⟩ := he
        exact ih x v (h3 i x v hx hv)
      · simp only [List.getElem?_map, Option.map_eq_some_iff] at he
        obtain ⟨x, hx, rfl⟩ := he
        exact ih x v (h4 i x v hx hv)
    | sl h0 h1 hs hbk h2 h3 =>
      rename_i es blk cap c T fz
      simp only [ren]
      have hl : es.length = (es.map (ren n k)).length := by simp
      rw [hl] at h0 h1 hs h3 ⊢
      refine .sl h0 h1 (hst _ _ hs) hbk (fun i e v he hv => ?_) h3
      simp only [List.getElem?_map, Option.map_eq_some_iff] at he
      obtain ⟨x, hx, rfl⟩ := he
      exact ih x v (h2 i x v hx hv)
    | cp => exact .undef _
    | tup h1 h2 =>
      simp only [ren]
      refine .tup (by simp [h1]) fun i e v he hv => ?_
      simp only [List.getElem?_map, Option.map_eq_some_iff] at he
      obtain ⟨x, hx, rfl⟩ := he
      exact ih x v (h2 i x v hx hv)
    | row => exact .undef _
theorem fill_dat : ∀ (n : Nat) (ps : List PT) (d : List EV), ptDat ps = true → (∀ e ∈ d, ∃ t v, e = .dat t v) → ∀ e ∈ (fillP n ps d).1, ∃ t v, e = .dat t v := by
  intro n
  induction n with
  | zero => intro ps d _ _ e he; simp [fillP] at he
  | succ n ih =>
    intro ps d hp hd e he
    cases ps with
    | nil => simp [fillP] at he
    | cons p ps =>
      cases p with
      | dat t =>
        cases d with
        | nil => simp [fillP] at he
        | cons x d =>
          simp only [fillP] at he
          rcases List.mem_cons.1 he with rfl | he
          · exact hd e (by simp)
          · exact ih ps d hp (fun e he => hd e (by simp [he])) e he
      | own t => simp [ptDat] at hp
      | ref i off => simp [ptDat] at hp
      | clo f a b => simp [ptDat] at hp
      | sl a => simp [ptDat] at hp
theorem fill_rest : ∀ (n : Nat) (ps : List PT) (d : List EV), ∀ e ∈ (fillP n ps d).2, e ∈ d := by
  intro n
  induction n with
  | zero => intro ps d e he; simpa [fillP] using he
  | succ n ih =>
    intro ps d e he
    cases ps with
    | nil => simpa [fillP] using he
    | cons p ps =>
      cases p with
      | dat t =>
        cases d with
        | nil => simp [fillP] at he
        | cons x d =>
          simp only [fillP] at he
          exact List.mem_cons_of_mem _ (ih ps d e he)
      | own t =>
        cases d with
        | nil => simp [fillP] at he
        | cons x d =>
          simp only [fillP] at he
          exact List.mem_cons_of_mem _ (ih ps d e he)
      | ref i off =>
        simp only [fillP] at he
        exact ih ps d e he
      | clo f a b =>
        simp only [fillP] at he
        exact ih a d e (ih b _ e (ih ps _ e he))
      | sl a =>
        simp only [fillP] at he
        exact ih a d e (ih ps _ e he)
/-- A call of a function that makes a variable. -/
theorem setEnv_new {c : NCon} (hc : NOK P c) {es l : List EV} {x : c.ins.den} {y : c.outs.den} (h1 : matchP 200 c.ps es [] = some (l, [])) (hps : ptPlain true 200 c.ps = true) (hnin : l.length = c.nin) (hdn : ptDat c.new = true) (h3 : packL c.ins l = some x) (h4 : c.F x = some y)
    {B : Base} {ow : Nat → Owner} {bx : Bx} {nb : Nat} {bg : Nat → Option (List EV)} {w : World} {args : Array Value} (hi : Inv B ow bx nb bg w) (hargs : RepL ow bx w es args) (hid : bg id = none) (hlt : id < nb) :
    Calls P c.f args w fun e w' => ∃ v ow' bx', e = .returned v ∧ Keeps ow bx w ow' bx' w' ∧ RepEV ow' bx' w' (ren 20 id (c.res y)) v ∧ Inv B ow' bx' nb (upd bg id (some (c.new1 y)) []) w' ∧ bx'.dead = bx.dead := by
  obtain ⟨m1, m2, m3⟩ := match_fill (ow := ow) (ow' := owCall [] ow) (bx := bx) (bx' := bxCall [] bx) (w := w) 200 true c.ps es [] l [] h1 hps
  have htr : TrOK [] ow bx (owCall [] ow) (bxCall [] bx) := trCall .nil ow bx
  obtain ⟨es', f1, f2, f3⟩ := m3 []
  have hun : unpackL c.ins c.nin x = l := by
    have := packL_unpackL c.ins l x h3 (matchP_dat _ _ _ _ _ _ h1)
    rwa [hnin] at this
  have hargs0 : c.args0 x = es' := by
    unfold NCon.args0
    rw [hun]
    rw [List.append_nil] at f1
    rw [f1]
  have hbx : ∀ blk b, owCall [] ow blk ≠ .box b := by
    intro blk b h
    unfold owCall at h
    split at h <;> cases h
  have hnotok : ∀ blk k fr, owCall [] ow blk ≠ .tok k fr := by
    intro blk k fr h
    unfold owCall at h
    split at h <;> cases h
  have hglob : GlobOK (owCall [] ow) w := hi.glob.keep (.of fun blk n h => ⟨owCall_rigid h, rfl⟩)
  have hinv0 : Inv ⟨w, fun _ => False, owCall [] ow, 0, bxCall [] bx, hglob⟩ (owCall [] ow) (bxCall [] bx) 0 (boxGet []) w := by
    constructor
    · intro b cs h; simp [boxGet] at h
    · intro blk b h; exact absurd h (hbx blk b)
    · intro blk h
      refine hi.here blk fun e => h ?_
      simp [owCall, e]
    · intro blk _ _; exact ⟨rfl, rfl, hbx blk, hnotok blk⟩
    · exact Nat.le_refl _
    · exact ⟨rfl, rfl, rfl⟩
    · intro b hb; simp at hb
    · exact .refl _ _
    · exact fun j h => by simp [bxCall] at h
  have hrepl : RepL (owCall [] ow) (bxCall [] bx) w (c.args0 x) args := by
    rw [hargs0]
    refine ⟨by rw [f2]; exact hargs.1, fun i e v he hv => ?_⟩
    have hlt : i < es.length := by rw [← f2]; exact (List.getElem?_eq_some_iff.1 he).1
    exact f3 [] (fun p hp => hp) htr i _ e v (List.getElem?_eq_getElem hlt) he (hargs.2 i _ v (List.getElem?_eq_getElem hlt) hv)
  refine (hc.go x y h4 w (owCall [] ow) (bxCall [] bx) args hglob (fun _ => rfl) hinv0 hrepl).mono fun e w' ⟨v, ow', bx', he, hdd, hinv', hv⟩ => ?_
  subst he
  obtain ⟨g1, c0, T, g2, g3⟩ := hinv'.box 0 (c.new1 y) rfl
  have hold : ∀ blk, blk < w.heap.size → w'.heap[blk]? = w.heap[blk]? ∧ ow' blk = owCall [] ow blk := by
    intro blk hlt
    obtain ⟨q1, q2, _⟩ := hinv'.old blk hlt (fun h => h)
    exact ⟨q1, q2⟩
  have hk0 : w.heap.size ≤ bx' 0 := by
    apply Nat.le_of_not_lt
    intro hlt
    rw [(hold _ hlt).2] at g1
    exact hbx _ _ g1
  let ow2 : Nat → Owner := fun blk => if blk < w.heap.size then ow blk else match ow' blk with | .stable => .stable | .tok _ _ => .stable | .part _ => .stable | .box _ => .box id | .junk => .junk
  let bx2 : Bx := ⟨fun b => if b = id then bx' 0 else bx b, bx.dead, bx.tb⟩
  have hback : ∀ blk n, Rigid (owCall [] ow) blk n → Rigid ow blk n := by
    intro blk n h
    cases hb : ow blk with
    | stable => exact rigid_stable hb
    | tok k fr => rcases rigid_cases h with h | ⟨_, _, h, _⟩ | ⟨fr', h, hn⟩ <;> simp [owCall, hb] at h; subst h; exact rigid_tok hb hn
    | part fr => rcases rigid_cases h with h | ⟨_, _, h, _⟩ | ⟨fr', h, hn⟩ <;> simp [owCall, hb] at h; subst h; exact rigid_part hb hn
    | junk => rcases rigid_cases h with h | ⟨_, _, h, _⟩ | ⟨fr', h, hn⟩ <;> simp [owCall, hb] at h
    | box b => rcases rigid_cases h with h | ⟨_, _, h, _⟩ | ⟨fr', h, hn⟩ <;> simp [owCall, hb, asgInv] at h
  have hst2 : ∀ blk n, Rigid ow' blk n → Rigid ow2 blk n := by
    intro blk n h
    by_cases hlt : blk < w.heap.size
    · exact rigid_eq (ow := ow) (hback blk n (rigid_eq h (hold blk hlt).2.symm)) (by simp only [ow2, if_pos hlt])
    · refine rigid_stable ?_
      simp only [ow2, if_neg hlt]
      rcases rigid_cases h with h | ⟨_, _, h, _⟩ | ⟨fr', h, hn⟩ <;> rw [h]
  have hnid : ∀ b, (bg b).isSome = true → b ≠ id := by
    rintro b hb rfl
    rw [hid] at hb
    cases hb
  have hkeep : Keeps ow bx w ow2 bx2 w' := by
    refine ⟨.of fun blk n h => ?_, fun blk k fr h _ => ?_, fun _ h => h, fun b h => ?_, fun _ _ h => h⟩
    · have hlt := hi.here blk (rigid_live h)
      exact ⟨rigid_eq h (by simp only [ow2, if_pos hlt]), (hold blk hlt).1⟩
    · have hlt := hi.here blk (by rw [h]; intro e; cases e)
      exact ⟨by simp only [ow2, if_pos hlt]; exact h, (hold blk hlt).1⟩
    · have hlt := hi.here (bx b) (by rw [h]; intro e; cases e)
      exact ⟨by simp only [bx2, if_neg (hnid b (hi.back _ b h).2.1)], by simp only [ow2, if_pos hlt]; exact h⟩
  have hnew : ow2 (bx' 0) = .box id := by
    simp only [ow2, if_neg (Nat.not_lt.2 hk0), g1]
  have hid2 : bx2 id = bx' 0 := by simp [bx2]
  refine ⟨v, ow2, bx2, rfl, hkeep, ren_rep hst2 (fun _ => ⟨hid2, hnew⟩) 20 _ v hv, ?_, rfl⟩
  have hup : ∀ b, b ≠ id → upd bg id (some (c.new1 y)) [] b = bg b := by
    intro b hb
    simp [upd, updN, hb]
  have hup0 : upd bg id (some (c.new1 y)) [] id = some (c.new1 y) := by simp [upd, updN]
  constructor
  · intro b cs hcs
    by_cases hb : b = id
    · subst hb
      rw [hup0] at hcs
      cases hcs
      rw [hid2]
      refine ⟨hnew, c0, T, g2, g3.1, fun i e u he hu => ?_⟩
      obtain ⟨r1, r2⟩ := g3.2 i e u he hu
      refine ⟨?_, r2⟩
      obtain ⟨t, z, rfl⟩ := fill_dat 200 c.new _ hdn (fun e he => unpack_dat _ _ _ e (fill_rest _ _ _ e he)) e (List.mem_of_getElem? he)
      cases r1 with
      | dat r1 => exact .dat (r1.keep (KeepSt.of fun blk n hs => ⟨hst2 blk n hs, rfl⟩))
    · rw [hup b hb] at hcs
      obtain ⟨q1, c1, T1, q2, q3⟩ := hi.box b cs hcs
      have hlt := hi.here (bx b) (by rw [q1]; intro e; cases e)
      have hb2 : bx2 b = bx b := by simp only [bx2, if_neg hb]
      rw [hb2]
      exact ⟨by simp only [ow2, if_pos hlt]; exact q1, c1, T1, by rw [(hold _ hlt).1]; exact q2, q3.keep hkeep⟩
  · intro blk b h
    simp only [ow2] at h
    split at h
    · obtain ⟨q1, q2, q3⟩ := hi.back blk b h
      have hb := hnid b q2
      exact ⟨by simp only [bx2, if_neg hb]; exact q1, by rw [hup b hb]; exact q2, q3⟩
    · split at h
      · cases h
      · cases h
      · cases h
      · rename_i b' hb'
        cases h
        obtain ⟨q1, _, q3⟩ := hinv'.back blk b' hb'
        have : b' = 0 := by omega
        subst this
        exact ⟨by rw [hid2]; exact q1, by rw [hup0]; rfl, hlt⟩
      · cases h
  · intro blk h
    simp only [ow2] at h
    split at h
    · rename_i hlt
      have := hinv'.size
      simp only at this
      omega
    · refine hinv'.here blk fun e => h ?_
      rw [e]
  · intro blk hlt' hnm
    obtain ⟨q1, q2, q3⟩ := hi.old blk hlt' hnm
    have hs := hi.size
    have hlt2 : blk < w.heap.size := by omega
    refine ⟨by rw [(hold blk hlt2).1]; exact q1, ?_, ?_⟩
    · simp only [ow2, if_pos hlt2]; exact q2
    · simp only [ow2, if_pos hlt2]; exact q3
  · have h1 := hi.size
    have h2 := hinv'.size
    simp only at h2
    omega
  · obtain ⟨e1, e2, e3⟩ := hinv'.env
    obtain ⟨e4, e5, e6⟩ := hi.env
    exact ⟨by rw [e1]; exact e4, by rw [e2]; exact e5, by rw [e3]; exact e6⟩
  · intro b hb
    obtain ⟨q1, q2⟩ := hi.kept b hb
    have hbn := hnid b q2
    exact ⟨by simp only [bx2, if_neg hbn]; exact q1, by rw [hup b hbn]; exact q2⟩
  · exact hi.st.trans hkeep.st
  · exact hi.born
theorem newFind_spec {f : Nat} : ∀ (l : List NCon) (c : NCon), newFind f l = some c → c ∈ l ∧ c.f = f
  | [], c, h => by cases h
  | d :: r, c, h => by
    simp only [newFind] at h
    split at h
    · rename_i hk
      cases h
      exact ⟨by simp, Nat.eq_of_beq_eq_true hk⟩
    · obtain ⟨h1, h2⟩ := newFind_spec r c h
      exact ⟨by simp [h1], h2⟩
theorem enter_run {cf : Nat} {a : Act} {w : World} {k : Call} {f : Operand} {fs cs : Array Value} (hc : ∃ fn, P.funcs[cf]? = some fn ∧ fn.body.isSome = true ∧ (fn.name == "runtime.NumGoroutine") = false) (ho : o.op = .call k) (hk : k.callee = .value f) (hf : a.eval f = .func (.func cf) fs cs) :
    (execOp a.eval o).run P w = .ok (.enter cf (fs ++ k.args.map a.eval ++ cs)) w := by
  obtain ⟨fn, h1, h2, h3⟩ := hc
  unfold execOp
  rw [ho]
  have hb : ¬ fn.body = none := by intro e; rw [e] at h2; cases h2
  have h3' : ¬ fn.name = "runtime.NumGoroutine" := by simpa using h3
  simp [resolve, hk, hf, Deferred.ofValue, invoke, callFunc, h1, h3', hb]
theorem sound_call {k : Call} {f : Operand} (hΓ : CxOK P Γ) (ho : o.op = .call k) (hk : k.callee = .value f) (h : opE Γ id rd g A (.call k) q = some r) : Sound P id rd g A o q r := by
  simp only [opE, hk] at h
  split at h
  · rename_i fid fst caps he
    have hargs : ∀ {ow bx w} {a : Act}, Args ow bx w A a.eval o.op → ∃ fs cs, a.eval f = .func (.func fid) fs cs ∧ RepL ow bx w (fst ++ k.args.toList.map A ++ caps) (fs ++ k.args.map a.eval ++ cs) := by
        intro ow bx w a hA
        have hall := call_args ho hA
        have hfv := hall f (by simp [Call.operands, hk])
        rw [he] at hfv
        generalize hpe : a.eval f = u at hfv
        cases hfv with
        | clo h1 h2 h3 h4 =>
          rename_i fs cs
          refine ⟨fs, cs, rfl, by simp [h1, h2], fun i e v hi hv => ?_⟩
          rw [List.getElem?_append] at hi
          rw [Array.getElem?_append] at hv
          simp only [List.length_append, List.length_map, Array.length_toList, h1] at hi
          simp only [Array.size_append, Array.size_map] at hv
          split at hi
          · rename_i hlt
            rw [if_pos hlt] at hv
            rw [List.getElem?_append] at hi
            rw [Array.getElem?_append] at hv
            rw [h1] at hi
            split at hi
            · rename_i hlt2
              rw [if_pos hlt2] at hv
              exact h3 i e v hi hv
            · rename_i hlt2
              rw [if_neg hlt2] at hv
              simp only [List.getElem?_map, Array.getElem?_map, Option.map_eq_some_iff] at hi hv
              obtain ⟨x, hx, rfl⟩ := hi
              obtain ⟨y, hy, rfl⟩ := hv
              have : x = y := by have : k.args.toList[i - fs.size]? = some y := by simpa using hy
                                 rw [hx] at this; cases this; rfl
              subst this
              exact hall x (by simp only [Call.operands]; exact Array.mem_append.2 (.inr (Array.mem_of_getElem? hy)))
          · rename_i hlt
            rw [if_neg hlt] at hv
            exact h4 _ e v hi hv
    unfold callE at h
    split at h
    · rename_i c hcf
      obtain ⟨hmem, hcfid⟩ := conFind_spec _ _ hcf
      have hc := hΓ.cons c hmem
      subst hcfid
      unfold conE at h
      split at h
      · cases h
      · rename_i l a h1
        split at h
        · cases h
        · rename_i l' a' h2
          split at h
          · cases h
          · cases h
          · rename_i x hp h3
            have main : ∀ (y : c.outs.den) ws, c.F x = some y → refillB rd a' 0 c.boxes ((unpackL c.outs c.nout y).drop c.rs.length) = some ws → ∀ B ow bx nb bg w (act : Act), Inv B ow bx nb bg w → Args ow bx w A act.eval o.op →
                (∀ b ∈ a'.map (·.2), bg b = rd b) → Goes P B ow bx nb bg w act o id (resEV ((unpackL c.outs c.nout y).take c.rs.length)) none ws := by
              intro y ws h4 h5 B ow bx nb bg w act hi hA hrd
              obtain ⟨fs, cs, hf, hrl⟩ := hargs hA
              exact goes_call hc (enter_run hc.fn ho hk hf) (setEnv_call hc h1 h2 hp h3 h4 h5 id hi hrl hrd)
            cases g with
            | none =>
              simp only at h
              cases hF : c.F x with
              | none => rw [hF] at h; cases h
              | some y =>
                rw [hF] at h
                simp only [Option.bind_some] at h
                split at h
                · rename_i ws hws
                  refine ⟨_, _, _, _, h, fun h => (by cases h), fun z hz => ?_, fun _ B ow bx nb bg w act hi hA hb _ => main y ws hF hws B ow bx nb bg w act hi hA hb⟩
                  obtain ⟨j, hj⟩ := List.getElem?_of_mem hz
                  have : ∀ (bs : List (List PT)) (i : Nat) (new : List EV) (ws : List Wr), refillB rd a' i bs new = some ws → ∀ z ∈ ws, z.b ∈ a'.map (·.2) ∧ ∃ cs, rd z.b = some cs ∧ z.off + z.new.length ≤ cs.length := by
                    intro bs
                    induction bs with
                    | nil => intro i new ws h; simp only [refillB] at h; cases h; simp
                    | cons pts bs ih =>
                      intro i new ws h
                      simp only [refillB] at h
                      split at h
                      · rename_i b hb
                        split at h
                        · rename_i cs hcs
                          split at h
                          · rename_i out rest hr0
                            split at h
                            · rename_i hr
                              cases h
                              intro z hz
                              rcases List.mem_cons.1 hz with rfl | hz
                              · exact ⟨List.mem_map.2 ⟨_, asgGet_mem _ _ _ hb, rfl⟩, cs, hcs, by simp only [Nat.zero_add]; rw [refill_length _ _ _ _ _ hr0]; exact Nat.le_refl _⟩
                              · exact ih _ _ _ hr z hz
                            · cases h
                          · cases h
                        · cases h
                      · cases h
                  exact this _ _ _ _ hws z hz
                · cases h
            | some b =>
              simp only at h
              split at h
              · rename_i hbx
                cases hF : (bif b then c.F x else some c.outs.dflt) with
                | none => rw [hF] at h; cases h
                | some y =>
                  rw [hF] at h
                  simp only [Option.bind_some] at h
                  refine ⟨_, _, _, _, h, fun _ => ⟨rfl, rfl⟩, fun z hz => (by cases hz), fun hg B ow bx nb bg w act hi hA hb _ => ?_⟩
                  have hbt : b = true := by cases b with
                    | true => rfl
                    | false => exact absurd rfl hg
                  subst hbt
                  simp only [cond_true] at hF
                  refine main y [] hF (by rw [hbx]; rfl) B ow bx nb bg w act hi hA (fun b hb => ?_)
                  -- no boxes: no references
                  have hab : a' = [] := by
                    simp only [conPlain, Bool.and_eq_true] at hp
                    have hbel := hp.1.2
                    rw [hbx] at hbel
                    cases a' with
                    | nil => rfl
                    | cons p r => simp [asgBelow, Nat.ble] at hbel
                  rw [hab] at hb
                  simp at hb
              · cases h
    · split at h
      · rename_i c hcf
        obtain ⟨hmem, hcfid⟩ := newFind_spec _ _ hcf
        have hc := hΓ.news c hmem
        subst hcfid
        unfold newE at h
        split at h
        · cases h
        · split at h
          · rename_i l a hm
            split at h
            · rename_i x hp hx
              simp only [nconPlain, Bool.and_eq_true] at hp
              obtain ⟨⟨⟨hps, hdn⟩, hnin⟩, ha⟩ := hp
              have ha : a = [] := by cases a with | nil => rfl | cons p r => cases ha
              subst ha
              cases hF : c.F x with
              | none => rw [hF] at h; cases h
              | some y =>
                rw [hF] at h
                simp only [Option.bind_some] at h
                refine ⟨_, _, _, _, h, fun h => (by cases h), fun z hz => (by cases hz), fun _ B ow bx nb bg w act hi hA hb hn => ?_⟩
                obtain ⟨hn1, hn2⟩ := hn rfl
                obtain ⟨fs, cs, hf, hrl⟩ := hargs hA
                intro K Q hK
                unfold Oper.wp
                rw [enter_run hc.fn ho hk hf]
                exact (setEnv_new hc hm hps (Nat.eq_of_beq_eq_true hnin) hdn hx hF hi hrl hn1 hn2).mono fun e w' ⟨u, ow', bx', he, h1, h2, h3, h4⟩ => by subst he; exact hK u ow' bx' w' h1 h2 h3 h4
            · cases h
          · cases h
      · cases h
  · cases h
/-- Each operation does what the reading says. -/
theorem op_sound (hΓ : CxOK P Γ) (h : opE Γ id rd g A o.op q = some r) : Sound P id rd g A o q r := by
  cases ho : o.op <;> rw [ho] at h
  case move x => exact sound_move (.inl ho) h
  case assign x => exact sound_move (.inr ho) h
  case pick c a b =>
    simp only [opE] at h
    split at h
    · rename_i x hx; exact sound_pick ho h ⟨x, hx⟩
    · cases h
  case alloc t => exact sound_alloc hΓ ho h
  case box t x => exact sound_box ho h
  case build t ps => exact sound_build hΓ ho h
  case buildSlice t n ps => exact sound_buildSlice hΓ ho h
  case load t a => exact sound_load hΓ ho h
  case store t a x => exact sound_store hΓ ho h
  case nilCheck x => exact sound_nilCheck ho h
  case binOp op T x y yT => exact sound_bin hΓ ho h
  case unOp op T x => exact sound_un ho h
  case convert s d x => exact sound_convert hΓ ho h
  case makeFunc fn a b => exact sound_makeFunc ho h
  case slice t x lo hi mx => exact sound_slice hΓ ho h
  case fieldAddr t x i => exact sound_fieldAddr hΓ ho h
  case field t x i => exact sound_field hΓ ho h
  case indexAddr t x i => exact sound_indexAddr hΓ ho h
  case index t x i => exact sound_index hΓ ho h
  case extract x i => exact sound_extract ho h
  case call c =>
    cases hc : c.callee with
    | value f => exact sound_call hΓ ho hc h
    | invoke x m => simp only [opE, hc] at h; cases h
    | builtin b =>
      cases b
      case len => exact sound_len hΓ ho hc h
      case max => exact sound_minMax (mx := true) ho hc h
      case min => exact sound_minMax (mx := false) ho hc h
      all_goals (simp only [opE, hc] at h; cases h)
  all_goals (simp only [opE] at h; cases h)
end
end Go.Proofs.Ytdiebciejcmmhaa

/- 'append' does what the reading says. No program in sight. -/
set_option linter.unusedSimpArgs false
set_option linter.unusedVariables false
namespace Go.Proofs.Ytdiebciejcmmhaa
theorem isApp_spec {p : Op} {x y : Operand} {t : Nat} (h : isApp p = some (x, y, t)) : ∃ c, p = .call c ∧ c.callee = .builtin .append ∧ c.args = #[x, y] ∧ c.argTypes = #[t, t] := by
  unfold isApp at h
  split at h
  · rename_i c
    split at h
    · rename_i hc
      split at h
      · rename_i x' y' t1 t2 h1 h2
        split at h
        · rename_i hb
          cases h
          have hb := Nat.eq_of_beq_eq_true hb
          subst hb
          refine ⟨c, rfl, hc, ?_, ?_⟩
          · apply Array.ext'; simpa using h1
          · apply Array.ext'; simpa using h2
        · cases h
      · cases h
    · cases h
  · cases h
theorem appT_spec {P : Program} {Γ : Cx} {t : Nat} {ty : Ty} {b e : Nat} (hΓ : CxOK P Γ) (h : appT Γ t = some (ty, b, e)) : ∃ i z, P.underlying t = some (.slice e) ∧ P.info? e = some i ∧ i.size = ty.size ∧ i.bytes = b ∧ i.zero = some z ∧ z.cells.size = ty.size ∧ 0 < ty.size ∧ 0 < b := by
  unfold appT at h
  split at h
  · rename_i d hd
    split at h
    · rename_i e' s' bytes' hw
      split at h
      · rename_i de hde
        split at h
        · rename_i ty' hty
          split at h
          · rename_i h1
            cases h
            simp only [Bool.and_eq_true] at h1
            have hT := (hΓ.td _ _ hd).how
            rw [hw] at hT
            obtain ⟨_, hu, ⟨i, z, g1, g2, g3, g4⟩, _⟩ := hT
            obtain ⟨i', z', k1, k2, k3, k4, _⟩ := (hΓ.td _ _ hde).zero
            rw [g1] at k1
            cases k1
            rw [g4] at k2
            cases k2
            have hs := ((hΓ.td _ _ hde).agg _ hty).1
            exact ⟨i, z, hu, g1, by omega, g3, g4, by omega, Nat.le_of_ble_eq_true h1.1, Nat.le_of_ble_eq_true h1.2⟩
          · cases h
        · cases h
      · cases h
    · cases h
  · cases h
section
variable {ow : Nat → Owner} {bx : Bx} {w : World}
/-- The cells of a slice. -/
theorem slice_cells {a : Ty} {l : List a.den} {v : Value} (h : RepV ow w (.slice a) l v) (ha : 0 < a.size) : ∃ ad cap, v = .slice ad l.length cap ∧ l.length ≤ 9223372036854775807 ∧ l.length ≤ cap ∧
    (l ≠ [] → ∃ blk off c T fz, ad = some ⟨blk, off, none⟩ ∧ Rigid ow blk (off + l.length * a.size) ∧ w.heap[blk]? = some (.cells c T fz) ∧ off + l.length * a.size ≤ c.size ∧
      (∀ u ∈ (c.toList.drop off).take (l.length * a.size), u.oneCell' = true) ∧
      ∀ (i : Nat) x, l[i]? = some x → Rep ow w a x ((((c.toList.drop off).take (l.length * a.size)).drop (i * a.size)).take a.size)) := by
  obtain ⟨ad, cap, hv, ⟨h1, h2⟩, h3⟩ := h
  simp only [List.cons.injEq, and_true] at hv
  refine ⟨ad, cap, hv, h1, h2, fun hne => ?_⟩
  obtain ⟨blk, off, c, T, fz, k1, k2, k3, k4⟩ := h3 hne
  have hpos : 0 < l.length := List.length_pos_iff.2 hne
  have hlast := rep_length _ _ _ (k4 (l.length - 1) _ (List.getElem?_eq_getElem (by omega)))
  have hm : (l.length - 1) * a.size + a.size = l.length * a.size := by
    have := Nat.add_mul (l.length - 1) 1 a.size
    rw [Nat.one_mul, show l.length - 1 + 1 = l.length by omega] at this
    omega
  have hsz : off + l.length * a.size ≤ c.size := by
    rw [List.length_take, List.length_drop, Array.length_toList] at hlast
    omega
  have part : ∀ i, i < l.length → (((c.toList.drop off).take (l.length * a.size)).drop (i * a.size)).take a.size = (c.toList.drop (off + i * a.size)).take a.size := by
    intro i hi
    have hle : i * a.size + a.size ≤ l.length * a.size := by have := mul_part (off := 0) (s := a.size) hi; omega
    rw [List.drop_take, List.take_take, Nat.min_eq_left (by omega), List.drop_drop]
  refine ⟨blk, off, c, T, fz, k1, k2, k3, hsz, fun u hu => ?_, fun i x hx => ?_⟩
  · obtain ⟨j, hj⟩ := List.getElem?_of_mem hu
    have hjl : j < l.length * a.size := by
      have := (List.getElem?_eq_some_iff.1 hj).1
      rw [List.length_take] at this
      omega
    have hi : j / a.size < l.length := Nat.div_lt_of_lt_mul (by rwa [Nat.mul_comm])
    refine rep_one _ _ _ (k4 (j / a.size) _ (List.getElem?_eq_getElem hi)) u ?_
    rw [← part _ hi]
    have hjm : j = j / a.size * a.size + j % a.size := by
      have := Nat.div_add_mod j a.size
      rw [Nat.mul_comm] at this
      omega
    have hmod := Nat.mod_lt j ha
    refine List.mem_of_getElem? (i := j % a.size) ?_
    rw [List.getElem?_take, if_pos hmod, List.getElem?_drop, ← hjm]
    exact hj
  · rw [part i (List.getElem?_eq_some_iff.1 hx).1]
    exact k4 i x hx
/-- A slice out of its cells. -/
theorem rep_joined {ow' : Nat → Owner} {w' : World} {a : Ty} {l l' : List a.den} {g cap : Nat} {c : Array Value} {T : TypeId} {olds news : List Value} (ha : 0 < a.size) (hn : (l ++ l').length ≤ 9223372036854775807) (hc : (l ++ l').length ≤ cap)
    {fz : Nat × Nat} (hR : Rigid ow' g ((l ++ l').length * a.size)) (hb : w'.heap[g]? = some (.cells c T fz)) (ht : c.toList.take ((l ++ l').length * a.size) = olds ++ news) (hlo : olds.length = l.length * a.size)
    (h1 : ∀ (i : Nat) x, l[i]? = some x → Rep ow' w' a x ((olds.drop (i * a.size)).take a.size)) (h2 : ∀ (i : Nat) x, l'[i]? = some x → Rep ow' w' a x ((news.drop (i * a.size)).take a.size)) :
    RepV ow' w' (.slice a) (l ++ l') (.slice (some ⟨g, 0, none⟩) (l ++ l').length cap) := by
  refine ⟨some ⟨g, 0, none⟩, cap, rfl, ⟨hn, hc⟩, fun _ => ⟨g, 0, c, T, fz, rfl, by rw [Nat.zero_add]; exact hR, hb, fun i x hx => ?_⟩⟩
  rw [Nat.zero_add]
  have hi := (List.getElem?_eq_some_iff.1 hx).1
  have hle := mul_part (off := 0) (s := a.size) hi
  have e : (c.toList.drop (i * a.size)).take a.size = ((olds ++ news).drop (i * a.size)).take a.size := by
    rw [← ht, List.drop_take, List.take_take, Nat.min_eq_left (by omega)]
  rw [e]
  by_cases hl : i < l.length
  · rw [List.getElem?_append_left hl] at hx
    have hle' := mul_part (off := 0) (s := a.size) hl
    have := h1 i x hx
    rw [List.drop_append_of_le_length (by omega), List.take_append_of_le_length (by rw [List.length_drop]; omega)]
    exact this
  · rw [List.getElem?_append_right (by omega)] at hx
    have := h2 (i - l.length) x hx
    have e2 : (olds ++ news).drop (i * a.size) = news.drop ((i - l.length) * a.size) := by
      rw [List.drop_append, List.drop_eq_nil_of_le (by rw [hlo]; exact Nat.mul_le_mul_right _ (by omega)), List.nil_append, hlo, Nat.sub_mul]
    rw [e2]
    exact this
end
/-- Stores into a row of which no cell is frozen. -/
theorem run_storeCells_loose (P : Program) (g o : Nat) (t : TypeId) (fz : Nat × Nat) : ∀ (vs : List Value) (i : Nat) (cur : Array Value) (w : World), w.heap[g]? = some (.cells cur t fz) → Loose fz cur.size → o + i + vs.length ≤ cur.size → (∀ v ∈ vs, v.oneCell' = true) →
    (storeCells ⟨g, o, none⟩ vs i).run P w = .ok () (w.setRow g (cur.toList.take (o + i) ++ vs ++ cur.toList.drop (o + i + vs.length)).toArray)
  | [], i, cur, w, hg, _, _, _ => by
    simp only [storeCells, List.append_nil, List.length_nil, Nat.add_zero, List.take_append_drop, Array.toArray_toList]
    rw [setRow_self w g cur t fz hg]
    rfl
  | v :: rest, i, cur, w, hg, hz, hl, h1 => by
    have hi : o + i < cur.size := by simp at hl; omega
    have hadd : (⟨g, o, none⟩ : Addr).add i = ⟨g, o + i, none⟩ := by unfold Addr.add; split <;> simp_all
    have hcell : w.cell? ⟨g, o + i, none⟩ = some cur[o + i] := by simp [World.cell?, hg, hi]
    have hfro : w.frozen? ⟨g, o + i, none⟩ = false := by
      have := hz.at hi
      obtain ⟨lo, hi2⟩ := fz
      simp only [World.frozen?, hg]
      cases hb : (decide (lo ≤ o + i) && decide (o + i < hi2)) with
      | false => rfl
      | true =>
        simp only [Bool.and_eq_true, decide_eq_true_eq] at hb
        exact absurd hb this
    have hst : (store ((⟨g, o, none⟩ : Addr).add i) v).run P w = .ok () (w.setRow g (cur.setIfInBounds (o + i) v)) := by
      rw [hadd, run_store P w _ v _ (h1 v (by simp)), hcell]
      simp [hfro, setCell_eq_setRow w g (o + i) cur t fz v hg]
    have ih := run_storeCells_loose P g o t fz rest (i + 1) (cur.setIfInBounds (o + i) v) (w.setRow g (cur.setIfInBounds (o + i) v)) (setRow_heap w g cur _ t _ hg) (by simpa using hz) (by simp at hl ⊢; omega) (fun x hx => h1 x (by simp [hx]))
    simp only [storeCells, Sem.run_bind, hst, Result.andThen_ok, ih, setRow_setRow]
    congr 3
    have e := list_seg_step cur.toList (o + i) v rest (by simp at hl ⊢; omega)
    simpa [Array.toList_setIfInBounds, Nat.add_assoc] using e
theorem run_append_loose {P : Program} (w : World) (t ty e : TypeId) (i : TypeInfo) (ht : P.underlying t = some (.slice e)) (hi : P.info? e = some i)
    (g sLen sCap : Nat) (cur : Array Value) (fz : Nat × Nat) (hg : w.heap[g]? = some (.cells cur e fz)) (hz : Loose fz cur.size)
    (a : Addr) (m c : Nat) (news : List Value) (hl : news.length = m * i.size) (hnews : ∀ j u, news[j]? = some u → w.cell? (a.add j) = some u) (h1 : ∀ u ∈ news, u.oneCell' = true)
    (hroom : sLen + m ≤ sCap) (hfit : sLen * i.size + news.length ≤ cur.size) :
    (Builtin.append_ #[t, t] ty #[.slice (some ⟨g, 0, none⟩) sLen sCap, .slice (some a) m c]).run P w =
      .ok (.slice (some ⟨g, 0, none⟩) (sLen + m) sCap) (w.setRow g (cur.toList.take (sLen * i.size) ++ news ++ cur.toList.drop (sLen * i.size + news.length)).toArray) := by
  have hf := run_firstCells_some (P := P) w i.size m a m c news hl hnews
  have hst := run_storeCells_loose P g (sLen * i.size) e fz news 0 cur w hg hz (by simpa using hfit) h1
  simp only [Nat.add_zero] at hst
  simp [Builtin.append_, run_underlying ht, sizeOf, typeInfo, hi, Builtin.lenOf, hroom, hf, Addr.add_lit, hst]
theorem alloc_size (w : World) (o : Obj) : (w.drew.alloc o).heap.size = w.heap.size + 1 := by
  show (w.heap.push o).size = w.heap.size + 1
  exact Array.size_push _
theorem toList_len {α : Type} (c : Array α) : c.toList.length = c.size := by simp
theorem natIn_false {k : Nat} {l : List Nat} (h : natIn k l = false) : k ∉ l := by
  intro hm
  unfold natIn at h
  rw [List.any_eq_false] at h
  exact h k hm (Nat.beq_refl k)
/-- Behind the operation: a block has a new token, and what was rigid stays. -/
theorem tok_step {B : Base} {ow : Nat → Owner} {bx : Bx} {nb : Nat} {bg : Nat → Option (List EV)} {w w' : World} (hi : Inv B ow bx nb bg w) {g k k' fr : Nat} {c : Array Value} {T : TypeId} {fz₀ fz : Nat × Nat}
    (hg : (g = w.heap.size ∧ w'.heap.size = w.heap.size + 1) ∨ (w'.heap.size = w.heap.size ∧ ∃ fr₀ c₀, ow g = .tok k fr₀ ∧ w.heap[g]? = some (.cells c₀ T fz₀) ∧ fr₀ ≤ fr ∧ c.toList.take fr₀ = c₀.toList.take fr₀))
    (hb : w'.heap[g]? = some (.cells c T fz)) (hold : ∀ blk, blk < w.heap.size → blk ≠ g → w'.heap[blk]? = w.heap[blk]?) (henv : w'.tape = w.tape ∧ w'.os = w.os ∧ w'.output = w.output) (hdk : bx.dead k = false) :
    Keeps ow bx w (fun blk => if blk = g then .tok k' fr else ow blk) ⟨bx.f, fun j => bx.dead j || Nat.beq k j, bx.tb⟩ w' ∧ Inv B (fun blk => if blk = g then .tok k' fr else ow blk) ⟨bx.f, fun j => bx.dead j || Nat.beq k j, bx.tb⟩ nb bg w' := by
  have hbox : ∀ b, ow g ≠ .box b := by
    intro b h
    rcases hg with ⟨hg, _⟩ | ⟨_, fr₀, c₀, h1, _⟩
    · have := hi.here g (by rw [h]; intro e; cases e)
      omega
    · rw [h1] at h; cases h
  have hlive : ∀ blk, ow blk ≠ .junk → blk ≠ g → w'.heap[blk]? = w.heap[blk]? := fun blk h hne => hold blk (hi.here blk h) hne
  have hk : Keeps ow bx w (fun blk => if blk = g then .tok k' fr else ow blk) ⟨bx.f, fun j => bx.dead j || Nat.beq k j, bx.tb⟩ w' := by
    refine ⟨fun blk n c1 T1 fz1 hr h1 => ?_, fun blk k2 fr2 h2 hd => ?_, fun j hd => ?_, fun b h => ?_, fun _ _ h => h⟩
    · by_cases hbg : blk = g
      · subst hbg
        rcases hg with ⟨hg, _⟩ | ⟨_, fr₀, c₀, g1, g2, g3, g4⟩
        · have := hi.here blk (rigid_live hr)
          omega
        · rw [g2] at h1
          cases h1
          have hn : n ≤ fr₀ := by
            rcases rigid_cases hr with h | ⟨_, _, h, hn⟩ | ⟨_, h, _⟩ <;> rw [g1] at h <;> cases h
            exact hn
          refine ⟨rigid_tok (k := k') (fr := fr) (by simp) (by omega), c, fz, hb, ?_⟩
          have := congrArg (List.take n) g4
          rwa [List.take_take, List.take_take, Nat.min_eq_left hn] at this
      · exact ⟨rigid_eq hr (by simp only [if_neg hbg]), c1, fz1, by rw [hlive blk (rigid_live hr) hbg, h1], rfl⟩
    · simp only at hd
      have hbg : blk ≠ g := by
        intro e
        subst e
        rcases hg with ⟨hg, _⟩ | ⟨_, fr₀, c₀, g1, _⟩
        · have := hi.here blk (by rw [h2]; intro e; cases e)
          omega
        · rw [g1] at h2
          cases h2
          rw [Nat.beq_refl, hdk] at hd
          cases hd
      exact ⟨by simp only [if_neg hbg]; exact h2, hlive blk (by rw [h2]; intro e; cases e) hbg⟩
    · simp only [Bool.or_eq_false_iff] at hd
      exact hd.1
    · have hbg : bx b ≠ g := fun e => hbox b (by rw [← e]; exact h)
      exact ⟨rfl, by simp only [if_neg hbg]; exact h⟩
  refine ⟨hk, ?_⟩
  constructor
  · intro b cs hcs
    obtain ⟨h1, c1, T1, h2, h3⟩ := hi.box b cs hcs
    have hbg : bx b ≠ g := fun e => hbox b (by rw [← e]; exact h1)
    exact ⟨by simp only [if_neg hbg]; exact h1, c1, T1, by rw [hlive _ (by rw [h1]; intro e; cases e) hbg]; exact h2, h3.keep hk⟩
  · intro blk b h
    split at h
    · cases h
    · exact hi.back blk b h
  · intro blk h
    split at h
    · rename_i e
      subst e
      exact (Array.getElem?_eq_some_iff.1 hb).1
    · have := hi.here blk h
      rcases hg with ⟨_, h⟩ | ⟨h, _⟩ <;> omega
  · intro blk h1 h2
    obtain ⟨g1, g2, g3, g4⟩ := hi.old blk h1 h2
    have hs := hi.size
    have hbg : blk ≠ g := by
      intro e
      subst e
      rcases hg with ⟨hg, _⟩ | ⟨_, fr₀, c₀, k1, _⟩
      · omega
      · exact g4 _ _ k1
    refine ⟨?_, by simp only [if_neg hbg]; exact g2, by simp only [if_neg hbg]; exact ⟨g3, g4⟩⟩
    rw [hold blk (by omega) hbg]
    exact g1
  · have := hi.size
    rcases hg with ⟨_, h⟩ | ⟨h, _⟩ <;> omega
  · obtain ⟨e1, e2, e3⟩ := hi.env
    obtain ⟨e4, e5, e6⟩ := henv
    exact ⟨by rw [e4]; exact e1, by rw [e5]; exact e2, by rw [e6]; exact e3⟩
  · exact hi.kept
  · exact hi.st.trans hk.st
  · exact fun j h => (hi.born j h).imp (fun h => h) fun h => ⟨by simp only [h.1, Bool.true_or], h.2⟩
theorem app_sound {ρ : Type} {P : Program} {Γ : Cx} (hΓ : CxOK P Γ) {dead : List Nat} {o : Oper} {A : Operand → EV} {x y : Operand} {t : Nat} {q : EV → Nat → Option ρ} {r : ρ} (happ : isApp o.op = some (x, y, t))
    (h : appE Γ dead o.dst (A x) (A y) t q = some r) : ∃ v k, q v k = some r ∧ k ∉ dead ∧
      ∀ id B ow bx nb bg w (a : Act), Inv B ow bx nb bg w → Args ow bx w A a.eval o.op → bx.dead k = false → GoesK P B ow bx nb bg w a o id v none [] [k] [] := by
  obtain ⟨c, hop, hcal, hargs, hats⟩ := isApp_spec happ
  unfold appE at h
  split at h
  · rename_i ty bytes e hT
    obtain ⟨i, z, hu, hinf, hsz, hby, hz, hzs, hpos, hbpos⟩ := appT_spec hΓ hT
    split at h
    · rename_i k l l' ho hl'
      split at h
      · rename_i hok
        obtain ⟨h1, h2⟩ := chk_spec h
        have hroom := h2 (by simp)
        rw [decide_eq_true_eq] at hroom
        simp only [appOK, Bool.and_eq_true, Bool.not_eq_true'] at hok
        obtain ⟨⟨hke, hnd⟩, he25⟩ := hok
        have he25 : e < 25000 := Nat.le_of_ble_eq_true he25
        have hk5 : k % 25000 = e := by
          rcases Bool.or_eq_true_iff.1 hke with h | h
          · have := Nat.eq_of_beq_eq_true h; omega
          · exact Nat.eq_of_beq_eq_true (Bool.and_eq_true_iff.1 h).2
        have hfr : ∀ n, frOf k n ≤ n := fun n => by unfold frOf; cases soft k <;> simp
        have hT : appTok k e % 100000 = e := by
          unfold appTok
          split
          · omega
          · rename_i hs
            rcases Bool.or_eq_true_iff.1 hke with h | h
            · exact Nat.eq_of_beq_eq_true h
            · rw [(Bool.and_eq_true_iff.1 h).1] at hs; cases hs
        have hsB : soft (appTok k e + BIG) = false := by
          unfold soft
          rw [show (appTok k e + BIG) % 100000 = e by unfold BIG; omega]
          cases hb : Nat.ble 50000 e with
          | false => rfl
          | true => have := Nat.le_of_ble_eq_true hb; omega
        have hfB : ∀ n, frOf (appTok k e + BIG) n = n := fun n => by unfold frOf; rw [hsB]; rfl
        refine ⟨_, k, h1, natIn_false hnd, fun id B ow bx nb bg w a hi hA hd => ?_⟩
        have hrx : RepEV ow bx w (A x) (a.eval x) := by
          rw [hop] at hA
          exact call_args hop (by rw [hop]; exact hA) x (by simp [Call.operands, hargs, hcal])
        have hry : RepEV ow bx w (A y) (a.eval y) := by
          rw [hop] at hA
          exact call_args hop (by rw [hop]; exact hA) y (by simp [Call.operands, hargs, hcal])
        have hX : Own ow w k ty l (a.eval x) ∧ (∃ adX capX, a.eval x = .slice adX l.length capX ∧ l.length ≤ 9223372036854775807 ∧ l.length ≤ capX) ∧
            ∀ g cap c fz, a.eval x = .slice (some ⟨g, 0, none⟩) l.length cap → w.heap[g]? = some (.cells c (k % 25000) fz) → ∀ (i : Nat) x, l[i]? = some x → Rep ow w ty x (((c.toList.take (l.length * ty.size)).drop (i * ty.size)).take ty.size) := by
          have hard : ∀ {v : Value}, RepV ow w (.slice ty) l v → (∃ adX capX, v = .slice adX l.length capX ∧ l.length ≤ 9223372036854775807 ∧ l.length ≤ capX) ∧
              ∀ g cap c fz, v = .slice (some ⟨g, 0, none⟩) l.length cap → w.heap[g]? = some (.cells c (k % 25000) fz) → ∀ (i : Nat) x, l[i]? = some x → Rep ow w ty x (((c.toList.take (l.length * ty.size)).drop (i * ty.size)).take ty.size) := by
            intro v hv
            obtain ⟨adX, capX, hvX, hX1, hX2, hX3⟩ := slice_cells hv hpos
            refine ⟨⟨adX, capX, hvX, hX1, hX2⟩, fun g cap c fz hv hb i x hx => ?_⟩
            have hne : l ≠ [] := by intro e; rw [e] at hx; simp at hx
            obtain ⟨blk, off, c1, T1, fz1, q1, q2, q3, q4, q5, q6⟩ := hX3 hne
            rw [hvX, q1] at hv
            simp only [Value.slice.injEq, Option.some.injEq, Addr.mk.injEq] at hv
            obtain ⟨⟨rfl, rfl, _⟩, _⟩ := hv
            rw [q3] at hb
            cases hb
            have := q6 i x hx
            rwa [List.drop_zero] at this
          unfold appO at ho
          split at ho
          · rename_i hnil
            split at ho
            · cases ho
              rw [hnil] at hrx
              generalize a.eval x = u at hrx
              cases hrx
              exact ⟨.inl ⟨rfl, rfl⟩, hard (rep_nil ty)⟩
            · cases ho
          · rename_i k' ty' l0 hown
            split at ho
            · rename_i hty
              subst hty
              cases ho
              rw [hown] at hrx
              generalize a.eval x = u at hrx
              cases hrx with
              | own h h' hh =>
                cases hsf : soft k with
                | false => exact ⟨h' hd, hard (h hsf)⟩
                | true =>
                  have ho := h' hd
                  refine ⟨ho, ?_⟩
                  rcases ho with ⟨h1, h2⟩ | ⟨blk, cap, c, fz, h1, h2, h3, h3', h4, h5, h6⟩
                  · subst h1
                    refine ⟨⟨none, 0, by rw [h2]; rfl, by rw [h2]; simp, by rw [h2]; simp⟩, fun g cap c fz hv => by cases hv⟩
                  · subst h1
                    refine ⟨⟨_, _, rfl, (h6 hsf).1, h5⟩, fun g cap' c' fz' hv hb i x hx => ?_⟩
                    cases hv
                    rw [h3] at hb
                    cases hb
                    have hi := (List.getElem?_eq_some_iff.1 hx).1
                    have hle := mul_part (off := 0) (s := ty'.size) hi
                    rw [List.drop_take, List.take_take, Nat.min_eq_left (by omega)]
                    exact (h6 hsf).2 i x hx
            · cases ho
          · cases ho
        have hY : RepV ow w (.slice ty) l' (a.eval y) := to_rep hl' hry
        have hrun : ∀ v' w', (Builtin.append_ #[t, t] o.type #[a.eval x, a.eval y]).run P w = .ok v' w' → (execOp a.eval o).run P w = .ok (.value v') w' := by
          intro v' w' hv
          rw [builtin_run hop hcal, hargs, hats]
          simp only [builtin, List.map_toArray, List.map_cons, List.map_nil]
          simp [hv]
        have hkB : (appTok k e + BIG) % 25000 = e := by unfold BIG; omega
        have hlen : (l ++ l').length = l.length + l'.length := List.length_append
        have hmaxn : l.length + l'.length ≤ 140737488355328 := by
          have := Nat.le_mul_of_pos_right (l.length + l'.length) hbpos
          omega
        -- what is left to show
        have fin : ∀ (w' : World) (g cap' : Nat) (cc : Array Value) (fz : Nat × Nat) (olds news : List Value), Loose fz cc.size →
            (Builtin.append_ #[t, t] o.type #[a.eval x, a.eval y]).run P w = .ok (.slice (some ⟨g, 0, none⟩) (l ++ l').length cap') w' →
            ((g = w.heap.size ∧ w'.heap.size = w.heap.size + 1) ∨ (w'.heap.size = w.heap.size ∧ ∃ fr₀ c₀, ow g = .tok k fr₀ ∧ w.heap[g]? = some (.cells c₀ e fz) ∧ fr₀ ≤ (l ++ l').length * ty.size ∧ cc.toList.take fr₀ = c₀.toList.take fr₀)) →
            w'.heap[g]? = some (.cells cc e fz) → (∀ blk, blk < w.heap.size → blk ≠ g → w'.heap[blk]? = w.heap[blk]?) → (w'.tape = w.tape ∧ w'.os = w.os ∧ w'.output = w.output) →
            cc.toList.take ((l ++ l').length * ty.size) = olds ++ news → olds.length = l.length * ty.size → cc.size = cap' * ty.size → (l ++ l').length ≤ cap' → (l ++ l').length ≤ 9223372036854775807 →
            (∀ (i : Nat) x, l[i]? = some x → Rep ow w ty x ((olds.drop (i * ty.size)).take ty.size)) → (∀ (i : Nat) x, l'[i]? = some x → Rep ow w ty x ((news.drop (i * ty.size)).take ty.size)) →
            GoesK P B ow bx nb bg w a o id (.own (appTok k e + BIG) ty (l ++ l')) none [] [k] [] := by
          intro w' g cap' cc fz olds news hlz hr hg hb hold henv htake hlo hcs hcap hmax ho1 ho2 K Q hK
          obtain ⟨hkeep, hinv⟩ := tok_step hi (k := k) (k' := appTok k e + BIG) (fr := (l ++ l').length * ty.size) (fz₀ := fz) hg hb hold henv hd
          unfold Oper.wp
          rw [hrun _ _ hr]
          refine hK _ _ _ _ hkeep (.own (fun _ => ?_) (fun _ => .inr ⟨g, cap', cc, fz, rfl, by simp [hfB], by rw [hkB]; exact hb, hlz, hcs, hcap, fun h => (by rw [hsB] at h; cases h)⟩) fun h => (by rw [hsB] at h; cases h)) hinv (fun j => by simp [killB]) (fun p hp => by simp at hp)
          exact rep_joined hpos hmax hcap (rigid_tok (k := appTok k e + BIG) (fr := (l ++ l').length * ty.size) (by simp) (Nat.le_refl _)) hb htake hlo (fun i x hx => Rep.keep hkeep.st _ _ _ (ho1 i x hx)) (fun i x hx => Rep.keep hkeep.st _ _ _ (ho2 i x hx))
        obtain ⟨adY, capY, hvY, hY1, hY2, hY3⟩ := slice_cells hY hpos
        obtain ⟨hXo, ⟨adX, capX, hvX, hX1, hX2⟩, hXc⟩ := hX
        -- the cells of a block of its own
        have hO : ∀ g cap c fz, a.eval x = .slice (some ⟨g, 0, none⟩) l.length cap → w.heap[g]? = some (.cells c (k % 25000) fz) → c.size = cap * ty.size → l.length ≤ cap →
            (c.toList.take (l.length * ty.size)).length = l.length * ty.size ∧ (∀ j u, (c.toList.take (l.length * ty.size))[j]? = some u → w.cell? ((⟨g, 0, none⟩ : Addr).add j) = some u) ∧
            ∀ (i : Nat) x, l[i]? = some x → Rep ow w ty x (((c.toList.take (l.length * ty.size)).drop (i * ty.size)).take ty.size) := by
          intro g cap c fz hv hb hc hn
          have hle : l.length * ty.size ≤ c.size := by rw [hc]; exact Nat.mul_le_mul_right _ hn
          refine ⟨by rw [List.length_take, toList_len c, Nat.min_eq_left hle], fun j u hj => ?_, fun i x hx => ?_⟩
          · rw [add_at, cell_at hb, Nat.zero_add]
            rw [List.getElem?_take] at hj
            split at hj
            · simpa using hj
            · cases hj
          · exact hXc g cap c fz hv hb i x hx
        by_cases hl0 : l' = []
        · subst hl0
          have hf : (Builtin.firstCells i.size 0 (.slice adY 0 capY)).run P w = .ok #[] w := by
            cases adY with
            | none => exact run_firstCells_none w i.size 0 0 capY
            | some a' => exact run_firstCells_some w i.size 0 a' 0 capY [] (by simp) (by intro j v h'; simp at h')
          have r0 : (Builtin.append_ #[t, t] o.type #[a.eval x, a.eval y]).run P w = .ok (.slice adX l.length capX) w := by
            rw [hvX, hvY]
            cases adX <;> simp [Builtin.append_, run_underlying hu, sizeOf, typeInfo, hinf, Builtin.lenOf, hX2, hf, storeCells]
          rcases hXo with ⟨hnil, hln⟩ | ⟨g, cap, cc, fz, hv, hown, hb, hlz, hc, hn, _⟩
          · intro K Q hK
            unfold Oper.wp
            rw [hrun _ _ r0, ← hvX]
            have hkeep : Keeps ow bx w ow ⟨bx.f, fun j => bx.dead j || Nat.beq k j, bx.tb⟩ w := by
              refine ⟨.refl ow w, fun _ _ _ h _ => ⟨h, rfl⟩, fun j h => ?_, fun _ h => ⟨rfl, h⟩, fun _ _ h => h⟩
              simp only [Bool.or_eq_false_iff] at h
              exact h.1
            refine hK _ ow ⟨bx.f, fun j => bx.dead j || Nat.beq k j, bx.tb⟩ _ hkeep (.own (fun _ => ?_) (fun _ => .inl ⟨hnil, by simp [hln]⟩) fun h => (by rw [hsB] at h; cases h)) ?_ (fun j => by simp [killB]) (fun p hp => by simp at hp)
            · subst hln
              rw [hnil]
              exact rep_nil ty
            · exact ⟨fun b cs hcs => by
                obtain ⟨g1, c1, T1, g2, g3⟩ := hi.box b cs hcs
                exact ⟨g1, c1, T1, g2, g3.keep hkeep⟩, hi.back, hi.here, hi.old, hi.size, hi.env, hi.kept, hi.st.trans hkeep.st, fun j h => (hi.born j h).imp (fun h => h) fun h => ⟨by simp only [h.1, Bool.true_or], h.2⟩⟩
          · obtain ⟨o1, o2, o3⟩ := hO g cap cc fz hv hb hc hn
            have hr : (.slice adX l.length capX : Value) = .slice (some ⟨g, 0, none⟩) (l ++ []).length cap := by rw [← hvX, hv, List.append_nil]
            rw [hr] at r0
            rw [hk5] at hb
            refine fin w g cap cc fz _ [] hlz r0 (.inr ⟨rfl, _, cc, hown, hb, by rw [List.append_nil]; exact hfr _, rfl⟩) hb (fun _ _ _ => rfl) ⟨rfl, rfl, rfl⟩ (by simp) o1 hc (by simpa using hn) (by simp; omega) o3 (fun i x hx => by simp at hx)
        · obtain ⟨blk, off, cY, TY, fzY, y1, y2, y3, y4, y5, y6⟩ := hY3 hl0
          have hposY : 0 < l'.length := List.length_pos_iff.2 hl0
          obtain ⟨news, hnewsdef⟩ : ∃ news, news = (cY.toList.drop off).take (l'.length * ty.size) := ⟨_, rfl⟩
          rw [← hnewsdef] at y5
          have hnl : news.length = l'.length * ty.size := by rw [hnewsdef, List.length_take, List.length_drop, toList_len cY, Nat.min_eq_left (by omega)]
          have hnews : ∀ j u, news[j]? = some u → w.cell? ((⟨blk, off, none⟩ : Addr).add j) = some u := by
            intro j u hj
            rw [add_at, cell_at y3]
            rw [hnewsdef, List.getElem?_take] at hj
            split at hj
            · rw [List.getElem?_drop] at hj
              simpa using hj
            · cases hj
          have y6' : ∀ (i : Nat) x, l'[i]? = some x → Rep ow w ty x ((news.drop (i * ty.size)).take ty.size) := by rw [hnewsdef]; exact y6
          have hnl' : news.length = l'.length * i.size := by rw [hnl, hsz]
          have hbytes : (l.length + l'.length) * i.bytes ≤ 140737488355328 := by rw [hby]; exact hroom
          rw [y1] at hvY
          rcases hXo with ⟨hnil, hln⟩ | ⟨g, cap, cc, fz, hv, hown, hb, hlz, hc, hn, _⟩
          · have hl : l = [] := hln
            subst hl
            have hr := run_append_nil (P := P) w t o.type e i z hu hinf hz ⟨blk, off, none⟩ l'.length capY news hnl' hnews hposY (by omega) (by simp at hbytes; omega)
            rw [← hvY, ← hnil] at hr
            have hge := grownCap_ge w l'.length 0 e
            refine fin _ w.heap.size (grownCap w l'.length 0 e) (news.toArray ++ Builtin.zeroCells z.cells (grownCap w l'.length 0 e - l'.length)) (0, 0) [] news (loose_zero _) hr (.inl ⟨rfl, alloc_size w _⟩) (heap_alloc_new w.drew _) (fun b hb _ => heap_alloc_old w.drew _ hb) ⟨rfl, rfl, rfl⟩ ?_ (by simp) ?_ (by simpa using hge) (by simp; omega) (fun i x hx => by simp at hx) y6'
            · simp only [Array.toList_append, List.nil_append, List.length_nil]
              rw [← hnl]
              exact List.take_left
            · rw [Array.size_append, List.size_toArray, size_zeroCells, hzs, hnl, ← Nat.add_mul, Nat.add_sub_cancel' hge]
          · obtain ⟨o1, o2, o3⟩ := hO g cap cc fz hv hb hc hn
            rw [hk5] at hb
            have hle : l.length * ty.size ≤ cc.size := by rw [hc]; exact Nat.mul_le_mul_right _ hn
            by_cases hroom2 : l.length + l'.length ≤ cap
            · have hfit : l.length * ty.size + news.length ≤ cc.size := by rw [hnl, hc, ← Nat.add_mul]; exact Nat.mul_le_mul_right _ hroom2
              have hr := run_append_loose (P := P) w t o.type e i hu hinf g l.length cap cc fz hb hlz ⟨blk, off, none⟩ l'.length capY news hnl' hnews (fun u hu => y5 u hu) hroom2 (by rw [hsz]; exact hfit)
              rw [← hvY, ← hv, hsz, ← hlen] at hr
              have hsame : (cc.toList.take (l.length * ty.size) ++ news ++ cc.toList.drop (l.length * ty.size + news.length)).toArray.size = cc.size := by
                rw [List.size_toArray, List.length_append, List.length_append, o1, List.length_drop, toList_len cc]
                omega
              refine fin _ g cap _ fz (cc.toList.take (l.length * ty.size)) news (by rw [hsame]; exact hlz) hr (.inr ⟨setRow_size _ _ _, _, cc, hown, hb, Nat.le_trans (hfr _) (Nat.mul_le_mul_right _ (by omega)), ?_⟩) (setRow_heap w g cc _ e fz hb) (fun b _ hne => setRow_other w g b _ hne) ⟨rfl, rfl, rfl⟩ ?_ o1 ?_ (by omega) (by omega) o3 y6'
              · rw [List.append_assoc, List.take_append_of_le_length (by rw [o1]; exact hfr _), List.take_take, Nat.min_eq_left (hfr _)]
              · have : (l ++ l').length * ty.size = (cc.toList.take (l.length * ty.size) ++ news).length := by rw [hlen, Nat.add_mul, List.length_append (as := cc.toList.take (l.length * ty.size)), o1, hnl]
                rw [this]
                exact List.take_left
              · rw [List.size_toArray, List.length_append, List.length_append, o1, List.length_drop, toList_len cc, ← hc]
                omega
            · have hfitb : Builtin.nextslicecap (l.length + l'.length) cap * i.bytes ≤ 281474976710656 := growslice_fits (by omega) hbytes
              have hr := run_append_grow (P := P) w t o.type e i z hu hinf hz ⟨g, 0, none⟩ l.length cap (cc.toList.take (l.length * ty.size)) (by rw [o1, hsz]) o2 ⟨blk, off, none⟩ l'.length capY news hnl' hnews (by omega) (by omega) hfitb
              rw [← hvY, ← hv, ← hlen] at hr
              have hge := grownCap_ge w (l ++ l').length cap e
              refine fin _ w.heap.size (grownCap w (l ++ l').length cap e) _ (0, 0) (cc.toList.take (l.length * ty.size)) news (loose_zero _) hr (.inl ⟨rfl, alloc_size w _⟩) (heap_alloc_new w.drew _) (fun b hb _ => heap_alloc_old w.drew _ hb) ⟨rfl, rfl, rfl⟩ ?_ o1 ?_ hge (by omega) o3 y6'
              · have : (l ++ l').length * ty.size = (cc.toList.take (l.length * ty.size) ++ news).length := by rw [hlen, Nat.add_mul, List.length_append (as := cc.toList.take (l.length * ty.size)), o1, hnl]
                rw [this]
                simp only [Array.toList_append]
                exact List.take_left
              · rw [Array.size_append, Array.size_append, List.size_toArray, List.size_toArray, size_zeroCells, hzs, hnl, o1, ← Nat.add_mul, ← Nat.add_mul, ← hlen, Nat.add_sub_cancel' hge]
      · cases h
    · cases h
  · cases h
theorem freeze_facts {w : World} {g n : Nat} {c : Array Value} {e : TypeId} {fz : Nat × Nat} (hg : w.heap[g]? = some (.cells c e fz)) :
    (w.freeze ⟨g, n, none⟩ 1).heap[g]? = some (.cells c e (if fz.1 == fz.2 then (n, n + 1) else (min fz.1 n, max fz.2 (n + 1)))) ∧ (w.freeze ⟨g, n, none⟩ 1).heap.size = w.heap.size ∧
      (∀ blk, blk ≠ g → (w.freeze ⟨g, n, none⟩ 1).heap[blk]? = w.heap[blk]?) ∧ (w.freeze ⟨g, n, none⟩ 1).tape = w.tape ∧ (w.freeze ⟨g, n, none⟩ 1).os = w.os ∧ (w.freeze ⟨g, n, none⟩ 1).output = w.output := by
  unfold World.freeze
  rw [if_neg (by decide)]
  refine ⟨?_, by simp, fun blk hb => ?_, rfl, rfl, rfl⟩
  · simp only [Array.getElem?_modify, hg, if_true, Option.map_some]
  · simp only [Array.getElem?_modify]
    exact if_neg (fun h => hb h.symm)
theorem loose_mark {fz : Nat × Nat} {n : Nat} (h : Loose fz n) : Loose (if fz.1 == fz.2 then (n, n + 1) else (min fz.1 n, max fz.2 (n + 1))) n := by
  split
  · exact .inr (Nat.le_refl _)
  · rename_i hne
    rcases h with h | h
    · exact absurd (by simp [h]) hne
    · exact .inr (by simp only; omega)
/-- Bytes out of a text are marked. -/
theorem mark_sound {ρ : Type} {P : Program} {Γ : Cx} (hΓ : CxOK P Γ) {dead : List Nat} {o : Oper} {A : Operand → EV} {x : Operand} {t : Nat} {q : EV → Nat → Option ρ} {r : ρ} (hm : isMark Γ o.op = some (t, x))
    (h : markE Γ dead t (A x) q = some r) : ∃ v k, q v k = some r ∧ k ∉ dead ∧
      ∀ id B ow bx nb bg w (a : Act), Inv B ow bx nb bg w → Args ow bx w A a.eval o.op → bx.dead k = false → GoesK P B ow bx nb bg w a o id v none [] [k] [] := by
  have hop : o.op = .convert t t x := by
    unfold isMark at hm
    split at hm
    · rename_i s d y ho
      split at hm
      · rename_i hb
        cases hm
        simp only [Bool.and_eq_true] at hb
        have := Nat.eq_of_beq_eq_true hb.1
        subst this
        exact ho
      · cases hm
    · cases hm
  unfold markE at h
  split at h
  · rename_i k ty l he
    split at h
    · cases h
    · rename_i l y ls
      split at h
      · rename_i hc
        simp only [Bool.and_eq_true, Bool.not_eq_true', decide_eq_true_eq] at hc
        obtain ⟨⟨⟨hsl, hty⟩, hnd⟩, hsf⟩ := hc
        subst hty
        obtain ⟨d, e, s, bb, gi, q1, q2, q3, _⟩ := sliceOf_spec hΓ hsl
        have hE : P.underlying e = some (.int .u8) := by
          unfold sliceOf at hsl
          rw [q1] at hsl
          simp only [q2] at hsl
          exact isInt_spec hΓ hsl
        refine ⟨_, k, h, natIn_false hnd, fun id B ow bx nb bg w a hi hA hd => ?_⟩
        rw [hop] at hA
        have hx := args_of hA (by intros; simp) x (by simp [Op.operands])
        rw [he] at hx
        have hsB : soft (k + BIG) = false := by rw [← hsf]; unfold soft; rw [show (k + BIG) % 100000 = k % 100000 by unfold BIG; omega]
        generalize hv : a.eval x = v at hx
        cases hx with
        | own hR hO _ =>
        have hR := hR hsf
        rcases hO hd with ⟨_, h1⟩ | ⟨g, cap, c, fz, h1, h2, h3, h4, h5, h6, _⟩
        · cases h1
        subst h1
        have hfr : ∀ n, frOf k n = n := fun n => by unfold frOf; rw [hsf]; rfl
        have hfB : ∀ n, frOf (k + BIG) n = n := fun n => by unfold frOf; rw [hsB]; rfl
        have hkB : (k + BIG) % 25000 = k % 25000 := by unfold BIG; omega
        rw [hfr] at h2
        obtain ⟨f1, f2, f3, f4⟩ := freeze_facts (n := c.size) h3
        generalize hfz' : (if fz.1 == fz.2 then (c.size, c.size + 1) else (min fz.1 c.size, max fz.2 (c.size + 1))) = fz' at f1
        have hlz : Loose fz' c.size := by rw [← hfz']; exact loose_mark h4
        have hsh : w.shape? g = some (k % 25000, c.size) := by unfold World.shape?; rw [h3]
        have hrun : (execOp a.eval o).run P w = .ok (.value (.slice (some ⟨g, 0, none⟩) (y :: ls).length cap)) (w.freeze ⟨g, c.size, none⟩ 1) := by
          unfold execOp
          rw [hop]
          simp [hv, convert, run_underlying q3, run_underlying hE, markStringish, hsh]
        intro K Q hK
        unfold Oper.wp
        rw [hrun]
        obtain ⟨hkeep, hinv⟩ := tok_step hi (k := k) (k' := k + BIG) (g := g) (fr := (y :: ls).length * (Ty.int .u8).size) (fz₀ := fz) (.inr ⟨f2, _, c, h2, h3, Nat.le_refl _, rfl⟩) f1 (fun blk _ hb => f3 blk hb) f4 hd
        refine hK _ _ _ _ hkeep (.own (fun _ => hR.keep hkeep.st) (fun _ => .inr ⟨g, cap, c, fz', rfl, by simp [hfB], by rw [hkB]; exact f1, hlz, h5, h6, fun h => (by rw [hsB] at h; cases h)⟩) fun h => (by rw [hsB] at h; cases h)) hinv (fun j => by simp [killB]) (fun p hp => by simp at hp)
      · cases h
  · cases h
end Go.Proofs.Ytdiebciejcmmhaa

/- A call that takes slices over does what is promised. No program in sight. -/
set_option linter.unusedSimpArgs false
set_option linter.unusedVariables false
namespace Go.Proofs.Ytdiebciejcmmhaa
/-- How the caller's blocks look to the function, the slices that are handed over among them. -/
structure TrO (a tk : List (Nat × Nat)) (ow : Nat → Owner) (bx : Bx) (ow' : Nat → Owner) (bx' : Bx) : Prop where
  st : ∀ blk n, Rigid ow blk n → Rigid ow' blk n
  bo : ∀ i b, (i, b) ∈ a → ow (bx b) = .box b → bx' i = bx b ∧ ow' (bx b) = .box i
  tok : ∀ κ k, (κ, k) ∈ tk → ∀ blk fr, ow blk = .tok k fr → ow' blk = .tok κ fr
  tb : ∀ κ k, (κ, k) ∈ tk → ∀ x, bx.tb k = some x → bx'.tb κ = some x
theorem soft_eq {k κ : Nat} (h : k % 100000 = κ % 100000) : soft k = soft κ := by unfold soft; rw [h]
theorem firm_eq {k κ : Nat} (h : k % 100000 = κ % 100000) : firm k = firm κ := by unfold firm; rw [h]
theorem frOf_eq {k κ n : Nat} (h : k % 100000 = κ % 100000) : frOf k n = frOf κ n := by unfold frOf; rw [soft_eq h]
theorem five_eq {k κ : Nat} (h : k % 100000 = κ % 100000) : k % 25000 = κ % 25000 := by omega
/-- A slice under another token. -/
theorem own_re {ow ow' : Nat → Owner} {bx bx' : Bx} {w : World} {k κ : Nat} {t : Ty} {l : List t.den} {v : Value} (hst : ∀ blk n, Rigid ow blk n → Rigid ow' blk n) (he : k % 100000 = κ % 100000)
    (htk : ∀ blk fr, ow blk = .tok k fr → ow' blk = .tok κ fr) (htb : soft κ = true → ∀ x, bx.tb k = some x → bx'.tb κ = some x) (hd : bx.dead k = false) (h : RepEV ow bx w (.own k t l) v) : RepEV ow' bx' w (.own κ t l) v := by
  have hk : KeepSt ow w ow' w := KeepSt.of fun blk n hs => ⟨hst blk n hs, rfl⟩
  cases h with
  | own h h' hh =>
    refine .own (fun hs => (h (by rw [soft_eq he]; exact hs)).keep hk) (fun _ => ?_) fun hs => ?_
    rotate_left
    · rcases hh (by rw [soft_eq he]; exact hs) with h | ⟨blk, cap, q1, q2⟩
      · exact .inl ⟨by rw [← firm_eq he]; exact h.1, h.2⟩
      · exact .inr ⟨blk, cap, htb hs _ q1, q2⟩
    rcases h' hd with h1 | ⟨blk, cap, c, fz, h1, h2, h3, h3', h4, h5, h6⟩
    · exact .inl h1
    · exact .inr ⟨blk, cap, c, fz, h1, by rw [htk _ _ h2, frOf_eq he], by rw [h3, five_eq he], h3', h4, h5, fun hs => ⟨(h6 (by rw [soft_eq he]; exact hs)).1, fun i x hx => Rep.keep hk _ _ _ ((h6 (by rw [soft_eq he]; exact hs)).2 i x hx)⟩⟩
theorem matchO_dat {dead : List Nat} : ∀ (ps : List OP) (es : List EV) (a tk : List (Nat × Nat)) (l : List EV) (a' tk' : List (Nat × Nat)), matchO dead ps es a tk = some (l, a', tk') → ∀ e ∈ l, ∃ t v, e = EV.dat t v := by
  intro ps
  induction ps with
  | nil =>
    intro es a tk l a' tk' h
    cases es with
    | nil => simp only [matchO] at h; cases h; simp
    | cons e es => simp only [matchO] at h; cases h
  | cons p ps ih =>
    intro es a tk l a' tk' h
    cases es with
    | nil => cases p <;> simp only [matchO] at h <;> cases h
    | cons e es =>
      cases p with
      | dat t =>
        simp only [matchO] at h
        split at h
        · split at h
          · rename_i h1
            cases h
            intro e he
            rcases List.mem_cons.1 he with rfl | he
            · exact ⟨_, _, rfl⟩
            · exact ih _ _ _ _ _ _ h1 e he
          · cases h
        · cases h
      | own κ t =>
        simp only [matchO] at h
        split at h
        · split at h
          · split at h
            · rename_i h1
              cases h
              intro e he
              rcases List.mem_cons.1 he with rfl | he
              · exact ⟨_, _, rfl⟩
              · exact ih _ _ _ _ _ _ h1 e he
            · cases h
          · cases h
        · split at h
          · cases h
          split at h
          · rename_i h1
            cases h
            intro e he
            rcases List.mem_cons.1 he with rfl | he
            · exact ⟨_, _, rfl⟩
            · exact ih _ _ _ _ _ _ h1 e he
          · cases h
        · cases h
      | ref i off =>
        simp only [matchO] at h
        split at h
        · split at h
          · split at h
            · split at h
              · exact ih _ _ _ _ _ _ h
              · cases h
            · split at h
              · cases h
              · exact ih _ _ _ _ _ _ h
          · cases h
        · cases h
theorem matchO_fill {dead : List Nat} {ow ow' : Nat → Owner} {bx bx' : Bx} {w : World} : ∀ (ps : List OP) (es : List EV) (a tk : List (Nat × Nat)) (l : List EV) (a' tk' : List (Nat × Nat)),
    matchO dead ps es a tk = some (l, a', tk') → (AsgOK a → AsgOK a') ∧ (AsgOK tk → AsgOK tk') ∧ (∀ p ∈ a, p ∈ a') ∧ (∀ p ∈ tk, p ∈ tk') ∧
      ((∀ p ∈ tk, p.2 ∉ dead ∧ p.2 % 100000 = p.1 % 100000 ∧ p.1 < BIG) → ∀ p ∈ tk', p.2 ∉ dead ∧ p.2 % 100000 = p.1 % 100000 ∧ p.1 < BIG) ∧
      ∀ rest, ∃ es', fillO id id ps (l ++ rest) = (es', rest) ∧ es'.length = es.length ∧
        ∀ af tf, (∀ p ∈ a', p ∈ af) → (∀ p ∈ tk', p ∈ tf) → TrO af tf ow bx ow' bx' → (∀ k, k ∉ dead → (∃ κ, (κ, k) ∈ tf) → bx.dead k = false) → ∀ (i : Nat) e e' v, es[i]? = some e → es'[i]? = some e' → RepEV ow bx w e v → RepEV ow' bx' w e' v := by
  intro ps
  induction ps with
  | nil =>
    intro es a tk l a' tk' h
    cases es with
    | nil => simp only [matchO] at h; cases h; exact ⟨id, id, fun _ h => h, fun _ h => h, id, fun rest => ⟨[], rfl, rfl, fun _ _ _ _ _ _ i e e' v he => by simp at he⟩⟩
    | cons e es => simp only [matchO] at h; cases h
  | cons p ps ih =>
    intro es a tk l a' tk' h
    cases es with
    | nil => cases p <;> simp only [matchO] at h <;> cases h
    | cons e es =>
      cases p with
      | dat t =>
        simp only [matchO] at h
        split at h
        · rename_i v hv
          split at h
          · rename_i l1 a1 t1 h1
            cases h
            obtain ⟨g1, g2, g3, g4, g5, g6⟩ := ih es a tk l1 a' tk' h1
            refine ⟨g1, g2, g3, g4, g5, fun rest => ?_⟩
            obtain ⟨es', k1, k2, k3⟩ := g6 rest
            refine ⟨.dat t v :: es', by simp only [List.cons_append, fillO, k1], by simp [k2], fun af tf haf htf htr hdd i e0 e1 u he0 he1 hu => ?_⟩
            cases i with
            | zero =>
              simp only [List.getElem?_cons_zero, Option.some.injEq] at he0 he1
              subst he0 he1
              exact .dat ((toA_rep hv hu).keep (KeepSt.of fun blk n hs => ⟨htr.st blk n hs, rfl⟩))
            | succ i => exact k3 af tf haf htf htr hdd i e0 e1 u (by simpa using he0) (by simpa using he1) hu
          · cases h
        · cases h
      | own κ t =>
        simp only [matchO] at h
        split at h
        · rename_i k t' lv
          split at h
          · rename_i hc
            simp only [Bool.and_eq_true, Bool.not_eq_true', decide_eq_true_eq] at hc
            obtain ⟨⟨⟨⟨⟨⟨hk1, hkB⟩, hkB2⟩, hk2⟩, hk3⟩, hk4⟩, hk5⟩ := hc
            have hk1 := Nat.eq_of_beq_eq_true hk1
            have hkB : κ < BIG := Nat.le_of_ble_eq_true hkB
            have hnone : asgGet tk κ = none := by
              cases hg : asgGet tk κ with
              | none => rfl
              | some x => rw [hg] at hk4; cases hk4
            split at h
            · rename_i l1 a1 t1 h1
              cases h
              obtain ⟨g1, g2, g3, g4, g5, g6⟩ := ih es a ((κ, k) :: tk) l1 a' tk' h1
              have hmem : (κ, k) ∈ tk' := g4 _ (by simp)
              refine ⟨g1, fun hok => g2 (hok.cons hnone hk3), g3, fun p hp => g4 p (by simp [hp]), fun hall => g5 fun p hp => ?_, fun rest => ?_⟩
              · rcases List.mem_cons.1 hp with rfl | hp
                · exact ⟨natIn_false hk2, hk1, hkB⟩
                · exact hall p hp
              · obtain ⟨es', k1, k2, k3⟩ := g6 rest
                refine ⟨.own κ t' lv :: es', by simp only [List.cons_append, fillO, k1, id], by simp [k2], fun af tf haf htf htr hdd i e0 e1 u he0 he1 hu => ?_⟩
                cases i with
                | zero =>
                  simp only [List.getElem?_cons_zero, Option.some.injEq] at he0 he1
                  subst he0 he1
                  exact own_re htr.st hk1 (htr.tok κ k (htf _ hmem)) (fun _ => htr.tb κ k (htf _ hmem)) (hdd k (natIn_false hk2) ⟨κ, htf _ hmem⟩) hu
                | succ i => exact k3 af tf haf htf htr hdd i e0 e1 u (by simpa using he0) (by simpa using he1) hu
            · cases h
          · cases h
        · split at h
          · cases h
          rename_i hfirm
          split at h
          · rename_i l1 a1 t1 h1
            cases h
            obtain ⟨g1, g2, g3, g4, g5, g6⟩ := ih es a tk l1 a' tk' h1
            refine ⟨g1, g2, g3, g4, g5, fun rest => ?_⟩
            obtain ⟨es', k1, k2, k3⟩ := g6 rest
            refine ⟨.own κ t [] :: es', by simp only [List.cons_append, fillO, k1, id], by simp [k2], fun af tf haf htf htr hdd i e0 e1 u he0 he1 hu => ?_⟩
            cases i with
            | zero =>
              simp only [List.getElem?_cons_zero, Option.some.injEq] at he0 he1
              subst he0 he1
              cases hu
              exact .own (fun _ => rep_nil t) (fun _ => .inl ⟨rfl, rfl⟩) fun _ => .inl ⟨hfirm, rfl, rfl⟩
            | succ i => exact k3 af tf haf htf htr hdd i e0 e1 u (by simpa using he0) (by simpa using he1) hu
          · cases h
        · cases h
      | ref i0 off =>
        simp only [matchO] at h
        split at h
        · rename_i b off'
          split at h
          · rename_i hoff
            have hoff := Nat.eq_of_beq_eq_true hoff
            subst hoff
            have fin : ∀ a1, matchO dead ps es a1 tk = some (l, a', tk') → (i0, b) ∈ a1 → (AsgOK a → AsgOK a1) → (∀ p ∈ a, p ∈ a1) → (AsgOK a → AsgOK a') ∧ (AsgOK tk → AsgOK tk') ∧ (∀ p ∈ a, p ∈ a') ∧ (∀ p ∈ tk, p ∈ tk') ∧
                ((∀ p ∈ tk, p.2 ∉ dead ∧ p.2 % 100000 = p.1 % 100000 ∧ p.1 < BIG) → ∀ p ∈ tk', p.2 ∉ dead ∧ p.2 % 100000 = p.1 % 100000 ∧ p.1 < BIG) ∧
                ∀ rest, ∃ es', fillO id id (.ref i0 off :: ps) (l ++ rest) = (es', rest) ∧ es'.length = (EV.ptr b off :: es).length ∧
                  ∀ af tf, (∀ p ∈ a', p ∈ af) → (∀ p ∈ tk', p ∈ tf) → TrO af tf ow bx ow' bx' → (∀ k, k ∉ dead → (∃ κ, (κ, k) ∈ tf) → bx.dead k = false) → ∀ (i : Nat) e e' v, (EV.ptr b off :: es)[i]? = some e → es'[i]? = some e' → RepEV ow bx w e v → RepEV ow' bx' w e' v := by
              intro a1 h1 hmem hok hsub
              obtain ⟨g1, g2, g3, g4, g5, g6⟩ := ih es a1 tk l a' tk' h1
              refine ⟨fun h => g1 (hok h), g2, fun p hp => g3 p (hsub p hp), g4, g5, fun rest => ?_⟩
              obtain ⟨es', k1, k2, k3⟩ := g6 rest
              refine ⟨.ptr i0 off :: es', by simp only [fillO, k1, id], by simp [k2], fun af tf haf htf htr hdd i e0 e1 u he0 he1 hu => ?_⟩
              cases i with
              | zero =>
                simp only [List.getElem?_cons_zero, Option.some.injEq] at he0 he1
                subst he0 he1
                cases hu with
                | ptr hq =>
                  obtain ⟨j1, j2⟩ := htr.bo i0 b (haf _ (g3 _ hmem)) hq
                  rw [← j1]
                  exact .ptr (by rw [j1]; exact j2)
              | succ i => exact k3 af tf haf htf htr hdd i e0 e1 u (by simpa using he0) (by simpa using he1) hu
            split at h
            · rename_i b' hb'
              split at h
              · rename_i hbb
                have hbb := Nat.eq_of_beq_eq_true hbb
                subst hbb
                exact fin a h (asgGet_mem _ _ _ hb') id (fun _ h => h)
              · cases h
            · rename_i hnone
              split at h
              · cases h
              · rename_i hhas
                exact fin _ h (by simp) (fun hok => hok.cons hnone (by simpa using hhas)) (fun p hp => by simp [hp])
          · cases h
        · cases h
theorem matchOB_fill {dead : List Nat} {rd : Nat → Option (List EV)} : ∀ (bs : List (List OP)) (i : Nat) (a tk : List (Nat × Nat)) (l : List EV) (a' tk' : List (Nat × Nat)), matchOB dead rd i bs a tk = some (l, a', tk') →
    (AsgOK a → AsgOK a') ∧ (AsgOK tk → AsgOK tk') ∧ (∀ p ∈ a, p ∈ a') ∧ (∀ p ∈ tk, p ∈ tk') ∧
      ((∀ p ∈ tk, p.2 ∉ dead ∧ p.2 % 100000 = p.1 % 100000 ∧ p.1 < BIG) → ∀ p ∈ tk', p.2 ∉ dead ∧ p.2 % 100000 = p.1 % 100000 ∧ p.1 < BIG) ∧ (∀ e ∈ l, ∃ t v, e = EV.dat t v) ∧ (fillOB id id bs l).length = bs.length ∧
      ∀ j, j < bs.length → ∃ b cs cs', (i + j, b) ∈ a' ∧ rd b = some cs ∧ (fillOB id id bs l)[j]? = some cs' ∧ cs'.length = cs.length ∧
        ∀ (ow ow' : Nat → Owner) (bx bx' : Bx) (w : World), TrO a' tk' ow bx ow' bx' → (∀ k, k ∉ dead → (∃ κ, (κ, k) ∈ tk') → bx.dead k = false) → ∀ (k : Nat) e e' v, cs[k]? = some e → cs'[k]? = some e' → RepEV ow bx w e v → RepEV ow' bx' w e' v
  | [], i, a, tk, l, a', tk', h => by
    simp only [matchOB] at h
    cases h
    exact ⟨id, id, fun _ h => h, fun _ h => h, id, fun e he => (by simp at he), rfl, fun j hj => absurd hj (by simp)⟩
  | pts :: r, i, a, tk, l, a', tk', h => by
    simp only [matchOB] at h
    split at h
    · rename_i b hb
      split at h
      · rename_i cs hcs
        split at h
        · rename_i l1 a1 t1 h1
          split at h
          · rename_i l2 a2 t2 h2
            cases h
            obtain ⟨j1, j2, j3, j4, j5, j6, j7, j8⟩ := matchOB_fill r (i + 1) a1 t1 l2 a' tk' h2
            have hm := matchO_fill (ow := fun _ => .junk) (ow' := fun _ => .junk) (bx := ⟨id, fun _ => false, fun _ => none⟩) (bx' := ⟨id, fun _ => false, fun _ => none⟩) (w := default) pts cs a tk l1 a1 t1 h1
            have hmem : (i, b) ∈ a' := j3 _ (hm.2.2.1 _ (asgGet_mem _ _ _ hb))
            obtain ⟨es0, f1, f2, _⟩ := hm.2.2.2.2.2 l2
            have hfb : fillOB id id (pts :: r) (l1 ++ l2) = es0 :: fillOB id id r l2 := by simp only [fillOB, f1]
            refine ⟨fun h => j1 (hm.1 h), fun h => j2 (hm.2.1 h), fun p hp => j3 p (hm.2.2.1 p hp), fun p hp => j4 p (hm.2.2.2.1 p hp), fun h => j5 (hm.2.2.2.2.1 h), fun e he => ?_, by rw [hfb]; simp [j7], fun j hj => ?_⟩
            · rcases List.mem_append.1 he with he | he
              · exact matchO_dat _ _ _ _ _ _ _ h1 e he
              · exact j6 e he
            · cases j with
              | zero =>
                refine ⟨b, cs, es0, hmem, hcs, by rw [hfb]; rfl, f2, fun ow ow' bx bx' w htr hdd => ?_⟩
                obtain ⟨es1, f1', _, f3⟩ := (matchO_fill (ow := ow) (ow' := ow') (bx := bx) (bx' := bx') (w := w) pts cs a tk l1 a1 t1 h1).2.2.2.2.2 l2
                have e : es1 = es0 := by rw [f1] at f1'; cases f1'; rfl
                subst e
                exact f3 a' tk' j3 j4 htr hdd
              | succ j =>
                obtain ⟨b', cs', cs'', k1, k2, k3, k4, k5⟩ := j8 j (by simpa using hj)
                exact ⟨b', cs', cs'', by rw [show i + (j + 1) = i + 1 + j by omega]; exact k1, k2, by rw [hfb]; simpa using k3, k4, k5⟩
          · cases h
        · cases h
      · cases h
    · cases h
/-- Values out of data, in two readings. -/
theorem fillO_two {tn bn : Nat → Nat} {ow ow' : Nat → Owner} {bx bx' : Bx} {w : World} (hst : ∀ blk n, Rigid ow blk n → Rigid ow' blk n) (hd : ∀ k, bx.dead k = false)
    {ks : List Nat} (htk : ∀ κ ∈ ks, tn κ % 100000 = κ % 100000 ∧ (∀ blk fr, ow blk = .tok κ fr → ow' blk = .tok (tn κ) fr) ∧ (soft κ = true → ∀ x, bx.tb κ = some x → bx'.tb (tn κ) = some x)) (hbo : ∀ i, ow (bx i) = .box i → bx' (bn i) = bx i ∧ ow' (bx i) = .box (bn i)) :
    ∀ (ps : List OP) (d : List EV), (∀ κ ∈ opKs ps, κ ∈ ks) → (∀ e ∈ d, ∃ t v, e = EV.dat t v) → (fillO tn bn ps d).2 = (fillO id id ps d).2 ∧ (fillO tn bn ps d).1.length = (fillO id id ps d).1.length ∧ (∀ e ∈ (fillO id id ps d).2, e ∈ d) ∧
      ∀ (i : Nat) e e' v, (fillO id id ps d).1[i]? = some e → (fillO tn bn ps d).1[i]? = some e' → RepEV ow bx w e v → RepEV ow' bx' w e' v := by
  intro ps
  induction ps with
  | nil => intro d _ _; exact ⟨rfl, rfl, fun e he => he, fun i e e' v he => by simp [fillO] at he⟩
  | cons p ps ih =>
    intro d hks hdat
    cases p with
    | dat t =>
      cases d with
      | nil => exact ⟨rfl, rfl, fun e he => he, fun i e e' v he => by simp [fillO] at he⟩
      | cons x d =>
        obtain ⟨g1, g2, g3, g4⟩ := ih d (fun κ h => hks κ (by simpa [opKs] using h)) fun e he => hdat e (by simp [he])
        refine ⟨by simp only [fillO]; exact g1, by simp only [fillO, List.length_cons, g2], fun e he => ?_, fun i e e' v he he' hr => ?_⟩
        · simp only [fillO] at he
          exact List.mem_cons_of_mem _ (g3 e he)
        · simp only [fillO] at he he'
          cases i with
          | zero =>
            simp only [List.getElem?_cons_zero, Option.some.injEq] at he he'
            subst he he'
            obtain ⟨t, z, hx⟩ := hdat x (by simp)
            subst hx
            cases hr with
            | dat hr => exact .dat (hr.keep (KeepSt.of fun blk n hs => ⟨hst blk n hs, rfl⟩))
          | succ i => exact g4 i e e' v (by simpa using he) (by simpa using he') hr
    | own κ t =>
      cases d with
      | nil => exact ⟨rfl, rfl, fun e he => he, fun i e e' v he => by simp [fillO] at he⟩
      | cons x d =>
        obtain ⟨g1, g2, g3, g4⟩ := ih d (fun κ' h => hks κ' (by simp [opKs, h])) fun e he => hdat e (by simp [he])
        have hκ := htk κ (hks κ (by simp [opKs]))
        refine ⟨by simp only [fillO]; exact g1, by simp only [fillO, List.length_cons, g2], fun e he => ?_, fun i e e' v he he' hr => ?_⟩
        · simp only [fillO] at he
          exact List.mem_cons_of_mem _ (g3 e he)
        · simp only [fillO] at he he'
          cases i with
          | zero =>
            simp only [List.getElem?_cons_zero, Option.some.injEq] at he he'
            subst he he'
            split
            · exact own_re hst hκ.1.symm hκ.2.1 (fun hs => hκ.2.2 (by rw [← soft_eq hκ.1]; exact hs)) (hd κ) hr
            · exact .undef _
          | succ i => exact g4 i e e' v (by simpa using he) (by simpa using he') hr
    | ref i0 off =>
      obtain ⟨g1, g2, g3, g4⟩ := ih d (fun κ h => hks κ (by simpa [opKs] using h)) hdat
      refine ⟨by simp only [fillO]; exact g1, by simp only [fillO, List.length_cons, g2], fun e he => ?_, fun i e e' v he he' hr => ?_⟩
      · simp only [fillO] at he
        exact g3 e he
      · simp only [fillO] at he he'
        cases i with
        | zero =>
          simp only [List.getElem?_cons_zero, Option.some.injEq] at he he'
          subst he he'
          cases hr with
          | ptr hq =>
            obtain ⟨h1, h2⟩ := hbo i0 hq
            simp only [id] at h1 h2 ⊢
            rw [← h1]
            exact .ptr (by rw [h1]; exact h2)
        | succ i => exact g4 i e e' v (by simpa using he) (by simpa using he') hr
theorem fillOB_two {tn bn : Nat → Nat} {ow ow' : Nat → Owner} {bx bx' : Bx} {w : World} (hst : ∀ blk n, Rigid ow blk n → Rigid ow' blk n) (hd : ∀ k, bx.dead k = false)
    {ks : List Nat} (htk : ∀ κ ∈ ks, tn κ % 100000 = κ % 100000 ∧ (∀ blk fr, ow blk = .tok κ fr → ow' blk = .tok (tn κ) fr) ∧ (soft κ = true → ∀ x, bx.tb κ = some x → bx'.tb (tn κ) = some x)) (hbo : ∀ i, ow (bx i) = .box i → bx' (bn i) = bx i ∧ ow' (bx i) = .box (bn i)) :
    ∀ (bs : List (List OP)) (d : List EV), (∀ κ ∈ opKsB bs, κ ∈ ks) → (∀ e ∈ d, ∃ t v, e = EV.dat t v) → (fillOB tn bn bs d).length = bs.length ∧ (fillOB id id bs d).length = bs.length ∧
      ∀ (j : Nat) cs cs', (fillOB id id bs d)[j]? = some cs → (fillOB tn bn bs d)[j]? = some cs' → cs'.length = cs.length ∧ ∀ (i : Nat) e e' v, cs[i]? = some e → cs'[i]? = some e' → RepEV ow bx w e v → RepEV ow' bx' w e' v := by
  intro bs
  induction bs with
  | nil => intro d _ _; exact ⟨rfl, rfl, fun j cs cs' h => by simp [fillOB] at h⟩
  | cons p r ih =>
    intro d hks hdat
    obtain ⟨g1, g2, g3, g4⟩ := fillO_two (w := w) hst hd htk hbo p d (fun κ h => hks κ (by simp [opKsB, h])) hdat
    obtain ⟨k1, k2, k3⟩ := ih (fillO id id p d).2 (fun κ h => hks κ (by simp [opKsB, h])) fun e he => hdat e (g3 e he)
    have e1 : fillOB tn bn (p :: r) d = (fillO tn bn p d).1 :: fillOB tn bn r (fillO id id p d).2 := by simp only [fillOB, g1]
    have e2 : fillOB id id (p :: r) d = (fillO id id p d).1 :: fillOB id id r (fillO id id p d).2 := by simp only [fillOB]
    refine ⟨by rw [e1]; simp [k1], by rw [e2]; simp [k2], fun j cs cs' h h' => ?_⟩
    rw [e2] at h
    rw [e1] at h'
    cases j with
    | zero =>
      simp only [List.getElem?_cons_zero, Option.some.injEq] at h h'
      subst h h'
      exact ⟨g2, g4⟩
    | succ j => exact k3 j cs cs' (by simpa using h) (by simpa using h')
/-- The caller's blocks, as the function sees them. -/
def owO (a tk : List (Nat × Nat)) (ow : Nat → Owner) : Nat → Owner := fun blk => match ow blk with
  | .stable => .stable
  | .box b => match asgInv a b with
    | some i => .box i
    | none => .junk
  | .tok k fr => match asgInv tk k with
    | some κ => .tok κ fr
    | none => .part fr
  | .part fr => .part fr
  | .junk => .junk
theorem owO_rigid {a tk : List (Nat × Nat)} {ow : Nat → Owner} {blk n : Nat} (h : Rigid ow blk n) : Rigid (owO a tk ow) blk n := by
  rcases rigid_cases h with h | ⟨k, fr, h, hn⟩ | ⟨fr, h, hn⟩
  · exact rigid_stable (by simp [owO, h])
  · cases hk : asgInv tk k with
    | some κ => exact rigid_tok (k := κ) (by simp [owO, h, hk]) hn
    | none => exact rigid_part (by simp [owO, h, hk]) hn
  · exact rigid_part (by simp [owO, h]) hn
def bxO (a tk : List (Nat × Nat)) (bx : Bx) : Bx := ⟨(bxCall a bx).f, fun _ => false, fun κ => match asgGet tk κ with
  | some k => bx.tb k
  | none => none⟩
theorem trO {a tk : List (Nat × Nat)} (ha : AsgOK a) (ht : AsgOK tk) (ow : Nat → Owner) (bx : Bx) : TrO a tk ow bx (owO a tk ow) (bxO a tk bx) := by
  refine ⟨fun blk n h => owO_rigid h, fun i b hm hb => ⟨by simp [bxO, bxCall, ha.key i b hm], ?_⟩, fun κ k hm blk fr hb => ?_, fun κ k hm x hx => by simp only [bxO, ht.key κ k hm]; exact hx⟩
  · obtain ⟨j, hj⟩ := asgInv_some a b i hm
    have : j = i := ha.inj j i b (asgInv_mem a b j hj) hm
    simp [owO, hb, hj, this]
  · obtain ⟨j, hj⟩ := asgInv_some tk k κ hm
    have : j = κ := ht.inj j κ k (asgInv_mem tk k j hj) hm
    simp [owO, hb, hj, this]
theorem owO_box {a tk : List (Nat × Nat)} {ow : Nat → Owner} {blk i : Nat} (h : owO a tk ow blk = .box i) : ∃ b, (i, b) ∈ a ∧ ow blk = .box b := by
  unfold owO at h
  split at h
  · cases h
  · rename_i b hb
    split at h
    · rename_i j hj
      cases h
      exact ⟨b, asgInv_mem _ _ _ hj, hb⟩
    · cases h
  · split at h <;> cases h
  · cases h
  · cases h
theorem owO_tok {a tk : List (Nat × Nat)} {ow : Nat → Owner} {blk κ fr : Nat} (h : owO a tk ow blk = .tok κ fr) : ∃ k, (κ, k) ∈ tk ∧ ow blk = .tok k fr := by
  unfold owO at h
  split at h
  · cases h
  · split at h <;> cases h
  · rename_i k fr' hb
    split at h
    · rename_i j hj
      cases h
      exact ⟨k, asgInv_mem _ _ _ hj, hb⟩
    · cases h
  · cases h
  · cases h
theorem owO_back {a tk : List (Nat × Nat)} {ow : Nat → Owner} {blk n : Nat} (h : Rigid (owO a tk ow) blk n) : Rigid ow blk n := by
  cases hb : ow blk with
  | stable => exact rigid_stable hb
  | tok k fr =>
    refine rigid_tok hb ?_
    cases hk : asgInv tk k with
    | some κ => rcases rigid_cases h with h | ⟨_, _, h, hn⟩ | ⟨fr', h, hn⟩ <;> simp [owO, hb, hk] at h; obtain ⟨_, rfl⟩ := h; exact hn
    | none => rcases rigid_cases h with h | ⟨_, _, h, hn⟩ | ⟨fr', h, hn⟩ <;> simp [owO, hb, hk] at h; subst h; exact hn
  | part fr => rcases rigid_cases h with h | ⟨_, _, h, hn⟩ | ⟨fr', h, hn⟩ <;> simp [owO, hb] at h; subst h; exact rigid_part hb hn
  | junk => rcases rigid_cases h with h | ⟨_, _, h, hn⟩ | ⟨fr', h, hn⟩ <;> simp [owO, hb] at h
  | box b => rcases rigid_cases h with h | ⟨_, _, h, hn⟩ | ⟨fr', h, hn⟩ <;> (simp only [owO, hb] at h; split at h <;> cases h)
/-- A block that the function made, or was given: whose it is behind the call. -/
def tokBack (tn : Nat → Nat) : Owner → Owner
  | .tok κ fr => .tok (tn κ) fr
  | .stable => .stable
  | .part fr => .part fr
  | _ => .junk
theorem tokBack_rigid {tn : Nat → Nat} {o : Owner} {n : Nat} (h : o.rigid n) : (tokBack tn o).rigid n := by
  cases o with
  | stable => trivial
  | tok k fr => exact h
  | part fr => exact h
  | box b => exact h.elim
  | junk => exact h.elim
theorem wrsO_spec {rd : Nat → Option (List EV)} {a : List (Nat × Nat)} : ∀ (l : List (List EV)) (i : Nat) (ws : List Wr), wrsO rd a i l = some ws → ws.length = l.length ∧
    ∀ (j : Nat) out, l[j]? = some out → ∃ b cs, asgGet a (i + j) = some b ∧ rd b = some cs ∧ ws[j]? = some ⟨b, 0, out⟩ ∧ out.length = cs.length := by
  intro l
  induction l with
  | nil => intro i ws h; simp only [wrsO] at h; cases h; exact ⟨rfl, fun j out h => by simp at h⟩
  | cons c r ih =>
    intro i ws h
    simp only [wrsO] at h
    split at h
    · rename_i b hb
      split at h
      · rename_i cs hcs
        split at h
        · rename_i hl
          split at h
          · rename_i ws' hws
            cases h
            obtain ⟨h1, h2⟩ := ih _ _ hws
            refine ⟨by simp [h1], fun j out hj => ?_⟩
            cases j with
            | zero =>
              simp only [List.getElem?_cons_zero, Option.some.injEq] at hj
              subst hj
              exact ⟨b, cs, hb, hcs, rfl, Nat.eq_of_beq_eq_true hl⟩
            | succ j =>
              obtain ⟨b', cs', q1, q2, q3, q4⟩ := h2 j out (by simpa using hj)
              exact ⟨b', cs', by rw [show i + (j + 1) = i + 1 + j by omega]; exact q1, q2, by simpa using q3, q4⟩
          · cases h
        · cases h
      · cases h
    · cases h
theorem wrsO_mem {rd : Nat → Option (List EV)} {a : List (Nat × Nat)} : ∀ (l : List (List EV)) (i : Nat) (ws : List Wr), wrsO rd a i l = some ws → ∀ z ∈ ws, z.b ∈ a.map (·.2) ∧ ∃ cs, rd z.b = some cs ∧ z.off + z.new.length ≤ cs.length := by
  intro l
  induction l with
  | nil => intro i ws h; simp only [wrsO] at h; cases h; simp
  | cons c r ih =>
    intro i ws h
    simp only [wrsO] at h
    split at h
    · rename_i b hb
      split at h
      · rename_i cs hcs
        split at h
        · rename_i hl
          split at h
          · rename_i ws' hws
            cases h
            intro z hz
            rcases List.mem_cons.1 hz with rfl | hz
            · have := Nat.eq_of_beq_eq_true hl
              exact ⟨List.mem_map.2 ⟨_, asgGet_mem _ _ _ hb, rfl⟩, cs, hcs, by simp only; omega⟩
            · exact ih _ _ hws z hz
          · cases h
        · cases h
      · cases h
    · cases h
theorem boxGet_some {l : List (List EV)} {b : Nat} {cs : List EV} : boxGet (l.map some) b = some cs ↔ l[b]? = some cs := by
  rw [boxGet_spec, List.getElem?_map]
  cases l[b]? <;> simp
theorem resEV_two {ow ow' : Nat → Owner} {bx bx' : Bx} {w : World} {es es' : List EV} (hl : es'.length = es.length) (h : ∀ (i : Nat) e e' v, es[i]? = some e → es'[i]? = some e' → RepEV ow bx w e v → RepEV ow' bx' w e' v) {v : Value}
    (hv : RepEV ow bx w (resEV es) v) : RepEV ow' bx' w (resEV es') v := by
  match es, es', hl with
  | [], [], _ => cases hv with | tup h1 h2 => exact .tup h1 fun i e v he => by simp at he
  | [e], [e'], _ => exact h 0 e e' v rfl rfl hv
  | e1 :: e2 :: l, e1' :: e2' :: l', hl =>
    cases hv with
    | tup h1 h2 =>
      refine .tup (by rw [← h1]; simpa using hl) fun i e v he hv => ?_
      have hlt : i < (e1 :: e2 :: l).length := by rw [← hl]; exact (List.getElem?_eq_some_iff.1 he).1
      exact h i _ e v (List.getElem?_eq_getElem hlt) he (h2 i _ v (List.getElem?_eq_getElem hlt) hv)
theorem find_tok (f tn : Nat → Nat) (htn : ∀ κ, tn κ = f κ + BIG) : ∀ (l : List Nat) (κ : Nat), nodupB (l.map f) = true → κ ∈ l → soft κ = true → l.find? (fun κ' => soft κ' && Nat.beq (tn κ') (tn κ)) = some κ := by
  intro l κ
  induction l with
  | nil => intro _ h; simp at h
  | cons y r ih =>
    intro hnd hm hs
    simp only [List.map_cons, nodupB, Bool.and_eq_true, Bool.not_eq_true'] at hnd
    rw [List.find?_cons]
    cases hb : (soft y && Nat.beq (tn y) (tn κ)) with
    | true =>
      simp only
      rcases List.mem_cons.1 hm with rfl | hm
      · rfl
      · exfalso
        rw [Bool.and_eq_true] at hb
        have he := Nat.eq_of_beq_eq_true hb.2
        rw [htn, htn] at he
        have he : f y = f κ := Nat.add_right_cancel he
        exact natIn_false hnd.1 (by rw [he]; exact List.mem_map.2 ⟨κ, hm, rfl⟩)
    | false =>
      simp only
      rcases List.mem_cons.1 hm with rfl | hm
      · rw [Nat.beq_refl, hs] at hb; cases hb
      · exact ih hnd.2 hm hs
theorem born_new {B : Base} {ow : Nat → Owner} {bx : Bx} {nb : Nat} {bg : Nat → Option (List EV)} {w : World} (hi : Inv B ow bx nb bg w) {k : Nat} (hk : bx.dead k = false) : bx.tb (k + BIG) = none := by
  cases hb : bx.tb (k + BIG) with
  | none => rfl
  | some y =>
    rcases hi.born (k + BIG) (by rw [hb]; rfl) with h | h
    · exact absurd h (Nat.not_lt.2 (Nat.le_add_left _ _))
    · rw [Nat.add_sub_cancel, hk] at h
      cases h.1
theorem own_born {B : Base} {ow : Nat → Owner} {bx : Bx} {nb : Nat} {bg : Nat → Option (List EV)} {w : World} (hi : Inv B ow bx nb bg w) {f tn : Nat → Nat} (htn : ∀ κ, tn κ = f κ + BIG) {l ks : List Nat} (hfB : ∀ κ ∈ l, soft κ = true → f κ < BIG) {tb' : Nat → Option (Nat × (Nat × Nat))} {j : Nat}
    (hj : (match bx.tb j with
      | some x => some x
      | none => match l.find? (fun κ => soft κ && Nat.beq (tn κ) j) with
        | some κ => tb' κ
        | none => none).isSome = true) : j < BIG ∨ ((bx.dead (j - BIG) || killB (ks ++ l.map f) (j - BIG)) = true ∧ j < 2 * BIG) := by
  split at hj
  · rename_i x hx
    exact (hi.born j (by rw [hx]; rfl)).imp (fun h => h) fun h => ⟨by rw [h.1]; rfl, h.2⟩
  · split at hj
    · rename_i κ hκ
      right
      have hb := List.find?_some hκ
      have hm := List.mem_of_find?_eq_some hκ
      rw [Bool.and_eq_true] at hb
      have he := Nat.eq_of_beq_eq_true hb.2
      rw [htn] at he
      have he2 : j - BIG = f κ := by rw [← he, Nat.add_sub_cancel]
      have hB := hfB _ hm hb.1
      refine ⟨?_, by omega⟩
      rw [he2]
      have : killB (ks ++ l.map f) (f κ) = true := by
        unfold killB
        rw [List.any_eq_true]
        exact ⟨_, List.mem_append_right _ (List.mem_map.2 ⟨κ, hm, rfl⟩), Nat.beq_refl _⟩
      rw [this, Bool.or_true]
    · cases hj
theorem setEnv_own {P : Program} {c : OCon} (hc : OConOK P c) {dead : List Nat} {dst : Option Nat} {es l l' : List EV} {a a' tk tk' : List (Nat × Nat)} {rd : Nat → Option (List EV)} {x : c.ins.den} {y : c.outs.den} {vs d : List EV} {ws : List Wr}
    (h1 : matchO dead c.ps es [] [] = some (l, a, tk)) (h2 : matchOB dead rd 0 c.boxes a tk = some (l', a', tk')) (hp : oplain c (l ++ l').length a' = true) (h3 : packL c.ins (l ++ l') = some x) (h4 : c.F x = some y)
    (h5 : fillO (fun κ => tokNew dst tk' κ + BIG) (boxNo a') c.rs (unpackL c.outs c.nout y) = (vs, d)) (h6 : wrsO rd a' 0 (fillOB (fun κ => tokNew dst tk' κ + BIG) (boxNo a') c.aft d) = some ws) (h7 : nodupB (c.outKs.map (tokNew dst tk')) = true) (h8 : ∀ κ ∈ c.outKs, soft κ = true → tokNew dst tk' κ < BIG)
    {B : Base} {ow : Nat → Owner} {bx : Bx} {nb : Nat} {bg : Nat → Option (List EV)} {w : World} {args : Array Value} (id' : Nat) (hi : Inv B ow bx nb bg w) (hargs : RepL ow bx w es args)
    (hrd : ∀ b ∈ a'.map (·.2), bg b = rd b) (hdead : ∀ k ∈ tk'.map (·.2) ++ c.outKs.map (tokNew dst tk'), bx.dead k = false) :
    Calls P c.f args w fun e w' => ∃ v ow' bx', e = .returned v ∧ Keeps ow bx w ow' bx' w' ∧ RepEV ow' bx' w' (resEV vs) v ∧ Inv B ow' bx' nb (upd bg id' none ws) w' ∧ ∀ j, bx'.dead j = (bx.dead j || killB (tk'.map (·.2) ++ c.outKs.map (tokNew dst tk')) j) := by
  simp only [oplain, Bool.and_eq_true] at hp
  obtain ⟨⟨hnin, hbel⟩, haft⟩ := hp
  have hnin := Nat.eq_of_beq_eq_true hnin
  have haft := Nat.eq_of_beq_eq_true haft
  have hbelow := asgBelow_spec _ _ hbel
  obtain ⟨m1, m2, m3, m4, m5, m6⟩ := matchO_fill (ow := ow) (ow' := owO a' tk' ow) (bx := bx) (bx' := bxO a' tk' bx) (w := w) c.ps es [] [] l a tk h1
  obtain ⟨b1, b2, b3, b4, b5, b6, b7, b8⟩ := matchOB_fill c.boxes 0 a tk l' a' tk' h2
  have hok : AsgOK a' := b1 (m1 .nil)
  have htok : AsgOK tk' := b2 (m2 .nil)
  have htks : ∀ p ∈ tk', p.2 ∉ dead ∧ p.2 % 100000 = p.1 % 100000 ∧ p.1 < BIG := b5 (m5 fun p hp => by simp at hp)
  have htr := trO hok htok ow bx
  have hdd : ∀ k, k ∉ dead → (∃ κ, (κ, k) ∈ tk') → bx.dead k = false := fun k _ ⟨κ, hk⟩ => hdead k (List.mem_append_left _ (List.mem_map.2 ⟨_, hk, rfl⟩))
  obtain ⟨es', f1, f2, f3⟩ := m6 l'
  have hun : unpackL c.ins c.nin x = l ++ l' := by
    have := packL_unpackL c.ins (l ++ l') x h3 (fun e he => by
      rcases List.mem_append.1 he with he | he
      · exact matchO_dat _ _ _ _ _ _ _ h1 e he
      · exact b6 e he)
    rw [hnin] at this
    exact this
  have hargs0 : c.args0 x = es' := by unfold OCon.args0; rw [hun, f1]
  have hboxes0 : c.boxes0 x = (fillOB id id c.boxes l').map some := by unfold OCon.boxes0; rw [hun, f1]
  -- what each box is
  have hbox : ∀ i, i < c.boxes.length → ∃ b cs cs', (i, b) ∈ a' ∧ bg b = some cs ∧ (fillOB id id c.boxes l')[i]? = some cs' ∧ cs'.length = cs.length ∧
      ∀ (k : Nat) e e' v, cs[k]? = some e → cs'[k]? = some e' → RepEV ow bx w e v → RepEV (owO a' tk' ow) (bxO a' tk' bx) w e' v := by
    intro i hlt
    obtain ⟨b, cs, cs', k1, k2, k3, k4, k5⟩ := b8 i hlt
    rw [Nat.zero_add] at k1
    refine ⟨b, cs, cs', k1, ?_, k3, k4, k5 ow _ bx _ w htr hdd⟩
    rw [hrd b (List.mem_map.2 ⟨(i, b), k1, rfl⟩)]
    exact k2
  have hcall : ∀ blk i, owO a' tk' ow blk = .box i → ∃ b, (i, b) ∈ a' ∧ ow blk = .box b ∧ blk = bx b := by
    intro blk i h
    obtain ⟨b, g1, g2⟩ := owO_box h
    exact ⟨b, g1, g2, (hi.back blk b g2).1⟩
  have hglob : GlobOK (owO a' tk' ow) w := hi.glob.keep (.of fun blk n h => ⟨owO_rigid h, rfl⟩)
  have hinv : Inv ⟨w, fun blk => (∃ b, owO a' tk' ow blk = .box b) ∨ ∃ k fr, owO a' tk' ow blk = .tok k fr, owO a' tk' ow, c.boxes.length, bxO a' tk' bx, hglob⟩ (owO a' tk' ow) (bxO a' tk' bx) c.boxes.length (boxGet (c.boxes0 x)) w := by
    rw [hboxes0]
    constructor
    · intro i cs' hcs'
      rw [boxGet_some] at hcs'
      have hlt : i < c.boxes.length := by rw [← b7]; exact (List.getElem?_eq_some_iff.1 hcs').1
      obtain ⟨b, cs, cs'', k1, k2, k3, k4, k5⟩ := hbox i hlt
      rw [hcs'] at k3
      cases k3
      obtain ⟨g1, c0, T, g2, g3⟩ := hi.box b cs k2
      obtain ⟨t1, t2⟩ := htr.bo i b k1 g1
      refine ⟨by rw [t1]; exact t2, c0, T, by rw [t1]; exact g2, by rw [k4, g3.1], fun k e v he hv => ?_⟩
      have hklt : k < cs.length := by rw [← k4]; exact (List.getElem?_eq_some_iff.1 he).1
      exact ⟨k5 k _ e v (List.getElem?_eq_getElem hklt) he (g3.2 k _ v (List.getElem?_eq_getElem hklt) hv).1, (g3.2 k _ v (List.getElem?_eq_getElem hklt) hv).2⟩
    · intro blk i h
      obtain ⟨b, k1, k2, k3⟩ := hcall blk i h
      have hlt := hbelow i b k1
      obtain ⟨t1, t2⟩ := htr.bo i b k1 (by rw [← k3]; exact k2)
      refine ⟨by rw [t1]; exact k3, ?_, hlt⟩
      obtain ⟨_, _, cs'', _, _, j3, _⟩ := hbox i hlt
      rw [boxGet_some.2 j3]
      rfl
    · intro blk h
      refine hi.here blk fun e => h ?_
      simp [owO, e]
    · intro blk _ h
      exact ⟨rfl, rfl, fun b hb => h (.inl ⟨b, hb⟩), fun k fr hb => h (.inr ⟨k, fr, hb⟩)⟩
    · exact Nat.le_refl _
    · exact ⟨rfl, rfl, rfl⟩
    · intro i hlt
      obtain ⟨_, _, cs'', _, _, j3, _⟩ := hbox i hlt
      exact ⟨rfl, by rw [boxGet_some.2 j3]; rfl⟩
    · exact .refl _ _
    · intro j hj
      left
      simp only [bxO] at hj
      split at hj
      · rename_i k hk; exact (htks _ (asgGet_mem _ _ _ hk)).2.2
      · cases hj
  have hrepl : RepL (owO a' tk' ow) (bxO a' tk' bx) w (c.args0 x) args := by
    rw [hargs0]
    refine ⟨by rw [f2]; exact hargs.1, fun i e v he hv => ?_⟩
    have hlt : i < es.length := by rw [← f2]; exact (List.getElem?_eq_some_iff.1 he).1
    exact f3 a' tk' b3 b4 htr hdd i _ e v (List.getElem?_eq_getElem hlt) he (hargs.2 i _ v (List.getElem?_eq_getElem hlt) hv)
  refine (hc.go x y h4 w (owO a' tk' ow) (bxO a' tk' bx) args hglob (fun _ => rfl) hinv hrepl).mono fun e w' ⟨v, ow', tb', he, hinv', hv⟩ => ?_
  subst he
  -- the caller's view of the new world
  have hsz := hinv'.size
  simp only at hsz
  generalize htn : (fun κ => tokNew dst tk' κ + BIG) = tn at h5 h6
  have htn5 : ∀ κ, tn κ % 100000 = κ % 100000 := by
    intro κ
    subst htn
    simp only [tokNew]
    split
    · rename_i k hk
      have := (htks _ (asgGet_mem _ _ _ hk)).2.1
      simp only at this
      rw [← this]
      unfold BIG
      omega
    · split
      · rename_i dd _; unfold BIG; omega
      · unfold BIG; omega
  let given : Nat → Prop := fun blk => ∃ k fr, owO a' tk' ow blk = .tok k fr
  let ow2 : Nat → Owner := fun blk => open Classical in if blk < w.heap.size ∧ ¬ given blk then ow blk else tokBack tn (ow' blk)
  have htnK : ∀ κ, tn κ = tokNew dst tk' κ + BIG := fun κ => by rw [← htn]
  let tb2 : Nat → Option (Nat × (Nat × Nat)) := fun j => match bx.tb j with
    | some x => some x
    | none => match c.outKs.find? (fun κ => soft κ && Nat.beq (tn κ) j) with
      | some κ => tb' κ
      | none => none
  let bx2 : Bx := ⟨bx.f, fun j => bx.dead j || killB (tk'.map (·.2) ++ c.outKs.map (tokNew dst tk')) j, tb2⟩
  let bxE : Bx := ⟨(bxO a' tk' bx).f, (bxO a' tk' bx).dead, tb'⟩
  have hM : ∀ blk b, ow blk = .box b → (∀ i, (i, b) ∉ a') → owO a' tk' ow blk = .junk := by
    intro blk b hb hn
    unfold owO
    rw [hb]
    simp only
    split
    · rename_i j hj; exact absurd (asgInv_mem _ _ _ hj) (hn j)
    · rfl
  have hold : ∀ blk, blk < w.heap.size → (∀ b, owO a' tk' ow blk ≠ .box b) → ¬ given blk → w'.heap[blk]? = w.heap[blk]? ∧ ow' blk = owO a' tk' ow blk := by
    intro blk hlt h hg
    obtain ⟨g1, g2, _⟩ := hinv'.old blk hlt (fun h' => h'.elim (fun ⟨b, hb⟩ => h b hb) hg)
    exact ⟨g1, g2⟩
  have hboxg : ∀ blk b, ow blk = .box b → ¬ given blk := by
    rintro blk b hb ⟨k, fr, h⟩
    obtain ⟨_, _, h⟩ := owO_tok h
    rw [hb] at h
    cases h
  have hoo : ∀ blk, blk < w.heap.size → ¬ given blk → ow2 blk = ow blk := fun blk h1 h2 => if_pos ⟨h1, h2⟩
  have hon : ∀ blk, ¬ (blk < w.heap.size ∧ ¬ given blk) → ow2 blk = tokBack tn (ow' blk) := fun blk h => if_neg h
  -- a box that is handed over is still there
  have hbx' : ∀ blk i, owO a' tk' ow blk = .box i → ow' blk = .box i := by
    intro blk i h
    obtain ⟨b, k1, k2, k3⟩ := hcall blk i h
    have hlt := hbelow i b k1
    obtain ⟨t1, _⟩ := htr.bo i b k1 (by rw [← k3]; exact k2)
    obtain ⟨h1, h2⟩ := hinv'.kept i hlt
    obtain ⟨cs, hcs⟩ := Option.isSome_iff_exists.1 h2
    have := (hinv'.box i cs hcs).1
    rw [t1, ← k3] at this
    exact this
  have hst2 : ∀ blk n, Rigid ow' blk n → Rigid ow2 blk n := by
    intro blk n h
    by_cases hlt : blk < w.heap.size ∧ ¬ given blk
    · refine rigid_eq (ow := ow) (owO_back (a := a') (tk := tk') ?_) (hoo blk hlt.1 hlt.2)
      by_cases hm : ∀ b, owO a' tk' ow blk ≠ .box b
      · exact rigid_eq h (hold blk hlt.1 hm hlt.2).2.symm
      · exfalso
        obtain ⟨i, hcb⟩ : ∃ i, owO a' tk' ow blk = .box i := Classical.byContradiction fun hn => hm fun b hb => hn ⟨b, hb⟩
        exact rigid_box h i (hbx' blk i hcb)
    · unfold Rigid
      rw [hon blk hlt]
      exact tokBack_rigid h
  have hkeep : Keeps ow bx w ow2 bx2 w' := by
    refine ⟨fun blk n c0 T fz h hc0 => ?_, fun blk k fr h hd => ?_, fun k hd => ?_, fun b h => ?_, fun k x hx => by simp only [bx2, tb2, hx]⟩
    · have hlt := hi.here blk (rigid_live h)
      obtain ⟨q1, c1, fz1, q2, q3⟩ := hinv'.st blk n c0 T fz (owO_rigid h) hc0
      exact ⟨hst2 blk n q1, c1, fz1, q2, q3⟩
    · have hlt := hi.here blk (by rw [h]; intro e; cases e)
      have hng : ¬ given blk := by
        rintro ⟨κ, fr', hg⟩
        obtain ⟨k', hk', hb'⟩ := owO_tok hg
        rw [h] at hb'
        cases hb'
        have hmem : k ∈ tk'.map (·.2) ++ c.outKs.map (tokNew dst tk') := List.mem_append_left _ (List.mem_map.2 ⟨_, hk', rfl⟩)
        have hkill : killB (tk'.map (·.2) ++ c.outKs.map (tokNew dst tk')) k = true := by
          unfold killB
          rw [List.any_eq_true]
          exact ⟨k, hmem, Nat.beq_refl k⟩
        simp only [bx2, hdead k hmem, hkill] at hd
        cases hd
      refine ⟨by rw [hoo blk hlt hng]; exact h, (hold blk hlt (fun b hb => ?_) hng).1⟩
      obtain ⟨_, _, g2⟩ := owO_box hb
      rw [h] at g2
      cases g2
    · simp only [bx2, Bool.or_eq_false_iff] at hd
      exact hd.1
    · have hlt := hi.here (bx b) (by rw [h]; intro e; cases e)
      exact ⟨rfl, by rw [hoo _ hlt (hboxg _ b h)]; exact h⟩
  have hdat : ∀ e ∈ unpackL c.outs c.nout y, ∃ t v, e = EV.dat t v := unpack_dat _ _ _
  have htk2 : ∀ κ ∈ c.outKs, tn κ % 100000 = κ % 100000 ∧ (∀ blk fr, ow' blk = .tok κ fr → ow2 blk = .tok (tn κ) fr) ∧ (soft κ = true → ∀ x, bxE.tb κ = some x → bx2.tb (tn κ) = some x) := by
    refine fun κ hκ => ⟨htn5 κ, fun blk fr h => ?_, fun hs x hx => ?_⟩
    rotate_left
    · have hn : bx.tb (tn κ) = none := by
        rw [htnK]
        exact born_new hi (hdead _ (List.mem_append_right _ (List.mem_map.2 ⟨κ, hκ, rfl⟩)))
      have hf : c.outKs.find? (fun κ' => soft κ' && Nat.beq (tn κ') (tn κ)) = some κ := by
        exact find_tok (tokNew dst tk') tn htnK _ κ h7 hκ hs
      simp only [bx2, tb2, hn, hf]
      exact hx
    have hn : ¬ (blk < w.heap.size ∧ ¬ given blk) := by
      rintro ⟨hlt, hg⟩
      by_cases hm : ∀ b, owO a' tk' ow blk ≠ .box b
      · rw [(hold blk hlt hm hg).2] at h
        exact hg ⟨κ, fr, h⟩
      · obtain ⟨i, hcb⟩ : ∃ i, owO a' tk' ow blk = .box i := Classical.byContradiction fun hn => hm fun b hb => hn ⟨b, hb⟩
        rw [hbx' blk i hcb] at h
        cases h
    rw [hon blk hn, h]
    rfl
  have hbo2 : ∀ i, ow' (bxE i) = .box i → bx2 (boxNo a' i) = bxE i ∧ ow2 (bxE i) = .box (boxNo a' i) := by
    intro i h
    obtain ⟨_, q2, q3⟩ := hinv'.back _ i h
    obtain ⟨b, cs, cs', k1, k2, _⟩ := hbox i q3
    obtain ⟨g1, _⟩ := hi.box b cs k2
    have hbn : boxNo a' i = b := by unfold boxNo; rw [hok.key i b k1]
    have hbc : bxE i = bx b := by simp [bxE, bxO, bxCall, hok.key i b k1]
    rw [hbn, hbc]
    have hlt := hi.here (bx b) (by rw [g1]; intro e; cases e)
    exact ⟨rfl, by rw [hoo _ hlt (hboxg _ b g1)]; exact g1⟩
  obtain ⟨r1, r2, r3, r4⟩ := fillO_two (w := w') (tn := tn) (bn := boxNo a') (ow' := ow2) (bx := bxE) (bx' := bx2) hst2 (fun _ => rfl) htk2 hbo2 c.rs _ (fun κ h => List.mem_append_left _ h) hdat
  rw [h5] at r1 r2 r4
  simp only at r1 r2 r4
  have hv2 : RepEV ow2 bx2 w' (resEV vs) v := resEV_two r2 r4 hv
  obtain ⟨s1, s2, s3⟩ := fillOB_two (w := w') (tn := tn) (bn := boxNo a') (ow' := ow2) (bx := bxE) (bx' := bx2) hst2 (fun _ => rfl) htk2 hbo2 c.aft (fillO id id c.rs (unpackL c.outs c.nout y)).2 (fun κ h => List.mem_append_right _ h) fun e he => hdat e (r3 e he)
  rw [← r1] at s1 s2 s3
  have hb1 : c.boxes1 y = (fillOB id id c.aft d).map some := by unfold OCon.boxes1; rw [← r1]
  obtain ⟨k1, k3⟩ := wrsO_spec _ _ _ h6
  refine ⟨v, ow2, bx2, rfl, hkeep, hv2, ?_, fun j => rfl⟩
  have hwsb : ∀ (k : Nat) x, ws[k]? = some x → (k, x.b) ∈ a' := by
    intro k x hx
    have hk : k < (fillOB tn (boxNo a') c.aft d).length := by rw [← k1]; exact (List.getElem?_eq_some_iff.1 hx).1
    obtain ⟨b, cs, g1, g2, g3, g4⟩ := k3 k _ (List.getElem?_eq_getElem hk)
    rw [hx] at g3
    cases g3
    rw [Nat.zero_add] at g1
    exact asgGet_mem _ _ _ g1
  constructor
  · intro b cs2 hb2
    simp only [upd, updN] at hb2
    by_cases hin : ∃ i, (i, b) ∈ a'
    · obtain ⟨i, hi'⟩ := hin
      have hlt := hbelow i b hi'
      have hlt2 : i < (fillOB tn (boxNo a') c.aft d).length := by rw [s1, haft]; exact hlt
      have hlt3 : i < (fillOB id id c.aft d).length := by rw [s2, haft]; exact hlt
      obtain ⟨b', cs, q1, q2, q3, q4⟩ := k3 i _ (List.getElem?_eq_getElem hlt2)
      rw [Nat.zero_add, hok.key i b hi'] at q1
      cases q1
      obtain ⟨b0, cs0, cs0', p1, p2, p3, p4, p5⟩ := hbox i hlt
      have : b0 = b := by have := hok.key i b0 p1; rw [hok.key i b hi'] at this; cases this; rfl
      subst this
      have hrdb : rd b0 = bg b0 := (hrd b0 (List.mem_map.2 ⟨(i, b0), hi', rfl⟩)).symm
      have hcs : cs = cs0 := by rw [hrdb, p2] at q2; cases q2; rfl
      subst hcs
      rw [foldl_updW_at ws bg b0 _ cs i q3 p2 q4 (fun k x hx he => by
        have := hwsb k x hx
        rw [he] at this
        exact hok.inj k i b0 this hi')] at hb2
      obtain ⟨z1, z2⟩ := s3 i _ _ (List.getElem?_eq_getElem hlt3) (List.getElem?_eq_getElem hlt2)
      generalize (fillOB tn (boxNo a') c.aft d)[i] = out at hb2 z1 z2 q4
      cases hb2
      obtain ⟨g1, c0, T, g2, g3⟩ := hi.box b0 cs p2
      obtain ⟨t1, t2⟩ := htr.bo i b0 hi' g1
      have hbg' : boxGet (c.boxes1 y) i = some ((fillOB id id c.aft d)[i]) := by rw [hb1, boxGet_some]; exact List.getElem?_eq_getElem hlt3
      obtain ⟨w1, c1, T1, w2, w3⟩ := hinv'.box i _ hbg'
      change ow' ((bxO a' tk' bx) i) = _ at w1
      change w'.heap[(bxO a' tk' bx) i]? = _ at w2
      rw [t1] at w1 w2
      have hltb := hi.here (bx b0) (by rw [g1]; intro e; cases e)
      refine ⟨by rw [hoo _ hltb (hboxg _ b0 g1)]; exact g1, c1, T1, w2, by rw [z1]; exact w3.1, fun k e v' he hv' => ?_⟩
      have hklt : k < ((fillOB id id c.aft d)[i]).length := by rw [← z1]; exact (List.getElem?_eq_some_iff.1 he).1
      obtain ⟨r4, r5⟩ := w3.2 k _ v' (List.getElem?_eq_getElem hklt) hv'
      exact ⟨z2 k _ e v' (List.getElem?_eq_getElem hklt) he r4, r5⟩
    · have hne : ∀ x ∈ ws, x.b ≠ b := fun x hx e => by
        obtain ⟨k, hk⟩ := List.getElem?_of_mem hx
        exact hin ⟨k, e ▸ hwsb k x hk⟩
      rw [foldl_updW_other ws bg b hne] at hb2
      obtain ⟨g1, c0, T, g2, g3⟩ := hi.box b cs2 hb2
      have hltb := hi.here (bx b) (by rw [g1]; intro e; cases e)
      have hj := hM (bx b) b g1 (fun i h => hin ⟨i, h⟩)
      exact ⟨by rw [hoo _ hltb (hboxg _ b g1)]; exact g1, c0, T, by rw [(hold (bx b) hltb (by rw [hj]; intro b h; cases h) (hboxg _ b g1)).1]; exact g2, g3.keep hkeep⟩
  · intro blk b h
    by_cases hlt : blk < w.heap.size ∧ ¬ given blk
    · rw [hoo blk hlt.1 hlt.2] at h
      obtain ⟨g1, g2, g3⟩ := hi.back blk b h
      exact ⟨g1, by simp only [upd, updN]; rw [foldl_updW_isSome]; exact g2, g3⟩
    · rw [hon blk hlt] at h
      unfold tokBack at h
      split at h <;> cases h
  · intro blk h
    by_cases hlt : blk < w.heap.size ∧ ¬ given blk
    · omega
    · rw [hon blk hlt] at h
      refine hinv'.here blk fun e => h ?_
      rw [e]
      rfl
  · intro blk hlt hnm
    obtain ⟨g1, g2, g3⟩ := hi.old blk hlt hnm
    have hs := hi.size
    have hlt2 : blk < w.heap.size := by omega
    have hng : ¬ given blk := by
      rintro ⟨κ, fr, hg⟩
      obtain ⟨k', _, hb'⟩ := owO_tok hg
      exact g3.2 _ _ hb'
    have hc' : ∀ b, owO a' tk' ow blk ≠ .box b := by
      intro b hb
      obtain ⟨b', _, k2⟩ := owO_box hb
      exact g3.1 b' k2
    exact ⟨by rw [(hold blk hlt2 hc' hng).1]; exact g1, by rw [hoo blk hlt2 hng]; exact g2, by rw [hoo blk hlt2 hng]; exact g3⟩
  · have := hi.size; omega
  · obtain ⟨e1, e2, e3⟩ := hinv'.env
    obtain ⟨e4, e5, e6⟩ := hi.env
    exact ⟨by rw [e1]; exact e4, by rw [e2]; exact e5, by rw [e3]; exact e6⟩
  · intro b hb
    obtain ⟨h1, h2⟩ := hi.kept b hb
    exact ⟨h1, by simp only [upd, updN]; rw [foldl_updW_isSome]; exact h2⟩
  · exact hi.st.trans hkeep.st
  · intro j hj
    exact own_born hi htnK h8 hj
theorem ownFind_spec {f : Nat} : ∀ (l : List OCon) (c : OCon), ownFind f l = some c → c ∈ l ∧ c.f = f
  | [], c, h => by cases h
  | d :: r, c, h => by
    simp only [ownFind] at h
    split at h
    · rename_i hk
      cases h
      exact ⟨by simp, Nat.eq_of_beq_eq_true hk⟩
    · obtain ⟨h1, h2⟩ := ownFind_spec r c h
      exact ⟨by simp [h1], h2⟩
theorem clo_args {A : Operand → EV} {o : Oper} {k : Call} {f : Operand} {fid : Nat} {fst caps : List EV} (ho : o.op = .call k) (hk : k.callee = .value f) (he : A f = .clo fid fst caps) {ow : Nat → Owner} {bx : Bx} {w : World} {a : Act} (hA : Args ow bx w A a.eval o.op) :
    ∃ fs cs, a.eval f = .func (.func fid) fs cs ∧ RepL ow bx w (fst ++ k.args.toList.map A ++ caps) (fs ++ k.args.map a.eval ++ cs) := by
  have hall := call_args ho hA
  have hfv := hall f (by simp [Call.operands, hk])
  rw [he] at hfv
  generalize hpe : a.eval f = u at hfv
  cases hfv with
  | clo h1 h2 h3 h4 =>
    rename_i fs cs
    refine ⟨fs, cs, rfl, by simp [h1, h2], fun i e v hi hv => ?_⟩
    rw [List.getElem?_append] at hi
    rw [Array.getElem?_append] at hv
    simp only [List.length_append, List.length_map, Array.length_toList, h1] at hi
    simp only [Array.size_append, Array.size_map] at hv
    split at hi
    · rename_i hlt
      rw [if_pos hlt] at hv
      rw [List.getElem?_append] at hi
      rw [Array.getElem?_append] at hv
      rw [h1] at hi
      split at hi
      · rename_i hlt2
        rw [if_pos hlt2] at hv
        exact h3 i e v hi hv
      · rename_i hlt2
        rw [if_neg hlt2] at hv
        simp only [List.getElem?_map, Array.getElem?_map, Option.map_eq_some_iff] at hi hv
        obtain ⟨x, hx, rfl⟩ := hi
        obtain ⟨y, hy, rfl⟩ := hv
        have : x = y := by have : k.args.toList[i - fs.size]? = some y := by simpa using hy
                           rw [hx] at this; cases this; rfl
        subst this
        exact hall x (by simp only [Call.operands]; exact Array.mem_append.2 (.inr (Array.mem_of_getElem? hy)))
    · rename_i hlt
      rw [if_neg hlt] at hv
      exact h4 _ e v hi hv
theorem own_sound {ρ : Type} {P : Program} {Γ : Cx} (hΓ : CxOK P Γ) {dead : List Nat} {rd : Nat → Option (List EV)} {o : Oper} {A : Operand → EV} {c : OCon} {args : List EV} {q : EV → List Wr → List Nat → List Nat → Option ρ} {r : ρ} (hoc : ownCall Γ A o.op = some (c, args))
    (h : ownE dead o.dst rd c args q = some r) : ∃ v ws tr ks, q v ws tr ks = some r ∧ (∀ k ∈ ks, k ∉ dead) ∧ (∀ x ∈ ws, x.b ∈ tr ∧ ∃ cs, rd x.b = some cs ∧ x.off + x.new.length ≤ cs.length) ∧
      ∀ id B ow bx nb bg w (a : Act), Inv B ow bx nb bg w → Args ow bx w A a.eval o.op → (∀ b ∈ tr, bg b = rd b) → (∀ k ∈ ks, bx.dead k = false) → GoesK P B ow bx nb bg w a o id v none ws ks [] := by
  unfold ownCall at hoc
  split at hoc
  · rename_i k ho
    split at hoc
    · rename_i f hk
      split at hoc
      · cases hoc
      · split at hoc
        · rename_i fid fst caps he
          split at hoc
          · rename_i oc hf
            cases hoc
            obtain ⟨hmem, hfid⟩ := ownFind_spec _ _ hf
            subst hfid
            have hc := hΓ.owns c hmem
            unfold ownE at h
            split at h
            · cases h
            · rename_i l a tk h1
              split at h
              · cases h
              · rename_i l' a' tk' h2
                split at h
                · rename_i x hp h3
                  cases hF : c.F x with
                  | none => rw [hF] at h; cases h
                  | some y =>
                    rw [hF] at h
                    simp only [Option.bind_some] at h
                    split at h
                    · rename_i ws h6
                      split at h
                      rotate_left
                      · cases h
                      rename_i h7
                      simp only [Bool.and_eq_true] at h7
                      refine ⟨_, _, _, _, h, fun k hk => ?_, fun z hz => ?_, fun id B ow bx nb bg w act hi hA hb hd => ?_⟩
                      · rcases List.mem_append.1 hk with hk | hk
                        rotate_left
                        · obtain ⟨κ, hκ, rfl⟩ := List.mem_map.1 hk
                          have := List.all_eq_true.1 h7.2 κ hκ
                          simp only [Bool.and_eq_true, Bool.not_eq_true'] at this
                          exact natIn_false this.1
                        obtain ⟨p, hp, rfl⟩ := List.mem_map.1 hk
                        have m5 := (matchO_fill (ow := fun _ => .junk) (ow' := fun _ => .junk) (bx := ⟨fun b => b, fun _ => false, fun _ => none⟩) (bx' := ⟨fun b => b, fun _ => false, fun _ => none⟩) (w := default) c.ps _ [] [] l a tk h1).2.2.2.2.1
                        exact ((matchOB_fill c.boxes 0 a tk l' a' tk' h2).2.2.2.2.1 (m5 fun p hp => by simp at hp) p hp).1
                      · exact wrsO_mem _ _ _ h6 z hz
                      · obtain ⟨fs, cs, hf, hrl⟩ := clo_args ho hk he hA
                        intro K Q hK
                        unfold Oper.wp
                        rw [enter_run hc.fn ho hk hf]
                        exact (setEnv_own (dst := o.dst) hc h1 h2 hp h3 hF rfl h6 h7.1 (fun κ hκ hs => (by have := List.all_eq_true.1 h7.2 κ hκ; simp only [Bool.and_eq_true, Bool.or_eq_true, hs, Bool.not_true] at this; exact Nat.le_of_ble_eq_true (this.2.resolve_right (by simp)))) id hi hrl hb hd).mono fun e w' ⟨u, ow', bx', he, g1, g2, g3, g4⟩ => by subst he; exact hK u ow' bx' w' g1 g2 g3 g4 (fun p hp => by simp at hp)
                    · cases h
                · cases h
          · cases hoc
        · cases hoc
    · cases hoc
  · cases hoc
end Go.Proofs.Ytdiebciejcmmhaa

/- What is done to a soft slice does what the reading says. No program in sight. -/
set_option linter.unusedSimpArgs false
set_option linter.unusedVariables false
namespace Go.Proofs.Ytdiebciejcmmhaa
theorem storeVar_loose {P : Program} {T : TypeId} {w : World} {b off n : Nat} {c : Array Value} {U : TypeId} {fz : Nat × Nat} {u : Value} (hs : (sizeOf T).run P w = .ok n w) (hn : u.cells.size = n) (hb : w.heap[b]? = some (.cells c U fz)) (hz : Loose fz c.size)
    (hle : off + u.cells.size ≤ c.size) (h1 : ∀ v ∈ u.cells.toList, v.oneCell' = true) :
    (storeVar T ⟨b, off, none⟩ u).run P w = .ok () (w.setRow b (c.toList.take off ++ u.cells.toList ++ c.toList.drop (off + u.cells.toList.length)).toArray) := by
  have := run_storeCells_loose P b off U fz u.cells.toList 0 c w hb hz (by simpa using hle) h1
  unfold storeVar
  simp only [Sem.run_bind, hs, Result.andThen_ok, hn, ne_eq, not_true_eq_false, if_false]
  simpa using this
/-- A part of a row with a piece laid in. -/
theorem part_laid {α : Type} {C nvs : List α} {i o s : Nat} (ho : o + nvs.length ≤ s) (hC : i * s + s ≤ C.length) (j : Nat) :
    ((C.take (i * s + o) ++ nvs ++ C.drop (i * s + o + nvs.length)).drop (j * s)).take s =
      if j = i then ((C.drop (i * s)).take s).take o ++ nvs ++ ((C.drop (i * s)).take s).drop (o + nvs.length) else (C.drop (j * s)).take s := by
  have hlt : j < i → j * s + s ≤ i * s := fun h => by have := mul_part (off := 0) (s := s) h; omega
  have hgt : i < j → i * s + s ≤ j * s := fun h => by have := mul_part (off := 0) (s := s) h; omega
  apply List.ext_getElem?
  intro m
  split
  · rename_i e
    subst e
    simp only [List.getElem?_take, List.getElem?_drop, List.getElem?_append, List.length_append, List.length_take, List.length_drop]
    by_cases hm : m < s
    · simp only [hm, if_true]
      by_cases h1 : m < o
      · have e1 : j * s + m < min (j * s + o) C.length := by omega
        have e2 : m < min o (min s (C.length - j * s)) := by omega
        have e3 : j * s + m < min (j * s + o) C.length + nvs.length := by omega
        have e4 : m < min o (min s (C.length - j * s)) + nvs.length := by omega
        have e5 : j * s + m < j * s + o := by omega
        simp only [e1, e2, e3, e4, e5, h1, if_true]
      · have e1 : ¬ j * s + m < min (j * s + o) C.length := by omega
        have e2 : ¬ m < min o (min s (C.length - j * s)) := by omega
        by_cases h2 : m < o + nvs.length
        · have e3 : j * s + m < min (j * s + o) C.length + nvs.length := by omega
          have e4 : m < min o (min s (C.length - j * s)) + nvs.length := by omega
          simp only [e1, e2, e3, e4, if_true, if_false]
          congr 1
          omega
        · have e3 : ¬ j * s + m < min (j * s + o) C.length + nvs.length := by omega
          have e4 : ¬ m < min o (min s (C.length - j * s)) + nvs.length := by omega
          have e5 : o + nvs.length + (m - (min o (min s (C.length - j * s)) + nvs.length)) < s := by omega
          simp only [e1, e2, e3, e4, e5, if_true, if_false]
          congr 1
          omega
    · have e4 : ¬ m < min o (min s (C.length - j * s)) + nvs.length := by omega
      have e5 : ¬ o + nvs.length + (m - (min o (min s (C.length - j * s)) + nvs.length)) < s := by omega
      simp only [hm, e4, e5, if_false]
  · rename_i hne
    simp only [List.getElem?_take, List.getElem?_drop, List.getElem?_append, List.length_append, List.length_take]
    by_cases hm : m < s
    · simp only [hm, if_true]
      by_cases hji : j < i
      · have := hlt hji
        have e1 : j * s + m < min (i * s + o) C.length := by omega
        have e3 : j * s + m < min (i * s + o) C.length + nvs.length := by omega
        have e5 : j * s + m < i * s + o := by omega
        simp only [e1, e3, e5, if_true]
      · have := hgt (by omega)
        have e3 : ¬ j * s + m < min (i * s + o) C.length + nvs.length := by omega
        simp only [e3, if_false]
        congr 1
        omega
    · simp only [hm, if_false]
section
variable {P : Program} {Γ : Cx} {dead : List Nat} {o : Oper} {A : Operand → EV} {r : SoftR}
/-- What is promised of an operation on a soft slice. -/
def SoftOK (P : Program) (dead : List Nat) (A : Operand → EV) (o : Oper) (r : SoftR) : Prop :=
  (∀ k ∈ r.ks, k ∉ dead) ∧ (∀ k ∈ r.us, k ∉ dead) ∧ (∀ p ∈ r.up, p.1 ∈ r.ks ∧ p.1 < BIG ∧ firm p.1 = true) ∧
  ∀ id B ow bx nb bg w (a : Act), Inv B ow bx nb bg w → Args ow bx w A a.eval o.op → (∀ k ∈ r.ks, bx.dead k = false) → (∀ k ∈ r.us, bx.dead k = false) → GoesK P B ow bx nb bg w a o id r.v none [] r.ks r.up
theorem soft_big {d e : Nat} (he : e < 25000) : soft (d * 100000 + 75000 + e + BIG) = true ∧ (d * 100000 + 75000 + e + BIG) % 25000 = e := by
  constructor
  · unfold soft
    apply Nat.ble_eq_true_of_le
    unfold BIG
    omega
  · unfold BIG
    omega
theorem soft_make (hΓ : CxOK P Γ) {t : Nat} {n c : Operand} (ho : o.op = .makeSlice t n c) (h : softMake Γ dead o.dst t (A n) (A c) = some r) (hc : r.c = true) : SoftOK P dead A o r := by
  unfold softMake at h
  split at h
  · cases h
  · rename_i d hdst
    split at h
    · rename_i kn a ha
      split at h
      · rename_i kc b hb
        split at h
        · rename_i dt hdt
          split at h
          · rename_i e es bytes hw
            split at h
            · rename_i de hde
              split at h
              · rename_i k0 z hty hz
                split at h
                · rename_i z0 hz0
                  split at h
                  · rename_i hck
                    cases h
                    simp only [Bool.and_eq_true, Bool.not_eq_true', decide_eq_true_eq] at hck hc
                    obtain ⟨⟨he, hnd⟩, hdB⟩ := hck
                    have hdB : d < 9000000 := Nat.le_of_ble_eq_true hdB
                    have he : e < 25000 := Nat.le_of_ble_eq_true he
                    obtain ⟨⟨⟨ha0, hab⟩, hbb⟩, hb1⟩ := hc
                    have ha0 : @LE.le Int _ 0 a := ha0
                    have hab : @LE.le Int _ a b := hab
                    have hb1 : @LE.le Int _ b 140737488355328 := hb1
                    have hbb : @LE.le Int _ (@HMul.hMul Int Int Int _ b (bytes : Int)) 140737488355328 := hbb
                    have hn1 : Int.toNat a ≤ Int.toNat b := by omega
                    have hn2 : Int.toNat a ≤ 9223372036854775807 := by omega
                    refine ⟨fun k hk => ?_, fun k hk => by simp at hk, fun p hp => by simp at hp, fun id B ow bx nb bg w act hi hA hd _ => ?_⟩
                    · rw [List.mem_singleton] at hk
                      rw [hk]
                      exact natIn_false hnd
                    rw [ho] at hA
                    have hall := args_of hA (by intros; simp)
                    have hn := hall n (by simp [Op.operands])
                    have hcv := hall c (by simp [Op.operands])
                    rw [ha] at hn
                    rw [hb] at hcv
                    have hh := (hΓ.td t dt hdt).how
                    simp only [hw] at hh
                    obtain ⟨_, hu, ⟨gi, zz, g1, g2, g3, g4⟩, _⟩ := hh
                    obtain ⟨i', z', z1, z2, z3, z4, z5⟩ := (hΓ.td e de hde).zero
                    rw [g1] at z1
                    cases z1
                    rw [g4] at z2
                    cases z2
                    rw [hz] at z3 z4 z5
                    simp only [List.length_singleton] at z3 z4
                    have hrun : (execOp act.eval o).run P w = .ok (.value (.slice (some ⟨w.heap.size, 0, none⟩) a.toNat b.toNat)) (w.alloc (.cells (madeCells zz.cells (b.toNat * gi.size)) e)) := by
                      unfold execOp
                      rw [ho]
                      simp only [(repInt hn).1, (repInt hcv).1, Sem.run_bind]
                      rw [run_make w t e gi zz hu g1 g4 kn kc a b ha0 hab (by rw [g3, Int.mul_comm]; exact Int.le_trans hbb (show (140737488355328 : Int) ≤ 281474976710656 by decide)) (Int.le_trans hb1 (show (140737488355328 : Int) ≤ 9223372036854775807 by decide))]
                      simp
                    have hsf := soft_big (d := d) he
                    obtain ⟨K, hK⟩ : ∃ K, K = d * 100000 + 75000 + e := ⟨_, rfl⟩
                    rw [← hK] at hsf hd
                    show GoesK P B ow bx nb bg w act o id (.own (d * 100000 + 75000 + e + BIG) (.int k0) (List.replicate a.toNat z0)) none [] [d * 100000 + 75000 + e] []
                    rw [← hK]
                    obtain ⟨j1, j2⟩ := hi.pushStable (.tok (K + BIG) 0) (.cells (madeCells zz.cells (b.toNat * gi.size)) e) (.inr (.inr ⟨_, _, rfl⟩))
                    have hdK : bx.dead K = false := hd K (by simp)
                    have htbn := born_new hi hdK
                    let bx' : Bx := ⟨bx.f, fun j => bx.dead j || Nat.beq K j, fun j => if j = K + BIG then some (w.heap.size, a.toNat, b.toNat) else bx.tb j⟩
                    have hk : Keeps (fun blk => if blk = w.heap.size then .tok (K + BIG) 0 else ow blk) bx { w with heap := w.heap.push (.cells (madeCells zz.cells (b.toNat * gi.size)) e) } (fun blk => if blk = w.heap.size then .tok (K + BIG) 0 else ow blk) bx' (w.alloc (.cells (madeCells zz.cells (b.toNat * gi.size)) e)) := by
                      refine ⟨.of fun _ _ h => ⟨h, rfl⟩, fun _ _ _ h _ => ⟨h, rfl⟩, fun j h => ?_, fun _ h => ⟨rfl, h⟩, fun j x hx => ?_⟩
                      · simp only [bx', Bool.or_eq_false_iff] at h
                        exact h.1
                      · simp only [bx']
                        rw [if_neg (fun e => by rw [e, htbn] at hx; cases hx)]
                        exact hx
                    have hcell : ∀ j, j < b.toNat * gi.size → (madeCells zz.cells (b.toNat * gi.size))[j]? = some (.int k0 z0) := by
                      intro j hj
                      have hone : zz.cells = #[.int k0 z0] ∧ fits k0 z0 = true := by
                        obtain ⟨q1, q2⟩ := z5 (fun _ => .junk) ⟨fun b => b, fun _ => false, fun _ => none⟩ default
                        have hv0 : zz.cells.toList[0]? = some (zz.cells[0]'(by omega)) := by simp
                        have q3 := to_rep hz0 (q2 0 z _ rfl hv0).1
                        simp only [RepV, Rep, List.cons.injEq, and_true] at q3
                        refine ⟨?_, q3.2⟩
                        apply Array.ext
                        · simp [z4]
                        · intro m h1 h2
                          have : m = 0 := by omega
                          subst this
                          simpa using q3.1
                      simp [madeCells, hj, hone.1, Nat.mod_one]
                    have hfit : fits k0 z0 = true := by
                      obtain ⟨q1, q2⟩ := z5 (fun _ => .junk) ⟨fun b => b, fun _ => false, fun _ => none⟩ default
                      have hv0 : zz.cells.toList[0]? = some (zz.cells[0]'(by omega)) := by simp
                      have q3 := to_rep hz0 (q2 0 z _ rfl hv0).1
                      simp only [RepV, Rep] at q3
                      exact q3.2
                    intro Kk Q hKk
                    unfold Oper.wp
                    rw [hrun]
                    refine hKk _ _ bx' _ (j1.trans hk) (.own (fun h => (by rw [hsf.1] at h; cases h)) (fun _ => .inr ⟨w.heap.size, b.toNat, _, (0, 0), by rw [List.length_replicate], by simp [frOf, hsf.1], by rw [hsf.2]; exact heap_alloc_new w _, loose_zero _, by rw [size_madeCells, z3]; rfl, by rw [List.length_replicate]; exact hn1, fun _ => ⟨by rw [List.length_replicate]; exact hn2, fun i x hx => ?_⟩⟩) fun _ => .inr ⟨w.heap.size, b.toNat, by simp [bx'], by rw [List.length_replicate], by rw [List.length_replicate]; exact hn1, by rw [List.length_replicate]; exact hn2⟩) ?_ (fun j => by simp [bx', killB]) (fun p hp => by simp at hp)
                    · have hil : i < Int.toNat a := by have := (List.getElem?_eq_some_iff.1 hx).1; simpa using this
                      have hxz : x = z0 := by rw [List.getElem?_replicate] at hx; simp [hil] at hx; exact hx.symm
                      subst hxz
                      refine ⟨?_, hfit⟩
                      have hc := hcell i (by rw [z3, Nat.mul_one]; exact Nat.lt_of_lt_of_le hil hn1)
                      simp only [Ty.size, Nat.mul_one]
                      apply List.ext_getElem?
                      intro m
                      rw [List.getElem?_take, List.getElem?_drop]
                      cases m with
                      | zero => simpa using hc
                      | succ m => simp
                    · constructor
                      · intro b' cs hb'
                        obtain ⟨q1, c1, T, q2, q3⟩ := j2.box b' cs hb'
                        exact ⟨q1, c1, T, q2, q3.keep hk⟩
                      · exact j2.back
                      · exact j2.here
                      · exact j2.old
                      · exact j2.size
                      · exact j2.env
                      · exact j2.kept
                      · exact j2.st.trans hk.st
                      · intro j hj
                        simp only [bx'] at hj ⊢
                        split at hj
                        · rename_i e
                          right
                          rw [e, Nat.add_sub_cancel, Nat.beq_refl, Bool.or_true]
                          exact ⟨rfl, by rw [hK]; unfold BIG; omega⟩
                        · exact (hi.born j hj).imp (fun h => h) fun h => ⟨by rw [h.1]; rfl, h.2⟩
                  · cases h
                · cases h
              · cases h
            · cases h
          · cases h
        · cases h
      · cases h
    · cases h
theorem soft_load (hΓ : CxOK P Γ) {t : Nat} {x : Operand} (ho : o.op = .load t x) (h : softLoad Γ dead t (A x) = some r) : SoftOK P dead A o r := by
  unfold softLoad at h
  split at h
  · rename_i k ty l i off he
    split at h
    · cases h
    · rename_i hnd
      split at h
      · rename_i d hd
        have hOK := hΓ.td t d hd
        split at h
        · rename_i v hv
          cases h
          refine ⟨fun k hk => by simp at hk, fun k' hk => ?_, fun p hp => by simp at hp, fun id B ow bx nb bg w act hi hA _ hu => ?_⟩
          · rw [List.mem_singleton] at hk
            rw [hk]
            exact natIn_false hnd
          rw [ho] at hA
          have hp := args_of hA (by intros; simp) x (by simp [Op.operands])
          rw [he] at hp
          have hdk := hu k (by simp)
          generalize hpe : act.eval x = u at hp
          cases hp with
          | elo hb h0 h1 h' =>
            rename_i blk
            obtain ⟨_, c, fz, hc, _, ⟨hle, hle2⟩, hcont⟩ := h' hdk
            have hlt : i.toNat < l.length := by omega
            have hgx : l.getD i.toNat ty.dflt = l[i.toNat]'hlt := by simp [List.getD, hlt]
            have hrep := hcont i.toNat _ (List.getElem?_eq_getElem hlt)
            rw [← hgx] at hrep
            obtain ⟨u, g1, g2, _⟩ := read_run (P := P) hOK (base := i.toNat * ty.size) hv hc (vs := (c.toList.drop (i.toNat * ty.size)).take ty.size) (fun j v hj => by
              rw [List.getElem?_take] at hj
              split at hj
              · rw [List.getElem?_drop] at hj; exact toList_get hj
              · cases hj) (rep_flat _ _ _ hrep)
            exact (goes_value hi (load_run ho hpe g1) g2).goesK
        · cases h
      · cases h
  · cases h
theorem soft_store (hΓ : CxOK P Γ) {t : Nat} {x y : Operand} (ho : o.op = .store t x y) (h : softStore Γ dead t (A x) (A y) = some r) : SoftOK P dead A o r := by
  unfold softStore at h
  split at h
  · rename_i k ty l i off he
    split at h
    · cases h
    · rename_i hnd
      split at h
      · rename_i d hd
        have hOK := hΓ.td t d hd
        split at h
        · rename_i new hnew
          split at h
          · rename_i hck
            simp only [Bool.and_eq_true] at hck
            obtain ⟨⟨⟨hl1, hl2⟩, hkB⟩, hfm⟩ := hck
            have hl1 := Nat.eq_of_beq_eq_true hl1
            have hl2 := Nat.le_of_ble_eq_true hl2
            have hkB : k < BIG := Nat.le_of_ble_eq_true hkB
            split at h
            · rename_i v hasm
              cases h
              refine ⟨fun k' hk => ?_, fun k hk => by simp at hk, fun p hp => ?_, fun id B ow bx nb bg w act hi hA hdd _ => ?_⟩
              · rw [List.mem_singleton] at hk
                rw [hk]
                exact natIn_false hnd
              · rw [List.mem_singleton] at hp
                rw [hp]
                exact ⟨by simp, hkB, hfm⟩
              rw [ho] at hA
              have hall := args_of hA (by intros; simp)
              have hp := hall x (by simp [Op.operands])
              have hy := hall y (by simp [Op.operands])
              rw [he] at hp
              have hdk := hdd k (by simp)
              have hnv := cells_rep hnew hy
              generalize hpe : act.eval x = u at hp
              cases hp with
              | elo hb h0 h1 h' =>
                rename_i blk cap
                obtain ⟨how, c, fz, hc, hz, ⟨hle, hle2⟩, hcont⟩ := h' hdk
                have hle3 : l.length * ty.size ≤ c.size := by rw [hle]; exact Nat.mul_le_mul_right _ hle2
                have hlt : i.toNat < l.length := by omega
                have hgx : l.getD i.toNat ty.dflt = l[i.toNat]'hlt := by simp [List.getD, hlt]
                have hrep := hcont i.toNat _ (List.getElem?_eq_getElem hlt)
                rw [← hgx] at hrep
                have hpart := mul_part (off := 0) (s := ty.size) hlt
                have hsz : (act.eval y).cells.size = d.zero.length := by have := hnv.1; simp at this; omega
                have hnl : (act.eval y).cells.toList.length = d.zero.length := by simpa using hsz
                have hst := storeVar_loose (P := P) (T := t) (hOK.sizeOf (w := w)) hsz hc hz (off := i.toNat * ty.size + off) (by omega) hnv.ones
                have hrun : (execOp act.eval o).run P w = .ok .skip (w.setRow blk (c.toList.take (i.toNat * ty.size + off) ++ (act.eval y).cells.toList ++ c.toList.drop (i.toNat * ty.size + off + (act.eval y).cells.toList.length)).toArray) := by
                  unfold execOp
                  rw [ho]
                  simp only [hpe, Instr.storeAt, Instr.sureAddr, Sem.run_bind, Sem.run_pure, Result.andThen_ok, hst]
                generalize hnc : (c.toList.take (i.toNat * ty.size + off) ++ (act.eval y).cells.toList ++ c.toList.drop (i.toNat * ty.size + off + (act.eval y).cells.toList.length)).toArray = nc at hrun
                have hncs : nc.size = c.size := by
                  rw [← hnc, List.size_toArray, List.length_append, List.length_append, List.length_take, List.length_drop, toList_len c]
                  omega
                have hb' := setRow_heap w blk c nc (k % 25000) fz hc
                obtain ⟨hkeep, hinv⟩ := tok_step hi (w' := w.setRow blk nc) (k := k) (k' := k) (g := blk) (fr := 0) (fz₀ := fz) (.inr ⟨setRow_size _ _ _, 0, c, how, hc, Nat.le_refl _, by simp⟩) hb' (fun b _ hne => setRow_other w blk b _ hne) ⟨rfl, rfl, rfl⟩ hdk
                intro K Q hK
                unfold Oper.wp
                rw [hrun]
                refine hK _ _ _ _ hkeep (.undef _) hinv (fun j => by simp [killB]) fun p hp => ?_
                rw [List.mem_singleton] at hp
                subst hp
                refine ⟨undef, .fre undef (by rw [List.length_set]; exact hb) (by simp) ⟨by simp, nc, fz, hb', by rw [hncs]; exact hz, ⟨by rw [hncs]; exact hle, by rw [List.length_set]; exact hle2⟩, fun j z hj => ?_⟩⟩
                have hjl : j < l.length := by have := (List.getElem?_eq_some_iff.1 hj).1; simpa using this
                have hlaid := part_laid (C := c.toList) (nvs := (act.eval y).cells.toList) (i := i.toNat) (o := off) (s := ty.size) (by omega) (by rw [toList_len c]; omega) j
                have hncl : nc.toList = c.toList.take (i.toNat * ty.size + off) ++ (act.eval y).cells.toList ++ c.toList.drop (i.toNat * ty.size + off + (act.eval y).cells.toList.length) := by rw [← hnc]
                simp only
                rw [hncl, hlaid]
                by_cases hij : i.toNat = j
                · subst hij
                  have hz : z = v := by
                    rw [List.getElem?_set_self hlt] at hj
                    cases hj
                    rfl
                  rw [hz, if_pos rfl]
                  have hcs := (rep_flat (bx := bx) _ _ _ hrep).splice hnv off
                  obtain ⟨q1, q2, q3⟩ := asm_rep ty _ _ _ _ hasm hcs
                  have hlen := hcs.1
                  have h2 := congrArg List.length q2
                  simp only [List.length_nil, List.length_drop] at h2
                  rw [List.take_of_length_le (by omega)] at q1
                  exact Rep.keep hkeep.st _ _ _ q1
                · rw [if_neg (fun e => hij e.symm)]
                  rw [List.getElem?_set_ne hij] at hj
                  exact Rep.keep hkeep.st _ _ _ (hcont j z hj)
            · cases h
          · cases h
        · cases h
      · cases h
  · cases h
theorem soft_copy (hΓ : CxOK P Γ) {c : Call} {x y : Operand} {t t' : Nat} (ho : o.op = .call c) (hcl : c.callee = .builtin .copy) (ha : c.args.toList = [x, y]) (hts : c.argTypes.toList = [t, t']) (h : softCopy Γ dead t t' (A x) (A y) = some r) (hc : r.c = true) : SoftOK P dead A o r := by
  have ha : c.args = #[x, y] := by apply Array.ext'; simpa using ha
  have hts : c.argTypes = #[t, t'] := by apply Array.ext'; simpa using hts
  unfold softCopy at h
  split at h
  · rename_i k ty l he
    split at h
    · rename_i k0 l
      split at h
      · rename_i hck
        simp only [Bool.and_eq_true, Bool.not_eq_true'] at hck
        obtain ⟨⟨⟨⟨⟨hsf, hfm⟩, hnd⟩, hkB⟩, htt⟩, hsl⟩ := hck
        have htt := Nat.eq_of_beq_eq_true htt
        subst htt
        have hkB : k < BIG := Nat.le_of_ble_eq_true hkB
        split at h
        · rename_i m hm
          cases h
          refine ⟨fun k' hk => ?_, fun k hk => by simp at hk, fun p hp => ?_, fun id B ow bx nb bg w act hi hA hdd _ => ?_⟩
          · rw [List.mem_singleton] at hk
            rw [hk]
            exact natIn_false hnd
          · rw [List.mem_singleton] at hp
            rw [hp]
            exact ⟨by simp, hkB, hfm⟩
          have hall := call_args ho hA
          have hp := hall x (by simp [Call.operands, ha, hcl])
          have hy := hall y (by simp [Call.operands, ha, hcl])
          rw [he] at hp
          have hdk := hdd k (by simp)
          have hY : RepV ow w (.slice (.int k0)) m (act.eval y) := to_rep hm hy
          obtain ⟨d, e, s, bb, gi, q1, q2, q3, q4, q5⟩ := sliceOf_spec hΓ hsl
          have hE1 : gi.size = 1 := by rw [q5]; rfl
          generalize hpe : act.eval x = u at hp
          cases hp with
          | own _ h' hh =>
            have hlen : (m.take l.length ++ l.drop m.length).length = l.length := by
              rw [List.length_append, List.length_take, List.length_drop]
              omega
            obtain ⟨adY, capY, hvY, hY1, hY2, hY3⟩ := slice_cells hY (show 0 < 1 by decide)
            have hrunB : ∀ v' w', (Builtin.copy_ #[t, t] o.type #[act.eval x, act.eval y]).run P w = .ok v' w' → (execOp act.eval o).run P w = .ok (.value v') w' := by
              intro v' w' hv
              rw [builtin_run ho hcl, ha, hts]
              simp only [builtin, List.map_toArray, List.map_cons, List.map_nil]
              simp [hv]
            rcases hh hsf with ⟨_, hnil, hl0⟩ | ⟨blk, cap, hb, hv, hn1, hn2⟩
            · simp only [decide_eq_true_eq] at hc
              omega
            · subst hv
              obtain ⟨how, c, fz, hcb, hz, ⟨hle1, hle2⟩, hcont⟩ := own_cont hsf (h' hdk)
              have hle : l.length ≤ c.size := by rw [hle1]; simpa [Ty.size] using hle2
              -- the cells that are copied
              obtain ⟨news, hnl, hnews, hone, hnv⟩ : ∃ news : List Value, news.length = min m.length l.length ∧ (Builtin.firstCells gi.size (min m.length l.length) (.slice adY m.length capY)).run P w = .ok news.toArray w ∧ (∀ v ∈ news, v.oneCell' = true) ∧
                  ∀ (j : Nat) (x : Int), j < min m.length l.length → m[j]? = some x → news[j]? = some (.int k0 x) ∧ fits k0 x = true := by
                by_cases hm0 : m = []
                · subst hm0
                  refine ⟨[], by simp, ?_, by simp, fun j x hj => by simp at hj⟩
                  have hmin : min ([] : List Int).length l.length = 0 := by simp
                  rw [show (min ([] : List (Ty.int k0).den).length l.length) = 0 from hmin]
                  cases adY with
                  | none => exact run_firstCells_none w gi.size 0 _ capY
                  | some a' => exact run_firstCells_some w gi.size 0 a' _ capY [] (by simp) (by intro j v h'; simp at h')
                · obtain ⟨blkY, off, cY, TY, fzY, y1, y2, y3, y4, y5, y6⟩ := hY3 hm0
                  have y4 : off + m.length ≤ cY.size := by simpa [Ty.size] using y4
                  have hcell : ∀ (j : Nat) (x : Int), m[j]? = some x → cY[off + j]? = some (.int k0 x) ∧ fits k0 x = true := by
                    intro j x hj
                    have hjl := (List.getElem?_eq_some_iff.1 hj).1
                    obtain ⟨r1, r2⟩ := y6 j x hj
                    refine ⟨?_, r2⟩
                    have := congrArg (·[0]?) r1
                    simp only [Ty.size, Nat.mul_one, List.getElem?_take, List.getElem?_drop, Nat.lt_add_one, if_true, Nat.add_zero, List.getElem?_cons_zero, hjl, Array.getElem?_toList] at this
                    exact this
                  refine ⟨(cY.toList.drop off).take (min m.length l.length), ?_, ?_, fun v hv => ?_, fun j x hj hx => ?_⟩
                  · rw [List.length_take, List.length_drop, toList_len cY]
                    omega
                  · subst y1
                    refine run_firstCells_some w gi.size (min m.length l.length) _ _ capY _ ?_ (fun j v hj => ?_)
                    · rw [List.length_take, List.length_drop, toList_len cY, hE1]
                      omega
                    · rw [add_at, cell_at y3]
                      rw [List.getElem?_take] at hj
                      split at hj
                      · rw [List.getElem?_drop] at hj
                        simpa using hj
                      · cases hj
                  · obtain ⟨j, hj⟩ := List.getElem?_of_mem hv
                    rw [List.getElem?_take] at hj
                    split at hj
                    · rename_i hlt
                      obtain ⟨x, hx⟩ : ∃ x, m[j]? = some x := ⟨_, List.getElem?_eq_getElem (by omega)⟩
                      rw [List.getElem?_drop, Array.getElem?_toList, (hcell j x hx).1] at hj
                      cases hj
                      rfl
                    · cases hj
                  · rw [List.getElem?_take, if_pos hj, List.getElem?_drop, Array.getElem?_toList]
                    exact hcell j x hx
              have hst := run_storeCells_loose P blk 0 (k % 25000) fz news 0 c w hcb hz (by omega) hone
              simp only [Nat.zero_add, List.take_zero, List.nil_append] at hst
              generalize hnc : (news ++ c.toList.drop news.length).toArray = nc at hst
              have hrun : (execOp act.eval o).run P w = .ok (.value (goInt ((min m.length l.length : Nat) : Int))) (w.setRow blk nc) := by
                refine hrunB _ _ ?_
                rw [hpe, hvY]
                have hmn : Nat.min m.length l.length = min m.length l.length := rfl
                simp [Builtin.copy_, run_underlying q3, Builtin.lenOf, sizeOf, typeInfo, q4, hmn, hnews, hst]
              have hncs : nc.size = c.size := by
                rw [← hnc, List.size_toArray, List.length_append, List.length_drop, toList_len c]
                omega
              have hb' := setRow_heap w blk c nc (k % 25000) fz hcb
              obtain ⟨hkeep, hinv⟩ := tok_step hi (w' := w.setRow blk nc) (k := k) (k' := k) (g := blk) (fr := 0) (fz₀ := fz) (.inr ⟨setRow_size _ _ _, 0, c, how, hcb, Nat.le_refl _, by simp⟩) hb' (fun b _ hne => setRow_other w blk b _ hne) ⟨rfl, rfl, rfl⟩ hdk
              intro K Q hK
              unfold Oper.wp
              rw [hrun]
              have hmx : min m.length l.length ≤ 9223372036854775807 := by omega
              refine hK _ _ _ _ hkeep (goInt_rep hmx) hinv (fun j => by simp [killB]) fun p hp => ?_
              rw [List.mem_singleton] at hp
              subst hp
              refine ⟨undef, .fre undef (by simp only; rw [hlen]; exact hb) (by simp) ⟨by simp, nc, fz, hb', by rw [hncs]; exact hz, ⟨by rw [hncs]; exact hle1, by simp only; rw [hlen]; exact hle2⟩, fun j z hj => ?_⟩⟩
              have hncl : nc.toList = news ++ c.toList.drop news.length := by rw [← hnc]
              have hjl : j < l.length := by have := (List.getElem?_eq_some_iff.1 hj).1; rw [hlen] at this; exact this
              have key : nc.toList[j]? = some (.int k0 z) ∧ fits k0 z = true := by
                rw [hncl]
                simp only at hj
                by_cases hjm : j < m.length
                · rw [List.getElem?_append_left (by rw [List.length_take]; omega), List.getElem?_take, if_pos hjl] at hj
                  rw [List.getElem?_append_left (by omega)]
                  exact hnv j z (by omega) hj
                · rw [List.getElem?_append_right (by rw [List.length_take]; omega), List.getElem?_drop, List.length_take] at hj
                  rw [show m.length + (j - min l.length m.length) = j by omega] at hj
                  obtain ⟨r1, r2⟩ := hcont j z hj
                  refine ⟨?_, r2⟩
                  rw [List.getElem?_append_right (by omega), List.getElem?_drop, show news.length + (j - news.length) = j by omega]
                  have := congrArg (·[0]?) r1
                  simp only [Ty.size, Nat.mul_one, List.getElem?_take, List.getElem?_drop, Nat.lt_add_one, if_true, Nat.add_zero, List.getElem?_cons_zero] at this
                  exact this
              refine ⟨?_, key.2⟩
              simp only [Ty.size, Nat.mul_one]
              apply List.ext_getElem?
              intro i
              rw [List.getElem?_take, List.getElem?_drop]
              cases i with
              | zero => simpa using key.1
              | succ i => simp
        · cases h
      · cases h
    · cases h
  · cases h
theorem soft_sound (hΓ : CxOK P Γ) (hs : softOp Γ dead o.dst A o.op = some r) (hc : r.c = true) : SoftOK P dead A o r := by
  unfold softOp at hs
  split at hs
  · rename_i t n c ho; exact soft_make hΓ ho hs hc
  · rename_i t x ho; exact soft_load hΓ ho hs
  · rename_i t x y ho; exact soft_store hΓ ho hs
  · rename_i c ho
    split at hs
    · rename_i hcl
      split at hs
      · rename_i x y t t' h1 h2; exact soft_copy hΓ ho hcl h1 h2 hs hc
      · cases hs
    · cases hs
  · cases hs
end
end Go.Proofs.Ytdiebciejcmmhaa

/- A region does what the reading says, in whatever order its operations come. No program in sight. -/
set_option linter.unusedSimpArgs false
set_option linter.unusedVariables false
namespace Go.Proofs.Ytdiebciejcmmhaa
/-- One operation of a region, as it was read. -/
structure TI where
  s : Rg
  ch : List (Nat × Bool)
  v : EV
  n : Option (List EV)
  ws : List Wr
  tr : List Nat
  k : List Nat
  us : List Nat
  up : UpdT
def TI.next (t : TI) (o : Oper) : Rg := t.s.next ⟨o.dst, t.ch, t.v⟩ t.n t.ws t.tr t.k t.up
structure TIOK (P : Program) (base : List EV) (o : Oper) (t : TI) : Prop where
  ch : chainOf t.s.rs o.guard = some t.ch
  dst : dstOK base.length o.dst = true
  quiet : t.ch ≠ [] → t.n = none ∧ t.ws = []
  quietK : t.ch ≠ [] → t.k = []
  fresh : ∀ k ∈ t.k, k ∉ t.s.dead
  used : ∀ k ∈ t.us, k + TOKB ∈ t.tr ∧ k ∉ t.s.dead
  upk : ∀ p ∈ t.up, p.1 ∈ t.k ∧ p.1 < BIG ∧ firm p.1 = true
  upq : t.ch ≠ [] → t.up = []
  wr : ∀ x ∈ t.ws, x.b ∈ t.tr ∧ ∃ cs, boxGet t.s.bx x.b = some cs ∧ x.off + x.new.length ≤ cs.length
  go : guardOf t.s.rs t.ch ≠ some false → ∀ B ow bx nb bg w (a : Act), Inv B ow bx nb bg w → Args ow bx w (argE base t.s.rs t.ch o.op) a.eval o.op → (∀ b ∈ t.tr, bg b = boxGet t.s.bx b) →
    (t.n.isSome = true → bg t.s.bx.length = none ∧ t.s.bx.length < nb) → (∀ k ∈ t.k, bx.dead k = false) → (∀ k ∈ t.us, bx.dead k = false) → GoesK P B ow bx nb bg w a o t.s.bx.length t.v t.n t.ws t.k t.up
def Linked (P : Program) (base : List EV) : List Oper → Rg → List TI → Rg → Prop
  | [], s, [], s' => s = s'
  | o :: os, s, t :: ts, s' => t.s = s ∧ TIOK P base o t ∧ Linked P base os (t.next o) ts s'
  | _, _, _, _ => False
theorem regE_linked {ρ : Type} {P : Program} {Γ : Cx} (hΓ : CxOK P Γ) {base : List EV} {q : Rg → Option ρ} {r : ρ} : ∀ (l : List Oper) (s : Rg), regE Γ base l s q = some r → ∃ ts s', Linked P base l s ts s' ∧ q s' = some r
  | [], s, h => ⟨[], s, rfl, h⟩
  | o :: os, s, h => by
    simp only [regE] at h
    split at h
    · rename_i ch hch hdst
      split at h
      · rename_i x y t happ
        split at h
        · obtain ⟨v, k, h1, h2, h3⟩ := app_sound hΓ happ h
          obtain ⟨ts, s', k1, k2⟩ := regE_linked hΓ os _ h1
          refine ⟨⟨s, [], v, none, [], [], [k], [], []⟩ :: ts, s', ⟨rfl, ⟨hch, hdst, fun hne => absurd rfl hne, fun hne => absurd rfl hne, (fun k' hk' => by rw [List.mem_singleton] at hk'; rw [hk']; exact h2), (fun k hk => by cases hk), (fun p hp => by cases hp), (fun _ => rfl), (fun x hx => by cases hx), fun _ B ow bx nb bg w a hi hA _ _ hd _ => h3 _ B ow bx nb bg w a hi hA (hd k (by simp))⟩, k1⟩, k2⟩
        · cases h
      · split at h
        · rename_i x t hmk
          split at h
          · obtain ⟨v, k, h1, h2, h3⟩ := mark_sound hΓ hmk h
            obtain ⟨ts, s', k1, k2⟩ := regE_linked hΓ os _ h1
            refine ⟨⟨s, [], v, none, [], [], [k], [], []⟩ :: ts, s', ⟨rfl, ⟨hch, hdst, fun hne => absurd rfl hne, fun hne => absurd rfl hne, (fun k' hk' => by rw [List.mem_singleton] at hk'; rw [hk']; exact h2), (fun k hk => by cases hk), (fun p hp => by cases hp), (fun _ => rfl), (fun x hx => by cases hx), fun _ B ow bx nb bg w a hi hA _ _ hd _ => h3 _ B ow bx nb bg w a hi hA (hd k (by simp))⟩, k1⟩, k2⟩
          · cases h
        split at h
        · rename_i x hso
          split at h
          · obtain ⟨h1, h2⟩ := chk_spec h
            have hc := h2 (by simp)
            obtain ⟨q1, q2, q3, q4⟩ := soft_sound hΓ hso hc
            obtain ⟨ts, s', k1, k2⟩ := regE_linked hΓ os _ h1
            refine ⟨⟨s, [], x.v, none, [], x.us.map (· + TOKB), x.ks, x.us, x.up⟩ :: ts, s', ⟨rfl, ⟨hch, hdst, fun hne => absurd rfl hne, fun hne => absurd rfl hne, q1, (fun k hk => ⟨List.mem_map.2 ⟨k, hk, rfl⟩, q2 k hk⟩), q3, fun hne => absurd rfl hne, (fun x hx => by cases hx), fun _ B ow bx nb bg w a hi hA _ _ hd hu => q4 _ B ow bx nb bg w a hi hA hd hu⟩, k1⟩, k2⟩
          · cases h
        split at h
        · rename_i c args hoc
          split at h
          · obtain ⟨v, ws, tr, ks, h1, h2, h3, h4⟩ := own_sound hΓ hoc h
            obtain ⟨ts, s', k1, k2⟩ := regE_linked hΓ os _ h1
            exact ⟨⟨s, [], v, none, ws, tr, ks, [], []⟩ :: ts, s', ⟨rfl, ⟨hch, hdst, fun hne => absurd rfl hne, fun hne => absurd rfl hne, h2, (fun k hk => by cases hk), (fun p hp => by cases hp), (fun _ => rfl), h3, fun _ B ow bx nb bg w a hi hA hb _ hd _ => h4 _ B ow bx nb bg w a hi hA hb hd⟩, k1⟩, k2⟩
          · cases h
        · obtain ⟨v, n, ws, tr, h1, h2, h3, h4⟩ := op_sound hΓ h
          obtain ⟨ts, s', k1, k2⟩ := regE_linked hΓ os _ h1
          refine ⟨⟨s, ch, v, n, ws, tr, [], [], []⟩ :: ts, s', ⟨rfl, ⟨hch, hdst, fun hne => h2 ?_, fun _ => rfl, (fun k hk => by cases hk), (fun k hk => by cases hk), (fun p hp => by cases hp), (fun _ => rfl), h3, fun hg B ow bx nb bg w a hi hA hb hn _ _ => (h4 hg B ow bx nb bg w a hi hA hb hn).goesK⟩, k1⟩, k2⟩
          unfold guardOf
          cases ch with
          | nil => exact absurd rfl hne
          | cons p r => rfl
    · cases h
def TI.wrs (t : TI) : List Nat := match t.n with
  | some _ => t.s.bx.length :: (t.ws.map (·.b) ++ t.k.map (· + TOKB))
  | none => t.ws.map (·.b) ++ t.k.map (· + TOKB)
section
variable {P : Program} {base : List EV}
theorem Linked.length : ∀ {l : List Oper} {s : Rg} {ts : List TI} {s' : Rg}, Linked P base l s ts s' → ts.length = l.length
  | [], _, [], _, _ => rfl
  | o :: os, s, t :: ts, s', h => by have := Linked.length h.2.2; simp [this]
/-- Each item: what was known when it came. -/
theorem Linked.at : ∀ {l : List Oper} {s : Rg} {ts : List TI} {s' : Rg}, Linked P base l s ts s' → ∀ (i : Nat) o t, l[i]? = some o → ts[i]? = some t →
    TIOK P base o t ∧ t.s.rs.length = s.rs.length + i ∧ (∃ more, s'.rs = t.s.rs ++ (⟨o.dst, t.ch, t.v⟩ : Rec) :: more) ∧ (∃ more, s'.tw = t.s.tw ++ (t.tr, t.wrs) :: more) ∧ t.s.tw.length = s.tw.length + i ∧
      t.s.bx.length ≤ s'.bx.length ∧ (t.n.isSome = true → t.s.bx.length < s'.bx.length) ∧ s.bx.length ≤ t.s.bx.length
  | [], s, [], s', h, i, o, t, ho, ht => by simp at ho
  | o0 :: os, s, t0 :: ts, s', h, i, o, t, ho, ht => by
    obtain ⟨h1, h2, h3⟩ := h
    have hnl : t0.s.bx.length ≤ (t0.next o0).bx.length ∧ (t0.n.isSome = true → t0.s.bx.length < (t0.next o0).bx.length) := by
      have hfold : ∀ (ws : List Wr) (bx : List (Option (List EV))), (ws.foldl applyW bx).length = bx.length := by
        intro ws
        induction ws with
        | nil => intro bx; rfl
        | cons x r ih => intro bx; simp only [List.foldl_cons]; rw [ih]; unfold applyW; split <;> simp
      unfold TI.next Rg.next newB
      cases t0.n <;> simp [hfold]
    cases i with
    | zero =>
      simp at ho ht
      subst ho ht
      have tail : ∀ {l : List Oper} {s : Rg} {ts : List TI} {s' : Rg}, Linked P base l s ts s' → (∃ more, s'.rs = s.rs ++ more) ∧ (∃ more, s'.tw = s.tw ++ more) ∧ s.bx.length ≤ s'.bx.length := by
        intro l
        induction l with
        | nil =>
          intro s ts s' h
          cases ts with
          | nil => cases h; exact ⟨⟨[], by simp⟩, ⟨[], by simp⟩, Nat.le_refl _⟩
          | cons t ts => exact absurd h id
        | cons o os ih =>
          intro s ts s' h
          cases ts with
          | nil => exact absurd h id
          | cons t ts =>
            obtain ⟨g1, g2, g3⟩ := h
            obtain ⟨⟨m1, k1⟩, ⟨m2, k2⟩, k3⟩ := ih g3
            subst g1
            have hfold : ∀ (ws : List Wr) (bx : List (Option (List EV))), (ws.foldl applyW bx).length = bx.length := by
              intro ws
              induction ws with
              | nil => intro bx; rfl
              | cons x r ih => intro bx; simp only [List.foldl_cons]; rw [ih]; unfold applyW; split <;> simp
            refine ⟨⟨_, by rw [k1]; unfold TI.next Rg.next; simp only [List.append_assoc]; rfl⟩, ⟨_, by rw [k2]; unfold TI.next Rg.next; simp only [List.append_assoc]; rfl⟩, ?_⟩
            have : t.s.bx.length ≤ (t.next o).bx.length := by
              unfold TI.next Rg.next newB
              cases t.n <;> simp [hfold]
            omega
      obtain ⟨⟨m1, k1⟩, ⟨m2, k2⟩, k3⟩ := tail h3
      subst h1
      refine ⟨h2, by simp, ⟨m1, by rw [k1]; unfold TI.next Rg.next; simp⟩, ⟨m2, by rw [k2]; unfold TI.next Rg.next TI.wrs; cases t0.n <;> simp⟩, by simp, by omega, fun h => by have := hnl.2 h; omega, Nat.le_refl _⟩
    | succ i =>
      obtain ⟨g1, g2, g3, g4, g5, g6, g7, g8⟩ := Linked.at h3 i o t (by simpa using ho) (by simpa using ht)
      refine ⟨g1, ?_, g3, g4, ?_, g6, g7, ?_⟩
      · rw [g2]; unfold TI.next Rg.next; simp [h1]; omega
      · rw [g5]; unfold TI.next Rg.next; simp [h1]; omega
      · have := hnl.1; rw [h1] at this; omega
/-- What an operation makes of the cells of one box. -/
def TI.f (t : TI) (b : Nat) (c : Option (List EV)) : Option (List EV) := upd (fun _ => c) t.s.bx.length t.n t.ws b
theorem upd_point (bg : Nat → Option (List EV)) (id : Nat) (n : Option (List EV)) (b : Nat) : ∀ (ws : List Wr), upd bg id n ws b = upd (fun _ => bg b) id n ws b := by
  have hw : ∀ (ws : List Wr) (bg bg' : Nat → Option (List EV)), bg b = bg' b → ws.foldl updW bg b = ws.foldl updW bg' b := by
    intro ws
    induction ws with
    | nil => intro bg bg' h; exact h
    | cons x r ih =>
      intro bg bg' h
      simp only [List.foldl_cons]
      refine ih _ _ ?_
      unfold updW
      split
      · rw [h]
      · exact h
  intro ws
  unfold upd updN
  cases n with
  | none => exact hw ws _ _ rfl
  | some cs =>
    simp only
    split
    · rfl
    · exact hw ws _ _ rfl
theorem TI.f_id {t : TI} {b : Nat} {c : Option (List EV)} (h : b ∉ t.wrs) : t.f b c = c := by
  unfold TI.f upd updN
  unfold TI.wrs at h
  cases hn : t.n with
  | none =>
    rw [hn] at h
    exact foldl_updW_other _ _ _ fun x hx e => h (List.mem_append_left _ (List.mem_map.2 ⟨x, hx, e⟩))
  | some cs =>
    rw [hn] at h
    simp only [List.mem_cons, not_or] at h
    simp only [if_neg h.1]
    exact foldl_updW_other _ _ _ fun x hx e => h.2 (List.mem_append_left _ (List.mem_map.2 ⟨x, hx, e⟩))
theorem boxGet_next (t : TI) (o : Oper) (b : Nat) : boxGet (t.next o).bx b = t.f b (boxGet t.s.bx b) := by
  have hfold : ∀ (ws : List Wr) (bx : List (Option (List EV))), (ws.foldl applyW bx).length = bx.length := by
    intro ws
    induction ws with
    | nil => intro bx; rfl
    | cons x r ih => intro bx; simp only [List.foldl_cons]; rw [ih]; unfold applyW; split <;> simp
  have hget : ∀ (ws : List Wr) (bx : List (Option (List EV))), boxGet (ws.foldl applyW bx) b = ws.foldl updW (fun _ => boxGet bx b) b := by
    intro ws
    induction ws with
    | nil => intro bx; rfl
    | cons x r ih =>
      intro bx
      simp only [List.foldl_cons]
      rw [ih]
      have hp := upd_point (updW (fun _ => boxGet bx b) x) 0 none b r
      unfold upd updN at hp
      simp only at hp
      rw [hp]
      have key : boxGet (applyW bx x) b = updW (fun _ => boxGet bx b) x b := by
       unfold applyW updW
       cases hx : boxGet bx x.b with
        | none =>
          simp only
          split
          · rename_i e; rw [e, hx]; rfl
          · rfl
        | some cs =>
          simp only
          split
          · rename_i e
            subst e
            rw [hx]
            simp only [Option.map_some]
            rw [boxGet_spec] at hx ⊢
            have := (List.getElem?_eq_some_iff.1 hx).1
            simp [this]
          · rename_i e
            unfold boxGet
            rw [List.getElem?_set_ne (fun h => e h.symm)]
      rw [key]
  unfold TI.next Rg.next TI.f upd updN newB
  cases hn : t.n with
  | none => simp only; exact hget _ _
  | some cs =>
    simp only
    split
    · rename_i e
      subst e
      rw [boxGet_spec]
      rw [← hfold t.ws t.s.bx]
      simp
    · rename_i e
      rw [← hget]
      unfold boxGet
      by_cases hlt : b < (t.ws.foldl applyW t.s.bx).length
      · rw [List.getElem?_append_left hlt]
      · rw [List.getElem?_append_right (by omega), List.getElem?_eq_none (by rw [hfold] at hlt ⊢; simp; omega), List.getElem?_eq_none (by omega)]
/-- The boxes behind some of the operations, one by one. -/
def foldI (D : Nat → Bool) : List TI → Nat → Nat → Option (List EV) → Option (List EV)
  | [], _, _, c => c
  | t :: ts, k, b, c => foldI D ts (k + 1) b (if D k then t.f b c else c)
theorem foldI_skip {D : Nat → Bool} {b : Nat} : ∀ (ts : List TI) (k : Nat) (c : Option (List EV)), (∀ (j : Nat) t, ts[j]? = some t → D (k + j) = true → b ∉ t.wrs) → foldI D ts k b c = c
  | [], _, _, _ => rfl
  | t :: ts, k, c, h => by
    simp only [foldI]
    have : (if D k then t.f b c else c) = c := by
      split
      · rename_i hd; exact TI.f_id (h 0 t rfl (by simpa using hd))
      · rfl
    rw [this]
    exact foldI_skip ts (k + 1) c fun j t ht hd => h (j + 1) t (by simpa using ht) (by rw [show k + (j + 1) = k + 1 + j by omega]; exact hd)
theorem foldI_congr {D D' : Nat → Bool} {b : Nat} : ∀ (ts : List TI) (k : Nat) (c : Option (List EV)), (∀ (j : Nat) t, ts[j]? = some t → b ∈ t.wrs → D (k + j) = D' (k + j)) → foldI D ts k b c = foldI D' ts k b c
  | [], _, _, _ => rfl
  | t :: ts, k, c, h => by
    simp only [foldI]
    have : (if D k then t.f b c else c) = (if D' k then t.f b c else c) := by
      by_cases hb : b ∈ t.wrs
      · have := h 0 t rfl hb
        simp only [Nat.add_zero] at this
        rw [this]
      · rw [TI.f_id hb]; simp
    rw [this]
    exact foldI_congr ts (k + 1) _ fun j t ht hb => by rw [show k + 1 + j = k + (j + 1) by omega]; exact h (j + 1) t (by simpa using ht) hb
def addD (D : Nat → Bool) (i : Nat) : Nat → Bool := fun k => if k = i then true else D k
theorem foldI_add {D : Nat → Bool} {b i : Nat} : ∀ (ts : List TI) (k : Nat) (c : Option (List EV)) (t : TI), k ≤ i → ts[i - k]? = some t → D i = false → (∀ (j : Nat) u, i < k + j → ts[j]? = some u → D (k + j) = true → b ∈ u.wrs → b ∉ t.wrs) →
    t.f b (foldI D ts k b c) = foldI (addD D i) ts k b c
  | [], k, c, t, _, ht, _, _ => by simp at ht
  | u :: ts, k, c, t, hk, ht, hD, h => by
    simp only [foldI]
    by_cases he : k = i
    · subst he
      simp only [Nat.sub_self, List.getElem?_cons_zero, Option.some.injEq] at ht
      subst ht
      have e1 : addD D k k = true := by simp [addD]
      rw [hD, e1]
      simp only [Bool.false_eq_true, if_false, if_true]
      have e2 : ∀ c, foldI (addD D k) ts (k + 1) b c = foldI D ts (k + 1) b c := fun c => foldI_congr ts (k + 1) c fun j t _ _ => by unfold addD; rw [if_neg (by omega)]
      rw [e2]
      by_cases hb : b ∈ u.wrs
      · have hs : ∀ c, foldI D ts (k + 1) b c = c := fun c => foldI_skip ts (k + 1) c fun j v hv hd hbv => h (j + 1) v (by omega) (by simpa using hv) (by rw [show k + (j + 1) = k + 1 + j by omega]; exact hd) hbv hb
        rw [hs, hs]
      · rw [TI.f_id hb, TI.f_id hb]
    · have e1 : addD D i k = D k := by unfold addD; rw [if_neg he]
      rw [e1]
      exact foldI_add ts (k + 1) _ t (by omega) (by rw [show i - k = i - (k + 1) + 1 by omega] at ht; simpa using ht) hD fun j v hj hv hd => h (j + 1) v (by omega) (by simpa using hv) (by rw [show k + (j + 1) = k + 1 + j by omega]; exact hd)
theorem Linked.boxes : ∀ {l : List Oper} {s : Rg} {ts : List TI} {s' : Rg}, Linked P base l s ts s' → ∀ (k b : Nat), boxGet s'.bx b = foldI (fun _ => true) ts k b (boxGet s.bx b)
  | [], s, [], s', h, k, b => by cases h; rfl
  | o :: os, s, t :: ts, s', h, k, b => by
    obtain ⟨h1, h2, h3⟩ := h
    simp only [foldI, if_true]
    rw [Linked.boxes h3 (k + 1) b, boxGet_next, h1]
theorem Linked.boxesAt : ∀ {l : List Oper} {s : Rg} {ts : List TI} {s' : Rg}, Linked P base l s ts s' → ∀ (i : Nat) t (k b : Nat), ts[i]? = some t → boxGet t.s.bx b = foldI (fun j => decide (j < k + i)) ts k b (boxGet s.bx b)
  | [], s, [], s', h, i, t, k, b, ht => by simp at ht
  | o :: os, s, u :: ts, s', h, i, t, k, b, ht => by
    obtain ⟨h1, h2, h3⟩ := h
    cases i with
    | zero =>
      simp at ht
      subst ht
      rw [h1]
      refine (foldI_skip _ _ _ fun j v _ hd => ?_).symm
      have : k + j < k + 0 := by simpa using hd
      omega
    | succ i =>
      simp only [foldI]
      have hd : (if decide (k < k + (i + 1)) = true then u.f b (boxGet s.bx b) else boxGet s.bx b) = u.f b (boxGet s.bx b) := if_pos (by simp)
      rw [hd, Linked.boxesAt h3 i t (k + 1) b (by simpa using ht), boxGet_next, h1]
      rw [show k + 1 + i = k + (i + 1) by omega]
end
end Go.Proofs.Ytdiebciejcmmhaa

/- A region does what the reading says: one operation, behind whichever others. No program in sight. -/
set_option linter.unusedSimpArgs false
set_option linter.unusedVariables false
namespace Go.Proofs.Ytdiebciejcmmhaa
def dstAt (R : List Rec) (k : Nat) : Option Nat := match R[k]? with
  | some r => r.dst
  | none => none
theorem lastRec_spec (rs : List Rec) (u : Nat) : ∀ (m : Nat), (∀ j r, lastRec rs u m = some (j, r) → j < m ∧ rs[j]? = some r ∧ r.dst = some u ∧ ∀ k, j < k → k < m → dstAt rs k ≠ some u) ∧
    (lastRec rs u m = none → ∀ k, k < m → dstAt rs k ≠ some u) := by
  intro m
  induction m with
  | zero => exact ⟨fun j r h => by simp [lastRec] at h, fun _ k hk => by omega⟩
  | succ m ih =>
    obtain ⟨ih1, ih2⟩ := ih
    have skip : dstAt rs m ≠ some u → lastRec rs u (m + 1) = lastRec rs u m := by
      intro hne
      simp only [lastRec]
      unfold dstAt at hne
      cases hm : rs[m]? with
      | none => rfl
      | some r =>
        rw [hm] at hne
        simp only at hne ⊢
        cases hd : r.dst with
        | none => rfl
        | some d =>
          rw [hd] at hne
          simp only
          split
          · rename_i hb; exact absurd (by rw [Nat.eq_of_beq_eq_true hb]) hne
          · rfl
    by_cases hne : dstAt rs m = some u
    · have hhit : ∃ r, rs[m]? = some r ∧ r.dst = some u := by
        unfold dstAt at hne
        cases hm : rs[m]? with
        | none => rw [hm] at hne; cases hne
        | some r => rw [hm] at hne; exact ⟨r, rfl, hne⟩
      obtain ⟨r, hr, hd⟩ := hhit
      have : lastRec rs u (m + 1) = some (m, r) := by
        simp only [lastRec, hr, hd, Nat.beq_refl]
      rw [this]
      exact ⟨fun j r' h => by cases h; exact ⟨by omega, hr, hd, fun k h1 h2 => by omega⟩, fun h => by cases h⟩
    · rw [skip hne]
      refine ⟨fun j r h => ?_, fun h k hk => ?_⟩
      · obtain ⟨g1, g2, g3, g4⟩ := ih1 j r h
        exact ⟨by omega, g2, g3, fun k h1 h2 => by
          by_cases e : k = m
          · subst e; exact hne
          · exact g4 k h1 (by omega)⟩
      · by_cases e : k = m
        · subst e; exact hne
        · exact ih2 h k (by omega)
/-- Which of the operations that have come wrote a slot last. -/
def LastW (D : Nat → Bool) (R : List Rec) (n u : Nat) : Option Nat → Prop
  | some m => m < n ∧ D m = true ∧ dstAt R m = some u ∧ ∀ k, m < k → k < n → D k = true → dstAt R k ≠ some u
  | none => ∀ k, k < n → D k = true → dstAt R k ≠ some u
def SlotsD (ow : Nat → Owner) (bx : Bx) (w : World) (base : List EV) (R : List Rec) (n : Nat) (D : Nat → Bool) (a : Act) : Prop :=
  ∀ u, u < base.length → (∃ m r, LastW D R n u (some m) ∧ R[m]? = some r ∧ (guardOf R r.ch ≠ some false → RepEV ow bx w r.val (a.tmps.getD u undef)) ∧ (guardOf R r.ch = some false → a.tmps.getD u undef = undef)) ∨
    (LastW D R n u none ∧ ∀ e, base[u]? = some e → RepEV ow bx w e (a.tmps.getD u undef))
theorem boolAt_take (rs more : List Rec) (j : Nat) (h : j < rs.length) : boolAt (rs ++ more) j = boolAt rs j := by
  unfold boolAt recAt
  rw [List.getElem?_append_left h]
def ChB (n : Nat) (ch : List (Nat × Bool)) : Prop := ∀ p ∈ ch, p.1 < n
theorem chainB_take (rs more : List Rec) : ∀ (ch : List (Nat × Bool)), ChB rs.length ch → chainB (rs ++ more) ch = chainB rs ch
  | [], _ => rfl
  | [(j, w)], h => by
    have := boolAt_take rs more j (h (j, w) (by simp))
    cases w <;> simp [chainB, this]
  | (j, w) :: p :: r, h => by
    have h1 := boolAt_take rs more j (h (j, w) (by simp))
    have h2 := chainB_take rs more (p :: r) (fun q hq => h q (by simp [hq]))
    cases w <;> simp only [chainB, h1, h2]
theorem guardOf_take (rs more : List Rec) (ch : List (Nat × Bool)) (h : ChB rs.length ch) : guardOf (rs ++ more) ch = guardOf rs ch := by
  unfold guardOf
  cases ch with
  | nil => rfl
  | cons p r => simp only; rw [chainB_take rs more _ h]
def litB (rs : List Rec) (p : Nat × Bool) : Bool := match p.2 with
  | true => boolAt rs p.1
  | false => !boolAt rs p.1
theorem chainB_cons (rs : List Rec) (p : Nat × Bool) (r : List (Nat × Bool)) : chainB rs (p :: r) = (litB rs p && chainB rs r) := by
  obtain ⟨j, w⟩ := p
  cases r with
  | nil => cases w <;> simp [chainB, litB]
  | cons q r => cases w <;> simp [chainB, litB]
theorem chainB_all (rs : List Rec) : ∀ (ch : List (Nat × Bool)), chainB rs ch = true ↔ ∀ p ∈ ch, litB rs p = true
  | [] => by simp [chainB]
  | p :: r => by rw [chainB_cons, Bool.and_eq_true, chainB_all rs r]; simp
theorem inCh_mem : ∀ (l : List (Nat × Bool)) (p : Nat × Bool), inCh p l = true → p ∈ l
  | [], _, h => by cases h
  | (j, w) :: r, p, h => by
    simp only [inCh, Bool.or_eq_true, Bool.and_eq_true, beq_iff_eq] at h
    rcases h with ⟨h1, h2⟩ | h
    · have := Nat.eq_of_beq_eq_true h1
      obtain ⟨a, b⟩ := p
      simp only at this h2
      subst this h2
      simp
    · exact List.mem_cons_of_mem _ (inCh_mem r p h)
theorem subCh_mem : ∀ (a b : List (Nat × Bool)), subCh a b = true → ∀ p ∈ a, p ∈ b
  | [], _, _, p, h => by simp at h
  | q :: r, b, h, p, hp => by
    simp only [subCh, Bool.and_eq_true] at h
    rcases List.mem_cons.1 hp with rfl | hp
    · exact inCh_mem b p h.1
    · exact subCh_mem r b h.2 p hp
theorem guard_true {rs : List Rec} {ch : List (Nat × Bool)} : guardOf rs ch ≠ some false ↔ chainB rs ch = true := by
  unfold guardOf
  cases ch with
  | nil => simp [chainB]
  | cons p r => simp only; cases chainB rs (p :: r) <;> simp
theorem guard_false {rs : List Rec} {ch : List (Nat × Bool)} : guardOf rs ch = some false ↔ chainB rs ch = false := by
  unfold guardOf
  cases ch with
  | nil => simp [chainB]
  | cons p r => simp
theorem chainOf_spec {rs : List Rec} {g : Option (Nat × Bool)} {ch : List (Nat × Bool)} (h : chainOf rs g = some ch) : (g = none ∧ ch = []) ∨
    ∃ j w r d b, g = some (j, w) ∧ rs[j]? = some r ∧ r.dst = some d ∧ r.val = .dat .bool b ∧ (∃ r', lastRec rs d rs.length = some (j, r')) ∧ ch = (j, w) :: r.ch := by
  unfold chainOf at h
  split at h
  · cases h; exact .inl ⟨rfl, rfl⟩
  · rename_i j w
    split at h
    · rename_i r hr
      split at h
      · rename_i d b hd hv
        split at h
        · rename_i j' r' hl
          split at h
          · rename_i hb
            cases h
            have := Nat.eq_of_beq_eq_true hb
            subst this
            exact .inr ⟨j, w, r, d, b, rfl, hr, hd, hv, ⟨r', hl⟩, rfl⟩
          · cases h
        · cases h
      · cases h
    · cases h
theorem ofConst_rep {ow : Nat → Owner} {bx : Bx} {w : World} (v : Value) : RepEV ow bx w (ofConst v) v := by
  unfold ofConst
  split
  · split
    · rename_i hf; exact repInt_mk hf
    · exact .undef _
  · exact repBool_mk
  · split
    · rename_i hs
      have := Nat.le_of_ble_eq_true hs
      exact .dat ⟨rfl, by omega⟩
    · exact .undef _
  · exact .nil
  · exact .undef _
section
variable {P : Program} {base : List EV} {ops : Array Oper} {s₀ s' : Rg} {ts : List TI} {B : Base} {bg₀ : Nat → Option (List EV)}
/-- Just the tokens that were spent are dead. -/
def DeadD (D : Nat → Bool) (ts : List TI) (bx : Bx) : Prop := ∀ j, bx.dead j = true ↔ ∃ (i : Nat) (t : TI), ts[i]? = some t ∧ D i = true ∧ j ∈ t.k
def StD (B : Base) (base : List EV) (ts : List TI) (s' : Rg) (bg₀ : Nat → Option (List EV)) (D : Nat → Bool) (a : Act) (w : World) : Prop :=
  ∃ ow bx, Inv B ow bx s'.bx.length (fun b => foldI D ts 0 b (bg₀ b)) w ∧ SlotsD ow bx w base s'.rs ts.length D a ∧ a.tmps.size = base.length ∧ a.defers = [] ∧ DeadD D ts bx ∧ ∀ (i : Nat) t, ts[i]? = some t → D i = true → ∀ p ∈ t.up, ∃ v, RepEV ow bx w (.fre p.1 p.2.1 p.2.2) v
theorem rec_at (hL : Linked P base ops.toList s₀ ts s') (h0 : s₀.rs = []) {i : Nat} {o : Oper} {t : TI} (ho : ops[i]? = some o) (ht : ts[i]? = some t) :
    s'.rs[i]? = some ⟨o.dst, t.ch, t.v⟩ ∧ t.s.rs.length = i ∧ ∃ more, s'.rs = t.s.rs ++ more := by
  obtain ⟨_, g2, ⟨more, g3⟩, _⟩ := hL.at i o t (by simpa using ho) ht
  have hl : t.s.rs.length = i := by rw [g2, h0]; simp
  refine ⟨?_, hl, _, g3⟩
  rw [g3, List.getElem?_append_right (by omega), hl]
  simp
theorem ch_below (hL : Linked P base ops.toList s₀ ts s') (h0 : s₀.rs = []) : ∀ (i : Nat) o t, ops[i]? = some o → ts[i]? = some t → ChB i t.ch := by
  intro i
  induction i using Nat.strongRecOn with
  | _ i ih =>
    intro o t ho ht
    obtain ⟨g1, _⟩ := hL.at i o t (by simpa using ho) ht
    obtain ⟨hr, hl, more, hm⟩ := rec_at hL h0 ho ht
    rcases chainOf_spec g1.ch with ⟨_, h⟩ | ⟨j, w, r, d, b, _, hj, _, _, _, h⟩
    · rw [h]; intro p hp; simp at hp
    · have hji : j < i := by rw [← hl]; exact (List.getElem?_eq_some_iff.1 hj).1
      have hlen := hL.length
      have hin : i < ops.toList.length := by have := (Array.getElem?_eq_some_iff.1 ho).1; simpa using this
      obtain ⟨oj, hoj⟩ : ∃ oj, ops[j]? = some oj := ⟨_, Array.getElem?_eq_getElem (by simp at hin; omega)⟩
      obtain ⟨tj, htj⟩ : ∃ tj, ts[j]? = some tj := ⟨_, List.getElem?_eq_getElem (by rw [hlen]; omega)⟩
      obtain ⟨hrj, _⟩ := rec_at hL h0 hoj htj
      have : s'.rs[j]? = some r := by rw [hm, List.getElem?_append_left (by omega)]; exact hj
      rw [hrj] at this
      cases this
      rw [h]
      intro p hp
      rcases List.mem_cons.1 hp with rfl | hp
      · exact hji
      · have := ih j hji oj tj hoj htj p hp
        omega
/-- What a slot holds that an operation looks at. -/
theorem look_rep (hL : Linked P base ops.toList s₀ ts s') (h0 : s₀.rs = []) {i : Nat} {o : Oper} {t : TI} (ho : ops[i]? = some o) (ht : ts[i]? = some t) {D : Nat → Bool} {a : Act} {w : World} {ow : Nat → Owner} {bx : Bx}
    (hS : SlotsD ow bx w base s'.rs ts.length D a) (hsz : a.tmps.size = base.length) {u : Nat} (hag : ∀ k, k < ts.length → dstAt s'.rs k = some u → (D k = true ↔ k < i)) {ch : List (Nat × Bool)} (hch : chainB s'.rs ch = true) :
    RepEV ow bx w (lookE base t.s.rs ch u) (a.tmps.getD u undef) := by
  obtain ⟨hr, hl, more, hm⟩ := rec_at hL h0 ho ht
  have hlen := hL.length
  have hi : i < ts.length := (List.getElem?_eq_some_iff.1 ht).1
  have hdst : ∀ k, k < i → dstAt t.s.rs k = dstAt s'.rs k := by
    intro k hk
    unfold dstAt
    rw [hm, List.getElem?_append_left (by omega)]
  obtain ⟨sp1, sp2⟩ := lastRec_spec t.s.rs u t.s.rs.length
  unfold lookE
  split
  · rename_i j r hlr
    obtain ⟨k1, k2, k3, k4⟩ := sp1 j r hlr
    split
    · rename_i hsub
      have hjR : s'.rs[j]? = some r := by rw [hm, List.getElem?_append_left (by omega)]; exact k2
      have hub : u < base.length := by
        obtain ⟨oj, hoj⟩ : ∃ oj, ops[j]? = some oj := ⟨_, Array.getElem?_eq_getElem (by have := hlen; simp at this; omega)⟩
        obtain ⟨tj, htj⟩ : ∃ tj, ts[j]? = some tj := ⟨_, List.getElem?_eq_getElem (by omega)⟩
        obtain ⟨g1, _⟩ := hL.at j oj tj (by simpa using hoj) htj
        obtain ⟨hrj, _⟩ := rec_at hL h0 hoj htj
        rw [hjR] at hrj
        cases hrj
        have hd := g1.dst
        simp only at k3
        rw [k3] at hd
        exact Nat.le_of_ble_eq_true hd
      have hdj : dstAt s'.rs j = some u := by unfold dstAt; rw [hjR]; exact k3
      have huniq : ∀ m, m < ts.length → D m = true → dstAt s'.rs m = some u → m ≤ j := by
        intro m h1 h2 h3
        have hmi := (hag m h1 h3).1 h2
        apply Classical.byContradiction
        intro hn
        exact k4 m (by omega) (by omega) (by rw [hdst m hmi]; exact h3)
      have hDj : D j = true := (hag j (by omega) hdj).2 (by omega)
      rcases hS u hub with ⟨m, r', ⟨q1, q2, q3, q4⟩, q5, q6, q7⟩ | ⟨q1, _⟩
      · have : m = j := by
          have h1 := huniq m q1 q2 q3
          apply Classical.byContradiction
          intro hn
          exact q4 j (by omega) (by omega) hDj hdj
        subst this
        rw [hjR] at q5
        cases q5
        refine q6 (guard_true.2 ((chainB_all _ _).2 fun p hp => ?_))
        exact (chainB_all _ _).1 hch p (subCh_mem _ _ hsub p hp)
      · exact absurd hdj (q1 j (by omega) hDj)
    · exact .undef _
  · rename_i hlr
    have hno := sp2 hlr
    split
    · rename_i e he
      have hub : u < base.length := (List.getElem?_eq_some_iff.1 he).1
      rcases hS u hub with ⟨m, r', ⟨q1, q2, q3, q4⟩, _⟩ | ⟨_, q2⟩
      · have hmi := (hag m q1 q3).1 q2
        exact absurd (by rw [hdst m hmi]; exact q3) (hno m (by omega))
      · exact q2 e he
    · exact .undef _
theorem opd_rep (hL : Linked P base ops.toList s₀ ts s') (h0 : s₀.rs = []) {i : Nat} {o : Oper} {t : TI} (ho : ops[i]? = some o) (ht : ts[i]? = some t) {D : Nat → Bool} {a : Act} {w : World} {ow : Nat → Owner} {bx : Bx}
    (hS : SlotsD ow bx w base s'.rs ts.length D a) (hsz : a.tmps.size = base.length) (hag : ∀ u ∈ o.looksAt ops, ∀ k, k < ts.length → dstAt s'.rs k = some u → (D k = true ↔ k < i)) {ch : List (Nat × Bool)} (hch : chainB s'.rs ch = true) :
    (hg : GlobOK ow w) → ∀ x, (∀ u, x = .tmp u → u ∈ o.looksAt ops) → RepEV ow bx w (opdE base t.s.rs ch x) (a.eval x) := by
  intro hg x hx
  cases x with
  | tmp u => exact look_rep hL h0 ho ht hS hsz (hag u (hx u rfl)) hch
  | const v => exact ofConst_rep v
  | func f => exact .clo (by simp) (by simp) (fun i e v he => by simp at he) (fun i e v he => by simp at he)
  | global g => exact glob_rep hg g
theorem chain_full (hL : Linked P base ops.toList s₀ ts s') (h0 : s₀.rs = []) {i : Nat} {o : Oper} {t : TI} (ho : ops[i]? = some o) (ht : ts[i]? = some t) : guardOf s'.rs t.ch = guardOf t.s.rs t.ch := by
  obtain ⟨hr, hl, more, hm⟩ := rec_at hL h0 ho ht
  rw [hm]
  exact guardOf_take _ _ _ (by rw [hl]; exact ch_below hL h0 i o t ho ht)
/-- Is an operation wanted? Just if its guards say so. -/
theorem wanted_iff (hL : Linked P base ops.toList s₀ ts s') (h0 : s₀.rs = []) {i : Nat} {o : Oper} {t : TI} (ho : ops[i]? = some o) (ht : ts[i]? = some t) {D : Nat → Bool} {a : Act} {w : World} {ow : Nat → Owner} {bx : Bx}
    (hS : SlotsD ow bx w base s'.rs ts.length D a) (hsz : a.tmps.size = base.length) (hag : ∀ u ∈ o.looksAt ops, ∀ k, k < ts.length → dstAt s'.rs k = some u → (D k = true ↔ k < i)) :
    Region.wanted o (yielded ops a.tmps) = chainB s'.rs t.ch := by
  obtain ⟨g1, _⟩ := hL.at i o t (by simpa using ho) ht
  obtain ⟨hr, hl, more, hm⟩ := rec_at hL h0 ho ht
  have hi : i < ts.length := (List.getElem?_eq_some_iff.1 ht).1
  rcases chainOf_spec g1.ch with ⟨h1, h2⟩ | ⟨j, wt, r, d, b, h1, h2, h3, h4, ⟨r', h5⟩, h6⟩
  · rw [h2]; unfold Region.wanted; rw [h1]; rfl
  · have hji : j < i := by rw [← hl]; exact (List.getElem?_eq_some_iff.1 h2).1
    have hlen := hL.length
    obtain ⟨oj, hoj⟩ : ∃ oj, ops[j]? = some oj := ⟨_, Array.getElem?_eq_getElem (by simp at hlen; omega)⟩
    obtain ⟨tj, htj⟩ : ∃ tj, ts[j]? = some tj := ⟨_, List.getElem?_eq_getElem (by omega)⟩
    obtain ⟨gj, _⟩ := hL.at j oj tj (by simpa using hoj) htj
    obtain ⟨hrj, _⟩ := rec_at hL h0 hoj htj
    have hjR : s'.rs[j]? = some r := by rw [hm, List.getElem?_append_left (by omega)]; exact h2
    have hjR' := hjR
    rw [hrj] at hjR
    cases hjR
    simp only at h3 h4
    have hlook : d ∈ o.looksAt ops := by
      unfold Oper.looksAt
      rw [h1]
      simp [hoj, h3]
    have hub : d < base.length := by
      have hd := gj.dst
      rw [h3] at hd
      exact Nat.le_of_ble_eq_true hd
    have hdj : dstAt s'.rs j = some d := by unfold dstAt; rw [hrj]; exact h3
    have hDj : D j = true := (hag d hlook j (by omega) hdj).2 hji
    have hlast : ∀ k, j < k → k < i → dstAt s'.rs k ≠ some d := by
      intro k k1 k2
      obtain ⟨_, _, _, q⟩ := (lastRec_spec t.s.rs d t.s.rs.length).1 j r' h5
      have := q k k1 (by omega)
      unfold dstAt at this ⊢
      rw [hm, List.getElem?_append_left (by omega)]
      exact this
    have hbool : boolAt s'.rs j = b := by unfold boolAt recAt; rw [hrj]; simp [h4]
    have hyl : yielded ops a.tmps j = match a.tmps[d]? with
        | some (.bool b) => some b
        | _ => none := by
      unfold yielded
      simp [hoj, h3]
      rfl
    have hget : a.tmps[d]? = some (a.tmps.getD d undef) := by
      have : d < a.tmps.size := by omega
      simp [this]
    rw [h6, chainB_cons]
    unfold Region.wanted
    rw [h1]
    simp only
    rw [hyl, hget]
    rcases hS d hub with ⟨m, rm, ⟨q1, q2, q3, q4⟩, q5, q6, q7⟩ | ⟨q1, _⟩
    · have : m = j := by
        have hmi := (hag d hlook m q1 q3).1 q2
        apply Classical.byContradiction
        intro hn
        by_cases hlt : m < j
        · exact q4 j hlt (by omega) hDj hdj
        · exact hlast m (by omega) hmi q3
      subst this
      rw [hrj] at q5
      cases q5
      cases hc : chainB s'.rs tj.ch with
      | true =>
        have hv := q6 (guard_true.2 hc)
        rw [h4] at hv
        rw [repBool hv]
        unfold litB
        simp only [hbool, Bool.and_true]
        cases wt <;> cases b <;> rfl
      | false =>
        rw [q7 (guard_false.2 hc)]
        simp [undef]
    · exact absurd hdj (q1 j (by omega) hDj)
theorem args_rep (hL : Linked P base ops.toList s₀ ts s') (h0 : s₀.rs = []) {i : Nat} {o : Oper} {t : TI} (ho : ops[i]? = some o) (ht : ts[i]? = some t) {D : Nat → Bool} {a : Act} {w : World} {ow : Nat → Owner} {bx : Bx}
    (hS : SlotsD ow bx w base s'.rs ts.length D a) (hsz : a.tmps.size = base.length) (hag : ∀ u ∈ o.looksAt ops, ∀ k, k < ts.length → dstAt s'.rs k = some u → (D k = true ↔ k < i)) (hch : chainB s'.rs t.ch = true) (hg : GlobOK ow w) :
    Args ow bx w (argE base t.s.rs t.ch o.op) a.eval o.op := by
  obtain ⟨hr, hl, more, hm⟩ := rec_at hL h0 ho ht
  have hlook : ∀ x ∈ o.op.operands, ∀ u, x = .tmp u → u ∈ o.looksAt ops := by
    intro x hx u he
    subst he
    unfold Oper.looksAt
    exact List.mem_append_left _ (List.mem_filterMap.2 ⟨.tmp u, by simpa using hx, rfl⟩)
  have usual : ∀ x ∈ o.op.operands, RepEV ow bx w (opdE base t.s.rs t.ch x) (a.eval x) := fun x hx => opd_rep hL h0 ho ht hS hsz hag hch hg x (hlook x hx)
  unfold Args
  split
  · rename_i c x y hop
    rw [hop] at usual hlook
    rw [hop]
    cases c with
    | tmp cu =>
      cases hlr : lastRec t.s.rs cu t.s.rs.length with
      | none =>
        unfold argE
        simp only [hlr]
        exact ⟨usual (.tmp cu) (by simp [Op.operands]), fun b _ => ⟨fun _ => usual x (by simp [Op.operands]), fun _ => usual y (by simp [Op.operands])⟩⟩
      | some jr =>
        obtain ⟨j, rj⟩ := jr
        have hcs : RepEV ow bx w (lookE base t.s.rs t.ch cu) (a.eval (.tmp cu)) := usual (.tmp cu) (by simp [Op.operands])
        obtain ⟨k1, k2, k3, k4⟩ := (lastRec_spec t.s.rs cu t.s.rs.length).1 j rj hlr
        have hA : argE base t.s.rs t.ch (.pick (.tmp cu) x y) (.tmp cu) = lookE base t.s.rs t.ch cu := by
          unfold argE
          simp only [hlr, Nat.beq_refl]
        refine ⟨by rw [hA]; exact hcs, fun b hb => ?_⟩
        rw [hA] at hb
        -- the value of the guard
        have hbj : boolAt s'.rs j = b := by
          unfold lookE at hb
          rw [hlr] at hb
          simp only at hb
          split at hb
          · unfold boolAt recAt
            rw [hm, List.getElem?_append_left k1, k2]
            simp [hb]
          · cases hb
        have look : ∀ (v : Operand) (wt : Bool), v ∈ o.op.operands → b = wt → ∀ u, v = .tmp u → RepEV ow bx w (lookE base t.s.rs ((j, wt) :: t.ch) u) (a.eval (.tmp u)) := by
          intro v wt hv hbw u hu
          refine look_rep hL h0 ho ht hS hsz (hag u (by rw [hop] at hv; exact hlook v hv u hu)) ?_
          rw [chainB_cons, hch, Bool.and_true]
          unfold litB
          simp only [hbj, hbw]
          cases wt <;> rfl
        have opx : ∀ (v : Operand) (wt : Bool), v ∈ o.op.operands → b = wt → (x = v ∧ wt = true ∨ y = v ∧ wt = false) → RepEV ow bx w (argE base t.s.rs t.ch (.pick (.tmp cu) x y) v) (a.eval v) := by
          intro v wt hv hbw hxy
          unfold argE
          simp only [hlr]
          cases v with
          | tmp u =>
            simp only
            split
            · exact usual (.tmp u) (by rw [hop] at hv; exact hv)
            · split
              · rename_i t'' cc
                split
                · rename_i hb2
                  have := Nat.eq_of_beq_eq_true hb2
                  subst this
                  rcases hxy with ⟨_, hw⟩ | ⟨h, _⟩
                  · subst hw; exact look _ true hv hbw u rfl
                  · cases h
                · exact .undef _
              · rename_i cc t''
                split
                · rename_i hb2
                  have := Nat.eq_of_beq_eq_true hb2
                  subst this
                  rcases hxy with ⟨h, _⟩ | ⟨_, hw⟩
                  · cases h
                  · subst hw; exact look _ false hv hbw u rfl
                · exact .undef _
              · exact .undef _
          | const cc => exact usual (.const cc) (by rw [hop] at hv; exact hv)
          | global gg => exact usual (.global gg) (by rw [hop] at hv; exact hv)
          | func ff => exact usual (.func ff) (by rw [hop] at hv; exact hv)
        exact ⟨fun ht => opx x true (by rw [hop]; simp [Op.operands]) ht (.inl ⟨rfl, rfl⟩), fun hf => opx y false (by rw [hop]; simp [Op.operands]) hf (.inr ⟨rfl, rfl⟩)⟩
    | const v => exact ⟨usual (.const v) (by simp [Op.operands]), fun b _ => ⟨fun _ => usual x (by simp [Op.operands]), fun _ => usual y (by simp [Op.operands])⟩⟩
    | global g => exact ⟨usual (.global g) (by simp [Op.operands]), fun b _ => ⟨fun _ => usual x (by simp [Op.operands]), fun _ => usual y (by simp [Op.operands])⟩⟩
    | func f => exact ⟨usual (.func f) (by simp [Op.operands]), fun b _ => ⟨fun _ => usual x (by simp [Op.operands]), fun _ => usual y (by simp [Op.operands])⟩⟩
  · rename_i hnp
    have : argE base t.s.rs t.ch o.op = opdE base t.s.rs t.ch := by
      unfold argE
      split
      · rename_i c a b hop
        exact absurd hop (hnp _ _ _)
      · rfl
    rw [this]
    exact usual
end
end Go.Proofs.Ytdiebciejcmmhaa
