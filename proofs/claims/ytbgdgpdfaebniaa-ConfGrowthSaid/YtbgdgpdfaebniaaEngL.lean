/- Each operation does what the reading says: parts of slices and strings, calls; all of them. No program in sight. -/
import Derived.Test.YtbgdgpdfaebniaaEngK
set_option linter.unusedSimpArgs false
set_option linter.unusedVariables false
namespace Go.Proofs.Ytbgdgpdfaebniaa
section
variable {ρ : Type} {P : Program} {Γ : Cx} {id : Nat} {rd : Nat → Option (List EV)} {g : Option Bool} {A : Operand → EV} {o : Oper} {q : EV → Option (List EV) → List Wr → List Nat → Option ρ} {r : ρ}
theorem bound_run {w : World} {k : IntKind} {m : Int} {y : Nat} {code : BoundsCode} (h0 : 0 ≤ m) (h1 : m ≤ (y : Int)) : (Instr.sliceBound (.int k m) y code).run P w = .ok m.toNat w := by
  simp [Instr.sliceBound, asIntOf, h0, h1]
theorem sound_slice {T : TypeId} {x : Operand} {lo hi mx : Option Operand} (hΓ : CxOK P Γ) (ho : o.op = .slice T x lo hi mx) (h : opE Γ id rd g A (.slice T x lo hi mx) q = some r) : Sound P id rd g A o q r := by
  have hx : ∀ {ow bx w ev}, Args ow bx w A ev o.op → RepEV ow bx w (A x) (ev x) ∧ (∀ y, lo = some y → RepEV ow bx w (A y) (ev y)) ∧ (∀ y, hi = some y → RepEV ow bx w (A y) (ev y)) := by
    intro ow bx w ev hA
    rw [ho] at hA
    have hall := args_of hA (by intros; simp)
    exact ⟨hall x (by simp [Op.operands]), fun y hy => hall y (by simp [Op.operands, hy]), fun y hy => hall y (by simp [Op.operands, hy])⟩
  have val : ∀ {y : Operand} {ow bx w} {ev : Operand → Value} {m : Int}, intOf (A y) = some m → RepEV ow bx w (A y) (ev y) → ∃ k, ev y = .int k m := by
    intro y ow bx w ev m hm hv
    obtain ⟨k, hk⟩ := intOf_spec hm
    rw [hk] at hv
    exact ⟨k, (repInt hv).1⟩
  simp only [opE] at h
  cases mx with
  | some m => cases h
  | none =>
    simp only at h
    split at h
    · rename_i ty l he
      split at h
      · cases h
      · rename_i hs
        split at h
        · rename_i a b ha hb
          obtain ⟨h1, h2⟩ := chk_spec h
          refine sound_pure h1 fun hg B ow bx nb bg w act hi' hA hbb => ?_
          obtain ⟨hp, hlo, hhi⟩ := hx hA
          replace hp := raw_rep hp
          rw [he] at hp
          have hck := h2 hg
          simp only [Bool.and_eq_true, decide_eq_true_eq] at hck
          obtain ⟨⟨c1, c2⟩, c3⟩ := hck
          obtain ⟨d, e, s, b', gi, hd, hw, hu, g1, g2⟩ := sliceOf_spec hΓ hs
          generalize hpe : act.eval x = u at hp
          cases hp with
          | dat hp =>
            obtain ⟨ad, cap, h3, ⟨h4, h4'⟩, h5⟩ := hp
            simp only [List.cons.injEq, and_true] at h3
            have hlow : ∀ (y : Nat) (hy : b = (y : Int)), (do match lo.map act.eval with | some v => Instr.sliceBound v y .sliceB | none => pure 0 : Sem Nat).run P w = .ok a.toNat w := by
              intro y hy
              cases lo with
              | none => simp only at ha; cases ha; rfl
              | some z =>
                simp only at ha
                obtain ⟨k, hk⟩ := val ha (hlo z rfl)
                simp only [Option.map_some, hk]
                exact bound_run c1 (by omega)
            have hhigh : (do match hi.map act.eval with | some v => Instr.sliceBound v cap .sliceAcap | none => pure l.length : Sem Nat).run P w = .ok b.toNat w := by
              cases hi with
              | none => simp only at hb; cases hb; simp
              | some z =>
                simp only at hb
                obtain ⟨k, hk⟩ := val hb (hhi z rfl)
                simp only [Option.map_some, hk]
                exact bound_run (by omega) (by omega)
            have hbounds : (Instr.sliceBounds true l.length cap (lo.map act.eval) (hi.map act.eval) none).run P w = .ok (a.toNat, b.toNat, cap) w := by
              have h6 := hlow b.toNat (by omega)
              unfold Instr.sliceBounds
              cases hi with
              | none =>
                simp only at hb
                cases hb
                cases lo with
                | none => simp only at ha; cases ha; simp
                | some z =>
                  simp only [Option.map_some] at h6 ⊢
                  simp only [Option.map_none, Sem.run_bind, Sem.run_pure, Result.andThen_ok, Option.isSome_none, Bool.false_eq_true, if_false]
                  simp at h6 ⊢
                  rw [h6]
                  rfl
              | some z' =>
                simp only [Option.map_some] at hhigh
                cases lo with
                | none =>
                  simp only at ha
                  cases ha
                  simp only [Option.map_some, Option.map_none, Sem.run_bind, Sem.run_pure, Result.andThen_ok, if_true]
                  simp at hhigh ⊢
                  rw [hhigh]
                  rfl
                | some z =>
                  simp only [Option.map_some] at h6 ⊢
                  simp only [Sem.run_bind, Sem.run_pure, Result.andThen_ok, if_true, Option.isSome_none, Bool.false_eq_true, if_false]
                  (try simp at hhigh); (try simp at h6); (try simp)
                  rw [hhigh]
                  simp only [Result.andThen_ok]
                  rw [h6]
                  rfl
            refine ⟨.slice (if cap = a.toNat then ad else ad.map (·.add (a.toNat * gi.size))) (b.toNat - a.toNat) (cap - a.toNat), ?_, .dat ?_⟩
            · unfold execOp
              rw [ho]
              simp [hpe, h3, Instr.sliceAt, Instr.slice, underlying, hu, hbounds, sizeOf, typeInfo, g1]
            · have hlen : ((l.take b.toNat).drop a.toNat).length = b.toNat - a.toNat := by simp; omega
              refine ⟨_, _, by rw [hlen], ⟨by omega, by omega⟩, fun hne => ?_⟩
              have hlt : a.toNat < b.toNat := by
                apply Classical.byContradiction
                intro hn
                exact hne (List.eq_nil_of_length_eq_zero (by omega))
              obtain ⟨blk, off, c, U, fz, k1, k2, k3, k4⟩ := h5 (by intro e; subst e; simp at c3; omega)
              rw [if_neg (by omega), k1]
              have hle : off + a.toNat * gi.size + ((l.take b.toNat).drop a.toNat).length * ty.size ≤ off + l.length * ty.size := by
                have h7 : (a.toNat + ((l.take b.toNat).drop a.toNat).length) * ty.size ≤ l.length * ty.size := Nat.mul_le_mul_right _ (by omega)
                rw [Nat.add_mul] at h7
                rw [g2]
                omega
              refine ⟨blk, off + a.toNat * gi.size, c, U, fz, by simp [add_at], rigid_mono k2 hle, k3, fun i y hy => ?_⟩
              rw [List.getElem?_drop, List.getElem?_take] at hy
              split at hy
              · have := k4 _ y hy
                rw [Nat.add_mul] at this
                rw [g2, Nat.add_assoc]
                exact this
              · cases hy
        · cases h
    · rename_i s he
      split at h
      · cases h
      · rename_i hs
        split at h
        · rename_i a b ha hb
          obtain ⟨h1, h2⟩ := chk_spec h
          refine sound_pure h1 fun hg B ow bx nb bg w act hi' hA hbb => ?_
          obtain ⟨hp, hlo, hhi⟩ := hx hA
          replace hp := raw_rep hp
          rw [he] at hp
          have hck := h2 hg
          simp only [Bool.and_eq_true, decide_eq_true_eq] at hck
          obtain ⟨⟨c1, c2⟩, c3⟩ := hck
          have hu := isStr_spec hΓ hs
          obtain ⟨h3, h4⟩ := repStr hp
          have hlow : ∀ (y : Nat) (hy : b = (y : Int)), (do match lo.map act.eval with | some v => Instr.sliceBound v y .sliceB | none => pure 0 : Sem Nat).run P w = .ok a.toNat w := by
            intro y hy
            cases lo with
            | none => simp only at ha; cases ha; rfl
            | some z =>
              simp only at ha
              obtain ⟨k, hk⟩ := val ha (hlo z rfl)
              simp only [Option.map_some, hk]
              exact bound_run c1 (by omega)
          have hhigh : (do match hi.map act.eval with | some v => Instr.sliceBound v s.size .sliceAlen | none => pure s.size : Sem Nat).run P w = .ok b.toNat w := by
            cases hi with
            | none => simp only at hb; cases hb; simp
            | some z =>
              simp only at hb
              obtain ⟨k, hk⟩ := val hb (hhi z rfl)
              simp only [Option.map_some, hk]
              exact bound_run (by omega) (by omega)
          have hbounds : (Instr.sliceBounds false s.size s.size (lo.map act.eval) (hi.map act.eval) none).run P w = .ok (a.toNat, b.toNat, s.size) w := by
            have h6 := hlow b.toNat (by omega)
            unfold Instr.sliceBounds
            cases hi with
            | none =>
              simp only at hb
              cases hb
              cases lo with
              | none => simp only at ha; cases ha; simp
              | some z =>
                simp only [Option.map_some] at h6 ⊢
                simp only [Option.map_none, Sem.run_bind, Sem.run_pure, Result.andThen_ok, Option.isSome_none, Bool.false_eq_true, if_false]
                simp at h6 ⊢
                rw [h6]
                rfl
            | some z' =>
              simp only [Option.map_some] at hhigh
              cases lo with
              | none =>
                simp only at ha
                cases ha
                simp only [Option.map_some, Option.map_none, Sem.run_bind, Sem.run_pure, Result.andThen_ok, Bool.false_eq_true, if_false]
                simp at hhigh ⊢
                rw [hhigh]
                rfl
              | some z =>
                simp only [Option.map_some] at h6 ⊢
                simp only [Sem.run_bind, Sem.run_pure, Result.andThen_ok, Option.isSome_none, Bool.false_eq_true, if_false]
                (try simp at hhigh); (try simp at h6); (try simp)
                rw [hhigh]
                simp only [Result.andThen_ok]
                rw [h6]
                rfl
          refine ⟨.string (s.extract a.toNat b.toNat), ?_, .dat ⟨rfl, ?_⟩⟩
          · unfold execOp
            rw [ho]
            simp [h3, Instr.sliceAt, Instr.slice, underlying, hu, hbounds]
          · simp [ByteArray.size_extract]; omega
        · cases h
    · cases h
theorem sound_index {T : TypeId} {x i : Operand} (hΓ : CxOK P Γ) (ho : o.op = .index T x i) (h : opE Γ id rd g A (.index T x i) q = some r) : Sound P id rd g A o q r := by
  have hx : ∀ {ow bx w ev}, Args ow bx w A ev o.op → RepEV ow bx w (A x) (ev x) ∧ RepEV ow bx w (A i) (ev i) := by
    intro ow bx w ev hA
    rw [ho] at hA
    exact ⟨args_of hA (by intros; simp) x (by simp [Op.operands]), args_of hA (by intros; simp) i (by simp [Op.operands])⟩
  simp only [opE] at h
  split at h
  · rename_i s he
    split at h
    · rename_i m hm hs
      obtain ⟨h1, h2⟩ := chk_spec h
      obtain ⟨k, hk⟩ := intOf_spec hm
      refine sound_pure h1 fun hg B ow bx nb bg w a hi hA hb => ?_
      obtain ⟨hp, hpi⟩ := hx hA
      rw [he] at hp
      rw [hk] at hpi
      have hck := h2 hg
      simp only [Bool.and_eq_true, decide_eq_true_eq] at hck
      have hlt : m.toNat < s.size := by omega
      refine ⟨.int .u8 (s[m.toNat]'hlt).toNat, ?_, ?_⟩
      · unfold execOp
        rw [ho]
        simp [(repStr hp).1, (repInt hpi).1, Instr.index, asIntOf, underlying, isStr_spec hΓ hs, hck.1, hlt]
      · have : s[m.toNat]?.getD 0 = s[m.toNat]'hlt := by simp [hlt]
        rw [this]
        refine repInt_mk ((fits_iff _ _).2 ?_)
        have := (s[m.toNat]'hlt).toNat_lt
        simp [IntKind.min, IntKind.max, IntKind.signed, IntKind.bits]
        omega
    · cases h
  · rename_i c v he
    split at h
    · rename_i m d hm hd
      split at h
      · rename_i n e s hhow
        split at h
        · rename_i ed hed
          split at h
          · rename_i ty hty
            split at h
            · rename_i l hl
              obtain ⟨h1, h2⟩ := chk_spec h
              obtain ⟨k, hk⟩ := intOf_spec hm
              refine sound_pure h1 fun hg B ow bx nb bg w a hi hA hb => ?_
              obtain ⟨hp, hpi⟩ := hx hA
              rw [he] at hp
              rw [hk] at hpi
              have hck := h2 hg
              simp only [Bool.and_eq_true, decide_eq_true_eq] at hck
              obtain ⟨hln, hall⟩ := sames_spec _ _ _ hl
              have hlt : m.toNat < l.length := by omega
              obtain ⟨ev, g1, g2⟩ := hall m.toNat hlt
              have hh := (hΓ.td T d hd).how
              simp only [hhow] at hh
              obtain ⟨hu, ei, hei, hes⟩ := hh
              generalize hpe : a.eval x = u at hp
              cases hp with
              | dat hp =>
                obtain ⟨cells, hcells, hrep⟩ := hp
                obtain ⟨u', k1, k2⟩ := part_read (hΓ.td e ed hed) g1 (rep_flat (bx := bx) _ _ _ hrep)
                rw [Nat.zero_add] at k1
                have hsz : (sizeOf e).run P w = .ok s w := by simp [Go.sizeOf, typeInfo, hei, hes]
                refine ⟨u', ?_, ?_⟩
                · unfold execOp
                  rw [ho]
                  simp [hpe, hcells, (repInt hpi).1, Instr.index, asIntOf, underlying, hu, hck.1, hck.2, hsz, k1]
                · have : l.getD m.toNat ty.dflt = l[m.toNat]'hlt := by simp [List.getD, hlt]
                  rw [this]
                  exact .dat (to_rep g2 k2)
            · cases h
          · cases h
        · cases h
      · cases h
    · cases h
  · cases h
end
end Go.Proofs.Ytbgdgpdfaebniaa
