/- Code does what the reading says: joins, loops, all code. No program in sight. -/
import Derived.Test.YtbgdgpdfaebniaaEngX
set_option linter.unusedSimpArgs false
set_option linter.unusedVariables false
namespace Go.Proofs.Ytbgdgpdfaebniaa
theorem outPack_spec {nb : Nat} {all : List Pl} {ex : Ex} {σ' : St} : ∀ (outs : List (Ex × List It)) (x : outTy outs), outPack nb all ex σ' outs = some x →
    ∃ (its : List It) (v : (itsTy its).den), (ex, its) ∈ outs ∧ covered nb its all σ'.jr = true ∧ pack σ' its = some v ∧
      ∀ (ρ : Type) (base : St) (drop : List Pl) (K : Ex → St → Option ρ), outUnpack base drop K outs x = K ex (unpack base its drop v)
  | [], x, h => by cases h
  | [(y, its)], x, h => by
    simp only [outPack] at h
    split at h
    · rename_i hc
      rw [Bool.and_eq_true, decide_eq_true_eq] at hc
      obtain ⟨rfl, hc⟩ := hc
      exact ⟨its, x, by simp, hc, h, fun ρ base drop K => rfl⟩
    · cases h
  | (y, its) :: z :: r, x, h => by
    simp only [outPack] at h
    split at h
    · rename_i he
      have he := of_decide_eq_true he
      subst he
      split at h
      · rename_i hc
        split at h
        · rename_i v hv
          cases h
          exact ⟨its, v, by simp, hc, hv, fun ρ base drop K => rfl⟩
        · cases h
      · cases h
    · split at h
      · rename_i v hv
        cases h
        obtain ⟨its', v', h1, h2, h3, h4⟩ := outPack_spec (z :: r) v hv
        exact ⟨its', v', List.mem_cons_of_mem _ h1, h2, h3, fun ρ base drop K => h4 ρ base drop K⟩
      · cases h
theorem fresh_rel {B : Base} {σ : St} {a : Act} {w : World} (h : RelE B σ a w) : RelE B σ.fresh a w := h
theorem after_evo {σ τ : St} {j js : List Pl} (h : EvoJ σ.fresh τ j) (hs : ∀ p ∈ j, p ∈ js) : Evo σ (τ.after σ js) := by
  have h := h.mono hs
  exact ⟨h.slots, h.boxes, js, rfl, h.slot, h.box, h.none⟩
section
variable {P : Program} {c : Code} {core : (ρ : Type) → St → (Ex → St → Option ρ) → Option ρ}
theorem joinE_sound {sp : Sp} (h : Core P c core) : Core P c (fun ρ σ k => joinE sp σ k core) := by
  intro ρ σ k r hr B a w hrel
  unfold joinE at hr
  split at hr
  · rename_i drop outs
    obtain ⟨x, h1, h2⟩ := Option.bind_eq_some_iff.1 hr
    refine wp_mono (h _ _ _ x h1 B a w (fresh_rel hrel)) ?_
    rintro e a' w' ⟨ex, τ, he, hk, hrel', hevo⟩
    obtain ⟨its, v, hm, hcov, hp, hun⟩ := outPack_spec outs x hk
    rw [hun] at h2
    have hJ := hevo.toJ rfl
    have hrel2 := unpack_rel (drop := drop) (fresh_rel hrel) hJ hrel' (covered_spec _ hcov) hp
    obtain ⟨hE, _⟩ := evo_unpack (drop := drop) hJ hp
    refine ⟨ex, _, he, h2, hrel2, after_evo hE fun p hp => ?_⟩
    rcases List.mem_append.1 hp with h | h
    · exact List.mem_append_right _ (List.mem_flatMap.2 ⟨_, hm, h⟩)
    · exact List.mem_append_left _ h
  · exact h ρ σ k r hr B a w hrel
theorem loopO_some {S X : Type} {f : S → Option (S ⊕ X)} {s : S} {x : X} (h : loopO f s = some x) : ∃ n, loopN f n s = some x := by
  unfold loopO at h
  split at h
  · exact ⟨_, h⟩
  · cases h
theorem plsOf_has : ∀ (its : List It) (bx : List (Option (List EV))) (p : Pl), p ∈ plsOf its bx → itsHas p its = true
  | [], _, p, h => by simp [plsOf] at h
  | t :: r, bx, p, h => by
    simp only [plsOf] at h
    simp only [itsHas, Bool.or_eq_true]
    rcases List.mem_append.1 h with h | h
    · left
      unfold itHas
      cases hat : t.at_ with
      | slot i =>
        rw [hat] at h
        simp at h
        subst h
        simp
      | cell b i =>
        rw [hat] at h
        simp at h
        subst h
        simp
      | box b =>
        rw [hat] at h
        simp only at h ⊢
        split at h
        · obtain ⟨i, _, rfl⟩ := List.mem_map.1 h
          simp
        · simp at h
    · exact .inr (plsOf_has r bx p h)
theorem itsGet_fresh (σ : St) : ∀ (its : List It), itsGet σ.fresh its = itsGet σ its
  | [] => rfl
  | t :: r => by
    simp only [itsGet, itsGet_fresh σ r]
    rfl
theorem pack_fresh (σ : St) (its : List It) : pack σ.fresh its = pack σ its := by
  unfold pack
  rw [itsGet_fresh]
theorem itSet_jr (τ : St) (it : It) (v : EV) : (itSet τ it v).jr = τ.jr := by
  unfold itSet
  cases it.at_ with
  | slot i => rfl
  | box b => simp only; split <;> rfl
  | cell b i => simp only; split <;> rfl
theorem itsSet_jr : ∀ (its : List It) (vs : List EV) (τ : St), (itsSet its vs τ).jr = τ.jr
  | [], vs, τ => by simp [itsSet]
  | t :: r, [], τ => rfl
  | t :: r, v :: vs, τ => by
    simp only [itsSet]
    rw [itsSet_jr, itSet_jr]
theorem unsets_jr : ∀ (ps : List Pl) (τ : St), (unsets ps τ).jr = τ.jr
  | [], _ => rfl
  | p :: r, τ => by
    simp only [unsets]
    rw [unsets_jr]
    obtain ⟨x, i⟩ := p
    cases x with
    | zero => rfl
    | succ b => unfold unset; simp only; split <;> rfl
theorem unpack_jr (σ : St) (its : List It) (drop : List Pl) (v : (itsTy its).den) : (unpack σ its drop v).jr = σ.jr := by
  unfold unpack
  rw [itsSet_jr, unsets_jr]
theorem loopE_sound {sp : Sp} (h : Core P c core) : Core P (.loop c) (fun ρ σ k => loopE sp σ k core) := by
  intro ρ σ k r hr B a w hrel
  replace hr : loopE sp σ k core = some r := hr
  unfold loopE at hr
  split at hr
  · rename_i S drop outs
    split at hr
    · cases hr
    · rename_i s₀ hs₀
      obtain ⟨x, h1, h2⟩ := Option.bind_eq_some_iff.1 hr
      obtain ⟨n, hn⟩ := loopO_some h1
      refine wp_loop_rounds n ?_
      have hrf := fresh_rel hrel
      rw [← pack_fresh] at hs₀
      have key : ∀ (kb : Ex → St → Option ((itsTy S).den ⊕ outTy outs)), (∀ τ y, kb .normal τ = some y → ∃ v, y = .inl v ∧ covered σ.boxes.length S drop τ.jr = true ∧ pack τ S = some v) →
          (∀ ex τ y, ex ≠ .normal → kb ex τ = some y → ∃ z, y = .inr z ∧ outPack σ.boxes.length (plsOf S σ.boxes ++ drop) ex τ outs = some z) →
          ∀ (n : Nat) (s : (itsTy S).den) (a' : Act) (w' : World), loopN (fun s => core _ (unpack σ.fresh S drop s) kb) n s = some x → RelE B (unpack σ.fresh S drop s) a' w' → EvoJ σ.fresh (unpack σ.fresh S drop s) (plsOf S σ.boxes ++ drop) →
            Code.rounds P c (Post B σ k r) n a' w' := by
        intro kb hkn hkx n
        induction n with
        | zero => intro s a' w' hl _ _; cases hl
        | succ n ih =>
          intro s a' w' hl hrs hes
          rw [rounds_succ]
          simp only [loopN] at hl
          have step : ∀ y, core _ (unpack σ.fresh S drop s) kb = some y → (∀ s', y = .inl s' → loopN (fun s => core _ (unpack σ.fresh S drop s) kb) n s' = some x) → (∀ z, y = .inr z → z = x) →
              c.wp P (Exit.then (Code.rounds P c (Post B σ k r) n) (Post B σ k r)) a' w' := by
            intro y hy hl1 hl2
            refine wp_mono (h _ _ _ y hy B a' w' hrs) ?_
            rintro e a2 w2 ⟨ex, τ, he, hk, hrel', hevo⟩
            have hJ := hes.trans (hevo.toJ (by rw [unpack_jr]; rfl))
            have leave : ∀ z, outPack σ.boxes.length (plsOf S σ.boxes ++ drop) ex τ outs = some z → z = x → Post B σ k r e a2 w2 := by
              intro z hz hzx
              subst hzx
              obtain ⟨its, v, hm, hcov, hp, hun⟩ := outPack_spec outs z hz
              rw [hun] at h2
              have hrel2 := unpack_rel (drop := plsOf S σ.boxes ++ drop) hrf hJ hrel' (fun p hp => by
                rcases List.mem_append.1 hp with h | h
                · exact covered_spec _ hcov p h
                · exact .inr (.inr h)) hp
              obtain ⟨hE, _⟩ := evo_unpack (drop := plsOf S σ.boxes ++ drop) hJ hp
              refine ⟨ex, _, he, h2, hrel2, after_evo hE fun p hp => ?_⟩
              rcases List.mem_append.1 hp with h | h
              · exact List.mem_append_right _ (List.mem_flatMap.2 ⟨_, hm, h⟩)
              · exact List.mem_append_left _ h
            cases ex with
            | normal =>
              subst he
              obtain ⟨v, hy', hcov, hv⟩ := hkn τ y hk
              exact ih v a2 w2 (hl1 v hy') (unpack_rel hrf hJ hrel' (fun p hp => by
                rcases List.mem_append.1 hp with h | h
                · exact covered_spec _ hcov p h
                · rcases List.mem_append.1 h with h | h
                  · exact .inr (.inl (plsOf_has _ _ _ h))
                  · exact .inr (.inr h)) hv) (evo_unpack hJ hv).1
            | exit id =>
              obtain ⟨z, hy', hz⟩ := hkx _ τ y (by simp) hk
              subst he
              exact leave z hz (hl2 z hy')
            | ret =>
              obtain ⟨z, hy', hz⟩ := hkx _ τ y (by simp) hk
              subst he
              exact leave z hz (hl2 z hy')
          split at hl
          · rename_i s' hs'
            exact step _ hs' (fun s'' e => by cases e; exact hl) (fun z e => by cases e)
          · rename_i z hz
            cases hl
            exact step _ hz (fun s'' e => by cases e) (fun z e => by cases e; rfl)
          · cases hl
      refine key _ ?_ ?_ n s₀ a w hn (unpack_rel hrf (EvoJ.refl _) hrf (by simp) hs₀) (evo_unpack (EvoJ.refl _) hs₀).1
      · intro τ y hy
        simp only at hy
        split at hy
        · rename_i hcov
          split at hy
          · rename_i v hv
            cases hy
            exact ⟨v, rfl, hcov, hv⟩
          · cases hy
        · cases hy
      · intro ex τ y hne hy
        cases ex with
        | normal => exact absurd rfl hne
        | exit id =>
          simp only at hy
          split at hy
          · rename_i v hv
            cases hy
            exact ⟨v, rfl, hv⟩
          · cases hy
        | ret =>
          simp only at hy
          split at hy
          · rename_i v hv
            cases hy
            exact ⟨v, rfl, hv⟩
          · cases hy
  · rename_i n
    refine wp_loop_rounds n ?_
    have key : ∀ (n : Nat) (σ₁ : St) (a' : Act) (w' : World), unrollE (core ρ) n σ₁ k = some r → RelE B σ₁ a' w' → Evo σ σ₁ → Code.rounds P c (Post B σ k r) n a' w' := by
      intro n
      induction n with
      | zero => intro σ₁ a' w' hl _ _; cases hl
      | succ n ih =>
        intro σ₁ a' w' hl hr1 he1
        rw [rounds_succ]
        simp only [unrollE] at hl
        refine wp_mono (h _ _ _ r hl B a' w' hr1) ?_
        rintro e a2 w2 ⟨ex, τ, he, hk, hrel', hevo⟩
        cases ex with
        | normal => subst he; exact ih τ a2 w2 hk hrel' (he1.trans hevo)
        | exit id => subst he; exact ⟨.exit id, τ, rfl, hk, hrel', he1.trans hevo⟩
        | ret => subst he; exact ⟨.ret, τ, rfl, hk, hrel', he1.trans hevo⟩
    exact key n σ a w hr hrel (Evo.refl σ)
  · cases hr
end
/-- All code. -/
theorem code_sound {P : Program} {Γ : Cx} (hΓ : CxOK P Γ) (hm : P.follows .mixedOrders = true) : ∀ (c : Code) (h : Hint), Core P c (fun ρ σ k => codeE Γ c h ρ σ k) := by
  intro c
  induction c with
  | skip =>
    intro h ρ σ k r hr B a w hrel
    exact wp_skip ⟨.normal, σ, rfl, hr, hrel, Evo.refl σ⟩
  | ret =>
    intro h ρ σ k r hr B a w hrel
    exact wp_ret ⟨.ret, σ, rfl, hr, hrel, Evo.refl σ⟩
  | exit id =>
    intro h ρ σ k r hr B a w hrel
    exact wp_exit ⟨.exit id, σ, rfl, hr, hrel, Evo.refl σ⟩
  | region id ops draw =>
    intro h ρ σ k r hr B a w hrel
    cases draw with
    | false =>
      simp only [codeE] at hr
      obtain ⟨ts, s', hL, hq⟩ := regE_linked hΓ _ _ hr
      have hlen := hL.length
      refine wp_region ?_
      have := region_seq (B := B) hL rfl (Q := Post B σ k r) (fun a' w' hst => ⟨.normal, _, rfl, hq, out_rel hL hst, out_evo hL⟩) ts.length 0 a w (by omega)
        (in_rel hL hrel w ⟨rfl, rfl, rfl, rfl⟩ (fun k => decide (k < 0)) fun k _ => by simp)
      rw [show ts.length = ops.size by simpa using hlen, ← List.range_eq_range'] at this
      exact this
    | true =>
      simp only [codeE] at hr
      split at hr
      · rename_i hb
        rw [Bool.and_eq_true] at hb
        obtain ⟨ts, s', hL, hq⟩ := regE_linked hΓ _ _ hr
        have hlen := hL.length
        split at hq
        · rename_i hd
          refine wp_region_any hm ?_
          refine region_any (B := B) hL rfl rfl hb.1 hd (Q := Post B σ k r) (fun a' w' hst => ⟨.normal, _, rfl, hq, out_rel hL hst, out_evo hL⟩) ops.size (Array.replicate ops.size false) a _ (by simp) ?_ ?_
            (in_rel hL hrel { w with drawn := w.drawn + 1 } ⟨rfl, rfl, rfl, rfl⟩ (fun k => (Array.replicate ops.size false).getD k false) fun k hk => ?_)
          · have : ((List.range ops.size).filter fun k => !(Array.replicate ops.size false).getD k true) = List.range ops.size := by
              apply List.filter_eq_self.2
              intro k hk
              have := List.mem_range.1 hk
              simp [Array.getD, this]
            rw [this]
            simp
          · intro i o ho hi e he hb'
            have : ∀ k, (Array.replicate ops.size false).getD k false = false := fun k => by
              unfold Array.getD
              split <;> simp
            exact absurd (hi.symm.trans (this i)) (by simp)
          · unfold Array.getD
            split <;> simp
        · cases hq
      · cases hr
  | seq x y ihx ihy =>
    intro h
    have : Core P (.seq x y) (fun ρ' σ' k' => codeE Γ x (h.kid 0) ρ' σ' fun ex σ'' => match ex with
        | .normal => codeE Γ y (h.kid 1) ρ' σ'' k'
        | ex => k' ex σ'') := by
      intro ρ σ k r hr B a w hrel
      refine wp_seq (wp_mono (ihx _ _ _ _ r hr B a w hrel) ?_)
      rintro e a' w' ⟨ex, τ, he, hk, hrel', hevo⟩
      subst he
      cases ex with
      | normal => exact wp_mono (ihy _ _ _ _ r hk B a' w' hrel') fun e a w hp => post_trans hevo hp
      | exit id => exact ⟨.exit id, τ, rfl, hk, hrel', hevo⟩
      | ret => exact ⟨.ret, τ, rfl, hk, hrel', hevo⟩
    exact joinE_sound this
  | cond c x y ihx ihy =>
    intro h
    have : Core P (.cond c x y) (fun ρ' σ' k' => match opdE σ'.slots [] [] c with
        | .dat .bool t => bif t then codeE Γ x (h.kid 0) ρ' σ' k' else codeE Γ y (h.kid 1) ρ' σ' k'
        | _ => none) := by
      intro ρ σ k r hr B a w hrel
      simp only at hr
      split at hr
      · rename_i t ht
        have hv : a.eval c = .bool t := by
          obtain ⟨ow, bx, _, ⟨h2, h3⟩, _⟩ := hrel
          have hrep : RepEV ow bx w (opdE σ.slots [] [] c) (a.eval c) := by
            cases c with
            | tmp t' =>
              simp only [opdE, lookE, lastRec, List.length_nil]
              cases hs : σ.slots[t']? with
              | none => exact .undef _
              | some e => exact h3 t' e hs
            | const v => exact ofConst_rep v
            | func f => exact .clo (by simp) (by simp) (fun i e v he => by simp at he) (fun i e v he => by simp at he)
            | global g => exact .undef _
          rw [ht] at hrep
          exact repBool hrep
        refine wp_cond hv ?_
        cases t with
        | true => exact ihx _ _ _ _ r hr B a w hrel
        | false => exact ihy _ _ _ _ r hr B a w hrel
      · cases hr
    exact joinE_sound this
  | block id x ih =>
    intro h
    have : Core P (.block id x) (fun ρ' σ' k' => codeE Γ x (h.kid 0) ρ' σ' fun ex σ'' => match ex with
        | .exit id' => match Nat.beq id' id with
          | true => k' .normal σ''
          | false => k' ex σ''
        | ex => k' ex σ'') := by
      intro ρ σ k r hr B a w hrel
      refine wp_block (wp_mono (ih _ _ _ _ r hr B a w hrel) ?_)
      rintro e a' w' ⟨ex, τ, he, hk, hrel', hevo⟩
      subst he
      cases ex with
      | normal => exact ⟨.normal, τ, rfl, hk, hrel', hevo⟩
      | ret => exact ⟨.ret, τ, rfl, hk, hrel', hevo⟩
      | exit id' =>
        simp only at hk
        simp only [exOf, Exit.inBlock]
        split at hk
        · rename_i hb
          rw [if_pos (Nat.eq_of_beq_eq_true hb)]
          exact ⟨.normal, τ, rfl, hk, hrel', hevo⟩
        · rename_i hb
          rw [if_neg (fun e => by rw [e, Nat.beq_refl] at hb; cases hb)]
          exact ⟨.exit id', τ, rfl, hk, hrel', hevo⟩
    exact joinE_sound this
  | loop x ih =>
    intro h
    exact loopE_sound (ih _)
  | _ => intro h ρ σ k r hr; cases hr
end Go.Proofs.Ytbgdgpdfaebniaa
