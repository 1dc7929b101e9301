/- Each operation does what the reading says: one by one. No program in sight. -/
import Derived.Test.YtbgdgpdfaebniaaEngF
import Derived.Laws.StructEq
set_option linter.unusedSimpArgs false
set_option linter.unusedVariables false
namespace Go.Proofs.Ytbgdgpdfaebniaa
/-- What the reading knows of a program is true of it. -/
structure CxOK (P : Program) (Γ : Cx) : Prop where
  td : ∀ T d, Γ.td T = some d → TdOK P T d
  cons : ∀ c ∈ Γ.cons, ConOK P c
  news : ∀ c ∈ Γ.news, NOK P c
section
variable {ρ : Type} {P : Program} {Γ : Cx} {id : Nat} {rd : Nat → Option (List EV)} {g : Option Bool} {A : Operand → EV} {o : Oper} {q : EV → Option (List EV) → List Wr → List Nat → Option ρ} {r : ρ}
theorem tyIs_spec {d : Option TD} {t : Ty} (h : tyIs d t = true) : ∃ td, d = some td ∧ td.ty = some t := by
  unfold tyIs at h
  split at h
  · rename_i td
    split at h
    · rename_i t' ht
      have : t' = t := by simpa using h
      exact ⟨td, rfl, by rw [ht, this]⟩
    · cases h
  · cases h
theorem sound_move {x : Operand} (ho : o.op = .move x ∨ o.op = .assign x) (h : q (A x) none [] [] = some r) : Sound P id rd g A o q r := by
  refine sound_pure h fun _ B ow bx nb bg w a hi hA _ => ⟨a.eval x, ?_, ?_⟩
  · unfold execOp; rcases ho with ho | ho <;> rw [ho] <;> rfl
  · rcases ho with ho | ho <;> rw [ho] at hA <;> exact args_of hA (by intros; simp) x (by simp [Op.operands])
theorem sound_pick {c x y : Operand} (ho : o.op = .pick c x y) (h : q (pickE (A c) (A x) (A y)) none [] [] = some r) (hc : ∃ b, A c = .dat .bool b) : Sound P id rd g A o q r := by
  obtain ⟨b, hb⟩ := hc
  refine sound_pure h fun _ B ow bx nb bg w a hi hA _ => ?_
  rw [ho] at hA
  obtain ⟨h1, h2⟩ := hA
  rw [hb] at h1
  have h3 := h2 b hb
  have hcv := repBool h1
  cases b with
  | true =>
    have h4 := h3.1 rfl
    refine ⟨a.eval x, ?_, ?_⟩
    · unfold execOp; rw [ho]; simp [hcv, asBool]
    · unfold pickE
      rw [hb]
      split
      · rename_i c' a' b' e1 e2 e3
        cases e1
        rw [e2] at h4
        exact h4
      · exact .undef _
  | false =>
    have h4 := h3.2 rfl
    refine ⟨a.eval y, ?_, ?_⟩
    · unfold execOp; rw [ho]; simp [hcv, asBool]
    · unfold pickE
      rw [hb]
      split
      · rename_i c' a' b' e1 e2 e3
        cases e1
        rw [e3] at h4
        exact h4
      · exact .undef _
theorem sound_bin {op : BinOp} {T : TypeId} {x y : Operand} {yT : TypeId} (hΓ : CxOK P Γ) (ho : o.op = .binOp op T x y yT) (h : binE g (Γ.td T) op (A x) (A y) (fun v => q v none [] []) = some r) : Sound P id rd g A o q r := by
  have hx : ∀ {ow bx w ev}, Args ow bx w A ev o.op → RepEV ow bx w (A x) (ev x) ∧ RepEV ow bx w (A y) (ev y) := by
    intro ow bx w ev hA
    rw [ho] at hA
    exact ⟨args_of hA (by intros; simp) x (by simp [Op.operands]), args_of hA (by intros; simp) y (by simp [Op.operands])⟩
  unfold binE at h
  split at h
  · rename_i k a k' b e1 e2
    split at h
    · rename_i hk
      obtain ⟨v, h1, h2⟩ := int_sound (P := P) hk h
      refine sound_pure h1 fun hg B ow bx nb bg w act hi hA _ => ?_
      obtain ⟨hvx, hvy⟩ := hx hA
      rw [e1] at hvx
      rw [e2] at hvy
      obtain ⟨hvx, fx⟩ := repInt hvx
      obtain ⟨hvy, fy⟩ := repInt hvy
      obtain ⟨u, hu, hr⟩ := h2 hg ow bx w fx fy
      refine ⟨u, ?_, hr⟩
      have hbT : ∀ T', Go.binOp op T' (.int k a) (.int k' b) = Go.binOp op 0 (.int k a) (.int k' b) := fun T' => by cases op <;> rfl
      unfold execOp
      rw [ho]
      simp only [hvx, hvy, hbT T]
      have hge : (eqGuard op T x y (.int k a) (.int k' b)).run P w = .ok () w := by cases op <;> rfl
      simp [hge, hu]
    · cases h
  · rename_i a b e1 e2
    split at h
    · obtain ⟨h1, h2⟩ := chk_spec h
      refine sound_pure h1 fun hg B ow bx nb bg w act hi hA _ => ?_
      obtain ⟨hvx, hvy⟩ := hx hA
      rw [e1] at hvx
      rw [e2] at hvy
      obtain ⟨hvx, fx⟩ := repStr hvx
      obtain ⟨hvy, fy⟩ := repStr hvy
      have hs : a.size + b.size ≤ 9223372036854775807 := by simpa using h2 hg
      refine ⟨.string (a ++ b), ?_, .dat ⟨rfl, by simpa using hs⟩⟩
      unfold execOp
      rw [ho]
      have hn : ¬ (((a.size + b.size : Nat) : Int) > IntKind.i64.max) := by simp [IntKind.max, IntKind.signed, IntKind.bits]; omega
      have hso : Op.stringOp .add a b = pure (.string (a ++ b)) := by
        unfold Op.stringOp
        simp only
        rw [if_neg hn]
      simp only [hvx, hvy]
      simp [eqGuard, Go.binOp, hso]
    · refine sound_pure h fun hg B ow bx nb bg w act hi hA _ => ?_
      obtain ⟨hvx, hvy⟩ := hx hA
      rw [e1] at hvx
      rw [e2] at hvy
      exact ⟨.bool (a.toList == b.toList), by unfold execOp; rw [ho]; simp [(repStr hvx).1, (repStr hvy).1, eqGuard, Go.binOp, Op.stringOp], repBool_mk⟩
    · refine sound_pure h fun hg B ow bx nb bg w act hi hA _ => ?_
      obtain ⟨hvx, hvy⟩ := hx hA
      rw [e1] at hvx
      rw [e2] at hvy
      exact ⟨.bool (!(a.toList == b.toList)), by unfold execOp; rw [ho]; simp [(repStr hvx).1, (repStr hvy).1, eqGuard, Go.binOp, Op.stringOp], repBool_mk⟩
    · cases h
  · rename_i t a t' b hn1 hn2 e1 e2
    split at h
    · rename_i ht
      subst ht
      split at h
      · rename_i hp
        simp only [Bool.and_eq_true] at hp
        obtain ⟨hp, htd⟩ := hp
        obtain ⟨td, htd, hty⟩ := tyIs_spec htd
        have hOK := hΓ.td T td htd
        have key : ∀ {ow bx w} {ev : Operand → Value}, RepEV ow bx w (.dat t' a) (ev x) → RepEV ow bx w (.dat t' b) (ev y) →
            ((do eqGuard op T x y (ev x) (ev y); Go.binOp .eql T (ev x) (ev y)) : Sem Value).run P w = .ok (.bool (eqT t' a b)) w ∧
            ((do eqGuard op T x y (ev x) (ev y); Go.binOp .neq T (ev x) (ev y)) : Sem Value).run P w = .ok (.bool (!(eqT t' a b))) w := by
          intro ow bx w ev hvx hvy
          cases hvx with
          | dat hvx =>
            cases hvy with
            | dat hvy =>
              cases t' with
              | agg c =>
                obtain ⟨g1, g2⟩ := hOK.eq _ hty rfl hp
                have ge := g2 ow w a b _ _ hvx hvy
                obtain ⟨xs, hxs, _⟩ := hvx
                obtain ⟨ys, hys, _⟩ := hvy
                rw [hxs, hys] at ge ⊢
                simp only [Sem.run_bind, run_eqGuard_agg w op T x y xs ys g1, Result.andThen_ok, run_eql_struct, run_neq_struct, ge]
                exact ⟨trivial, trivial⟩
              | bool =>
                simp only [RepV, Rep, List.cons.injEq, and_true] at hvx hvy
                rw [hvx, hvy]
                have hu : P.underlying T = some .bool := by
                  have hh := hOK.how
                  have hag := (hOK.agg _ hty).2
                  cases hd : td.how with
                  | scalar =>
                    simp only [hd] at hh
                    obtain ⟨_, u, hu, _, _, _, _, hb⟩ := hh
                    rw [hu, hb hty]
                  | struct fs => rw [hd] at hag; simp [Ty.isAgg] at hag
                  | array n e s => rw [hd] at hag; simp [Ty.isAgg] at hag
                  | slice e s b' =>
                    simp only [hd] at hh
                    exact absurd hty hh.2.2.2.1
                have hge : (eqGuard op T x y (.bool a) (.bool b)).run P w = .ok () w := by cases op <;> rfl
                have hq := run_equalIn_bool' (P := P) w 9999 T a b hu
                simp [hge, Go.binOp, Op.equal, Op.maxDepth, hq, eqT]
              | int k => simp [Ty.cmp] at hp
              | str => simp [Ty.cmp] at hp
              | unit => simp [Ty.cmp] at hp
              | pair c d => simp [Ty.cmp] at hp
              | slice c => simp [Ty.cmp] at hp
        split at h
        · refine sound_pure h fun hg B ow bx nb bg w act hi hA _ => ?_
          obtain ⟨hvx, hvy⟩ := hx hA
          rw [e1] at hvx
          rw [e2] at hvy
          refine ⟨.bool (eqT t' a b), ?_, repBool_mk⟩
          unfold execOp
          rw [ho]
          have := (key hvx hvy).1
          simp only [Sem.run_bind] at this ⊢
          rw [this]
          rfl
        · refine sound_pure h fun hg B ow bx nb bg w act hi hA _ => ?_
          obtain ⟨hvx, hvy⟩ := hx hA
          rw [e1] at hvx
          rw [e2] at hvy
          refine ⟨.bool (!(eqT t' a b)), ?_, repBool_mk⟩
          unfold execOp
          rw [ho]
          have := (key hvx hvy).2
          simp only [Sem.run_bind] at this ⊢
          rw [this]
          rfl
        · cases h
      · cases h
    · cases h
  · cases h
end
end Go.Proofs.Ytbgdgpdfaebniaa
