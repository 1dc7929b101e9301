/- A call does what is promised of the function. No program in sight. -/
import Derived.Test.YtbgdgpdfaebniaaEngL
set_option linter.unusedSimpArgs false
set_option linter.unusedVariables false
namespace Go.Proofs.Ytbgdgpdfaebniaa
/-- Which boxes are meant by which numbers: one each. -/
structure AsgOK (a : List (Nat × Nat)) : Prop where
  key : ∀ i b, (i, b) ∈ a → asgGet a i = some b
  inj : ∀ i j b, (i, b) ∈ a → (j, b) ∈ a → i = j
theorem asgGet_mem : ∀ (a : List (Nat × Nat)) (i b : Nat), asgGet a i = some b → (i, b) ∈ a
  | [], _, _, h => by cases h
  | (k, c) :: r, i, b, h => by
    simp only [asgGet] at h
    split at h
    · rename_i hk
      cases h
      have := Nat.eq_of_beq_eq_true hk
      subst this
      simp
    · exact List.mem_cons_of_mem _ (asgGet_mem r i b h)
theorem asgGet_none : ∀ (a : List (Nat × Nat)) (i : Nat), asgGet a i = none → ∀ b, (i, b) ∉ a
  | [], _, _, _ => by simp
  | (k, c) :: r, i, h, b => by
    simp only [asgGet] at h
    split at h
    · cases h
    · rename_i hk
      intro hm
      rcases List.mem_cons.1 hm with e | hm
      · cases e; rw [Nat.beq_refl] at hk; cases hk
      · exact asgGet_none r i h b hm
theorem hasB_false : ∀ (a : List (Nat × Nat)) (b : Nat), hasB a b = false → ∀ i, (i, b) ∉ a
  | [], _, _, _ => by simp
  | (k, c) :: r, b, h, i => by
    simp only [hasB, Bool.or_eq_false_iff] at h
    intro hm
    rcases List.mem_cons.1 hm with e | hm
    · cases e; have := h.1; rw [Nat.beq_refl] at this; cases this
    · exact hasB_false r b h.2 i hm
theorem AsgOK.cons {a : List (Nat × Nat)} (h : AsgOK a) {i b : Nat} (h1 : asgGet a i = none) (h2 : hasB a b = false) : AsgOK ((i, b) :: a) := by
  refine ⟨fun j c hm => ?_, fun j k c hj hk => ?_⟩
  · simp only [asgGet]
    rcases List.mem_cons.1 hm with e | hm
    · cases e; simp [Nat.beq_refl]
    · split
      · rename_i hk
        have := Nat.eq_of_beq_eq_true hk
        subst this
        exact absurd hm (asgGet_none a _ h1 c)
      · exact h.key j c hm
  · rcases List.mem_cons.1 hj with e | hj <;> rcases List.mem_cons.1 hk with e' | hk
    · cases e; cases e'; rfl
    · cases e; exact absurd hk (hasB_false a _ h2 k)
    · cases e'; exact absurd hj (hasB_false a _ h2 j)
    · exact h.inj j k c hj hk
theorem AsgOK.nil : AsgOK [] := ⟨fun _ _ h => by simp at h, fun _ _ _ h => by simp at h⟩
/-- How the caller's blocks look to the function. -/
structure TrOK (a : List (Nat × Nat)) (ow : Nat → Owner) (bx : Bx) (ow' : Nat → Owner) (bx' : Bx) : Prop where
  st : ∀ blk n, Rigid ow blk n → Rigid ow' blk n
  bo : ∀ i b, (i, b) ∈ a → ow (bx b) = .box b → bx' i = bx b ∧ ow' (bx b) = .box i
theorem match_fill {ow ow' : Nat → Owner} {bx bx' : Bx} {w : World} : ∀ (n : Nat) (deep : Bool) (ps : List PT) (es : List EV) (a : List (Nat × Nat)) (l : List EV) (a' : List (Nat × Nat)),
    matchP n ps es a = some (l, a') → ptPlain deep n ps = true → (AsgOK a → AsgOK a') ∧ (∀ p ∈ a, p ∈ a') ∧
      ∀ rest, ∃ es', fillP n ps (l ++ rest) = (es', rest) ∧ es'.length = es.length ∧
        ∀ af, (∀ p ∈ a', p ∈ af) → TrOK af ow bx ow' bx' → ∀ (i : Nat) e e' v, es[i]? = some e → es'[i]? = some e' → RepEV ow bx w e v → RepEV ow' bx' w e' v := by
  intro n
  induction n with
  | zero => intro deep ps es a l a' h; simp only [matchP] at h; cases h
  | succ n ih =>
    intro deep ps es a l a' h hp
    cases ps with
    | nil =>
      cases es with
      | nil => simp only [matchP] at h; cases h; exact ⟨id, fun _ h => h, fun rest => ⟨[], rfl, rfl, fun _ _ _ i e e' v he => by simp at he⟩⟩
      | cons e es => simp only [matchP] at h; cases h
    | cons p ps =>
      cases es with
      | nil => cases p <;> simp only [matchP] at h <;> cases h
      | cons e es =>
        cases p with
        | own t => simp [ptPlain] at hp
        | dat t =>
          simp only [ptPlain] at hp
          simp only [matchP] at h
          split at h
          · rename_i v hv
            split at h
            · rename_i l1 a1 h1
              cases h
              obtain ⟨g1, g2, g3⟩ := ih deep ps es a l1 a' h1 hp
              refine ⟨g1, g2, fun rest => ?_⟩
              obtain ⟨es', k1, k2, k3⟩ := g3 rest
              refine ⟨.dat t v :: es', by simp only [List.cons_append, fillP, k1], by simp [k2], fun af haf htr i e0 e1 u he0 he1 hu => ?_⟩
              cases i with
              | zero =>
                simp only [List.getElem?_cons_zero, Option.some.injEq] at he0 he1
                subst he0 he1
                exact .dat ((toA_rep hv hu).keep (KeepSt.of fun blk n hs => ⟨htr.st blk n hs, rfl⟩))
              | succ i => exact k3 af haf htr i e0 e1 u (by simpa using he0) (by simpa using he1) hu
            · cases h
          · cases h
        | ref i0 off =>
          simp only [ptPlain] at hp
          cases e with
          | ptr b off' =>
            simp only [matchP] at h
            split at h
            · rename_i hoff
              have hoff := Nat.eq_of_beq_eq_true hoff
              subst hoff
              have fin : ∀ a1, matchP n ps es a1 = some (l, a') → (i0, b) ∈ a1 → (AsgOK a → AsgOK a1) → (∀ p ∈ a, p ∈ a1) → (AsgOK a → AsgOK a') ∧ (∀ p ∈ a, p ∈ a') ∧
                  ∀ rest, ∃ es', fillP (n + 1) (.ref i0 off :: ps) (l ++ rest) = (es', rest) ∧ es'.length = (EV.ptr b off :: es).length ∧
                    ∀ af, (∀ p ∈ a', p ∈ af) → TrOK af ow bx ow' bx' → ∀ (i : Nat) e e' v, (EV.ptr b off :: es)[i]? = some e → es'[i]? = some e' → RepEV ow bx w e v → RepEV ow' bx' w e' v := by
                intro a1 h1 hmem hok hsub
                obtain ⟨g1, g2, g3⟩ := ih deep ps es a1 l a' h1 hp
                refine ⟨fun h => g1 (hok h), fun p hp => g2 p (hsub p hp), fun rest => ?_⟩
                obtain ⟨es', k1, k2, k3⟩ := g3 rest
                refine ⟨.ptr i0 off :: es', by simp only [fillP, k1], by simp [k2], fun af haf htr i e0 e1 u he0 he1 hu => ?_⟩
                cases i with
                | zero =>
                  simp only [List.getElem?_cons_zero, Option.some.injEq] at he0 he1
                  subst he0 he1
                  cases hu with
                  | ptr hq =>
                    obtain ⟨j1, j2⟩ := htr.bo i0 b (haf _ (g2 _ hmem)) hq
                    rw [← j1]
                    exact .ptr (by rw [j1]; exact j2)
                | succ i => exact k3 af haf htr i e0 e1 u (by simpa using he0) (by simpa using he1) hu
              split at h
              · rename_i b' hb'
                split at h
                · rename_i hbb
                  have hbb := Nat.eq_of_beq_eq_true hbb
                  subst hbb
                  exact fin a h (asgGet_mem _ _ _ hb') id (fun _ h => h)
                · cases h
              · rename_i hnone
                split at h
                · cases h
                · rename_i hhas
                  exact fin _ h (by simp) (fun hok => hok.cons hnone hhas) (fun p hp => by simp [hp])
            · cases h
          | _ => simp only [matchP] at h; cases h
        | clo f pf pc =>
          simp only [ptPlain, Bool.and_eq_true] at hp
          obtain ⟨⟨⟨hd, hpf⟩, hpc⟩, hps⟩ := hp
          cases e with
          | clo f' fst caps =>
            simp only [matchP] at h
            split at h
            · rename_i hff
              have hff := Nat.eq_of_beq_eq_true hff
              subst hff
              split at h
              · rename_i l1 a1 h1
                split at h
                · rename_i l2 a2 h2
                  split at h
                  · rename_i l3 a3 h3
                    cases h
                    obtain ⟨g1, g2, g3⟩ := ih deep pf fst a l1 a1 h1 hpf
                    obtain ⟨i1, i2, i3⟩ := ih deep pc caps a1 l2 a2 h2 hpc
                    obtain ⟨j1, j2, j3⟩ := ih deep ps es a2 l3 a' h3 hps
                    refine ⟨fun h => j1 (i1 (g1 h)), fun p hp => j2 p (i2 p (g2 p hp)), fun rest => ?_⟩
                    obtain ⟨e1, k1, k2, k3⟩ := g3 (l2 ++ (l3 ++ rest))
                    obtain ⟨e2, m1, m2, m3⟩ := i3 (l3 ++ rest)
                    obtain ⟨e3, n1, n2, n3⟩ := j3 rest
                    refine ⟨.clo f e1 e2 :: e3, by simp only [fillP, List.append_assoc, k1, m1, n1], by simp [n2], fun af haf htr i e0 e0' u he0 he1 hu => ?_⟩
                    cases i with
                    | zero =>
                      simp only [List.getElem?_cons_zero, Option.some.injEq] at he0 he1
                      subst he0 he1
                      cases hu with
                      | clo q1 q2 q3 q4 =>
                        refine .clo (by rw [k2, q1]) (by rw [m2, q2]) (fun i x v hx hv => ?_) (fun i x v hx hv => ?_)
                        · have hlt : i < fst.length := by rw [← k2]; exact (List.getElem?_eq_some_iff.1 hx).1
                          exact k3 af (fun p hp => haf p (j2 p (i2 p hp))) htr i _ x v (List.getElem?_eq_getElem hlt) hx (q3 i _ v (List.getElem?_eq_getElem hlt) hv)
                        · have hlt : i < caps.length := by rw [← m2]; exact (List.getElem?_eq_some_iff.1 hx).1
                          exact m3 af (fun p hp => haf p (j2 p hp)) htr i _ x v (List.getElem?_eq_getElem hlt) hx (q4 i _ v (List.getElem?_eq_getElem hlt) hv)
                    | succ i => exact n3 af haf htr i e0 e0' u (by simpa using he0) (by simpa using he1) hu
                  · cases h
                · cases h
              · cases h
            · cases h
          | _ => simp only [matchP] at h; cases h
        | sl pp =>
          simp only [ptPlain, Bool.and_eq_true] at hp
          obtain ⟨⟨hd, hpp⟩, hps⟩ := hp
          cases e with
          | sl es1 =>
            simp only [matchP] at h
            split at h
            · rename_i l1 a1 h1
              split at h
              · rename_i l3 a3 h3
                cases h
                obtain ⟨g1, g2, g3⟩ := ih deep pp es1 a l1 a1 h1 hpp
                obtain ⟨j1, j2, j3⟩ := ih deep ps es a1 l3 a' h3 hps
                refine ⟨fun h => j1 (g1 h), fun p hp => j2 p (g2 p hp), fun rest => ?_⟩
                obtain ⟨e1, k1, k2, k3⟩ := g3 (l3 ++ rest)
                obtain ⟨e3, n1, n2, n3⟩ := j3 rest
                refine ⟨.sl e1 :: e3, by simp only [fillP, List.append_assoc, k1, n1], by simp [n2], fun af haf htr i e0 e0' u he0 he1 hu => ?_⟩
                cases i with
                | zero =>
                  simp only [List.getElem?_cons_zero, Option.some.injEq] at he0 he1
                  subst he0 he1
                  cases hu with
                  | sl q0 q1 qs qb q2 q3 =>
                    rw [← k2] at q0 q1 qs q3 ⊢
                    refine .sl q0 q1 (htr.st _ _ qs) qb (fun i x v hx hv => ?_) q3
                    have hlt : i < es1.length := by rw [← k2]; exact (List.getElem?_eq_some_iff.1 hx).1
                    exact k3 af (fun p hp => haf p (j2 p hp)) htr i _ x v (List.getElem?_eq_getElem hlt) hx (q2 i _ v (List.getElem?_eq_getElem hlt) hv)
                | succ i => exact n3 af haf htr i e0 e0' u (by simpa using he0) (by simpa using he1) hu
              · cases h
            · cases h
          | _ => simp only [matchP] at h; cases h
theorem packL_unpackL : ∀ (t : Ty) (es : List EV) (x : t.den), packL t es = some x → (∀ e ∈ es, ∃ t v, e = .dat t v) → unpackL t es.length x = es := by
  have one : ∀ (t : Ty) (e : EV) (x : t.den), e.to t = some x → (∃ t v, e = .dat t v) → EV.dat t x = e := by
    rintro t e x h ⟨t', v, rfl⟩
    rcases to_spec h with h | ⟨h, _⟩ | ⟨_, _, _, h, _⟩
    · exact h.symm
    · cases h
    · cases h
  intro t
  induction t with
  | unit =>
    intro es x h _
    cases es with
    | nil => rfl
    | cons e r => simp only [packL] at h; cases h
  | pair a b iha ihb =>
    intro es x h hd
    cases es with
    | nil => simp only [packL] at h; cases h
    | cons e r =>
      cases r with
      | nil =>
        simp only [packL] at h
        simp only [List.length_cons, List.length_nil, unpackL, one _ _ _ h (hd e (by simp))]
      | cons e' r =>
        simp only [packL] at h
        split at h
        · rename_i x1 h1
          split at h
          · rename_i x2 h2
            cases h
            have h3 := ihb (e' :: r) x2 h2 (fun y hy => hd y (by simp [hy]))
            simp only [List.length_cons] at h3 ⊢
            simp only [unpackL]
            rw [h3, one _ _ _ h1 (hd e (by simp))]
          · cases h
        · cases h
  | _ =>
    intro es x h hd
    cases es with
    | nil => simp only [packL] at h; cases h
    | cons e r =>
      cases r with
      | nil =>
        simp only [packL] at h
        simp only [List.length_cons, List.length_nil, unpackL, one _ _ _ h (hd e (by simp))]
      | cons e' r => simp only [packL] at h; cases h
theorem matchP_dat : ∀ (n : Nat) (ps : List PT) (es : List EV) (a : List (Nat × Nat)) (l : List EV) (a' : List (Nat × Nat)), matchP n ps es a = some (l, a') → ∀ e ∈ l, ∃ t v, e = .dat t v := by
  intro n
  induction n with
  | zero => intro ps es a l a' h; simp only [matchP] at h; cases h
  | succ n ih =>
    intro ps es a l a' h
    cases ps with
    | nil =>
      cases es with
      | nil => simp only [matchP] at h; cases h; simp
      | cons e es => simp only [matchP] at h; cases h
    | cons p ps =>
      cases es with
      | nil => cases p <;> simp only [matchP] at h <;> cases h
      | cons e es =>
        cases p with
        | dat t =>
          simp only [matchP] at h
          split at h
          · split at h
            · rename_i h1
              cases h
              intro x hx
              rcases List.mem_cons.1 hx with rfl | hx
              · exact ⟨_, _, rfl⟩
              · exact ih _ _ _ _ _ h1 x hx
            · cases h
          · cases h
        | own t =>
          simp only [matchP] at h
          split at h
          · split at h
            · rename_i h1
              cases h
              intro x hx
              rcases List.mem_cons.1 hx with rfl | hx
              · exact ⟨_, _, rfl⟩
              · exact ih _ _ _ _ _ h1 x hx
            · cases h
          · cases h
        | ref i off =>
          cases e with
          | ptr b off' =>
            simp only [matchP] at h
            split at h
            · split at h
              · split at h
                · exact ih _ _ _ _ _ h
                · cases h
              · split at h
                · cases h
                · exact ih _ _ _ _ _ h
            · cases h
          | _ => simp only [matchP] at h; cases h
        | clo f pf pc =>
          cases e with
          | clo f' fst caps =>
            simp only [matchP] at h
            split at h
            · split at h
              · rename_i h1
                split at h
                · rename_i h2
                  split at h
                  · rename_i h3
                    cases h
                    intro x hx
                    rcases List.mem_append.1 hx with hx | hx
                    · exact ih _ _ _ _ _ h1 x hx
                    · rcases List.mem_append.1 hx with hx | hx
                      · exact ih _ _ _ _ _ h2 x hx
                      · exact ih _ _ _ _ _ h3 x hx
                  · cases h
                · cases h
              · cases h
            · cases h
          | _ => simp only [matchP] at h; cases h
        | sl pp =>
          cases e with
          | sl es1 =>
            simp only [matchP] at h
            split at h
            · rename_i h1
              split at h
              · rename_i h2
                cases h
                intro x hx
                rcases List.mem_append.1 hx with hx | hx
                · exact ih _ _ _ _ _ h1 x hx
                · exact ih _ _ _ _ _ h2 x hx
              · cases h
            · cases h
          | _ => simp only [matchP] at h; cases h
end Go.Proofs.Ytbgdgpdfaebniaa
