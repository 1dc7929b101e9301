/- A call does what is promised of the function: the boxes, and all together. No program in sight. -/
import Derived.Test.YtbgdgpdfaebniaaEngM
set_option linter.unusedSimpArgs false
set_option linter.unusedVariables false
namespace Go.Proofs.Ytbgdgpdfaebniaa
theorem boxGet_spec {l : List (Option (List EV))} {b : Nat} {cs : List EV} : boxGet l b = some cs ↔ l[b]? = some (some cs) := by
  unfold boxGet
  split
  · rename_i cs' h; rw [h]; simp
  · rename_i h
    constructor
    · intro h; cases h
    · intro h'; exact absurd h' (h cs)
/-- A reference among a box's cells: which box is meant. -/
theorem matchP_ref : ∀ (n : Nat) (ps : List PT) (es : List EV) (a : List (Nat × Nat)) (l : List EV) (a' : List (Nat × Nat)), matchP n ps es a = some (l, a') → ptPlain false n ps = true → (∀ p ∈ a, p ∈ a') ∧
    ∀ (k i off : Nat), ps[k]? = some (.ref i off) → ∃ b, es[k]? = some (.ptr b off) ∧ (i, b) ∈ a' := by
  intro n
  induction n with
  | zero => intro ps es a l a' h; simp only [matchP] at h; cases h
  | succ n ih =>
    intro ps es a l a' h hp
    cases ps with
    | nil =>
      cases es with
      | nil => simp only [matchP] at h; cases h; exact ⟨fun _ h => h, fun k i off h => by simp at h⟩
      | cons e es => simp only [matchP] at h; cases h
    | cons p ps =>
      cases es with
      | nil => cases p <;> simp only [matchP] at h <;> cases h
      | cons e es =>
        cases p with
        | own t => simp [ptPlain] at hp
        | clo f b c => simp [ptPlain] at hp
        | sl b => simp [ptPlain] at hp
        | dat t =>
          simp only [ptPlain] at hp
          simp only [matchP] at h
          split at h
          · split at h
            · rename_i h1
              cases h
              obtain ⟨g1, g2⟩ := ih _ _ _ _ _ h1 hp
              refine ⟨g1, fun k i off hk => ?_⟩
              cases k with
              | zero => simp at hk
              | succ k => exact g2 k i off (by simpa using hk)
            · cases h
          · cases h
        | ref i0 off0 =>
          simp only [ptPlain] at hp
          cases e with
          | ptr b off' =>
            simp only [matchP] at h
            split at h
            · rename_i hoff
              have hoff := Nat.eq_of_beq_eq_true hoff
              subst hoff
              split at h
              · rename_i b' hb'
                split at h
                · rename_i hbb
                  have hbb := Nat.eq_of_beq_eq_true hbb
                  subst hbb
                  obtain ⟨g1, g2⟩ := ih _ _ _ _ _ h hp
                  refine ⟨g1, fun k i off hk => ?_⟩
                  cases k with
                  | zero =>
                    simp only [List.getElem?_cons_zero, Option.some.injEq, PT.ref.injEq] at hk
                    obtain ⟨rfl, rfl⟩ := hk
                    exact ⟨b, rfl, g1 _ (asgGet_mem _ _ _ hb')⟩
                  | succ k => exact g2 k i off (by simpa using hk)
                · cases h
              · split at h
                · cases h
                · obtain ⟨g1, g2⟩ := ih _ _ _ _ _ h hp
                  refine ⟨fun p hp => g1 p (by simp [hp]), fun k i off hk => ?_⟩
                  cases k with
                  | zero =>
                    simp only [List.getElem?_cons_zero, Option.some.injEq, PT.ref.injEq] at hk
                    obtain ⟨rfl, rfl⟩ := hk
                    exact ⟨b, rfl, g1 _ (by simp)⟩
                  | succ k => exact g2 k i off (by simpa using hk)
            · cases h
          | _ => simp only [matchP] at h; cases h
/-- The boxes that a function is given. -/
theorem matchB_fill {rd : Nat → Option (List EV)} : ∀ (bs : List (List PT)) (i : Nat) (a : List (Nat × Nat)) (l : List EV) (a' : List (Nat × Nat)), matchB rd i bs a = some (l, a') → bs.all (ptPlain false 200) = true →
    (AsgOK a → AsgOK a') ∧ (∀ p ∈ a, p ∈ a') ∧ (fillB bs l).length = bs.length ∧
      ∀ j, j < bs.length → ∃ b cs cs', (i + j, b) ∈ a' ∧ rd b = some cs ∧ (fillB bs l)[j]? = some (some cs') ∧ cs'.length = cs.length ∧
        (∀ (ow ow' : Nat → Owner) (bx bx' : Bx) (w : World), TrOK a' ow bx ow' bx' → ∀ (k : Nat) e e' v, cs[k]? = some e → cs'[k]? = some e' → RepEV ow bx w e v → RepEV ow' bx' w e' v) ∧
        ∀ (k i' off : Nat) pts, bs[j]? = some pts → pts[k]? = some (.ref i' off) → ∃ b', cs[k]? = some (.ptr b' off) ∧ (i', b') ∈ a'
  | [], i, a, l, a', h, _ => by
    simp only [matchB] at h
    cases h
    exact ⟨id, fun _ h => h, rfl, fun j hj => absurd hj (by simp)⟩
  | pts :: r, i, a, l, a', h, hp => by
    simp only [List.all_cons, Bool.and_eq_true] at hp
    simp only [matchB] at h
    split at h
    · rename_i b hb
      split at h
      · rename_i cs hcs
        split at h
        · rename_i l1 a1 h1
          split at h
          · rename_i l2 a2 h2
            cases h
            obtain ⟨j1, j2, j3, j4⟩ := matchB_fill r (i + 1) a1 l2 a' h2 hp.2
            have hmem : (i, b) ∈ a' := by
              have hm := (match_fill (ow := fun _ => .junk) (ow' := fun _ => .junk) (bx := ⟨id, fun _ => false⟩) (bx' := ⟨id, fun _ => false⟩) (w := default) 200 false pts cs a l1 a1 h1 hp.1).2.1
              exact j2 _ (hm _ (asgGet_mem _ _ _ hb))
            have hok := (match_fill (ow := fun _ => .junk) (ow' := fun _ => .junk) (bx := ⟨id, fun _ => false⟩) (bx' := ⟨id, fun _ => false⟩) (w := default) 200 false pts cs a l1 a1 h1 hp.1)
            obtain ⟨es0, f1, f2, _⟩ := hok.2.2 l2
            have hfb : fillB (pts :: r) (l1 ++ l2) = some es0 :: fillB r l2 := by simp only [fillB, f1]
            refine ⟨fun h => j1 (hok.1 h), fun p hp => j2 p (hok.2.1 p hp), by rw [hfb]; simp [j3], fun j hj => ?_⟩
            cases j with
            | zero =>
              refine ⟨b, cs, es0, hmem, hcs, by rw [hfb]; rfl, f2, fun ow ow' bx bx' w htr => ?_, fun k i' off pts' hpt hk => ?_⟩
              rotate_left
              · simp at hpt
                subst hpt
                obtain ⟨b', q1, q2⟩ := (matchP_ref 200 pts cs a l1 a1 h1 hp.1).2 k i' off hk
                exact ⟨b', q1, j2 _ q2⟩
              obtain ⟨es1, f1', _, f3⟩ := (match_fill (ow := ow) (ow' := ow') (bx := bx) (bx' := bx') (w := w) 200 false pts cs a l1 a1 h1 hp.1).2.2 l2
              have e : es1 = es0 := by rw [f1] at f1'; cases f1'; rfl
              subst e
              exact f3 a' j2 htr
            | succ j =>
              obtain ⟨b', cs', cs'', k1, k2, k3, k4, k5, k6⟩ := j4 j (by simpa using hj)
              exact ⟨b', cs', cs'', by rw [show i + (j + 1) = i + 1 + j by omega]; exact k1, k2, by rw [hfb]; simpa using k3, k4, k5, fun k i' off pts' hpt hk => k6 k i' off pts' (by simpa using hpt) hk⟩
          · cases h
        · cases h
      · cases h
    · cases h
/-- A box's cells behind the call: as the function has them, and as the caller has them. -/
theorem refill_fill : ∀ (n : Nat) (ps : List PT) (cs new out rest : List EV), refill ps cs new = some (out, rest) → ptPlain false n ps = true → ps.length < n →
    ∃ es', fillP n ps new = (es', rest) ∧ es'.length = out.length ∧ out.length = cs.length ∧
      ∀ (k : Nat) e e', out[k]? = some e → es'[k]? = some e' → ((e = e' ∧ e' ∈ new) ∨ ∃ i off, ps[k]? = some (.ref i off) ∧ e' = .ptr i off ∧ cs[k]? = some e) := by
  intro n
  induction n with
  | zero => intro ps cs new out rest h hp hn; omega
  | succ n ih =>
    intro ps cs new out rest h hp hn
    cases ps with
    | nil =>
      cases cs with
      | nil =>
        simp only [refill] at h
        cases h
        exact ⟨[], rfl, rfl, rfl, fun k e e' he => by simp at he⟩
      | cons c cs => simp only [refill] at h; cases h
    | cons p ps =>
      cases cs with
      | nil => cases p <;> simp only [refill] at h <;> cases h
      | cons c cs =>
        cases p with
        | own t => simp [ptPlain] at hp
        | clo f a b => simp [ptPlain] at hp
        | sl b => simp [ptPlain] at hp
        | dat t =>
          simp only [ptPlain] at hp
          cases new with
          | nil => simp only [refill] at h; cases h
          | cons x new =>
            simp only [refill] at h
            split at h
            · rename_i l r h1
              cases h
              obtain ⟨es', g1, g2, g3, g4⟩ := ih ps cs new l rest h1 hp (by simp at hn; omega)
              refine ⟨x :: es', by simp only [fillP, g1], by simp [g2], by simp [g3], fun k e e' he he' => ?_⟩
              cases k with
              | zero => simp at he he'; subst he; exact .inl ⟨he', by simp [he']⟩
              | succ k =>
                rcases g4 k e e' (by simpa using he) (by simpa using he') with h | ⟨i, off, h1, h2, h3⟩
                · exact .inl ⟨h.1, by simp [h.2]⟩
                · exact .inr ⟨i, off, by simpa using h1, h2, by simpa using h3⟩
            · cases h
        | ref i off =>
          simp only [ptPlain] at hp
          simp only [refill] at h
          split at h
          · rename_i l r h1
            cases h
            obtain ⟨es', g1, g2, g3, g4⟩ := ih ps cs new l rest h1 hp (by simp at hn; omega)
            refine ⟨.ptr i off :: es', by simp only [fillP, g1], by simp [g2], by simp [g3], fun k e e' he he' => ?_⟩
            cases k with
            | zero =>
              simp at he he'
              subst he he'
              exact .inr ⟨i, off, rfl, rfl, rfl⟩
            | succ k =>
              rcases g4 k e e' (by simpa using he) (by simpa using he') with h | ⟨i', off', h1, h2, h3⟩
              · exact .inl h
              · exact .inr ⟨i', off', by simpa using h1, h2, by simpa using h3⟩
          · cases h
end Go.Proofs.Ytbgdgpdfaebniaa
