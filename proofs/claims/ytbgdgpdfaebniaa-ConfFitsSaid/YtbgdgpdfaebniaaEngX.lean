/- Code does what the reading says. No program in sight. -/
import Derived.Test.YtbgdgpdfaebniaaEngW
set_option linter.unusedSimpArgs false
set_option linter.unusedVariables false
namespace Go.Proofs.Ytbgdgpdfaebniaa
def exOf : Ex → Exit
  | .normal => .normal
  | .exit id => .exit id
  | .ret => .ret
def Post {ρ : Type} (B : Base) (σ : St) (k : Ex → St → Option ρ) (r : ρ) : Exit → Act → World → Prop := fun e a w => ∃ ex τ, e = exOf ex ∧ k ex τ = some r ∧ RelE B τ a w ∧ Evo σ τ
/-- What is asked of a piece of the reading. -/
def Core (P : Program) (c : Code) (core : (ρ : Type) → St → (Ex → St → Option ρ) → Option ρ) : Prop :=
  ∀ (ρ : Type) (σ : St) (k : Ex → St → Option ρ) (r : ρ), core ρ σ k = some r → ∀ B a w, RelE B σ a w → c.wp P (Post B σ k r) a w
theorem post_trans {ρ : Type} {B : Base} {σ σ' : St} {k : Ex → St → Option ρ} {r : ρ} (h : Evo σ σ') {e : Exit} {a : Act} {w : World} (hp : Post B σ' k r e a w) : Post B σ k r e a w := by
  obtain ⟨ex, τ, h1, h2, h3, h4⟩ := hp
  exact ⟨ex, τ, h1, h2, h3, h.trans h4⟩
theorem flat_length : ∀ (t : Ty) (x : t.den), (flat t x).length = t.size := by
  intro t
  induction t with
  | pair a b iha ihb => intro x; simp [flat, Ty.size, iha, ihb]
  | agg a ih => intro x; exact ih x
  | _ => intro x; rfl
theorem asm_length : ∀ (t : Ty) (es r : List EV) (x : t.den), asm t es = some (x, r) → es.length = t.size + r.length := by
  have one : ∀ (t : Ty) (es r : List EV) (x : t.den) (c : EV) (r' : List EV), t.size = 1 → es = c :: r' → r = r' → es.length = t.size + r.length := by
    intro t es r x c r' h1 h2 h3
    subst h2 h3
    simp [h1]
    omega
  intro t
  induction t with
  | unit => intro es r x h; cases h; simp [Ty.size]
  | pair a b iha ihb =>
    intro es r x h
    simp only [asm] at h
    split at h
    · rename_i h1
      split at h
      · rename_i h2
        cases h
        have := iha _ _ _ h1
        have := ihb _ _ _ h2
        simp only [Ty.size]
        omega
      · cases h
    · cases h
  | agg a ih => intro es r x h; exact ih es r x h
  | int k =>
    intro es r x h
    cases es with
    | nil => simp [asm] at h
    | cons c r' =>
      simp only [asm] at h
      split at h
      · cases h; exact one (.int k) _ _ x c _ rfl rfl rfl
      · cases h
  | bool =>
    intro es r x h
    cases es with
    | nil => simp [asm] at h
    | cons c r' =>
      simp only [asm] at h
      split at h
      · cases h; exact one .bool _ _ x c _ rfl rfl rfl
      · cases h
  | str =>
    intro es r x h
    cases es with
    | nil => simp [asm] at h
    | cons c r' =>
      simp only [asm] at h
      split at h
      · cases h; exact one .str _ _ x c _ rfl rfl rfl
      · cases h
  | slice a _ =>
    intro es r x h
    cases es with
    | nil => simp [asm] at h
    | cons c r' =>
      simp only [asm] at h
      split at h
      · cases h; exact one (.slice a) _ _ x c _ rfl rfl rfl
      · cases h
theorem evo_unset (τ : St) (p : Pl) : EvoJ τ (unset τ p) [p] := by
  obtain ⟨x, i⟩ := p
  cases x with
  | zero =>
    refine ⟨by simp [unset], Nat.le_refl _, fun t ht => ?_, fun b _ cs h => ⟨cs, h, rfl, fun _ _ => rfl⟩, fun _ _ h => h⟩
    simp only [unset]
    rw [List.getElem?_set_ne (fun e => ht (by simp [e]))]
  | succ b =>
    unfold unset
    simp only
    cases hb : boxGet τ.boxes b with
    | none => exact (EvoJ.refl τ).mono (by simp)
    | some cs =>
      simp only
      refine ⟨rfl, by simp, fun t _ => rfl, fun b' hb' cs' hcs' => ?_, fun b' hb' hn => ?_⟩
      · simp only [boxGet_set]
        by_cases e : b = b'
        · subst e
          rw [hb] at hcs'
          cases hcs'
          rw [if_pos ⟨rfl, hb'⟩]
          exact ⟨_, rfl, by simp, fun j hj => by rw [List.getElem?_set_ne (fun e => hj (by simp [e]))]⟩
        · rw [if_neg (fun h => e h.1)]
          exact ⟨cs', hcs', rfl, fun _ _ => rfl⟩
      · simp only [boxGet_set]
        rw [if_neg]
        · exact hn
        · rintro ⟨rfl, _⟩
          rw [hb] at hn
          cases hn
theorem evo_unsets : ∀ (ps : List Pl) (τ : St), EvoJ τ (unsets ps τ) ps
  | [], τ => EvoJ.refl τ
  | p :: r, τ => by
    have := (evo_unset τ p).trans (evo_unsets r (unset τ p))
    simp only [unsets]
    exact this.mono fun q hq => by
      rcases List.mem_append.1 hq with h | h
      · exact List.mem_cons_of_mem _ h
      · simp at h; simp [h]
theorem evo_itSet (τ : St) (it : It) (x : it.ty.den) (h : ∀ b cs, it.at_ = .box b → boxGet τ.boxes b = some cs → it.ty.size = cs.length) : EvoJ τ (itSet τ it (.dat it.ty x)) (plsOf [it] τ.boxes) := by
  unfold itSet plsOf
  cases hat : it.at_ with
  | slot i =>
    simp only
    refine ⟨by simp, Nat.le_refl _, fun t ht => ?_, fun b _ cs h => ⟨cs, h, rfl, fun _ _ => rfl⟩, fun _ _ h => h⟩
    rw [List.getElem?_set_ne (fun e => ht (by simp [e]))]
  | box b =>
    simp only [EV.cells]
    cases hb : boxGet τ.boxes b with
    | none => exact (EvoJ.refl τ).mono (by simp)
    | some cs =>
      simp only
      have hl := h b cs hat hb
      refine ⟨rfl, by simp, fun t _ => rfl, fun b' hb' cs' hcs' => ?_, fun b' hb' hn => ?_⟩
      · simp only [boxGet_set]
        by_cases e : b = b'
        · subst e
          rw [hb] at hcs'
          cases hcs'
          rw [if_pos ⟨rfl, hb'⟩]
          refine ⟨_, rfl, by rw [flat_length, hl], fun j hj => ?_⟩
          have : ¬ j < cs.length := fun hlt => hj (by simp [plsOf, hlt])
          rw [List.getElem?_eq_none (by rw [flat_length, hl]; omega), List.getElem?_eq_none (by omega)]
        · rw [if_neg (fun h => e h.1)]
          exact ⟨cs', hcs', rfl, fun _ _ => rfl⟩
      · simp only [boxGet_set]
        rw [if_neg]
        · exact hn
        · rintro ⟨rfl, _⟩
          rw [hb] at hn
          cases hn
  | cell b i =>
    simp only
    cases hb : boxGet τ.boxes b with
    | none => exact (EvoJ.refl τ).mono (by simp)
    | some cs =>
      simp only
      refine ⟨rfl, by simp, fun t _ => rfl, fun b' hb' cs' hcs' => ?_, fun b' hb' hn => ?_⟩
      · simp only [boxGet_set]
        by_cases e : b = b'
        · subst e
          rw [hb] at hcs'
          cases hcs'
          rw [if_pos ⟨rfl, hb'⟩]
          exact ⟨_, rfl, by simp, fun j hj => by rw [List.getElem?_set_ne (fun e => hj (by simp [e]))]⟩
        · rw [if_neg (fun h => e h.1)]
          exact ⟨cs', hcs', rfl, fun _ _ => rfl⟩
      · simp only [boxGet_set]
        rw [if_neg]
        · exact hn
        · rintro ⟨rfl, _⟩
          rw [hb] at hn
          cases hn
theorem plsOf_congr : ∀ (its : List It) (l l' : List (Option (List EV))), (∀ b, (boxGet l b).map List.length = (boxGet l' b).map List.length) → plsOf its l = plsOf its l'
  | [], _, _, _ => rfl
  | t :: r, l, l', h => by
    simp only [plsOf]
    rw [plsOf_congr r l l' h]
    congr 1
    cases t.at_ with
    | slot i => rfl
    | cell b i => rfl
    | box b =>
      simp only
      have := h b
      cases h1 : boxGet l b with
      | none => rw [h1] at this; cases h2 : boxGet l' b with
        | none => rfl
        | some y => rw [h2] at this; cases this
      | some x => rw [h1] at this; cases h2 : boxGet l' b with
        | none => rw [h2] at this; cases this
        | some y =>
          rw [h2] at this
          simp only [Option.map_some, Option.some.injEq] at this
          simp only [this]
theorem EvoJ.lens {σ σ' : St} {j : List Pl} (h : EvoJ σ σ' j) (hb : σ'.boxes.length = σ.boxes.length) (b : Nat) : (boxGet σ'.boxes b).map List.length = (boxGet σ.boxes b).map List.length := by
  by_cases hlt : b < σ.boxes.length
  · cases hc : boxGet σ.boxes b with
    | none => rw [h.none b hlt hc]
    | some cs =>
      obtain ⟨cs', g1, g2, _⟩ := h.box b hlt cs hc
      rw [g1]
      simp [g2]
  · unfold boxGet
    rw [List.getElem?_eq_none (by omega), List.getElem?_eq_none (by omega)]
theorem itSet_blen (τ : St) (it : It) (v : EV) : (itSet τ it v).boxes.length = τ.boxes.length := by
  unfold itSet
  cases it.at_ with
  | slot i => rfl
  | box b => simp only; split <;> simp
  | cell b i => simp only; split <;> simp
theorem unsets_blen : ∀ (ps : List Pl) (τ : St), (unsets ps τ).boxes.length = τ.boxes.length
  | [], _ => rfl
  | p :: r, τ => by
    simp only [unsets]
    rw [unsets_blen]
    obtain ⟨x, i⟩ := p
    cases x with
    | zero => rfl
    | succ b => unfold unset; simp only; split <;> simp
theorem evo_itsSet : ∀ (its : List It) (vs : List EV) (τ : St), vs.length = its.length → (∀ (i : Nat) it, its[i]? = some it → ∃ x, vs[i]? = some (EV.dat it.ty x)) →
    (∀ it ∈ its, ∀ b cs, it.at_ = .box b → boxGet τ.boxes b = some cs → it.ty.size = cs.length) → EvoJ τ (itsSet its vs τ) (plsOf its τ.boxes) ∧ (itsSet its vs τ).boxes.length = τ.boxes.length
  | [], vs, τ, hl, _, _ => by
    have : vs = [] := List.eq_nil_of_length_eq_zero hl
    subst this
    exact ⟨EvoJ.refl τ, rfl⟩
  | it :: r, vs, τ, hl, hv, hb => by
    match vs, hl with
    | v :: vs', hl =>
      obtain ⟨x, hx⟩ := hv 0 it rfl
      simp at hx
      subst hx
      have h1 := evo_itSet τ it x (fun b cs => hb it (by simp) b cs)
      have hlen := itSet_blen τ it (.dat it.ty x)
      have hlens := h1.lens hlen
      obtain ⟨h2, h3⟩ := evo_itsSet r vs' (itSet τ it (.dat it.ty x)) (by simpa using hl) (fun i it' hi => by
        obtain ⟨y, hy⟩ := hv (i + 1) it' (by simpa using hi)
        exact ⟨y, by simpa using hy⟩) (fun it' hit b cs hat hcs => by
        have := hlens b
        rw [hcs] at this
        cases hc : boxGet τ.boxes b with
        | none => rw [hc] at this; cases this
        | some cs0 =>
          rw [hc] at this
          simp only [Option.map_some, Option.some.injEq] at this
          rw [this]
          exact hb it' (by simp [hit]) b cs0 hat hc)
      simp only [itsSet]
      refine ⟨(h1.trans h2).mono fun q hq => ?_, by rw [h3, hlen]⟩
      have hpl : plsOf (it :: r) τ.boxes = plsOf [it] τ.boxes ++ plsOf r τ.boxes := by simp [plsOf]
      rw [hpl]
      rcases List.mem_append.1 hq with h | h
      · rw [plsOf_congr r _ _ hlens] at h
        exact List.mem_append_right _ h
      · exact List.mem_append_left _ h
/-- What is handed on has changed in no other places. -/
theorem evo_unpack {σ σ' : St} {its : List It} {drop j : List Pl} {v : (itsTy its).den} (hev : EvoJ σ σ' j) (hp : pack σ' its = some v) : EvoJ σ (unpack σ its drop v) (plsOf its σ.boxes ++ drop) ∧ (unpack σ its drop v).boxes.length = σ.boxes.length := by
  unfold pack at hp
  cases hg : itsGet σ' its with
  | none => rw [hg] at hp; cases hp
  | some l =>
    rw [hg] at hp
    simp only at hp
    obtain ⟨l1, l2⟩ := itsGet_at its l hg
    have h1 := evo_unsets drop σ
    have hbl := unsets_blen drop σ
    have hlens := h1.lens hbl
    have hun : (unpackL (itsTy its) its.length v).length = its.length := by
      have : ∀ (its : List It) (v : (itsTy its).den), (unpackL (itsTy its) its.length v).length = its.length := by
        intro its
        induction its with
        | nil => intro v; rfl
        | cons t r ih =>
          intro v
          cases r with
          | nil =>
            have : ∀ (t : Ty) (v : t.den), (unpackL t 1 v).length = 1 := by intro t v; cases t <;> rfl
            exact this _ v
          | cons u r =>
            have : unpackL (itsTy (t :: u :: r)) (t :: u :: r).length v = .dat t.ty v.1 :: unpackL (itsTy (u :: r)) (u :: r).length v.2 := rfl
            rw [this]
            have := ih v.2
            simp only [List.length_cons] at this ⊢
            omega
      exact this its v
    obtain ⟨h2, h3⟩ := evo_itsSet its (unpackL (itsTy its) its.length v) (unsets drop σ) hun (fun i it hi => by
      have hil : i < l.length := by rw [l1]; exact (List.getElem?_eq_some_iff.1 hi).1
      obtain ⟨y, _, k2⟩ := pack_items its l v hp l1 i it _ hi (List.getElem?_eq_getElem hil)
      exact ⟨y, k2⟩) (fun it hit b cs hat hcs => by
      obtain ⟨i, hi⟩ := List.getElem?_of_mem hit
      have hil : i < l.length := by rw [l1]; exact (List.getElem?_eq_some_iff.1 hi).1
      have hget := l2 i it _ hi (List.getElem?_eq_getElem hil)
      unfold itGet at hget
      rw [hat] at hget
      simp only at hget
      split at hget
      · rename_i cs' hcs'
        split at hget
        · rename_i v' hv'
          have := asm_length _ _ _ _ hv'
          have hl := hlens b
          rw [hcs] at hl
          cases hc : boxGet σ.boxes b with
          | none => rw [hc] at hl; cases hl
          | some cs0 =>
            rw [hc] at hl
            simp only [Option.map_some, Option.some.injEq] at hl
            obtain ⟨cs'', k1, k2, _⟩ := hev.box b (List.getElem?_eq_some_iff.1 (boxGet_spec.1 hc)).1 cs0 hc
            rw [hcs'] at k1
            cases k1
            simp at this
            omega
        · cases hget
      · cases hget)
    refine ⟨?_, by rw [← hbl, ← h3]; rfl⟩
    have := h1.trans h2
    rw [plsOf_congr its _ _ hlens] at this
    exact this
/-- What is handed on of a state is right. -/
theorem unpack_rel {B : Base} {σ σ' : St} {a a₀ : Act} {w w₀ : World} {its : List It} {drop : List Pl} {v : (itsTy its).den} {j : List Pl} (h₀ : RelE B σ a₀ w₀) (hev : EvoJ σ σ' j) (h : RelE B σ' a w)
    (hc : ∀ p ∈ j, σ.boxes.length + 1 ≤ p.1 ∨ itsHas p its = true ∨ p ∈ drop) (hp : pack σ' its = some v) : RelE B (unpack σ its drop v) a w := by
  have hevo := (evo_unpack (drop := drop) hev hp).1
  obtain ⟨ow₀, bx₀, i₀, ⟨s₀, r₀⟩, _⟩ := h₀
  obtain ⟨ow, bx, i1, ⟨s1, r1⟩, hd⟩ := h
  obtain ⟨e1, e2, e4, e5, e6⟩ := hev
  have hb₀ : ∀ b, ow₀ (bx₀ b) = .box b → b < σ.boxes.length := fun b h => (i₀.back _ b h).2.2
  -- what was there is right, but for what has changed
  have g0 : GoodE (cutOw σ.boxes.length ow) bx w a σ.boxes.length (fun q => q ∈ j) σ := by
    refine ⟨by rw [← e1, s1], rfl, fun t e hS ht => ?_, fun b cs hb => ?_, fun b h1 h2 => ?_⟩
    · have ht' : σ'.slots[t]? = some e := by rw [e4 t hS]; exact ht
      exact ground (r₀ t e ht) hb₀ _ (r1 t e ht')
    · have hlt := (List.getElem?_eq_some_iff.1 (boxGet_spec.1 hb)).1
      obtain ⟨cs', k1, k2, k3⟩ := e5 b hlt cs hb
      obtain ⟨q1, c, T, q2, q3⟩ := i1.box b cs' k1
      obtain ⟨p1, c₀, T₀, p2, p3⟩ := i₀.box b cs hb
      refine ⟨cut_box.2 ⟨q1, hlt⟩, c, T, q2, by rw [← k2, q3.1]; simp, fun i v hv => q3.ones v (by simpa using List.mem_of_getElem? (show c.toList[i]? = some v by simpa using hv)), fun i e v hS he hv => ?_⟩
      have he' : cs'[i]? = some e := by rw [k3 i hS]; exact he
      have hil : i < c₀.toList.length := by rw [← p3.1]; exact (List.getElem?_eq_some_iff.1 he).1
      exact ground (p3.2 i e _ he (List.getElem?_eq_getElem hil)).1 hb₀ _ (q3.2 i e v he' (by simpa using hv)).1
    · obtain ⟨hq, hlt⟩ := cut_box.1 h1
      have := (i1.back _ b hq).2.1
      cases hb : boxGet σ.boxes b with
      | some cs => rfl
      | none => rw [e6 b h2 hb] at this; cases this
  have g1 := g0.unsets drop
  -- the pieces
  unfold pack at hp
  cases hg : itsGet σ' its with
  | none => rw [hg] at hp; cases hp
  | some l =>
    rw [hg] at hp
    simp only at hp
    obtain ⟨l1, l2⟩ := itsGet_at its l hg
    have hun : (unpackL (itsTy its) its.length v).length = its.length := by
      have : ∀ (its : List It) (v : (itsTy its).den), (unpackL (itsTy its) its.length v).length = its.length := by
        intro its
        induction its with
        | nil => intro v; rfl
        | cons t r ih =>
          intro v
          cases r with
          | nil =>
            have : ∀ (t : Ty) (v : t.den), (unpackL t 1 v).length = 1 := by intro t v; cases t <;> rfl
            exact this _ v
          | cons u r =>
            have : unpackL (itsTy (t :: u :: r)) (t :: u :: r).length v = .dat t.ty v.1 :: unpackL (itsTy (u :: r)) (u :: r).length v.2 := rfl
            rw [this]
            have := ih v.2
            simp only [List.length_cons] at this ⊢
            omega
      exact this its v
    have hvals : ∀ (i : Nat) it, its[i]? = some it → ∃ x, (unpackL (itsTy its) its.length v)[i]? = some (.dat it.ty x) ∧ ItOK (cutOw σ.boxes.length ow) bx w a it x := by
      intro i it hi
      have hil : i < l.length := by rw [l1]; exact (List.getElem?_eq_some_iff.1 hi).1
      obtain ⟨y, k1, k2⟩ := pack_items its l v hp l1 i it _ hi (List.getElem?_eq_getElem hil)
      refine ⟨y, k2, ?_⟩
      have hget := l2 i it _ hi (List.getElem?_eq_getElem hil)
      generalize l[i]'hil = e at k1 hget
      unfold itGet at hget
      unfold ItOK
      cases hat : it.at_ with
      | slot t =>
        rw [hat] at hget
        simp only at hget ⊢
        cases he₀ : σ'.slots[t]? with
        | none => rw [he₀] at hget; cases ho : it.own <;> rw [ho] at hget <;> cases hget
        | some e₀ =>
          rw [he₀] at hget
          exact own_item hget k1 (r1 t e₀ he₀)
      | box b =>
        rw [hat] at hget
        simp only at hget ⊢
        intro c T hct
        split at hget
        · rename_i cs hcs
          split at hget
          · rename_i v' hv'
            cases hget
            have hy : v' = y := by
              rcases to_spec k1 with h | ⟨h, _⟩ | ⟨_, _, _, h, _⟩
              · cases h; rfl
              · cases h
              · cases h
            subst hy
            obtain ⟨q1, c', T', q2, q3⟩ := i1.box b cs hcs
            rw [hct] at q2
            cases q2
            obtain ⟨p1, p2, p3⟩ := asm_rep it.ty _ _ _ _ hv' q3
            have hle : c.toList.length ≤ it.ty.size := by
              have := congrArg List.length p2
              have h3 := q3.1
              simp at this h3 ⊢
              omega
            rw [List.take_of_length_le hle] at p1
            exact rep_flat _ _ _ (Rep.keep (cut_st _ _ _) _ _ _ p1)
          · cases hget
        · cases hget
      | cell b i' =>
        rw [hat] at hget
        simp only at hget ⊢
        intro c T v' hct hv'
        split at hget
        · rename_i cs hcs
          obtain ⟨q1, c', T', q2, q3⟩ := i1.box b cs hcs
          rw [hct] at q2
          cases q2
          cases he₀ : cs[i']? with
          | none => rw [he₀] at hget; cases ho : it.own <;> rw [ho] at hget <;> cases hget
          | some e₀ =>
            rw [he₀] at hget
            exact own_item hget k1 (q3.2 i' e₀ v' he₀ (by simpa using hv')).1
        · cases hget
    have g2 := GoodE.itsSet its _ _ _ g1 hun hvals
    have hnone : ∀ q : Pl, q.1 ≤ σ.boxes.length → ¬ ((q ∈ j ∧ q ∉ drop) ∧ itsHas q its = false) := by
      intro q hq ⟨⟨h1, h2⟩, h3⟩
      rcases hc q h1 with h | h | h
      · omega
      · rw [h3] at h; cases h
      · exact h2 h
    refine ⟨cutOw σ.boxes.length ow, bx, ?_, ⟨g2.len, fun t e ht => g2.slot t e (hnone _ (Nat.zero_le _)) ht⟩, hd⟩
    have hbl : (unpack σ its drop v).boxes.length = σ.boxes.length := g2.bl
    constructor
    · intro b cs hb
      obtain ⟨k1, c, T, k2, k3, k4, k5⟩ := g2.box b cs hb
      have hlt := (cut_box.1 k1).2
      exact ⟨k1, c, T, k2, by simp [k3], fun i e v he hv => ⟨k5 i e v (hnone _ (by simp only; omega)) he (by simpa using hv), k4 i v (by simpa using hv)⟩⟩
    · intro blk b hb
      obtain ⟨q1, q2⟩ := cut_box.1 hb
      obtain ⟨q3, _, _⟩ := i1.back blk b q1
      exact ⟨q3, g2.there b (by rw [← q3]; exact hb) q2, by rw [hbl]; exact q2⟩
    · intro blk hb
      refine i1.here blk fun e => hb ?_
      unfold cutOw; rw [e]
    · intro blk hb hm
      obtain ⟨q1, q2, q3⟩ := i1.old blk hb hm
      have : cutOw σ.boxes.length ow blk = ow blk := by
        unfold cutOw
        split
        · rename_i b hb; exact absurd hb (q3.1 b)
        · rfl
      exact ⟨q1, by rw [this]; exact q2, by rw [this]; exact q3⟩
    · exact i1.size
    · exact i1.env
    · intro b hb
      obtain ⟨h1, h2⟩ := i1.kept b hb
      refine ⟨h1, ?_⟩
      have h3 := (i₀.kept b hb).2
      cases hc : boxGet σ.boxes b with
      | none => rw [hc] at h3; cases h3
      | some cs =>
        obtain ⟨cs', k1, _⟩ := hevo.box b (List.getElem?_eq_some_iff.1 (boxGet_spec.1 hc)).1 cs hc
        rw [k1]; rfl
end Go.Proofs.Ytbgdgpdfaebniaa
