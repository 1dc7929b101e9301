/- Code does what the reading says: what is handed on where ways meet. No program in sight. -/
import Derived.Test.YtbgdgpdfaebniaaEngV
set_option linter.unusedSimpArgs false
set_option linter.unusedVariables false
namespace Go.Proofs.Ytbgdgpdfaebniaa
def cutOw (n : Nat) (ow : Nat → Owner) : Nat → Owner := fun blk => match ow blk with
  | .box b => if b < n then .box b else .junk
  | x => x
theorem cut_rigid {n m : Nat} {ow : Nat → Owner} {blk : Nat} (h : Rigid ow blk m) : Rigid (cutOw n ow) blk m := by
  rcases rigid_cases h with h | ⟨k, fr, h, hn⟩ | ⟨fr, h, hn⟩
  · exact rigid_stable (by simp [cutOw, h])
  · exact rigid_tok (k := k) (fr := fr) (by simp [cutOw, h]) hn
  · exact rigid_part (by simp [cutOw, h]) hn
theorem cut_st (n : Nat) (ow : Nat → Owner) (w : World) : KeepSt ow w (cutOw n ow) w := .of fun _ _ h => ⟨cut_rigid h, rfl⟩
theorem cut_tok {n k fr : Nat} {ow : Nat → Owner} {blk : Nat} (h : ow blk = .tok k fr) : cutOw n ow blk = .tok k fr := by simp [cutOw, h]
theorem cut_box {n b : Nat} {ow : Nat → Owner} {blk : Nat} : cutOw n ow blk = .box b ↔ ow blk = .box b ∧ b < n := by
  unfold cutOw
  cases h : ow blk with
  | box b' =>
    simp only
    split
    · rename_i hlt
      constructor
      · intro h; cases h; exact ⟨rfl, hlt⟩
      · rintro ⟨h, _⟩; exact h
    · rename_i hlt
      constructor
      · intro h; cases h
      · rintro ⟨h, h2⟩; cases h; exact absurd h2 hlt
  | stable => simp
  | tok k fr => simp
  | part fr => simp
  | junk => simp
/-- A value that was there when there were only so many variables speaks of these alone. -/
theorem ground {n : Nat} {ow₀ ow : Nat → Owner} {bx₀ bx : Bx} {w₀ w : World} {e : EV} {v₀ : Value} (h₀ : RepEV ow₀ bx₀ w₀ e v₀) (hb : ∀ b, ow₀ (bx₀ b) = .box b → b < n) :
    ∀ v, RepEV ow bx w e v → RepEV (cutOw n ow) bx w e v := by
  induction h₀ with
  | undef v => exact fun v _ => .undef v
  | dat h => intro v h; cases h with | dat h => exact .dat (h.keep (cut_st _ _ _))
  | nil => intro v h; cases h; exact .nil
  | own h h' => intro v h; cases h with | own h h' => exact .own (h.keep (cut_st _ _ _)) fun hd => (h' hd).keep fun blk fr hs => ⟨cut_tok hs, rfl⟩
  | ptr h => intro v h'; cases h' with | ptr h' => exact .ptr (cut_box.2 ⟨h', hb _ h⟩)
  | pix h h0 h1 => intro v h'; cases h' with | pix h' h0 h1 => exact .pix (cut_box.2 ⟨h', hb _ h⟩) h0 h1
  | elt h0 h1 hs hbk hc =>
    intro v h
    cases h with
    | elt h0 h1 hs hbk hc => exact .elt h0 h1 (cut_rigid hs) hbk fun j x hx => Rep.keep (cut_st _ _ _) _ _ _ (hc j x hx)
  | clo h1 h2 h3 h4 ih3 ih4 =>
    intro v h
    cases h with
    | clo g1 g2 g3 g4 =>
      refine .clo g1 g2 (fun i e v he hv => ?_) (fun i e v he hv => ?_)
      · have hlt := (List.getElem?_eq_some_iff.1 he).1
        exact ih3 i e _ he (Array.getElem?_eq_getElem (by omega)) v (g3 i e v he hv)
      · have hlt := (List.getElem?_eq_some_iff.1 he).1
        exact ih4 i e _ he (Array.getElem?_eq_getElem (by omega)) v (g4 i e v he hv)
  | sl h0 h1 hs hbk h2 h3 ih =>
    intro v h
    cases h with
    | sl g0 g1 gs gb g2 g3 =>
      refine .sl g0 g1 (cut_rigid gs) gb (fun i e v he hv => ?_) g3
      have hlt := (List.getElem?_eq_some_iff.1 he).1
      exact ih i e _ he (Array.getElem?_eq_getElem (by omega)) v (g2 i e v he hv)
  | cp hs hbk hv h1 h ih =>
    intro v h
    cases h with
    | cp gs gb gv g1 g => exact .cp (cut_rigid gs) gb gv g1 (ih _ g)
  | tup h1 h2 ih =>
    intro v h
    cases h with
    | tup g1 g2 =>
      refine .tup g1 fun i e v he hv => ?_
      have hlt := (List.getElem?_eq_some_iff.1 he).1
      exact ih i e _ he (Array.getElem?_eq_getElem (by omega)) v (g2 i e v he hv)
  | row h1 h2 h3 ih =>
    intro v h
    cases h with
    | row g1 g2 g3 =>
      refine .row g1 (fun i e v he hv => ?_) g3
      have hlt := (List.getElem?_eq_some_iff.1 he).1
      exact ih i e _ he (Array.getElem?_eq_getElem (by omega)) v (g2 i e v he hv)
theorem RepV.cut {n : Nat} {ow : Nat → Owner} {w : World} {t : Ty} {x : t.den} {v : Value} (h : RepV ow w t x v) : RepV (cutOw n ow) w t x v := h.keep (cut_st _ _ _)
/-- A state that is right but for some places. -/
structure GoodE (ow : Nat → Owner) (bx : Bx) (w : World) (a : Act) (n : Nat) (S : Pl → Prop) (τ : St) : Prop where
  len : τ.slots.length = a.tmps.size
  bl : τ.boxes.length = n
  slot : ∀ t e, ¬ S (0, t) → τ.slots[t]? = some e → RepEV ow bx w e (a.tmps.getD t undef)
  box : ∀ b cs, boxGet τ.boxes b = some cs → ow (bx b) = .box b ∧ ∃ c T, w.heap[bx b]? = some (.cells c T (0, 0)) ∧ cs.length = c.size ∧ (∀ (i : Nat) v, c[i]? = some v → v.oneCell' = true) ∧
    ∀ (i : Nat) e v, ¬ S (b + 1, i) → cs[i]? = some e → c[i]? = some v → RepEV ow bx w e v
  there : ∀ b, ow (bx b) = .box b → b < n → (boxGet τ.boxes b).isSome = true
section
variable {ow : Nat → Owner} {bx : Bx} {w : World} {a : Act} {n : Nat} {S : Pl → Prop} {τ : St}
theorem boxGet_set {l : List (Option (List EV))} {b b' : Nat} {x : Option (List EV)} : boxGet (l.set b x) b' = if b = b' ∧ b < l.length then x else boxGet l b' := by
  unfold boxGet
  rw [List.getElem?_set]
  by_cases h : b = b'
  · subst h
    by_cases hl : b < l.length
    · simp only [hl, if_true, true_and]
      cases x <;> rfl
    · simp only [hl, if_true, if_false, true_and, and_false]
      rw [List.getElem?_eq_none (by omega)]
  · simp only [h, if_false, false_and]
theorem GoodE.setSlot (h : GoodE ow bx w a n S τ) (t : Nat) (e : EV) (he : RepEV ow bx w e (a.tmps.getD t undef)) : GoodE ow bx w a n (fun q => S q ∧ q ≠ (0, t)) { τ with slots := τ.slots.set t e } := by
  refine ⟨by simp [h.len], h.bl, fun t' e' hS ht' => ?_, fun b cs hb => ?_, h.there⟩
  · rw [List.getElem?_set] at ht'
    split at ht'
    · rename_i htt
      subst htt
      split at ht'
      · cases ht'; exact he
      · cases ht'
    · rename_i htt
      exact h.slot t' e' (fun hs => hS ⟨hs, fun e => htt (by cases e; rfl)⟩) ht'
  · obtain ⟨h1, c, T, h2, h3, h4, h5⟩ := h.box b cs hb
    exact ⟨h1, c, T, h2, h3, h4, fun i e v hS he hv => h5 i e v (fun hs => hS ⟨hs, by simp⟩) he hv⟩
theorem GoodE.setBox (h : GoodE ow bx w a n S τ) (b : Nat) (cs new : List EV) (hb : boxGet τ.boxes b = some cs) (hl : new.length = cs.length) (S' : Pl → Prop) (hS0 : ∀ t, S (0, t) → S' (0, t)) (hSb : ∀ b' i, b' ≠ b → S (b' + 1, i) → S' (b' + 1, i))
    (hn : ∀ c T, w.heap[bx b]? = some (.cells c T (0, 0)) → c.size = cs.length → (∀ (i : Nat) v, c[i]? = some v → v.oneCell' = true) → (∀ (i : Nat) e v, ¬ S (b + 1, i) → cs[i]? = some e → c[i]? = some v → RepEV ow bx w e v) →
      ∀ (i : Nat) e v, ¬ S' (b + 1, i) → new[i]? = some e → c[i]? = some v → RepEV ow bx w e v) : GoodE ow bx w a n S' { τ with boxes := τ.boxes.set b (some new) } := by
  refine ⟨h.len, by simp [h.bl], fun t e hS ht => h.slot t e (fun hs => hS (hS0 t hs)) ht, fun b' cs' hb' => ?_, fun b' h1 h2 => ?_⟩
  · simp only [boxGet_set] at hb'
    split at hb'
    · rename_i hbb
      obtain ⟨rfl, _⟩ := hbb
      cases hb'
      obtain ⟨h1, c, T, h2, h3, h4, h5⟩ := h.box b cs hb
      exact ⟨h1, c, T, h2, by omega, h4, hn c T h2 (by omega) h4 h5⟩
    · rename_i hbb
      have hne : b' ≠ b := by
        intro e
        subst e
        exact hbb ⟨rfl, (List.getElem?_eq_some_iff.1 (boxGet_spec.1 hb)).1⟩
      obtain ⟨h1, c, T, h2, h3, h4, h5⟩ := h.box b' cs' hb'
      exact ⟨h1, c, T, h2, h3, h4, fun i e v hS he hv => h5 i e v (fun hs => hS (hSb b' i hne hs)) he hv⟩
  · simp only [boxGet_set]
    split
    · rfl
    · exact h.there b' h1 h2
theorem GoodE.weak (h : GoodE ow bx w a n S τ) {S' : Pl → Prop} (hs : ∀ q, S q → S' q) : GoodE ow bx w a n S' τ :=
  ⟨h.len, h.bl, fun t e hS ht => h.slot t e (fun x => hS (hs _ x)) ht, fun b cs hb => by
    obtain ⟨h1, c, T, h2, h3, h4, h5⟩ := h.box b cs hb
    exact ⟨h1, c, T, h2, h3, h4, fun i e v hS he hv => h5 i e v (fun x => hS (hs _ x)) he hv⟩, h.there⟩
theorem GoodE.unset (h : GoodE ow bx w a n S τ) (p : Pl) : GoodE ow bx w a n (fun q => S q ∧ q ≠ p) (unset τ p) := by
  obtain ⟨x, i⟩ := p
  cases x with
  | zero => exact h.setSlot i .undef (.undef _)
  | succ b =>
    unfold Go.Proofs.Ytbgdgpdfaebniaa.unset
    simp only
    cases hb : boxGet τ.boxes b with
    | none =>
      simp only
      refine ⟨h.len, h.bl, fun t e hS ht => h.slot t e (fun hs => hS ⟨hs, by simp⟩) ht, fun b' cs hb' => ?_, h.there⟩
      obtain ⟨h1, c, T, h2, h3, h4, h5⟩ := h.box b' cs hb'
      refine ⟨h1, c, T, h2, h3, h4, fun j e v hS he hv => h5 j e v (fun hs => hS ⟨hs, fun e => ?_⟩) he hv⟩
      simp only [Prod.mk.injEq] at e
      have : b' = b := by omega
      subst this
      rw [hb] at hb'
      cases hb'
    | some cs =>
      simp only
      refine h.setBox b cs _ hb (by simp) _ (fun t hs => ⟨hs, by simp⟩) (fun b' j hne hs => ⟨hs, fun e => hne (by simp only [Prod.mk.injEq] at e; omega)⟩) fun c T h1 h2 h3 h4 j e v hS he hv => ?_
      rw [List.getElem?_set] at he
      split at he
      · split at he
        · cases he; exact .undef _
        · cases he
      · rename_i hij
        exact h4 j e v (fun hs => hS ⟨hs, fun e => hij (by simp only [Prod.mk.injEq] at e; omega)⟩) he hv
theorem GoodE.unsets : ∀ (ps : List Pl) (S : Pl → Prop) (τ : St), GoodE ow bx w a n S τ → GoodE ow bx w a n (fun q => S q ∧ q ∉ ps) (unsets ps τ)
  | [], S, τ, h => h.weak fun q hq => ⟨hq, by simp⟩
  | p :: r, S, τ, h => by
    have := GoodE.unsets r _ _ (h.unset p)
    simp only [Go.Proofs.Ytbgdgpdfaebniaa.unsets]
    exact this.weak fun q ⟨⟨h1, h2⟩, h3⟩ => ⟨h1, by simp [h2, h3]⟩
/-- What is asked of the value of a place. -/
def ItOK (ow : Nat → Owner) (bx : Bx) (w : World) (a : Act) (it : It) (x : it.ty.den) : Prop := match it.at_ with
  | .slot i => RepEV ow bx w (reown it.own (.dat it.ty x)) (a.tmps.getD i undef)
  | .box b => ∀ c T, w.heap[bx b]? = some (.cells c T (0, 0)) → RepCs ow bx w (flat it.ty x) c.toList
  | .cell b i => ∀ c T v, w.heap[bx b]? = some (.cells c T (0, 0)) → c[i]? = some v → RepEV ow bx w (reown it.own (.dat it.ty x)) v
theorem GoodE.itSet (h : GoodE ow bx w a n S τ) (it : It) (x : it.ty.den) (hx : ItOK ow bx w a it x) : GoodE ow bx w a n (fun q => S q ∧ itHas q it = false) (itSet τ it (.dat it.ty x)) := by
  unfold ItOK at hx
  unfold Go.Proofs.Ytbgdgpdfaebniaa.itSet itHas
  cases hat : it.at_ with
  | slot i =>
    rw [hat] at hx
    simp only at hx ⊢
    refine (h.setSlot i _ hx).weak fun q ⟨h1, h2⟩ => ⟨h1, ?_⟩
    obtain ⟨a, b⟩ := q
    cases hb : (Nat.beq a 0 && Nat.beq b i) with
    | false => rfl
    | true =>
      simp only [Bool.and_eq_true] at hb
      exact absurd (by rw [Nat.eq_of_beq_eq_true hb.1, Nat.eq_of_beq_eq_true hb.2]) h2
  | box b =>
    rw [hat] at hx
    simp only [EV.cells] at hx ⊢
    have hp : ∀ q : Pl, Nat.beq q.1 (b + 1) = false ↔ q.1 ≠ b + 1 := by
      intro q
      constructor
      · intro h e; rw [e, Nat.beq_refl] at h; cases h
      · intro h
        cases hb : Nat.beq q.1 (b + 1) with
        | false => rfl
        | true => exact absurd (Nat.eq_of_beq_eq_true hb) h
    cases hb : boxGet τ.boxes b with
    | none =>
      simp only
      refine ⟨h.len, h.bl, fun t e hS ht => h.slot t e (fun hs => hS ⟨hs, by rw [hp]; simp⟩) ht, fun b' cs hb' => ?_, h.there⟩
      obtain ⟨h1, c, T, h2, h3, h4, h5⟩ := h.box b' cs hb'
      refine ⟨h1, c, T, h2, h3, h4, fun j e v hS he hv => h5 j e v (fun hs => hS ⟨hs, ?_⟩) he hv⟩
      rw [hp]
      intro e
      have : b' = b := by simpa using e
      subst this
      rw [hb] at hb'
      cases hb'
    | some cs =>
      simp only
      obtain ⟨h1, c, T, h2, h3, h4, h5⟩ := h.box b cs hb
      have hr := hx c T h2
      have hl : (flat it.ty x).length = cs.length := by rw [hr.1, h3]; simp
      refine h.setBox b cs _ hb hl _ (fun t hs => ⟨hs, by rw [hp]; simp⟩) (fun b' j hne hs => ⟨hs, by rw [hp]; simpa using hne⟩) fun c' T' g1 g2 g3 g4 j e v hS he hv => ?_
      rw [h2] at g1
      cases g1
      exact (hr.2 j e v he (by simpa using hv)).1
  | cell b i =>
    rw [hat] at hx
    simp only at hx ⊢
    have hp : ∀ q : Pl, (Nat.beq q.1 (b + 1) && Nat.beq q.2 i) = false ↔ q ≠ (b + 1, i) := by
      intro q
      obtain ⟨x, y⟩ := q
      constructor
      · intro h e; cases e; simp [Nat.beq_refl] at h
      · intro h
        cases hb : (Nat.beq x (b + 1) && Nat.beq y i) with
        | false => rfl
        | true =>
          simp only [Bool.and_eq_true] at hb
          exact absurd (by rw [Nat.eq_of_beq_eq_true hb.1, Nat.eq_of_beq_eq_true hb.2]) h
    cases hb : boxGet τ.boxes b with
    | none =>
      simp only
      refine ⟨h.len, h.bl, fun t e hS ht => h.slot t e (fun hs => hS ⟨hs, by rw [hp]; simp⟩) ht, fun b' cs hb' => ?_, h.there⟩
      obtain ⟨h1, c, T, h2, h3, h4, h5⟩ := h.box b' cs hb'
      refine ⟨h1, c, T, h2, h3, h4, fun j e v hS he hv => h5 j e v (fun hs => hS ⟨hs, ?_⟩) he hv⟩
      rw [hp]
      intro e
      simp only [Prod.mk.injEq] at e
      have : b' = b := by omega
      subst this
      rw [hb] at hb'
      cases hb'
    | some cs =>
      simp only
      refine h.setBox b cs _ hb (by simp) _ (fun t hs => ⟨hs, by rw [hp]; simp⟩) (fun b' j hne hs => ⟨hs, by rw [hp]; intro e; exact hne (by simp only [Prod.mk.injEq] at e; omega)⟩) fun c T h1 h2 h3 h4 j e v hS he hv => ?_
      rw [List.getElem?_set] at he
      split at he
      · rename_i hij
        subst hij
        split at he
        · cases he; exact hx c T v h1 hv
        · cases he
      · rename_i hij
        exact h4 j e v (fun hs => hS ⟨hs, by rw [hp]; intro e; exact hij (by simp only [Prod.mk.injEq] at e; omega)⟩) he hv
/-- A piece that is handed on, or a slice of the call's own with its token. -/
theorem own_item {o : Option Nat} {ty : Ty} {y : ty.den} {e₀ e : EV} {v : Value} {m : Nat} (h : viaOwn o (some e₀) = some e) (ht : e.to ty = some y) (hv : RepEV ow bx w e₀ v) : RepEV (cutOw m ow) bx w (reown o (.dat ty y)) v := by
  cases o with
  | none =>
    simp only [viaOwn] at h
    cases h
    exact .dat (to_rep ht hv).cut
  | some k =>
    simp only [viaOwn] at h
    cases e₀ with
    | own k' t l =>
      simp only [ownGet] at h
      split at h
      · rename_i hk
        have hk := Nat.eq_of_beq_eq_true hk
        subst hk
        cases h
        rcases to_spec ht with h1 | ⟨h1, _⟩ | ⟨_, _, _, h1, _⟩
        · cases h1
          cases hv with
          | own h2 h3 => exact .own h2.cut fun hd => (h3 hd).keep fun blk fr hs => ⟨cut_tok hs, rfl⟩
        · cases h1
        · cases h1
      · cases h
    | nil =>
      simp only [ownGet] at h
      cases h
      rcases to_spec ht with h1 | ⟨_, a, h1, h2⟩ | ⟨_, _, _, h1, _⟩
      · cases h1
      · subst h1
        cases eq_of_heq h2
        cases hv
        exact .own (rep_nil a) fun _ => .inl ⟨rfl, rfl⟩
      · cases h1
    | _ => simp [ownGet] at h
/-- Each piece's data, as it is handed on. -/
theorem pack_items : ∀ (its : List It) (es : List EV) (x : (itsTy its).den), packL (itsTy its) es = some x → es.length = its.length →
    ∀ (i : Nat) it e, its[i]? = some it → es[i]? = some e → ∃ y, e.to it.ty = some y ∧ (unpackL (itsTy its) its.length x)[i]? = some (.dat it.ty y)
  | [], es, x, h, hl, i, it, e, hi, he => by simp at hi
  | [t], es, x, h, hl, i, it, e, hi, he => by
    obtain ⟨e0, rfl⟩ := List.length_eq_one_iff.1 hl
    cases i with
    | succ i => simp at hi
    | zero =>
      simp at hi he
      subst hi he
      have hto : ∀ (t : Ty) (e : EV) (x : t.den), packL t [e] = some x → e.to t = some x := by
        intro t e x h
        cases t <;> simp only [packL] at h <;> first | exact h | cases h
      have hun : ∀ (t : Ty) (x : t.den), unpackL t 1 x = [.dat t x] := by intro t x; cases t <;> rfl
      exact ⟨x, hto _ _ _ h, congrArg (fun l : List EV => l[0]?) (hun _ x)⟩
  | t :: u :: r, es, x, h, hl, i, it, e, hi, he => by
    match es, hl with
    | e0 :: e1 :: es', hl =>
      change packL (.pair t.ty (itsTy (u :: r))) (e0 :: e1 :: es') = some x at h
      simp only [packL] at h
      split at h
      · rename_i x0 h0
        split at h
        · rename_i x1 h1
          cases h
          have hun : unpackL (itsTy (t :: u :: r)) (t :: u :: r).length (x0, x1) = .dat t.ty x0 :: unpackL (itsTy (u :: r)) (u :: r).length x1 := rfl
          rw [hun]
          cases i with
          | zero => simp at hi he; subst hi he; exact ⟨x0, h0, rfl⟩
          | succ i =>
            obtain ⟨y, k1, k2⟩ := pack_items (u :: r) (e1 :: es') x1 h1 (by simpa using hl) i it e (by simpa using hi) (by simpa using he)
            exact ⟨y, k1, by simpa using k2⟩
        · cases h
      · cases h
theorem itsGet_at {σ : St} : ∀ (its : List It) (l : List EV), itsGet σ its = some l → l.length = its.length ∧ ∀ (i : Nat) it e, its[i]? = some it → l[i]? = some e → itGet σ it = some e
  | [], l, h => by simp only [itsGet] at h; cases h; exact ⟨rfl, fun i it e hi => by simp at hi⟩
  | t :: r, l, h => by
    simp only [itsGet] at h
    split at h
    · rename_i e0 h0
      split at h
      · rename_i l0 h1
        cases h
        obtain ⟨k1, k2⟩ := itsGet_at r l0 h1
        refine ⟨by simp [k1], fun i it e hi he => ?_⟩
        cases i with
        | zero => simp at hi he; subst hi he; exact h0
        | succ i => exact k2 i it e (by simpa using hi) (by simpa using he)
      · cases h
    · cases h
theorem GoodE.itsSet {ow : Nat → Owner} {bx : Bx} {w : World} {a : Act} {n : Nat} : ∀ (its : List It) (vs : List EV) (S : Pl → Prop) (τ : St), GoodE ow bx w a n S τ → vs.length = its.length →
    (∀ (i : Nat) it, its[i]? = some it → ∃ x, vs[i]? = some (.dat it.ty x) ∧ ItOK ow bx w a it x) → GoodE ow bx w a n (fun q => S q ∧ itsHas q its = false) (itsSet its vs τ)
  | [], vs, S, τ, h, hl, _ => by
    have : vs = [] := List.eq_nil_of_length_eq_zero hl
    subst this
    exact h.weak fun q hq => ⟨hq, rfl⟩
  | it :: r, vs, S, τ, h, hl, hx => by
    match vs, hl with
    | v :: vs', hl =>
      obtain ⟨x, h1, h2⟩ := hx 0 it rfl
      simp at h1
      subst h1
      have := GoodE.itsSet r vs' _ _ (h.itSet it x h2) (by simpa using hl) fun i it' hi => by
        obtain ⟨y, k1, k2⟩ := hx (i + 1) it' (by simpa using hi)
        exact ⟨y, by simpa using k1, k2⟩
      simp only [Go.Proofs.Ytbgdgpdfaebniaa.itsSet]
      exact this.weak fun q ⟨⟨q1, q2⟩, q3⟩ => ⟨q1, by simp [itsHas, q2, q3]⟩
theorem plIn_mem : ∀ (l : List Pl) (p : Pl), plIn p l = true ↔ p ∈ l
  | [], p => by simp [plIn]
  | x :: r, p => by
    simp only [plIn, Bool.or_eq_true, Bool.and_eq_true, List.mem_cons, plIn_mem r p]
    constructor
    · rintro (⟨h1, h2⟩ | h)
      · left
        have a := Nat.eq_of_beq_eq_true h1
        have b := Nat.eq_of_beq_eq_true h2
        obtain ⟨p1, p2⟩ := p
        obtain ⟨x1, x2⟩ := x
        simp only at a b
        rw [a, b]
      · exact .inr h
    · rintro (rfl | h)
      · exact .inl ⟨Nat.beq_refl _, Nat.beq_refl _⟩
      · exact .inr h
theorem covered_spec {nb : Nat} {its : List It} {drop : List Pl} : ∀ (l : List Pl), covered nb its drop l = true → ∀ p ∈ l, nb + 1 ≤ p.1 ∨ itsHas p its = true ∨ p ∈ drop
  | [], _, p, hp => by simp at hp
  | x :: r, h, p, hp => by
    simp only [covered, Bool.and_eq_true, Bool.or_eq_true] at h
    rcases List.mem_cons.1 hp with rfl | hp
    · rcases h.1 with (h | h) | h
      · exact .inl (Nat.le_of_ble_eq_true h)
      · exact .inr (.inl h)
      · exact .inr (.inr ((plIn_mem _ _).1 h))
    · exact covered_spec r h.2 p hp
/-- Two states that are alike but for some places. -/
structure EvoJ (σ σ' : St) (j : List Pl) : Prop where
  slots : σ'.slots.length = σ.slots.length
  boxes : σ.boxes.length ≤ σ'.boxes.length
  slot : ∀ t, (0, t) ∉ j → σ'.slots[t]? = σ.slots[t]?
  box : ∀ b, b < σ.boxes.length → ∀ cs, boxGet σ.boxes b = some cs → ∃ cs', boxGet σ'.boxes b = some cs' ∧ cs'.length = cs.length ∧ ∀ i, (b + 1, i) ∉ j → cs'[i]? = cs[i]?
  none : ∀ b, b < σ.boxes.length → boxGet σ.boxes b = none → boxGet σ'.boxes b = none
theorem EvoJ.refl (σ : St) : EvoJ σ σ [] := ⟨rfl, Nat.le_refl _, fun _ _ => rfl, fun b _ cs h => ⟨cs, h, rfl, fun _ _ => rfl⟩, fun _ _ h => h⟩
theorem EvoJ.trans {σ σ' σ'' : St} {j j' : List Pl} (h : EvoJ σ σ' j) (k : EvoJ σ' σ'' j') : EvoJ σ σ'' (j' ++ j) := by
  obtain ⟨h1, h2, h4, h5, h6⟩ := h
  obtain ⟨k1, k2, k4, k5, k6⟩ := k
  refine ⟨by rw [k1, h1], by omega, fun t ht => ?_, fun b hb cs hcs => ?_, fun b hb hn => k6 b (by omega) (h6 b hb hn)⟩
  · rw [k4 t (fun h => ht (List.mem_append_left _ h)), h4 t (fun h => ht (List.mem_append_right _ h))]
  · obtain ⟨cs', g1, g2, g3⟩ := h5 b hb cs hcs
    obtain ⟨cs'', q1, q2, q3⟩ := k5 b (by omega) cs' g1
    exact ⟨cs'', q1, by rw [q2, g2], fun i hi => by rw [q3 i (fun h => hi (List.mem_append_left _ h)), g3 i (fun h => hi (List.mem_append_right _ h))]⟩
theorem EvoJ.mono {σ σ' : St} {j j' : List Pl} (h : EvoJ σ σ' j) (hs : ∀ p ∈ j, p ∈ j') : EvoJ σ σ' j' :=
  ⟨h.slots, h.boxes, fun t ht => h.slot t fun x => ht (hs _ x), fun b hb cs hcs => by
    obtain ⟨cs', g1, g2, g3⟩ := h.box b hb cs hcs
    exact ⟨cs', g1, g2, fun i hi => g3 i fun x => hi (hs _ x)⟩, h.none⟩
theorem Evo.toJ {σ σ' : St} (h : Evo σ σ') (hj : σ.jr = []) : EvoJ σ σ' σ'.jr := by
  obtain ⟨h1, h2, j, h3, h4, h5, h6⟩ := h
  rw [hj, List.append_nil] at h3
  subst h3
  exact ⟨h1, h2, h4, h5, h6⟩
theorem EvoJ.toEvo {σ σ' : St} {j : List Pl} (h : EvoJ σ σ' j) (hj : σ'.jr = j ++ σ.jr) : Evo σ σ' := ⟨h.slots, h.boxes, j, hj, h.slot, h.box, h.none⟩
end
end Go.Proofs.Ytbgdgpdfaebniaa
