/- A region does what the reading says, in whatever order its operations come. No program in sight. -/
import Derived.Test.YtbgdgpdfaebniaaEngS
set_option linter.unusedSimpArgs false
set_option linter.unusedVariables false
namespace Go.Proofs.Ytbgdgpdfaebniaa
section
variable {P : Program} {base : List EV} {ops : Array Oper} {s₀ s' : Rg} {ts : List TI} {B : Base}
theorem next_le (t : TI) (o : Oper) : t.s.bx.length ≤ (t.next o).bx.length ∧ (t.n.isSome = true → t.s.bx.length < (t.next o).bx.length) := by
  have hfold : ∀ (ws : List Wr) (bx : List (Option (List EV))), (ws.foldl applyW bx).length = bx.length := by
    intro ws
    induction ws with
    | nil => intro bx; rfl
    | cons x r ih => intro bx; simp only [List.foldl_cons]; rw [ih]; unfold applyW; split <;> simp
  unfold TI.next Rg.next newB
  cases t.n <;> simp [hfold]
theorem Linked.mono : ∀ {l : List Oper} {s : Rg} {ts : List TI} {s' : Rg}, Linked P base l s ts s' → ∀ (i k : Nat) t u, i < k → ts[i]? = some t → ts[k]? = some u →
    t.s.bx.length ≤ u.s.bx.length ∧ (t.n.isSome = true → t.s.bx.length < u.s.bx.length)
  | [], s, [], s', h, i, k, t, u, _, ht, _ => by simp at ht
  | o :: os, s, t0 :: ts, s', h, i, k, t, u, hik, ht, hu => by
    obtain ⟨h1, h2, h3⟩ := h
    cases k with
    | zero => omega
    | succ k =>
      cases i with
      | zero =>
        simp at ht
        subst ht
        have hu' : ts[k]? = some u := by simpa using hu
        have hk : k < os.length := by rw [← h3.length]; exact (List.getElem?_eq_some_iff.1 hu').1
        obtain ⟨_, _, _, _, _, _, _, g8⟩ := h3.at k _ u (List.getElem?_eq_getElem hk) hu'
        have := next_le t0 o
        exact ⟨by omega, fun h => by have := this.2 h; omega⟩
      | succ i => exact Linked.mono h3 i k t u (by omega) (by simpa using ht) (by simpa using hu)
theorem Linked.deadSub : ∀ {l : List Oper} {s : Rg} {ts : List TI} {s' : Rg}, Linked P base l s ts s' → (∀ a ∈ s.dead, a ∈ s'.dead) ∧ (∀ (i : Nat) t, ts[i]? = some t → ∀ a ∈ s.dead, a ∈ t.s.dead) ∧
    (∀ a ∈ s'.dead, a ∈ s.dead ∨ ∃ (i : Nat) (t : TI), ts[i]? = some t ∧ t.k = some a) ∧ ∀ (i : Nat) t, ts[i]? = some t → ∀ a, t.k = some a → a ∈ s'.dead
  | [], s, [], s', h => by cases h; exact ⟨fun a h => h, fun i t ht => by simp at ht, fun a h => .inl h, fun i t ht => by simp at ht⟩
  | o :: os, s, t0 :: ts, s', h => by
    obtain ⟨h1, h2, h3⟩ := h
    obtain ⟨g1, g2, g3, g4⟩ := Linked.deadSub h3
    subst h1
    have hsub : ∀ a ∈ t0.s.dead, a ∈ (t0.next o).dead := by
      intro a ha
      unfold TI.next Rg.next
      cases t0.k <;> simp [ha]
    have hkill : ∀ a, t0.k = some a → a ∈ (t0.next o).dead := by
      intro a ha
      unfold TI.next Rg.next
      rw [ha]
      simp
    refine ⟨fun a ha => g1 a (hsub a ha), fun i t ht a ha => ?_, fun a ha => ?_, fun i t ht a ha => ?_⟩
    · cases i with
      | zero => simp at ht; subst ht; exact ha
      | succ i => exact g2 i t (by simpa using ht) a (hsub a ha)
    · rcases g3 a ha with h | ⟨i, t, ht, hk⟩
      · unfold TI.next Rg.next at h
        cases hk : t0.k with
        | none => rw [hk] at h; exact .inl h
        | some k =>
          rw [hk] at h
          simp only [List.mem_cons] at h
          rcases h with rfl | h
          · exact .inr ⟨0, t0, rfl, hk⟩
          · exact .inl h
      · exact .inr ⟨i + 1, t, by simpa using ht, hk⟩
    · cases i with
      | zero => simp at ht; subst ht; exact g1 a (hkill a ha)
      | succ i => exact g4 i t (by simpa using ht) a ha
/-- No token is spent twice. -/
theorem Linked.once : ∀ {l : List Oper} {s : Rg} {ts : List TI} {s' : Rg}, Linked P base l s ts s' → ∀ (i k : Nat) t u a, i < k → ts[i]? = some t → ts[k]? = some u → t.k = some a → u.k ≠ some a
  | [], s, [], s', h, i, k, t, u, a, _, ht, _, _ => by simp at ht
  | o :: os, s, t0 :: ts, s', h, i, k, t, u, a, hik, ht, hu, hta => by
    obtain ⟨h1, h2, h3⟩ := h
    cases k with
    | zero => omega
    | succ k =>
      have hu' : ts[k]? = some u := by simpa using hu
      cases i with
      | zero =>
        simp at ht
        subst ht
        have hk : k < os.length := by rw [← h3.length]; exact (List.getElem?_eq_some_iff.1 hu').1
        obtain ⟨g1, _⟩ := h3.at k _ u (List.getElem?_eq_getElem hk) hu'
        intro hua
        refine g1.fresh a hua (h3.deadSub.2.1 k u hu' a ?_)
        unfold TI.next Rg.next
        rw [hta]
        simp
      | succ i => exact Linked.once h3 i k t u a (by omega) (by simpa using ht) hu' hta
theorem foldI_none {D : Nat → Bool} {b : Nat} : ∀ (ts : List TI) (k : Nat), (∀ (j : Nat) t, ts[j]? = some t → D (k + j) = true → t.n.isSome = true → t.s.bx.length ≠ b) → foldI D ts k b none = none
  | [], _, _ => rfl
  | t :: ts, k, h => by
    simp only [foldI]
    have : (if D k then t.f b none else none) = none := by
      split
      · rename_i hd
        unfold TI.f upd updN
        have hw : ∀ (ws : List Wr), ws.foldl updW (fun _ => none) b = none := by
          intro ws
          have := foldl_updW_isSome ws (fun _ => none) b
          simpa using this
        cases hn : t.n with
        | none => exact hw _
        | some cs =>
          simp only
          rw [if_neg (fun e => h 0 t rfl (by simpa using hd) (by rw [hn]; rfl) e.symm)]
          exact hw _
      · rfl
    rw [this]
    exact foldI_none ts (k + 1) fun j t ht hd => h (j + 1) t (by simpa using ht) (by rw [show k + (j + 1) = k + 1 + j by omega]; exact hd)
theorem LastW.add {D : Nat → Bool} {R : List Rec} {n u i : Nat} {m : Option Nat} (hi : dstAt R i ≠ some u) (h : LastW D R n u m) : LastW (addD D i) R n u m := by
  have hadd : ∀ k, addD D i k = true → k = i ∨ D k = true := by
    intro k hk
    unfold addD at hk
    split at hk
    · rename_i e; exact .inl e
    · exact .inr hk
  cases m with
  | none =>
    intro k h1 h2
    rcases hadd k h2 with rfl | h2
    · exact hi
    · exact h k h1 h2
  | some m =>
    obtain ⟨h1, h2, h3, h4⟩ := h
    refine ⟨h1, by unfold addD; split <;> simp_all, h3, fun k k1 k2 k3 => ?_⟩
    rcases hadd k k3 with rfl | k3
    · exact hi
    · exact h4 k k1 k2 k3
/-- One operation, behind whichever others. -/
theorem region_step (hL : Linked P base ops.toList s₀ ts s') (h0 : s₀.rs = []) {i : Nat} {o : Oper} {t : TI} (ho : ops[i]? = some o) (ht : ts[i]? = some t) {D : Nat → Bool} (hD : D i = false)
    (hagS : ∀ u ∈ o.looksAt ops, ∀ k, k < ts.length → dstAt s'.rs k = some u → (D k = true ↔ k < i))
    (hagB : ∀ b ∈ t.tr, ∀ (k : Nat) u, ts[k]? = some u → b ∈ u.wrs → (D k = true ↔ k < i))
    (hpostS : ∀ k, i < k → k < ts.length → D k = true → ∀ u, dstAt s'.rs k = some u → o.dst ≠ some u)
    (hpostB : ∀ (k : Nat) u, i < k → ts[k]? = some u → D k = true → ∀ b ∈ u.wrs, b ∉ t.wrs)
    {a : Act} {w : World} (hst : StD B base ts s' (boxGet s₀.bx) D a w) {K : Act → World → Prop} {Q : Exit → Act → World → Prop} (hK : ∀ a' w', StD B base ts s' (boxGet s₀.bx) (addD D i) a' w' → K a' w') :
    wpOp P ops Q i K a w := by
  obtain ⟨ow, bx, hinv, hS, hsz, hdef, hdead⟩ := hst
  have hfresh : ∀ k, t.k = some k → bx.dead k = false := by
    intro k hk
    cases hb : bx.dead k with
    | false => rfl
    | true =>
      obtain ⟨j, u, hj, hDj, huk⟩ := (hdead k).1 hb
      rcases Nat.lt_trichotomy j i with h | h | h
      · exact absurd hk (hL.once j i u t k h hj ht huk)
      · subst h; rw [hD] at hDj; cases hDj
      · exact absurd huk (hL.once i j t u k h ht hj hk)
  have hadd : ∀ {bx' : Bx}, (∀ j, bx'.dead j = (bx.dead j || killB t.k j)) → DeadD (addD D i) ts bx' := by
    intro bx' hb j
    rw [hb, Bool.or_eq_true]
    constructor
    · rintro (h | h)
      · obtain ⟨m, u, h1, h2, h3⟩ := (hdead j).1 h
        exact ⟨m, u, h1, by unfold addD; split <;> simp_all, h3⟩
      · refine ⟨i, t, ht, by simp [addD], ?_⟩
        unfold killB at h
        cases hk : t.k with
        | none => rw [hk] at h; cases h
        | some k => rw [hk] at h; rw [Nat.eq_of_beq_eq_true h]
    · rintro ⟨m, u, h1, h2, h3⟩
      unfold addD at h2
      split at h2
      · rename_i e
        subst e
        rw [ht] at h1
        cases h1
        right
        rw [h3]
        exact Nat.beq_refl j
      · exact .inl ((hdead j).2 ⟨m, u, h1, h2, h3⟩)
  obtain ⟨g1, _, _, _, _, g6, g7, g8⟩ := hL.at i o t (by simpa using ho) ht
  obtain ⟨hr, hl, more, hm⟩ := rec_at hL h0 ho ht
  have hi : i < ts.length := (List.getElem?_eq_some_iff.1 ht).1
  have hwant := wanted_iff (w := w) hL h0 ho ht hS hsz hagS
  have hdsti : dstAt s'.rs i = o.dst := by unfold dstAt; rw [hr]
  have hboxes : ∀ b, upd (fun b => foldI D ts 0 b (boxGet s₀.bx b)) t.s.bx.length t.n t.ws b = foldI (addD D i) ts 0 b (boxGet s₀.bx b) := by
    intro b
    rw [upd_point]
    exact foldI_add ts 0 _ t (Nat.zero_le _) (by simpa using ht) hD fun j u hj hu hd hb => hpostB j u (by omega) hu (by simpa using hd) b hb
  -- the slots behind it
  have slots : ∀ {ow' bx' w'} (u : Value), Keeps ow bx w ow' bx' w' → (chainB s'.rs t.ch = true → RepEV ow' bx' w' t.v u) → (chainB s'.rs t.ch = false → u = undef) →
      SlotsD ow' bx' w' base s'.rs ts.length (addD D i) (a.put o.dst u) ∧ (a.put o.dst u).tmps.size = base.length ∧ (a.put o.dst u).defers = [] := by
    intro ow' bx' w' u hk hu1 hu2
    refine ⟨fun x hx => ?_, ?_, ?_⟩
    · by_cases hox : o.dst = some x
      · refine .inl ⟨i, _, ⟨hi, by simp [addD], by rw [hdsti]; exact hox, fun k k1 k2 k3 hk' => ?_⟩, hr, fun hg => ?_, fun hg => ?_⟩
        · have : D k = true := by unfold addD at k3; rw [if_neg (by omega)] at k3; exact k3
          exact hpostS k k1 k2 this x hk' hox
        · have : (a.put o.dst u).tmps.getD x undef = u := by
            rw [hox]
            unfold Act.put
            have : x < a.tmps.size := by omega
            simp [this]
          rw [this]
          exact hu1 (guard_true.1 hg)
        · have : (a.put o.dst u).tmps.getD x undef = u := by
            rw [hox]
            unfold Act.put
            have : x < a.tmps.size := by omega
            simp [this]
          rw [this]
          exact hu2 (guard_false.1 hg)
      · have hne : dstAt s'.rs i ≠ some x := by rw [hdsti]; exact hox
        have hget : (a.put o.dst u).tmps.getD x undef = a.tmps.getD x undef := by
          cases hd : o.dst with
          | none => rfl
          | some d =>
            have : d ≠ x := fun e => hox (by rw [hd, e])
            unfold Act.put
            simp [Array.getElem?_setIfInBounds_ne this]
        rw [hget]
        rcases hS x hx with ⟨m, r, q1, q2, q3, q4⟩ | ⟨q1, q2⟩
        · exact .inl ⟨m, r, q1.add hne, q2, fun hg => (q3 hg).keep hk, q4⟩
        · exact .inr ⟨q1.add hne, fun e he => (q2 e he).keep hk⟩
    · unfold Act.put; cases o.dst <;> simp [hsz]
    · unfold Act.put; cases o.dst <;> simp [hdef]
  unfold wpOp
  simp only [ho, hwant]
  cases hc : chainB s'.rs t.ch with
  | false =>
    simp only [Bool.false_eq_true, if_false]
    have hne : t.ch ≠ [] := by intro e; rw [e] at hc; simp [chainB] at hc
    obtain ⟨q1, q2⟩ := g1.quiet hne
    obtain ⟨k1, k2, k3⟩ := slots undef (Keeps.refl _ _ _) (fun h => by rw [hc] at h; cases h) (fun _ => rfl)
    refine hK _ _ ⟨ow, bx, ?_, k1, k2, k3, hadd fun j => by rw [g1.quietK hne]; simp [killB]⟩
    have : (fun b => foldI (addD D i) ts 0 b (boxGet s₀.bx b)) = fun b => foldI D ts 0 b (boxGet s₀.bx b) := by
      funext b
      rw [← hboxes b, q1, q2]
      rfl
    rw [this]
    exact hinv
  | true =>
    simp only [if_true]
    refine .inl ?_
    have hgf : guardOf t.s.rs t.ch ≠ some false := by rw [← chain_full hL h0 ho ht]; exact guard_true.2 hc
    refine g1.go hgf B ow bx s'.bx.length _ w a hinv (args_rep hL h0 ho ht hS hsz hagS hc) (fun b hb => ?_) (fun hn => ⟨?_, g7 hn⟩) hfresh K Q fun u ow' bx' w' hk hu hinv' hdd => ?_
    · rw [hL.boxesAt i t 0 b ht]
      refine foldI_congr ts 0 _ fun j v hv hbv => ?_
      have := hagB b hb j v hv hbv
      rw [Nat.zero_add, Nat.zero_add]
      cases hdj : D j with
      | true => exact (decide_eq_true (this.1 hdj)).symm
      | false =>
        have : ¬ j < i := fun h => by have := this.2 h; rw [hdj] at this; cases this
        exact (decide_eq_false this).symm
    · have : boxGet s₀.bx t.s.bx.length = none := by
        unfold boxGet
        rw [List.getElem?_eq_none (by omega)]
      rw [this]
      refine foldI_none ts 0 fun j v hv hd hvn => ?_
      rw [Nat.zero_add] at hd
      have hji : j ≠ i := fun e => by rw [e, hD] at hd; cases hd
      by_cases hlt : j < i
      · have := (hL.mono j i v t hlt hv ht).2 hvn
        omega
      · have := (hL.mono i j t v (by omega) ht hv).2 hn
        omega
    · obtain ⟨k1, k2, k3⟩ := slots u hk (fun _ => hu) (fun h => by rw [hc] at h; cases h)
      refine hK _ _ ⟨ow', bx', ?_, k1, k2, k3, hadd hdd⟩
      have : (fun b => foldI (addD D i) ts 0 b (boxGet s₀.bx b)) = upd (fun b => foldI D ts 0 b (boxGet s₀.bx b)) t.s.bx.length t.n t.ws := by
        funext b
        rw [← hboxes b]
      rw [this]
      exact hinv'
/-- In the order of the text. -/
theorem region_seq (hL : Linked P base ops.toList s₀ ts s') (h0 : s₀.rs = []) {Q : Exit → Act → World → Prop} (hQ : ∀ a w, StD B base ts s' (boxGet s₀.bx) (fun k => decide (k < ts.length)) a w → Q .normal a w) :
    ∀ (m i : Nat) (a : Act) (w : World), i + m = ts.length → StD B base ts s' (boxGet s₀.bx) (fun k => decide (k < i)) a w → wpOps P ops Q (List.range' i m) a w := by
  intro m
  induction m with
  | zero =>
    intro i a w hi hst
    simp only [Nat.add_zero] at hi
    subst hi
    exact hQ a w hst
  | succ m ih =>
    intro i a w hi hst
    rw [List.range'_succ, wpOps_cons]
    have hlen := hL.length
    obtain ⟨o, ho⟩ : ∃ o, ops[i]? = some o := ⟨_, Array.getElem?_eq_getElem (by simp at hlen; omega)⟩
    obtain ⟨t, ht⟩ : ∃ t, ts[i]? = some t := ⟨_, List.getElem?_eq_getElem (by omega)⟩
    refine region_step hL h0 ho ht (by simp) (fun u hu k hk hd => by simp) (fun b hb k u hu hbu => by simp) (fun k h1 h2 h3 => by simp at h3; omega) (fun k u h1 h2 h3 => by simp at h3; omega) hst fun a' w' hst' => ?_
    refine ih (i + 1) a' w' (by omega) ?_
    have : (fun k => decide (k < i + 1)) = addD (fun k => decide (k < i)) i := by
      funext k
      unfold addD
      by_cases hk : k = i
      · simp [hk]
      · rw [if_neg hk]
        congr 1
        exact propext ⟨fun h => by omega, fun h => by omega⟩
    rw [this]
    exact hst'
end
end Go.Proofs.Ytbgdgpdfaebniaa
