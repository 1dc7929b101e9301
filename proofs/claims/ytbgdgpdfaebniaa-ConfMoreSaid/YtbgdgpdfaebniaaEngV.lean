/- Code does what the reading says: states, and what is handed on. No program in sight. -/
import Derived.Test.YtbgdgpdfaebniaaEngU
import Derived.LoopN
set_option linter.unusedSimpArgs false
set_option linter.unusedVariables false
namespace Go.Proofs.Ytbgdgpdfaebniaa
def RelE (B : Base) (σ : St) (a : Act) (w : World) : Prop :=
  ∃ ow bx, Inv B ow bx σ.boxes.length (boxGet σ.boxes) w ∧ (σ.slots.length = a.tmps.size ∧ ∀ t e, σ.slots[t]? = some e → RepEV ow bx w e (a.tmps.getD t undef)) ∧ a.defers = [] ∧ ∀ k, bx.dead k = false
/-- The same, where some tokens are spent. -/
def RelX (dead : List Nat) (B : Base) (σ : St) (a : Act) (w : World) : Prop :=
  ∃ ow bx, Inv B ow bx σ.boxes.length (boxGet σ.boxes) w ∧ (σ.slots.length = a.tmps.size ∧ ∀ t e, σ.slots[t]? = some e → RepEV ow bx w e (a.tmps.getD t undef)) ∧ a.defers = [] ∧ ∀ k, bx.dead k = true ↔ k ∈ dead
/-- What became of a state: all that has changed stands in the journal. -/
structure Evo (σ σ' : St) : Prop where
  slots : σ'.slots.length = σ.slots.length
  boxes : σ.boxes.length ≤ σ'.boxes.length
  jr : ∃ j, σ'.jr = j ++ σ.jr ∧ (∀ t, (0, t) ∉ j → σ'.slots[t]? = σ.slots[t]?) ∧
    (∀ b, b < σ.boxes.length → ∀ cs, boxGet σ.boxes b = some cs → ∃ cs', boxGet σ'.boxes b = some cs' ∧ cs'.length = cs.length ∧ ∀ i, (b + 1, i) ∉ j → cs'[i]? = cs[i]?) ∧
    (∀ b, b < σ.boxes.length → boxGet σ.boxes b = none → boxGet σ'.boxes b = none)
theorem Evo.refl (σ : St) : Evo σ σ := ⟨rfl, Nat.le_refl _, [], rfl, fun _ _ => rfl, fun b _ cs h => ⟨cs, h, rfl, fun _ _ => rfl⟩, fun _ _ h => h⟩
theorem Evo.trans {σ σ' σ'' : St} (h : Evo σ σ') (k : Evo σ' σ'') : Evo σ σ'' := by
  obtain ⟨h1, h2, j, h3, h4, h5, h6⟩ := h
  obtain ⟨k1, k2, j', k3, k4, k5, k6⟩ := k
  refine ⟨by rw [k1, h1], by omega, j' ++ j, by rw [k3, h3, List.append_assoc], fun t ht => ?_, fun b hb cs hcs => ?_, fun b hb hn => k6 b (by omega) (h6 b hb hn)⟩
  · rw [k4 t (fun h => ht (List.mem_append_left _ h)), h4 t (fun h => ht (List.mem_append_right _ h))]
  · obtain ⟨cs', g1, g2, g3⟩ := h5 b hb cs hcs
    obtain ⟨cs'', q1, q2, q3⟩ := k5 b (by omega) cs' g1
    exact ⟨cs'', q1, by rw [q2, g2], fun i hi => by rw [q3 i (fun h => hi (List.mem_append_left _ h)), g3 i (fun h => hi (List.mem_append_right _ h))]⟩
theorem setOut_length (r : Rec) (sl : List EV) : (setOut r sl).length = sl.length := by
  unfold setOut
  split <;> simp
theorem slotsOut_length : ∀ (rs : List Rec) (sl : List EV), (slotsOut rs sl).length = sl.length
  | [], sl => rfl
  | r :: rs, sl => by
    simp only [slotsOut]
    rw [slotsOut_length, setOut_length]
theorem slotsOut_at : ∀ (rs : List Rec) (sl : List EV) (t : Nat), (slotsOut rs sl)[t]? = (match lastRec rs t rs.length with
    | some (_, r) => if t < sl.length then some (recOut r) else none
    | none => sl[t]?) := by
  have shift : ∀ (r : Rec) (rs : List Rec) (t m : Nat), lastRec (r :: rs) t (m + 1) = match lastRec rs t m with
      | some (j, x) => some (j + 1, x)
      | none => match r.dst with
        | some d => if d = t then some (0, r) else none
        | none => none := by
    intro r rs t m
    induction m with
    | zero =>
      simp only [lastRec, List.getElem?_cons_zero]
      cases hd : r.dst with
      | none => rfl
      | some d =>
        simp only
        by_cases he : d = t
        · subst he; simp [Nat.beq_refl]
        · rw [if_neg he]
          split
          · rename_i hb; exact absurd (Nat.eq_of_beq_eq_true hb) he
          · rfl
    | succ m ih =>
      rw [lastRec, ih]
      simp only [List.getElem?_cons_succ, lastRec]
      cases hm : rs[m]? with
      | none => rfl
      | some x =>
        simp only
        cases hd : x.dst with
        | none => rfl
        | some d =>
          simp only
          split <;> rfl
  intro rs
  induction rs with
  | nil => intro sl t; simp [slotsOut, lastRec]
  | cons r rs ih =>
    intro sl t
    simp only [slotsOut, List.length_cons]
    rw [ih, shift]
    cases hl : lastRec rs t rs.length with
    | some p =>
      obtain ⟨j, x⟩ := p
      simp only
      rw [setOut_length]
    | none =>
      simp only
      unfold setOut
      cases hd : r.dst with
      | none => rfl
      | some d =>
        simp only
        by_cases he : d = t
        · subst he
          rw [if_pos rfl]
          simp only
          rw [List.getElem?_set]
          simp only [if_true]
        · rw [if_neg he]
          simp only
          rw [List.getElem?_set_ne he]
theorem slotJr_mem : ∀ (rs : List Rec) (t : Nat), (0, t) ∉ slotJr rs → ∀ k, dstAt rs k ≠ some t
  | [], t, _, k => by simp [dstAt]
  | r :: rs, t, h, k => by
    simp only [slotJr] at h
    cases k with
    | zero =>
      unfold dstAt
      simp only [List.getElem?_cons_zero]
      intro hd
      rw [hd] at h
      simp at h
    | succ k =>
      have : (0, t) ∉ slotJr rs := by
        cases hd : r.dst with
        | none => rw [hd] at h; exact h
        | some d => rw [hd] at h; exact fun hm => h (List.mem_cons_of_mem _ hm)
      have := slotJr_mem rs t this k
      unfold dstAt at this ⊢
      simpa using this
/-- What one operation does to the boxes, by its journal. -/
theorem applyW_evo {bx : List (Option (List EV))} {x : Wr} {cs0 : List EV} (hx : boxGet bx x.b = some cs0) (hle : x.off + x.new.length ≤ cs0.length) (b : Nat) (cs : List EV) (h : boxGet bx b = some cs) :
    ∃ cs', boxGet (applyW bx x) b = some cs' ∧ cs'.length = cs.length ∧ ∀ i, (b + 1, i) ∉ jrOf x → cs'[i]? = cs[i]? := by
  unfold applyW
  rw [hx]
  simp only
  by_cases hb : b = x.b
  · subst hb
    have hcc : cs = cs0 := by rw [hx] at h; cases h; rfl
    subst hcc
    have hlt := (List.getElem?_eq_some_iff.1 (boxGet_spec.1 hx)).1
    refine ⟨splice cs x.off x.new, boxGet_spec.2 (by simp [hlt]), by simp only [splice, List.length_append, List.length_take, List.length_drop]; omega, fun i hi => ?_⟩
    unfold splice
    have hnot : ¬ (x.off ≤ i ∧ i < x.off + x.new.length) := by
      intro ⟨h1, h2⟩
      apply hi
      unfold jrOf
      rw [List.mem_map]
      exact ⟨i - x.off, List.mem_range.2 (by omega), by rw [show x.off + (i - x.off) = i by omega]⟩
    by_cases h1 : i < x.off
    · rw [List.append_assoc, List.getElem?_append_left (by simp; omega), List.getElem?_take, if_pos h1]
    · rw [List.getElem?_append_right (by simp; omega), List.getElem?_drop]
      congr 1
      simp
      omega
  · refine ⟨cs, ?_, rfl, fun _ _ => rfl⟩
    unfold boxGet at h ⊢
    rw [List.getElem?_set_ne (fun e => hb e.symm)]
    exact h
theorem applyWs_evo : ∀ (ws : List Wr) (bx : List (Option (List EV))) (j0 : List Pl), (∀ x ∈ ws, ∃ cs, boxGet bx x.b = some cs ∧ x.off + x.new.length ≤ cs.length) → ∃ j, ws.foldl (fun j w => jrOf w ++ j) j0 = j ++ j0 ∧
    ∀ b cs, boxGet bx b = some cs → ∃ cs', boxGet (ws.foldl applyW bx) b = some cs' ∧ cs'.length = cs.length ∧ ∀ i, (b + 1, i) ∉ j → cs'[i]? = cs[i]?
  | [], bx, j0, _ => ⟨[], rfl, fun b cs h => ⟨cs, h, rfl, fun _ _ => rfl⟩⟩
  | x :: ws, bx, j0, h => by
    obtain ⟨cs0, hx, hle⟩ := h x (by simp)
    obtain ⟨j, hj, hb⟩ := applyWs_evo ws (applyW bx x) (jrOf x ++ j0) (fun y hy => by
      obtain ⟨cs, h1, h2⟩ := h y (by simp [hy])
      obtain ⟨cs', g1, g2, _⟩ := applyW_evo hx hle y.b cs h1
      exact ⟨cs', g1, by omega⟩)
    refine ⟨j ++ jrOf x, by simp only [List.foldl_cons]; rw [hj, List.append_assoc], fun b cs hcs => ?_⟩
    obtain ⟨cs', g1, g2, g3⟩ := applyW_evo hx hle b cs hcs
    obtain ⟨cs'', k1, k2, k3⟩ := hb b cs' g1
    exact ⟨cs'', k1, by omega, fun i hi => by rw [k3 i (fun hm => hi (List.mem_append_left _ hm)), g3 i (fun hm => hi (List.mem_append_right _ hm))]⟩
theorem applyWs_none : ∀ (ws : List Wr) (bx : List (Option (List EV))) (b : Nat), boxGet bx b = none → boxGet (ws.foldl applyW bx) b = none
  | [], bx, b, h => h
  | x :: ws, bx, b, h => by
    simp only [List.foldl_cons]
    refine applyWs_none ws _ b ?_
    unfold applyW
    split
    · rename_i cs hx
      have hne : x.b ≠ b := fun e => by rw [e, h] at hx; cases hx
      unfold boxGet at h ⊢
      rw [List.getElem?_set_ne hne]
      exact h
    · exact h
theorem applyWs_length : ∀ (ws : List Wr) (bx : List (Option (List EV))), (ws.foldl applyW bx).length = bx.length := by
  intro ws
  induction ws with
  | nil => intro bx; rfl
  | cons x r ih => intro bx; simp only [List.foldl_cons]; rw [ih]; unfold applyW; split <;> simp
section
variable {P : Program} {base : List EV}
/-- The boxes behind a region, by its journal. -/
theorem Linked.evo : ∀ {l : List Oper} {s : Rg} {ts : List TI} {s' : Rg}, Linked P base l s ts s' → s.bx.length ≤ s'.bx.length ∧ ∃ j, s'.jr = j ++ s.jr ∧
    (∀ b, b < s.bx.length → ∀ cs, boxGet s.bx b = some cs → ∃ cs', boxGet s'.bx b = some cs' ∧ cs'.length = cs.length ∧ ∀ i, (b + 1, i) ∉ j → cs'[i]? = cs[i]?) ∧
    (∀ b, b < s.bx.length → boxGet s.bx b = none → boxGet s'.bx b = none)
  | [], s, [], s', h => by cases h; exact ⟨Nat.le_refl _, [], rfl, fun b _ cs h => ⟨cs, h, rfl, fun _ _ => rfl⟩, fun _ _ h => h⟩
  | o :: os, s, t :: ts, s', h => by
    obtain ⟨h1, h2, h3⟩ := h
    subst h1
    obtain ⟨g0, j, g1, g2, g3⟩ := Linked.evo h3
    have hn := next_le t o
    obtain ⟨j', k1, k2⟩ := applyWs_evo t.ws t.s.bx t.s.jr (fun x hx => (h2.wr x hx).2)
    have hnb : ∀ b, b < t.s.bx.length → boxGet (t.next o).bx b = boxGet (t.ws.foldl applyW t.s.bx) b := by
      intro b hb
      unfold TI.next Rg.next newB
      cases t.n with
      | none => rfl
      | some cs =>
        simp only
        unfold boxGet
        rw [List.getElem?_append_left (by rw [applyWs_length]; exact hb)]
    refine ⟨by omega, j ++ j', ?_, fun b hb cs hcs => ?_, fun b hb hnone => ?_⟩
    · rw [g1]
      unfold TI.next Rg.next
      simp only
      rw [k1, List.append_assoc]
    · obtain ⟨cs', q1, q2, q3⟩ := k2 b cs hcs
      obtain ⟨cs'', r1, r2, r3⟩ := g2 b (by omega) cs' (by rw [hnb b hb]; exact q1)
      exact ⟨cs'', r1, by omega, fun i hi => by rw [r3 i (fun hm => hi (List.mem_append_left _ hm)), q3 i (fun hm => hi (List.mem_append_right _ hm))]⟩
    · refine g3 b (by omega) ?_
      rw [hnb b hb]
      exact applyWs_none _ _ b hnone
end
section
variable {P : Program} {B : Base} {σ : St} {ops : Array Oper} {ts : List TI} {s' : Rg}
theorem out_evo0 (hL : Linked P σ.slots ops.toList ⟨[], σ.boxes, σ.jr, [], []⟩ ts s') : Evo σ (s'.out0 σ) := by
  obtain ⟨g0, j, g1, g2, g3⟩ := hL.evo
  refine ⟨slotsOut_length _ _, g0, slotJr s'.rs ++ j, by simp only [Rg.out0]; rw [g1, List.append_assoc], fun t ht => ?_, fun b hb cs hcs => ?_, g3⟩
  · simp only [Rg.out0]
    rw [slotsOut_at]
    have hno := slotJr_mem s'.rs t (fun h => ht (List.mem_append_left _ h))
    cases hl : lastRec s'.rs t s'.rs.length with
    | none => rfl
    | some p =>
      obtain ⟨m, r⟩ := p
      obtain ⟨k1, k2, k3, _⟩ := (lastRec_spec s'.rs t s'.rs.length).1 m r hl
      exact absurd (by unfold dstAt; rw [k2]; exact k3) (hno m)
  · obtain ⟨cs', q1, q2, q3⟩ := g2 b hb cs hcs
    exact ⟨cs', q1, q2, fun i hi => q3 i (fun h => hi (List.mem_append_right _ h))⟩
/-- Behind all operations. -/
theorem out_rel0 (hL : Linked P σ.slots ops.toList ⟨[], σ.boxes, σ.jr, [], []⟩ ts s') {a : Act} {w : World} (hst : StD B σ.slots ts s' (boxGet σ.boxes) (fun k => decide (k < ts.length)) a w) : RelX s'.dead B (s'.out0 σ) a w := by
  obtain ⟨ow, bx, h1, h2, h3, h4, h5⟩ := hst
  have hlen := hL.length
  have hrl : s'.rs.length = ts.length := by
    have : ∀ {l : List Oper} {s : Rg} {ts : List TI} {s' : Rg}, Linked P σ.slots l s ts s' → s'.rs.length = s.rs.length + ts.length := by
      intro l
      induction l with
      | nil => intro s ts s' h; cases ts with
        | nil => cases h; rfl
        | cons t ts => exact absurd h id
      | cons o os ih => intro s ts s' h; cases ts with
        | nil => exact absurd h id
        | cons t ts =>
          obtain ⟨q1, q2, q3⟩ := h
          rw [ih q3]
          unfold TI.next Rg.next
          simp [q1]
          omega
    have := this hL
    simpa using this
  have hdead : ∀ k, bx.dead k = true ↔ k ∈ s'.dead := by
    intro k
    rw [h5 k]
    constructor
    · rintro ⟨i, t, q1, _, q3⟩
      exact hL.deadSub.2.2.2 i t q1 k q3
    · intro hk
      rcases hL.deadSub.2.2.1 k hk with h | ⟨i, t, q1, q2⟩
      · simp at h
      · exact ⟨i, t, q1, decide_eq_true (List.getElem?_eq_some_iff.1 q1).1, q2⟩
  refine ⟨ow, bx, ?_, ⟨by simp only [Rg.out0]; rw [slotsOut_length]; exact h3.symm, fun t e he => ?_⟩, h4, hdead⟩
  · have : boxGet (s'.out0 σ).boxes = fun b => foldI (fun k => decide (k < ts.length)) ts 0 b (boxGet σ.boxes b) := by
      funext b
      simp only [Rg.out0]
      rw [hL.boxes 0 b]
      refine foldI_congr ts 0 _ fun j t ht _ => ?_
      have := (List.getElem?_eq_some_iff.1 ht).1
      rw [Nat.zero_add]
      exact (decide_eq_true this).symm
    simp only [Rg.out0] at this ⊢
    rw [this]
    exact h1
  · simp only [Rg.out0] at he
    rw [slotsOut_at] at he
    obtain ⟨sp1, sp2⟩ := lastRec_spec s'.rs t s'.rs.length
    cases hl : lastRec s'.rs t s'.rs.length with
    | none =>
      rw [hl] at he
      simp only at he
      have hlt : t < σ.slots.length := (List.getElem?_eq_some_iff.1 he).1
      rcases h2 t hlt with ⟨m, r, ⟨q1, q2, q3, q4⟩, _⟩ | ⟨_, q2⟩
      · exact absurd q3 (sp2 hl m (by omega))
      · exact q2 e he
    | some p =>
      obtain ⟨m, r⟩ := p
      rw [hl] at he
      simp only at he
      split at he
      · rename_i hlt
        obtain ⟨k1, k2, k3, k4⟩ := sp1 m r hl
        have hdm : dstAt s'.rs m = some t := by unfold dstAt; rw [k2]; exact k3
        rcases h2 t hlt with ⟨m', r', ⟨q1, q2, q3, q4⟩, q5, q6, _⟩ | ⟨q1, _⟩
        · have : m' = m := by
            apply Classical.byContradiction
            intro hn
            by_cases hlt2 : m' < m
            · exact q4 m hlt2 (by omega) (decide_eq_true (by omega)) hdm
            · exact k4 m' (by omega) (by omega) q3
          subst this
          rw [k2] at q5
          cases q5
          cases he
          unfold recOut
          split
          · rename_i hch
            exact q6 (by rw [hch]; simp [guardOf])
          · exact .undef _
        · exact absurd hdm (q1 m (by omega) (decide_eq_true (by omega)))
      · cases he
theorem boxGet_map (f : List EV → List EV) (l : List (Option (List EV))) (b : Nat) : boxGet (l.map (Option.map f)) b = (boxGet l b).map f := by
  unfold boxGet
  rw [List.getElem?_map]
  cases l[b]? with
  | none => rfl
  | some x => cases x <;> rfl
theorem unsteady_spec {dead : List Nat} {b : Nat} : ∀ (es : List EV) (i0 i : Nat) (e : EV), es[i]? = some e → steady dead e = false → (b, i0 + i) ∈ unsteady dead b es i0
  | [], i0, i, e, h, _ => by simp at h
  | x :: es, i0, i, e, h, hs => by
    cases i with
    | zero =>
      simp at h
      subst h
      simp only [unsteady, hs]
      simp
    | succ i =>
      have := unsteady_spec (b := b) es (i0 + 1) i e (by simpa using h) hs
      rw [show i0 + 1 + i = i0 + (i + 1) by omega] at this
      simp only [unsteady]
      split
      · exact this
      · exact List.mem_cons_of_mem _ this
theorem unsteadyB_spec {dead : List Nat} : ∀ (l : List (Option (List EV))) (b0 b : Nat) (cs : List EV) (i : Nat) (e : EV), boxGet l b = some cs → cs[i]? = some e → steady dead e = false → (b0 + b + 1, i) ∈ unsteadyB dead l b0
  | [], b0, b, cs, i, e, h, _, _ => by simp [boxGet] at h
  | x :: l, b0, b, cs, i, e, h, hi, hs => by
    cases b with
    | zero =>
      rw [boxGet_spec] at h
      simp at h
      subst h
      simp only [unsteadyB, List.mem_append]
      left
      have := unsteady_spec (b := b0 + 1) cs 0 i e hi hs
      simpa using this
    | succ b =>
      have := unsteadyB_spec l (b0 + 1) b cs i e (by rw [boxGet_spec] at h ⊢; simpa using h) hi hs
      rw [show b0 + 1 + b + 1 = b0 + (b + 1) + 1 by omega] at this
      cases x with
      | none => simpa only [unsteadyB] using this
      | some cs' => simp only [unsteadyB, List.mem_append]; exact .inr this
theorem steady_settle {dead : List Nat} {e : EV} (h : steady dead e = true) : settle dead e = e := by
  cases e with
  | own k t l =>
    simp only [steady, Bool.and_eq_true, Bool.not_eq_true'] at h
    have hk : k < BIG := by
      have := Nat.le_of_ble_eq_true h.2
      omega
    simp only [settle, h.1, Nat.mod_eq_of_lt hk]
  | _ =>
    simp only [steady, Bool.not_eq_true'] at h
    simp only [settle, h]
theorem settle_evo (dead : List Nat) (τ : St) : Evo τ (settleS dead τ) := by
  cases dead with
  | nil => exact Evo.refl τ
  | cons d ds =>
    refine ⟨by simp [settleS], by simp [settleS], _, rfl, fun t ht => ?_, fun b hb cs hcs => ?_, fun b hb hn => ?_⟩
    · simp only [settleS, List.getElem?_map]
      cases he : τ.slots[t]? with
      | none => rfl
      | some e =>
        simp only [Option.map_some]
        cases hs : steady (d :: ds) e with
        | true => rw [steady_settle hs]
        | false =>
          exfalso
          apply ht
          have := unsteady_spec (b := 0) τ.slots 0 t e he hs
          rw [Nat.zero_add] at this
          exact List.mem_append_left _ this
    · refine ⟨cs.map (settle (d :: ds)), by simp only [settleS]; rw [boxGet_map, hcs]; rfl, by simp, fun i hi => ?_⟩
      rw [List.getElem?_map]
      cases he : cs[i]? with
      | none => rfl
      | some e =>
        simp only [Option.map_some]
        cases hs : steady (d :: ds) e with
        | true => rw [steady_settle hs]
        | false =>
          exfalso
          apply hi
          have := unsteadyB_spec τ.boxes 0 b cs i e hcs he hs
          rw [Nat.zero_add] at this
          exact List.mem_append_right _ this
    · simp only [settleS]; rw [boxGet_map, hn]; rfl
/-- New tokens get their old numbers. -/
def retag (ow : Nat → Owner) : Nat → Owner := fun blk => match ow blk with
  | .tok k fr => .tok (k % BIG) fr
  | o => o
theorem retag_rigid {ow : Nat → Owner} {blk n : Nat} (h : Rigid ow blk n) : Rigid (retag ow) blk n := by
  rcases rigid_cases h with h | ⟨k, fr, h, hn⟩ | ⟨fr, h, hn⟩
  · exact rigid_stable (by simp [retag, h])
  · exact rigid_tok (k := k % BIG) (fr := fr) (by simp [retag, h]) hn
  · exact rigid_part (by simp [retag, h]) hn
theorem retag_box {ow : Nat → Owner} {blk b : Nat} : retag ow blk = .box b ↔ ow blk = .box b := by
  unfold retag
  split
  · rename_i k fr h; rw [h]; simp
  · exact Iff.rfl
theorem retag_st (ow : Nat → Owner) (w : World) : KeepSt ow w (retag ow) w := .of fun _ _ h => ⟨retag_rigid h, rfl⟩
theorem retag_keep (ow : Nat → Owner) (bx : Bx) (w : World) : Keeps ow bx w (retag ow) ⟨bx.f, fun _ => true⟩ w :=
  ⟨retag_st ow w, fun _ _ _ _ h => by simp at h, fun _ h => by simp at h, fun b h => ⟨rfl, retag_box.2 h⟩⟩
theorem undead {ow : Nat → Owner} {f : Nat → Nat} {d d' : Nat → Bool} {w : World} : ∀ (n : Nat) (e : EV) (v : Value), ownB n e = false → RepEV ow ⟨f, d⟩ w e v → RepEV ow ⟨f, d'⟩ w e v := by
  intro n
  induction n with
  | zero => intro e v h; simp [ownB] at h
  | succ n ih =>
    intro e v h hv
    cases hv with
    | own => simp [ownB] at h
    | undef => exact .undef _
    | dat hq => exact .dat hq
    | nil => exact .nil
    | ptr hq => exact .ptr hq
    | pix hq h0 h1 => exact .pix hq h0 h1
    | elt h0 h1 hs hb hc => exact .elt h0 h1 hs hb hc
    | clo h1 h2 h3 h4 =>
      simp only [ownB, Bool.or_eq_false_iff, List.any_eq_false] at h
      exact .clo h1 h2 (fun i e v he hv => ih e v (by simpa using h.1 e (List.mem_of_getElem? he)) (h3 i e v he hv)) (fun i e v he hv => ih e v (by simpa using h.2 e (List.mem_of_getElem? he)) (h4 i e v he hv))
    | sl h0 h1 hs hb h2 h3 =>
      simp only [ownB, List.any_eq_false] at h
      exact .sl h0 h1 hs hb (fun i e v he hv => ih e v (by simpa using h e (List.mem_of_getElem? he)) (h2 i e v he hv)) h3
    | cp hs hb hv h1 hq =>
      simp only [ownB] at h
      exact .cp hs hb hv h1 (ih _ _ h hq)
    | tup h1 h2 =>
      simp only [ownB, List.any_eq_false] at h
      exact .tup h1 (fun i e v he hv => ih e v (by simpa using h e (List.mem_of_getElem? he)) (h2 i e v he hv))
    | row h1 h2 h3 =>
      simp only [ownB, List.any_eq_false] at h
      exact .row h1 (fun i e v he hv => ih e v (by simpa using h e (List.mem_of_getElem? he)) (h2 i e v he hv)) h3
theorem natIn_iff {k : Nat} {l : List Nat} : natIn k l = true ↔ k ∈ l := by
  unfold natIn
  rw [List.any_eq_true]
  exact ⟨fun ⟨x, h1, h2⟩ => by rw [Nat.eq_of_beq_eq_true h2]; exact h1, fun h => ⟨k, h, Nat.beq_refl k⟩⟩
theorem settle_rep {dead : List Nat} {ow : Nat → Owner} {bx : Bx} {w : World} {e : EV} {v : Value} (hd : ∀ k, bx.dead k = true ↔ k ∈ dead) (h : RepEV ow bx w e v) : RepEV (retag ow) ⟨bx.f, fun _ => false⟩ w (settle dead e) v := by
  have gen : ∀ e, RepEV ow bx w e v → (∀ k t l, e ≠ .own k t l) → settle dead e = (match ownB 20 e with | true => .undef | false => e) → RepEV (retag ow) ⟨bx.f, fun _ => false⟩ w (settle dead e) v := by
    intro e h _ hs
    rw [hs]
    cases hb : ownB 20 e with
    | true => exact .undef _
    | false => exact undead 20 e v hb (h.keep (retag_keep ow bx w))
  cases e with
  | own k t l =>
    cases h with
    | own h h' =>
      simp only [settle]
      cases hk : natIn k dead with
      | true => exact .dat (h.keep (retag_st ow w))
      | false =>
        have hdk : bx.dead k = false := by
          cases hb : bx.dead k with
          | false => rfl
          | true => rw [natIn_iff.2 ((hd k).1 hb)] at hk; cases hk
        refine .own (h.keep (retag_st ow w)) fun _ => ?_
        rcases h' hdk with ⟨h1, h2⟩ | ⟨blk, cap, c, h1, h2, h3, h4, h5⟩
        · exact .inl ⟨h1, h2⟩
        · refine .inr ⟨blk, cap, c, h1, by simp [retag, h2], ?_, h4, h5⟩
          rw [h3, show k % BIG % 100000 = k % 100000 by unfold BIG; omega]
  | _ => exact gen _ h (by intros; simp) rfl
theorem settle_rel {dead : List Nat} {B : Base} {τ : St} {a : Act} {w : World} (h : RelX dead B τ a w) : RelE B (settleS dead τ) a w := by
  obtain ⟨ow, bx, h1, ⟨h2, h3⟩, h4, h5⟩ := h
  cases dead with
  | nil =>
    refine ⟨ow, bx, h1, ⟨h2, h3⟩, h4, fun k => ?_⟩
    cases hb : bx.dead k with
    | false => rfl
    | true => have := (h5 k).1 hb; simp at this
  | cons d ds =>
    refine ⟨retag ow, ⟨bx.f, fun _ => false⟩, ?_, ⟨by simp only [settleS, List.length_map]; exact h2, fun t e he => ?_⟩, h4, fun _ => rfl⟩
    · constructor
      · intro b cs hb
        simp only [settleS] at hb
        rw [boxGet_map] at hb
        cases hg : boxGet τ.boxes b with
        | none => rw [hg] at hb; cases hb
        | some cs0 =>
          rw [hg] at hb
          cases hb
          obtain ⟨g1, c, T, g2, g3⟩ := h1.box b cs0 hg
          refine ⟨retag_box.2 g1, c, T, g2, by simpa using g3.1, fun i e v he hv => ?_⟩
          rw [List.getElem?_map] at he
          cases hc : cs0[i]? with
          | none => rw [hc] at he; cases he
          | some e0 =>
            rw [hc] at he
            cases he
            exact ⟨settle_rep h5 (g3.2 i e0 v hc hv).1, (g3.2 i e0 v hc hv).2⟩
      · intro blk b hb
        obtain ⟨g1, g2, g3⟩ := h1.back blk b (retag_box.1 hb)
        refine ⟨g1, ?_, by simp only [settleS, List.length_map]; exact g3⟩
        simp only [settleS]
        rw [boxGet_map]
        cases hg : boxGet τ.boxes b with
        | none => rw [hg] at g2; cases g2
        | some cs0 => rfl
      · intro blk hb
        refine h1.here blk fun e => hb ?_
        simp [retag, e]
      · intro blk hb hm
        obtain ⟨g1, g2, g3, g4⟩ := h1.old blk hb hm
        have hr : retag ow blk = ow blk := by
          unfold retag
          split
          · rename_i k fr h; exact absurd h (g4 k fr)
          · rfl
        exact ⟨g1, by rw [hr]; exact g2, by rw [hr]; exact ⟨g3, g4⟩⟩
      · exact h1.size
      · exact h1.env
      · intro b hb
        obtain ⟨g1, g2⟩ := h1.kept b hb
        refine ⟨g1, ?_⟩
        simp only [settleS]
        rw [boxGet_map]
        cases hg : boxGet τ.boxes b with
        | none => rw [hg] at g2; cases g2
        | some cs0 => rfl
    · simp only [settleS] at he
      rw [List.getElem?_map] at he
      cases hc : τ.slots[t]? with
      | none => rw [hc] at he; cases he
      | some e0 =>
        rw [hc] at he
        cases he
        exact settle_rep h5 (h3 t e0 hc)
theorem out_evo (hL : Linked P σ.slots ops.toList ⟨[], σ.boxes, σ.jr, [], []⟩ ts s') : Evo σ (s'.out σ) := (out_evo0 hL).trans (settle_evo _ _)
theorem out_rel (hL : Linked P σ.slots ops.toList ⟨[], σ.boxes, σ.jr, [], []⟩ ts s') {a : Act} {w : World} (hst : StD B σ.slots ts s' (boxGet σ.boxes) (fun k => decide (k < ts.length)) a w) : RelE B (s'.out σ) a w := settle_rel (out_rel0 hL hst)
theorem in_rel {a : Act} {w : World} (hL : Linked P σ.slots ops.toList ⟨[], σ.boxes, σ.jr, [], []⟩ ts s') (h : RelE B σ a w) (w' : World) (hw : w'.heap = w.heap ∧ w'.tape = w.tape ∧ w'.os = w.os ∧ w'.output = w.output) (D : Nat → Bool) (hD : ∀ k, k < ts.length → D k = false) :
    StD B σ.slots ts s' (boxGet σ.boxes) D a w' := by
  obtain ⟨ow, bx, h1, ⟨h2, h3⟩, h4, h5⟩ := h
  have hk : Keeps ow bx w ow bx w' := ⟨.of fun _ _ h => ⟨h, by rw [hw.1]⟩, fun _ _ _ h _ => ⟨h, by rw [hw.1]⟩, fun _ h => h, fun _ h => ⟨rfl, h⟩⟩
  refine ⟨ow, bx, ?_, fun u hu => .inr ⟨fun k k1 k2 => (by rw [hD k k1] at k2; cases k2), fun e he => (h3 u e he).keep hk⟩, h2.symm, h4, fun j => ⟨fun hb => (by rw [h5] at hb; cases hb), fun ⟨i, t, q1, q2, _⟩ => (by rw [hD i (List.getElem?_eq_some_iff.1 q1).1] at q2; cases q2)⟩⟩
  have : (fun b => foldI D ts 0 b (boxGet σ.boxes b)) = boxGet σ.boxes := by
    funext b
    exact foldI_skip ts 0 _ fun j t ht hd => by rw [Nat.zero_add, hD j (List.getElem?_eq_some_iff.1 ht).1] at hd; cases hd
  rw [this]
  have hle : σ.boxes.length ≤ s'.bx.length := hL.evo.1
  constructor
  · intro b cs hb
    obtain ⟨q1, c, T, q2, q3⟩ := h1.box b cs hb
    exact ⟨q1, c, T, by rw [hw.1]; exact q2, q3.keep hk⟩
  · intro blk b hb
    obtain ⟨q1, q2, q3⟩ := h1.back blk b hb
    exact ⟨q1, q2, by omega⟩
  · intro blk hb; rw [hw.1]; exact h1.here blk hb
  · intro blk hb hm; rw [hw.1]; exact h1.old blk hb hm
  · rw [hw.1]; exact h1.size
  · obtain ⟨e1, e2, e3⟩ := h1.env
    exact ⟨by rw [hw.2.1]; exact e1, by rw [hw.2.2.1]; exact e2, by rw [hw.2.2.2]; exact e3⟩
  · exact h1.kept
end
end Go.Proofs.Ytbgdgpdfaebniaa
