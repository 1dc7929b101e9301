/- A region does what the reading says: one operation, behind whichever others. No program in sight. -/
import Derived.Test.YtbgdgpdfaebniaaEngR
set_option linter.unusedSimpArgs false
set_option linter.unusedVariables false
namespace Go.Proofs.Ytbgdgpdfaebniaa
def dstAt (R : List Rec) (k : Nat) : Option Nat := match R[k]? with
  | some r => r.dst
  | none => none
theorem lastRec_spec (rs : List Rec) (u : Nat) : ∀ (m : Nat), (∀ j r, lastRec rs u m = some (j, r) → j < m ∧ rs[j]? = some r ∧ r.dst = some u ∧ ∀ k, j < k → k < m → dstAt rs k ≠ some u) ∧
    (lastRec rs u m = none → ∀ k, k < m → dstAt rs k ≠ some u) := by
  intro m
  induction m with
  | zero => exact ⟨fun j r h => by simp [lastRec] at h, fun _ k hk => by omega⟩
  | succ m ih =>
    obtain ⟨ih1, ih2⟩ := ih
    have skip : dstAt rs m ≠ some u → lastRec rs u (m + 1) = lastRec rs u m := by
      intro hne
      simp only [lastRec]
      unfold dstAt at hne
      cases hm : rs[m]? with
      | none => rfl
      | some r =>
        rw [hm] at hne
        simp only at hne ⊢
        cases hd : r.dst with
        | none => rfl
        | some d =>
          rw [hd] at hne
          simp only
          split
          · rename_i hb; exact absurd (by rw [Nat.eq_of_beq_eq_true hb]) hne
          · rfl
    by_cases hne : dstAt rs m = some u
    · have hhit : ∃ r, rs[m]? = some r ∧ r.dst = some u := by
        unfold dstAt at hne
        cases hm : rs[m]? with
        | none => rw [hm] at hne; cases hne
        | some r => rw [hm] at hne; exact ⟨r, rfl, hne⟩
      obtain ⟨r, hr, hd⟩ := hhit
      have : lastRec rs u (m + 1) = some (m, r) := by
        simp only [lastRec, hr, hd, Nat.beq_refl]
      rw [this]
      exact ⟨fun j r' h => by cases h; exact ⟨by omega, hr, hd, fun k h1 h2 => by omega⟩, fun h => by cases h⟩
    · rw [skip hne]
      refine ⟨fun j r h => ?_, fun h k hk => ?_⟩
      · obtain ⟨g1, g2, g3, g4⟩ := ih1 j r h
        exact ⟨by omega, g2, g3, fun k h1 h2 => by
          by_cases e : k = m
          · subst e; exact hne
          · exact g4 k h1 (by omega)⟩
      · by_cases e : k = m
        · subst e; exact hne
        · exact ih2 h k (by omega)
/-- Which of the operations that have come wrote a slot last. -/
def LastW (D : Nat → Bool) (R : List Rec) (n u : Nat) : Option Nat → Prop
  | some m => m < n ∧ D m = true ∧ dstAt R m = some u ∧ ∀ k, m < k → k < n → D k = true → dstAt R k ≠ some u
  | none => ∀ k, k < n → D k = true → dstAt R k ≠ some u
def SlotsD (ow : Nat → Owner) (bx : Bx) (w : World) (base : List EV) (R : List Rec) (n : Nat) (D : Nat → Bool) (a : Act) : Prop :=
  ∀ u, u < base.length → (∃ m r, LastW D R n u (some m) ∧ R[m]? = some r ∧ (guardOf R r.ch ≠ some false → RepEV ow bx w r.val (a.tmps.getD u undef)) ∧ (guardOf R r.ch = some false → a.tmps.getD u undef = undef)) ∨
    (LastW D R n u none ∧ ∀ e, base[u]? = some e → RepEV ow bx w e (a.tmps.getD u undef))
theorem boolAt_take (rs more : List Rec) (j : Nat) (h : j < rs.length) : boolAt (rs ++ more) j = boolAt rs j := by
  unfold boolAt recAt
  rw [List.getElem?_append_left h]
def ChB (n : Nat) (ch : List (Nat × Bool)) : Prop := ∀ p ∈ ch, p.1 < n
theorem chainB_take (rs more : List Rec) : ∀ (ch : List (Nat × Bool)), ChB rs.length ch → chainB (rs ++ more) ch = chainB rs ch
  | [], _ => rfl
  | [(j, w)], h => by
    have := boolAt_take rs more j (h (j, w) (by simp))
    cases w <;> simp [chainB, this]
  | (j, w) :: p :: r, h => by
    have h1 := boolAt_take rs more j (h (j, w) (by simp))
    have h2 := chainB_take rs more (p :: r) (fun q hq => h q (by simp [hq]))
    cases w <;> simp only [chainB, h1, h2]
theorem guardOf_take (rs more : List Rec) (ch : List (Nat × Bool)) (h : ChB rs.length ch) : guardOf (rs ++ more) ch = guardOf rs ch := by
  unfold guardOf
  cases ch with
  | nil => rfl
  | cons p r => simp only; rw [chainB_take rs more _ h]
def litB (rs : List Rec) (p : Nat × Bool) : Bool := match p.2 with
  | true => boolAt rs p.1
  | false => !boolAt rs p.1
theorem chainB_cons (rs : List Rec) (p : Nat × Bool) (r : List (Nat × Bool)) : chainB rs (p :: r) = (litB rs p && chainB rs r) := by
  obtain ⟨j, w⟩ := p
  cases r with
  | nil => cases w <;> simp [chainB, litB]
  | cons q r => cases w <;> simp [chainB, litB]
theorem chainB_all (rs : List Rec) : ∀ (ch : List (Nat × Bool)), chainB rs ch = true ↔ ∀ p ∈ ch, litB rs p = true
  | [] => by simp [chainB]
  | p :: r => by rw [chainB_cons, Bool.and_eq_true, chainB_all rs r]; simp
theorem inCh_mem : ∀ (l : List (Nat × Bool)) (p : Nat × Bool), inCh p l = true → p ∈ l
  | [], _, h => by cases h
  | (j, w) :: r, p, h => by
    simp only [inCh, Bool.or_eq_true, Bool.and_eq_true, beq_iff_eq] at h
    rcases h with ⟨h1, h2⟩ | h
    · have := Nat.eq_of_beq_eq_true h1
      obtain ⟨a, b⟩ := p
      simp only at this h2
      subst this h2
      simp
    · exact List.mem_cons_of_mem _ (inCh_mem r p h)
theorem subCh_mem : ∀ (a b : List (Nat × Bool)), subCh a b = true → ∀ p ∈ a, p ∈ b
  | [], _, _, p, h => by simp at h
  | q :: r, b, h, p, hp => by
    simp only [subCh, Bool.and_eq_true] at h
    rcases List.mem_cons.1 hp with rfl | hp
    · exact inCh_mem b p h.1
    · exact subCh_mem r b h.2 p hp
theorem guard_true {rs : List Rec} {ch : List (Nat × Bool)} : guardOf rs ch ≠ some false ↔ chainB rs ch = true := by
  unfold guardOf
  cases ch with
  | nil => simp [chainB]
  | cons p r => simp only; cases chainB rs (p :: r) <;> simp
theorem guard_false {rs : List Rec} {ch : List (Nat × Bool)} : guardOf rs ch = some false ↔ chainB rs ch = false := by
  unfold guardOf
  cases ch with
  | nil => simp [chainB]
  | cons p r => simp
theorem chainOf_spec {rs : List Rec} {g : Option (Nat × Bool)} {ch : List (Nat × Bool)} (h : chainOf rs g = some ch) : (g = none ∧ ch = []) ∨
    ∃ j w r d b, g = some (j, w) ∧ rs[j]? = some r ∧ r.dst = some d ∧ r.val = .dat .bool b ∧ (∃ r', lastRec rs d rs.length = some (j, r')) ∧ ch = (j, w) :: r.ch := by
  unfold chainOf at h
  split at h
  · cases h; exact .inl ⟨rfl, rfl⟩
  · rename_i j w
    split at h
    · rename_i r hr
      split at h
      · rename_i d b hd hv
        split at h
        · rename_i j' r' hl
          split at h
          · rename_i hb
            cases h
            have := Nat.eq_of_beq_eq_true hb
            subst this
            exact .inr ⟨j, w, r, d, b, rfl, hr, hd, hv, ⟨r', hl⟩, rfl⟩
          · cases h
        · cases h
      · cases h
    · cases h
theorem ofConst_rep {ow : Nat → Owner} {bx : Bx} {w : World} (v : Value) : RepEV ow bx w (ofConst v) v := by
  unfold ofConst
  split
  · split
    · rename_i hf; exact repInt_mk hf
    · exact .undef _
  · exact repBool_mk
  · split
    · rename_i hs
      have := Nat.le_of_ble_eq_true hs
      exact .dat ⟨rfl, by omega⟩
    · exact .undef _
  · exact .nil
  · exact .undef _
section
variable {P : Program} {base : List EV} {ops : Array Oper} {s₀ s' : Rg} {ts : List TI} {B : Base} {bg₀ : Nat → Option (List EV)}
/-- Just the tokens that were spent are dead. -/
def DeadD (D : Nat → Bool) (ts : List TI) (bx : Bx) : Prop := ∀ j, bx.dead j = true ↔ ∃ (i : Nat) (t : TI), ts[i]? = some t ∧ D i = true ∧ t.k = some j
def StD (B : Base) (base : List EV) (ts : List TI) (s' : Rg) (bg₀ : Nat → Option (List EV)) (D : Nat → Bool) (a : Act) (w : World) : Prop :=
  ∃ ow bx, Inv B ow bx s'.bx.length (fun b => foldI D ts 0 b (bg₀ b)) w ∧ SlotsD ow bx w base s'.rs ts.length D a ∧ a.tmps.size = base.length ∧ a.defers = [] ∧ DeadD D ts bx
theorem rec_at (hL : Linked P base ops.toList s₀ ts s') (h0 : s₀.rs = []) {i : Nat} {o : Oper} {t : TI} (ho : ops[i]? = some o) (ht : ts[i]? = some t) :
    s'.rs[i]? = some ⟨o.dst, t.ch, t.v⟩ ∧ t.s.rs.length = i ∧ ∃ more, s'.rs = t.s.rs ++ more := by
  obtain ⟨_, g2, ⟨more, g3⟩, _⟩ := hL.at i o t (by simpa using ho) ht
  have hl : t.s.rs.length = i := by rw [g2, h0]; simp
  refine ⟨?_, hl, _, g3⟩
  rw [g3, List.getElem?_append_right (by omega), hl]
  simp
theorem ch_below (hL : Linked P base ops.toList s₀ ts s') (h0 : s₀.rs = []) : ∀ (i : Nat) o t, ops[i]? = some o → ts[i]? = some t → ChB i t.ch := by
  intro i
  induction i using Nat.strongRecOn with
  | _ i ih =>
    intro o t ho ht
    obtain ⟨g1, _⟩ := hL.at i o t (by simpa using ho) ht
    obtain ⟨hr, hl, more, hm⟩ := rec_at hL h0 ho ht
    rcases chainOf_spec g1.ch with ⟨_, h⟩ | ⟨j, w, r, d, b, _, hj, _, _, _, h⟩
    · rw [h]; intro p hp; simp at hp
    · have hji : j < i := by rw [← hl]; exact (List.getElem?_eq_some_iff.1 hj).1
      have hlen := hL.length
      have hin : i < ops.toList.length := by have := (Array.getElem?_eq_some_iff.1 ho).1; simpa using this
      obtain ⟨oj, hoj⟩ : ∃ oj, ops[j]? = some oj := ⟨_, Array.getElem?_eq_getElem (by simp at hin; omega)⟩
      obtain ⟨tj, htj⟩ : ∃ tj, ts[j]? = some tj := ⟨_, List.getElem?_eq_getElem (by rw [hlen]; omega)⟩
      obtain ⟨hrj, _⟩ := rec_at hL h0 hoj htj
      have : s'.rs[j]? = some r := by rw [hm, List.getElem?_append_left (by omega)]; exact hj
      rw [hrj] at this
      cases this
      rw [h]
      intro p hp
      rcases List.mem_cons.1 hp with rfl | hp
      · exact hji
      · have := ih j hji oj tj hoj htj p hp
        omega
/-- What a slot holds that an operation looks at. -/
theorem look_rep (hL : Linked P base ops.toList s₀ ts s') (h0 : s₀.rs = []) {i : Nat} {o : Oper} {t : TI} (ho : ops[i]? = some o) (ht : ts[i]? = some t) {D : Nat → Bool} {a : Act} {w : World} {ow : Nat → Owner} {bx : Bx}
    (hS : SlotsD ow bx w base s'.rs ts.length D a) (hsz : a.tmps.size = base.length) {u : Nat} (hag : ∀ k, k < ts.length → dstAt s'.rs k = some u → (D k = true ↔ k < i)) {ch : List (Nat × Bool)} (hch : chainB s'.rs ch = true) :
    RepEV ow bx w (lookE base t.s.rs ch u) (a.tmps.getD u undef) := by
  obtain ⟨hr, hl, more, hm⟩ := rec_at hL h0 ho ht
  have hlen := hL.length
  have hi : i < ts.length := (List.getElem?_eq_some_iff.1 ht).1
  have hdst : ∀ k, k < i → dstAt t.s.rs k = dstAt s'.rs k := by
    intro k hk
    unfold dstAt
    rw [hm, List.getElem?_append_left (by omega)]
  obtain ⟨sp1, sp2⟩ := lastRec_spec t.s.rs u t.s.rs.length
  unfold lookE
  split
  · rename_i j r hlr
    obtain ⟨k1, k2, k3, k4⟩ := sp1 j r hlr
    split
    · rename_i hsub
      have hjR : s'.rs[j]? = some r := by rw [hm, List.getElem?_append_left (by omega)]; exact k2
      have hub : u < base.length := by
        obtain ⟨oj, hoj⟩ : ∃ oj, ops[j]? = some oj := ⟨_, Array.getElem?_eq_getElem (by have := hlen; simp at this; omega)⟩
        obtain ⟨tj, htj⟩ : ∃ tj, ts[j]? = some tj := ⟨_, List.getElem?_eq_getElem (by omega)⟩
        obtain ⟨g1, _⟩ := hL.at j oj tj (by simpa using hoj) htj
        obtain ⟨hrj, _⟩ := rec_at hL h0 hoj htj
        rw [hjR] at hrj
        cases hrj
        have hd := g1.dst
        simp only at k3
        rw [k3] at hd
        exact Nat.le_of_ble_eq_true hd
      have hdj : dstAt s'.rs j = some u := by unfold dstAt; rw [hjR]; exact k3
      have huniq : ∀ m, m < ts.length → D m = true → dstAt s'.rs m = some u → m ≤ j := by
        intro m h1 h2 h3
        have hmi := (hag m h1 h3).1 h2
        apply Classical.byContradiction
        intro hn
        exact k4 m (by omega) (by omega) (by rw [hdst m hmi]; exact h3)
      have hDj : D j = true := (hag j (by omega) hdj).2 (by omega)
      rcases hS u hub with ⟨m, r', ⟨q1, q2, q3, q4⟩, q5, q6, q7⟩ | ⟨q1, _⟩
      · have : m = j := by
          have h1 := huniq m q1 q2 q3
          apply Classical.byContradiction
          intro hn
          exact q4 j (by omega) (by omega) hDj hdj
        subst this
        rw [hjR] at q5
        cases q5
        refine q6 (guard_true.2 ((chainB_all _ _).2 fun p hp => ?_))
        exact (chainB_all _ _).1 hch p (subCh_mem _ _ hsub p hp)
      · exact absurd hdj (q1 j (by omega) hDj)
    · exact .undef _
  · rename_i hlr
    have hno := sp2 hlr
    split
    · rename_i e he
      have hub : u < base.length := (List.getElem?_eq_some_iff.1 he).1
      rcases hS u hub with ⟨m, r', ⟨q1, q2, q3, q4⟩, _⟩ | ⟨_, q2⟩
      · have hmi := (hag m q1 q3).1 q2
        exact absurd (by rw [hdst m hmi]; exact q3) (hno m (by omega))
      · exact q2 e he
    · exact .undef _
theorem opd_rep (hL : Linked P base ops.toList s₀ ts s') (h0 : s₀.rs = []) {i : Nat} {o : Oper} {t : TI} (ho : ops[i]? = some o) (ht : ts[i]? = some t) {D : Nat → Bool} {a : Act} {w : World} {ow : Nat → Owner} {bx : Bx}
    (hS : SlotsD ow bx w base s'.rs ts.length D a) (hsz : a.tmps.size = base.length) (hag : ∀ u ∈ o.looksAt ops, ∀ k, k < ts.length → dstAt s'.rs k = some u → (D k = true ↔ k < i)) {ch : List (Nat × Bool)} (hch : chainB s'.rs ch = true) :
    ∀ x, (∀ u, x = .tmp u → u ∈ o.looksAt ops) → RepEV ow bx w (opdE base t.s.rs ch x) (a.eval x) := by
  intro x hx
  cases x with
  | tmp u => exact look_rep hL h0 ho ht hS hsz (hag u (hx u rfl)) hch
  | const v => exact ofConst_rep v
  | func f => exact .clo (by simp) (by simp) (fun i e v he => by simp at he) (fun i e v he => by simp at he)
  | global g => exact .undef _
theorem chain_full (hL : Linked P base ops.toList s₀ ts s') (h0 : s₀.rs = []) {i : Nat} {o : Oper} {t : TI} (ho : ops[i]? = some o) (ht : ts[i]? = some t) : guardOf s'.rs t.ch = guardOf t.s.rs t.ch := by
  obtain ⟨hr, hl, more, hm⟩ := rec_at hL h0 ho ht
  rw [hm]
  exact guardOf_take _ _ _ (by rw [hl]; exact ch_below hL h0 i o t ho ht)
/-- Is an operation wanted? Just if its guards say so. -/
theorem wanted_iff (hL : Linked P base ops.toList s₀ ts s') (h0 : s₀.rs = []) {i : Nat} {o : Oper} {t : TI} (ho : ops[i]? = some o) (ht : ts[i]? = some t) {D : Nat → Bool} {a : Act} {w : World} {ow : Nat → Owner} {bx : Bx}
    (hS : SlotsD ow bx w base s'.rs ts.length D a) (hsz : a.tmps.size = base.length) (hag : ∀ u ∈ o.looksAt ops, ∀ k, k < ts.length → dstAt s'.rs k = some u → (D k = true ↔ k < i)) :
    Region.wanted o (yielded ops a.tmps) = chainB s'.rs t.ch := by
  obtain ⟨g1, _⟩ := hL.at i o t (by simpa using ho) ht
  obtain ⟨hr, hl, more, hm⟩ := rec_at hL h0 ho ht
  have hi : i < ts.length := (List.getElem?_eq_some_iff.1 ht).1
  rcases chainOf_spec g1.ch with ⟨h1, h2⟩ | ⟨j, wt, r, d, b, h1, h2, h3, h4, ⟨r', h5⟩, h6⟩
  · rw [h2]; unfold Region.wanted; rw [h1]; rfl
  · have hji : j < i := by rw [← hl]; exact (List.getElem?_eq_some_iff.1 h2).1
    have hlen := hL.length
    obtain ⟨oj, hoj⟩ : ∃ oj, ops[j]? = some oj := ⟨_, Array.getElem?_eq_getElem (by simp at hlen; omega)⟩
    obtain ⟨tj, htj⟩ : ∃ tj, ts[j]? = some tj := ⟨_, List.getElem?_eq_getElem (by omega)⟩
    obtain ⟨gj, _⟩ := hL.at j oj tj (by simpa using hoj) htj
    obtain ⟨hrj, _⟩ := rec_at hL h0 hoj htj
    have hjR : s'.rs[j]? = some r := by rw [hm, List.getElem?_append_left (by omega)]; exact h2
    have hjR' := hjR
    rw [hrj] at hjR
    cases hjR
    simp only at h3 h4
    have hlook : d ∈ o.looksAt ops := by
      unfold Oper.looksAt
      rw [h1]
      simp [hoj, h3]
    have hub : d < base.length := by
      have hd := gj.dst
      rw [h3] at hd
      exact Nat.le_of_ble_eq_true hd
    have hdj : dstAt s'.rs j = some d := by unfold dstAt; rw [hrj]; exact h3
    have hDj : D j = true := (hag d hlook j (by omega) hdj).2 hji
    have hlast : ∀ k, j < k → k < i → dstAt s'.rs k ≠ some d := by
      intro k k1 k2
      obtain ⟨_, _, _, q⟩ := (lastRec_spec t.s.rs d t.s.rs.length).1 j r' h5
      have := q k k1 (by omega)
      unfold dstAt at this ⊢
      rw [hm, List.getElem?_append_left (by omega)]
      exact this
    have hbool : boolAt s'.rs j = b := by unfold boolAt recAt; rw [hrj]; simp [h4]
    have hyl : yielded ops a.tmps j = match a.tmps[d]? with
        | some (.bool b) => some b
        | _ => none := by
      unfold yielded
      simp [hoj, h3]
      rfl
    have hget : a.tmps[d]? = some (a.tmps.getD d undef) := by
      have : d < a.tmps.size := by omega
      simp [this]
    rw [h6, chainB_cons]
    unfold Region.wanted
    rw [h1]
    simp only
    rw [hyl, hget]
    rcases hS d hub with ⟨m, rm, ⟨q1, q2, q3, q4⟩, q5, q6, q7⟩ | ⟨q1, _⟩
    · have : m = j := by
        have hmi := (hag d hlook m q1 q3).1 q2
        apply Classical.byContradiction
        intro hn
        by_cases hlt : m < j
        · exact q4 j hlt (by omega) hDj hdj
        · exact hlast m (by omega) hmi q3
      subst this
      rw [hrj] at q5
      cases q5
      cases hc : chainB s'.rs tj.ch with
      | true =>
        have hv := q6 (guard_true.2 hc)
        rw [h4] at hv
        rw [repBool hv]
        unfold litB
        simp only [hbool, Bool.and_true]
        cases wt <;> cases b <;> rfl
      | false =>
        rw [q7 (guard_false.2 hc)]
        simp [undef]
    · exact absurd hdj (q1 j (by omega) hDj)
theorem args_rep (hL : Linked P base ops.toList s₀ ts s') (h0 : s₀.rs = []) {i : Nat} {o : Oper} {t : TI} (ho : ops[i]? = some o) (ht : ts[i]? = some t) {D : Nat → Bool} {a : Act} {w : World} {ow : Nat → Owner} {bx : Bx}
    (hS : SlotsD ow bx w base s'.rs ts.length D a) (hsz : a.tmps.size = base.length) (hag : ∀ u ∈ o.looksAt ops, ∀ k, k < ts.length → dstAt s'.rs k = some u → (D k = true ↔ k < i)) (hch : chainB s'.rs t.ch = true) :
    Args ow bx w (argE base t.s.rs t.ch o.op) a.eval o.op := by
  obtain ⟨hr, hl, more, hm⟩ := rec_at hL h0 ho ht
  have hlook : ∀ x ∈ o.op.operands, ∀ u, x = .tmp u → u ∈ o.looksAt ops := by
    intro x hx u he
    subst he
    unfold Oper.looksAt
    exact List.mem_append_left _ (List.mem_filterMap.2 ⟨.tmp u, by simpa using hx, rfl⟩)
  have usual : ∀ x ∈ o.op.operands, RepEV ow bx w (opdE base t.s.rs t.ch x) (a.eval x) := fun x hx => opd_rep hL h0 ho ht hS hsz hag hch x (hlook x hx)
  unfold Args
  split
  · rename_i c x y hop
    rw [hop] at usual hlook
    rw [hop]
    cases c with
    | tmp cu =>
      cases hlr : lastRec t.s.rs cu t.s.rs.length with
      | none =>
        unfold argE
        simp only [hlr]
        exact ⟨usual (.tmp cu) (by simp [Op.operands]), fun b _ => ⟨fun _ => usual x (by simp [Op.operands]), fun _ => usual y (by simp [Op.operands])⟩⟩
      | some jr =>
        obtain ⟨j, rj⟩ := jr
        have hcs : RepEV ow bx w (lookE base t.s.rs t.ch cu) (a.eval (.tmp cu)) := usual (.tmp cu) (by simp [Op.operands])
        obtain ⟨k1, k2, k3, k4⟩ := (lastRec_spec t.s.rs cu t.s.rs.length).1 j rj hlr
        have hA : argE base t.s.rs t.ch (.pick (.tmp cu) x y) (.tmp cu) = lookE base t.s.rs t.ch cu := by
          unfold argE
          simp only [hlr, Nat.beq_refl]
        refine ⟨by rw [hA]; exact hcs, fun b hb => ?_⟩
        rw [hA] at hb
        -- the value of the guard
        have hbj : boolAt s'.rs j = b := by
          unfold lookE at hb
          rw [hlr] at hb
          simp only at hb
          split at hb
          · unfold boolAt recAt
            rw [hm, List.getElem?_append_left k1, k2]
            simp [hb]
          · cases hb
        have look : ∀ (v : Operand) (wt : Bool), v ∈ o.op.operands → b = wt → ∀ u, v = .tmp u → RepEV ow bx w (lookE base t.s.rs ((j, wt) :: t.ch) u) (a.eval (.tmp u)) := by
          intro v wt hv hbw u hu
          refine look_rep hL h0 ho ht hS hsz (hag u (by rw [hop] at hv; exact hlook v hv u hu)) ?_
          rw [chainB_cons, hch, Bool.and_true]
          unfold litB
          simp only [hbj, hbw]
          cases wt <;> rfl
        have opx : ∀ (v : Operand) (wt : Bool), v ∈ o.op.operands → b = wt → (x = v ∧ wt = true ∨ y = v ∧ wt = false) → RepEV ow bx w (argE base t.s.rs t.ch (.pick (.tmp cu) x y) v) (a.eval v) := by
          intro v wt hv hbw hxy
          unfold argE
          simp only [hlr]
          cases v with
          | tmp u =>
            simp only
            split
            · exact usual (.tmp u) (by rw [hop] at hv; exact hv)
            · split
              · rename_i t'' cc
                split
                · rename_i hb2
                  have := Nat.eq_of_beq_eq_true hb2
                  subst this
                  rcases hxy with ⟨_, hw⟩ | ⟨h, _⟩
                  · subst hw; exact look _ true hv hbw u rfl
                  · cases h
                · exact .undef _
              · rename_i cc t''
                split
                · rename_i hb2
                  have := Nat.eq_of_beq_eq_true hb2
                  subst this
                  rcases hxy with ⟨h, _⟩ | ⟨_, hw⟩
                  · cases h
                  · subst hw; exact look _ false hv hbw u rfl
                · exact .undef _
              · exact .undef _
          | const cc => exact usual (.const cc) (by rw [hop] at hv; exact hv)
          | global gg => exact usual (.global gg) (by rw [hop] at hv; exact hv)
          | func ff => exact usual (.func ff) (by rw [hop] at hv; exact hv)
        exact ⟨fun ht => opx x true (by rw [hop]; simp [Op.operands]) ht (.inl ⟨rfl, rfl⟩), fun hf => opx y false (by rw [hop]; simp [Op.operands]) hf (.inr ⟨rfl, rfl⟩)⟩
    | const v => exact ⟨usual (.const v) (by simp [Op.operands]), fun b _ => ⟨fun _ => usual x (by simp [Op.operands]), fun _ => usual y (by simp [Op.operands])⟩⟩
    | global g => exact ⟨usual (.global g) (by simp [Op.operands]), fun b _ => ⟨fun _ => usual x (by simp [Op.operands]), fun _ => usual y (by simp [Op.operands])⟩⟩
    | func f => exact ⟨usual (.func f) (by simp [Op.operands]), fun b _ => ⟨fun _ => usual x (by simp [Op.operands]), fun _ => usual y (by simp [Op.operands])⟩⟩
  · rename_i hnp
    have : argE base t.s.rs t.ch o.op = opdE base t.s.rs t.ch := by
      unfold argE
      split
      · rename_i c a b hop
        exact absurd hop (hnp _ _ _)
      · rfl
    rw [this]
    exact usual
end
end Go.Proofs.Ytbgdgpdfaebniaa
