/- A region in which calls, new variables and stores come up in any order. No program in sight. -/
import Derived.Test.YtbpadfmdjgjjlaaRow
set_option linter.unusedSimpArgs false
set_option linter.unusedVariables false
namespace Go.Proofs.Ytbpadfmdjgjjlaa
open Go.RowKit
/-- What kind of operation: quiet; a new variable; a store of a whole row into the variable that operation i has made; a store into a variable of old; one that asks nothing of the world. -/
inductive Kd where
  | q
  | a
  | s (i : Nat)
  | o
  | f
  deriving DecidableEq
/-- What an operation does. -/
inductive Mix where
  | quiet (v : Value)
  | alloc (p : Tmp) (T : TypeId) (Z : Array Value)
  | store (i : Nat) (V : Array Value)
  | old (b : Nat) (V : Array Value)
def Mix.val (b : Nat) : Mix → Value
  | .quiet v => v
  | .alloc _ _ _ => .pointer (some ⟨b, 0, none⟩)
  | .store _ _ => undef
  | .old _ _ => undef
def Mix.lex : Mix → Value
  | .quiet v => v
  | _ => undef
section
variable {P : Program} {ops : Array Oper}
/-- Which operation writes a temporary. -/
def writer (ops : Array Oper) (t : Tmp) : Option Nat := (List.range ops.size).find? fun j => (ops[j]?).bind (·.dst) == some t
def predOf (ops : Array Oper) (i j : Nat) : Bool := match ops[j]? with | some o => o.after.any fun e => Region.binds .any e && e.on == i | none => false
/-- Operation k waits for operation j, over at most so many edges. -/
def reach (ops : Array Oper) : Nat → Nat → Nat → Bool
  | 0, _, _ => false
  | f + 1, j, k => predOf ops j k || (List.range k).any fun m => predOf ops m k && reach ops f j m
/-- The bare frame of such a region. -/
def mixB (ops : Array Oper) (ks : List Kd) : Bool :=
  Region.noSelect ops && decide (ks.length = ops.size) &&
  (List.range ops.size).all (fun j => match ops[j]? with
    | some o =>
      (o.after.all fun e => !Region.binds .any e || decide (e.on < j)) &&
      (match o.dst with | some d => writer ops d == some j | none => true) &&
      (o.looksAt ops).all fun t => match writer ops t with
        | some i => predOf ops i j && (ks[i]? != some .a || (match ks[j]? with | some (.s k) => k == i | _ => false))
        | none => true
    | none => true) &&
  (List.range ops.size).all fun j => match ks[j]? with
    | some (.s i) => (List.range ops.size).all fun j' => ks[j']? != some (.s i) || j' == j
    | some .o => (List.range ops.size).all fun j' => (ks[j']? != some .o || j' == j) && (ks[j']? != some .q || reach ops j j' j)
    | _ => true
def quietOK (P : Program) (ops : Array Oper) (w : World) (o : Oper) (v : Value) (a : Act) : Prop :=
  if Region.wanted o (yielded ops a.tmps) = true then ∀ x, lateUpon P v (more w x) ((execOp a.eval o).run P (more w x)) else v = undef
def allocOK (P : Program) (o : Oper) (p : Tmp) (T : TypeId) (Z : Array Value) : Prop :=
  o.guard = none ∧ o.dst = some p ∧ ∀ (ρ : Operand → Value) (w' : World), (execOp ρ o).run P w' = .ok (.value (.pointer (some ⟨w'.heap.size, 0, none⟩))) (w'.alloc (.cells Z T))
def storeOK (P : Program) (ops : Array Oper) (acc : List Mix) (i : Nat) (V : Array Value) (o : Oper) (a : Act) : Prop :=
  o.guard = none ∧ o.dst = none ∧ ∃ ty p y T Z, o.op = .store ty (.tmp p) y ∧ acc[i]? = some (.alloc p T Z) ∧ y ≠ .tmp p ∧ a.eval y = .agg V ∧ V.size = Z.size ∧ oneCells V ∧ (P.info? ty).map (·.size) = some Z.size ∧ p < a.tmps.size
def freeOK (P : Program) (o : Oper) (v : Value) (a : Act) : Prop := o.guard = none ∧ ∀ W, (execOp a.eval o).run P W = .ok (.value v) W
def oldOK (P : Program) (w : World) (b : Nat) (V : Array Value) (o : Oper) (a : Act) : Prop :=
  o.guard = none ∧ o.dst = none ∧ ∃ ty x y c0 T, o.op = .store ty x y ∧ a.eval x = .pointer (some ⟨b, 0, none⟩) ∧ a.eval y = .agg V ∧ Blk w b c0 T ∧ V.size = c0.size ∧ oneCells V ∧ (P.info? ty).map (·.size) = some c0.size
def wpMix (P : Program) (ops : Array Oper) (w : World) (F : List Mix → Act → Prop) : List Kd → List Mix → List Oper → Act → Prop
  | _, acc, [], a => F acc a
  | .q :: ks, acc, o :: rest, a => ∃ v, quietOK P ops w o v a ∧ wpMix P ops w F ks (acc ++ [.quiet v]) rest (a.put o.dst v)
  | .a :: ks, acc, o :: rest, a => ∃ p T Z, allocOK P o p T Z ∧ wpMix P ops w F ks (acc ++ [.alloc p T Z]) rest (a.put o.dst undef)
  | .s i :: ks, acc, o :: rest, a => ∃ V, storeOK P ops acc i V o a ∧ wpMix P ops w F ks (acc ++ [.store i V]) rest (a.put o.dst undef)
  | .o :: ks, acc, o :: rest, a => ∃ b V, oldOK P w b V o a ∧ wpMix P ops w F ks (acc ++ [.old b V]) rest (a.put o.dst undef)
  | .f :: ks, acc, o :: rest, a => ∃ v, freeOK P o v a ∧ wpMix P ops w F ks (acc ++ [.quiet v]) rest (a.put o.dst v)
  | [], _, _ :: _, _ => False
/-- What holds of operation j, by its kind, in the act in which the text comes to it. -/
def mixAt (P : Program) (ops : Array Oper) (w : World) (ms : List Mix) (j : Nat) (o : Oper) (a : Act) : Kd → Mix → Prop
  | .q, .quiet v => quietOK P ops w o v a
  | .a, .alloc p T Z => allocOK P o p T Z
  | .s i, .store i' V => i' = i ∧ i < j ∧ storeOK P ops ms i V o a
  | .o, .old b V => oldOK P w b V o a
  | .f, .quiet v => freeOK P o v a
  | _, _ => False
def lexAct (ops : Array Oper) (ms : List Mix) (a0 : Act) : Nat → Act
  | 0 => a0
  | k + 1 => match ops[k]?, ms[k]? with
    | some o, some m => (lexAct ops ms a0 k).put o.dst m.lex
    | _, _ => lexAct ops ms a0 k
theorem lexAct_congr {ms ms' : List Mix} {a0 : Act} : ∀ k, (∀ j, j < k → ms[j]? = ms'[j]?) → lexAct ops ms a0 k = lexAct ops ms' a0 k := by
  intro k
  induction k with
  | zero => intro _; rfl
  | succ k ih =>
    intro h
    unfold lexAct
    rw [ih (fun j hj => h j (by omega)), h k (by omega)]
theorem mix_unroll {w : World} {F : List Mix → Act → Prop} {a0 : Act} {ks0 : List Kd} : ∀ (l : List Oper) (ks : List Kd) (acc : List Mix) (a : Act),
    (∀ j, l[j]? = ops[acc.length + j]?) → (∀ j, ks[j]? = ks0[acc.length + j]?) → a = lexAct ops acc a0 acc.length →
    (∀ j o m k, j < acc.length → ops[j]? = some o → acc[j]? = some m → ks0[j]? = some k → mixAt P ops w acc j o (lexAct ops acc a0 j) k m) →
    wpMix P ops w F ks acc l a →
    ∃ ms : List Mix, ms.length = acc.length + l.length ∧ F ms (lexAct ops ms a0 ms.length) ∧ ∀ j o m k, ops[j]? = some o → ms[j]? = some m → ks0[j]? = some k → mixAt P ops w ms j o (lexAct ops ms a0 j) k m := by
  intro l
  induction l with
  | nil =>
    intro ks acc a hl _ ha hacc h
    have hF : F acc a := by unfold wpMix at h; cases ks <;> exact h
    refine ⟨acc, by simp, by rw [← ha]; exact hF, fun j o m k ho hm hk => hacc j o m k ?_ ho hm hk⟩
    exact (List.getElem?_eq_some_iff.1 hm).1
  | cons o l ih =>
    intro ks acc a hl hks ha hacc h
    have h0 : ops[acc.length]? = some o := by simpa using (hl 0).symm
    have hl' : ∀ m : Mix, ∀ j, l[j]? = ops[(acc ++ [m]).length + j]? := fun m j => by
      have := hl (j + 1)
      simpa [Nat.add_assoc, Nat.add_comm 1 j] using this
    have step : ∀ (k : Kd) (ks' : List Kd) (m : Mix), ks = k :: ks' → (∀ ms', (∀ j, j < acc.length → ms'[j]? = acc[j]?) → mixAt P ops w ms' acc.length o a k m) → wpMix P ops w F ks' (acc ++ [m]) l (a.put o.dst m.lex) →
        ∃ ms : List Mix, ms.length = acc.length + (o :: l).length ∧ F ms (lexAct ops ms a0 ms.length) ∧ ∀ j o m k, ops[j]? = some o → ms[j]? = some m → ks0[j]? = some k → mixAt P ops w ms j o (lexAct ops ms a0 j) k m := by
      intro k ks' m hk hm hw
      subst hk
      have hks' : ∀ j, ks'[j]? = ks0[(acc ++ [m]).length + j]? := fun j => by
        have := hks (j + 1)
        simpa [Nat.add_assoc, Nat.add_comm 1 j] using this
      have hk0 : ks0[acc.length]? = some k := by simpa using (hks 0).symm
      have hlex : ∀ j, j ≤ acc.length → lexAct ops (acc ++ [m]) a0 j = lexAct ops acc a0 j := fun j hj => lexAct_congr j fun i hi => by rw [List.getElem?_append_left (by omega)]
      have ha' : a.put o.dst m.lex = lexAct ops (acc ++ [m]) a0 (acc ++ [m]).length := by
        simp only [List.length_append, List.length_cons, List.length_nil, Nat.zero_add]
        unfold lexAct
        rw [h0, hlex _ (Nat.le_refl _), ha]
        simp
      have key : ∀ j o' m' k', j < (acc ++ [m]).length → ops[j]? = some o' → (acc ++ [m])[j]? = some m' → ks0[j]? = some k' → mixAt P ops w (acc ++ [m]) j o' (lexAct ops (acc ++ [m]) a0 j) k' m' := by
        intro j o' m' k' hj ho hm' hk'
        by_cases hja : j < acc.length
        · have hm2 : acc[j]? = some m' := by rw [← hm', List.getElem?_append_left hja]
          have := hacc j o' m' k' hja ho hm2 hk'
          rw [hlex j (by omega)]
          revert this
          cases k' <;> cases m' <;> simp only [mixAt] <;> try exact id
          rintro ⟨e1, e2, g1, g2, ty, p, y, T, Z, r⟩
          refine ⟨e1, e2, g1, g2, ty, p, y, T, Z, ?_⟩
          rw [List.getElem?_append_left (by omega)]
          exact r
        · have hj' : j = acc.length := by simp at hj; omega
          subst hj'
          have hm2 : m' = m := by simpa using hm'.symm
          have ho2 : o' = o := Option.some.inj (ho.symm.trans h0)
          have hk2 : k' = k := Option.some.inj (hk'.symm.trans hk0)
          subst hm2 ho2 hk2
          rw [hlex _ (Nat.le_refl _), ← ha]
          exact hm _ fun j hj => List.getElem?_append_left hj
      obtain ⟨ms, h1, h2, h3⟩ := ih ks' (acc ++ [m]) _ (hl' m) hks' ha' key hw
      exact ⟨ms, by simp at h1 ⊢; omega, h2, h3⟩
    cases ks with
    | nil => exact h.elim
    | cons k ks' =>
      cases k with
      | q =>
        obtain ⟨v, h1, h2⟩ := h
        exact step .q ks' (.quiet v) rfl (fun _ _ => h1) h2
      | a =>
        obtain ⟨p, T, Z, h1, h2⟩ := h
        exact step .a ks' (.alloc p T Z) rfl (fun _ _ => h1) h2
      | o =>
        obtain ⟨b, V, h1, h2⟩ := h
        exact step .o ks' (.old b V) rfl (fun _ _ => h1) h2
      | f =>
        obtain ⟨v, h1, h2⟩ := h
        exact step .f ks' (.quiet v) rfl (fun _ _ => h1) h2
      | s i =>
        obtain ⟨V, h1, h2⟩ := h
        obtain ⟨g1, g2, ty, p, y, T, Z, r1, r2, r3⟩ := h1
        have hi : i < acc.length := (List.getElem?_eq_some_iff.1 r2).1
        exact step (.s i) ks' (.store i V) rfl (fun ms' hms => ⟨rfl, hi, g1, g2, ty, p, y, T, Z, r1, by rw [hms i hi]; exact r2, r3⟩) h2
/-! ### What stands in the slots -/
/-- Operation j has written val j, if it is in S. -/
def curTmp (ops : Array Oper) (val : Nat → Value) (S : Nat → Bool) (a0 : Act) (t : Tmp) : Value :=
  match writer ops t with | some j => if S j = true then val j else a0.tmps.getD t undef | none => a0.tmps.getD t undef
def IsAct (ops : Array Oper) (val : Nat → Value) (S : Nat → Bool) (a0 a : Act) : Prop :=
  a.defers = a0.defers ∧ a.tmps.size = a0.tmps.size ∧ ∀ t, t < a0.tmps.size → a.tmps[t]? = some (curTmp ops val S a0 t)
theorem writer_spec {t : Tmp} {j : Nat} (h : writer ops t = some j) : j < ops.size ∧ ∃ o, ops[j]? = some o ∧ o.dst = some t := by
  unfold writer at h
  have h1 := List.find?_some h
  have h2 := List.mem_of_find?_eq_some h
  refine ⟨List.mem_range.1 h2, ?_⟩
  cases ho : ops[j]? with
  | none => simp [ho] at h1
  | some o => exact ⟨o, rfl, by simpa [ho] using h1⟩
theorem IsAct.unique {val : Nat → Value} {S : Nat → Bool} {a0 a b : Act} (h : IsAct ops val S a0 a) (h' : IsAct ops val S a0 b) : a = b := by
  obtain ⟨h1, h2, h3⟩ := h
  obtain ⟨g1, g2, g3⟩ := h'
  have : a.tmps = b.tmps := by
    apply Array.ext_getElem?
    intro t
    rcases Nat.lt_or_ge t a0.tmps.size with ht | ht
    · rw [h3 t ht, g3 t ht]
    · rw [Array.getElem?_eq_none (by omega), Array.getElem?_eq_none (by omega)]
  cases a; cases b
  simp_all
theorem IsAct.congr {val val' : Nat → Value} {S S' : Nat → Bool} {a0 a : Act} (h : IsAct ops val S a0 a) (he : ∀ j t, writer ops t = some j → S j = S' j ∧ (S j = true → val j = val' j)) : IsAct ops val' S' a0 a := by
  refine ⟨h.1, h.2.1, fun t ht => ?_⟩
  rw [h.2.2 t ht]
  congr 1
  unfold curTmp
  cases hw : writer ops t with
  | none => rfl
  | some j =>
    obtain ⟨h1, h2⟩ := he j t hw
    simp only
    by_cases hS : S j = true
    · rw [if_pos hS, if_pos (by rw [← h1]; exact hS), h2 hS]
    · rw [if_neg hS, if_neg (by rw [← h1]; exact hS)]
theorem IsAct.put {val : Nat → Value} {S : Nat → Bool} {a0 a : Act} {j : Nat} {o : Oper} (h : IsAct ops val S a0 a) (ho : ops[j]? = some o) (hw : ∀ d, o.dst = some d → writer ops d = some j) (v : Value) (val' : Nat → Value) (S' : Nat → Bool)
    (hv : o.dst ≠ none → val' j = v) (hj : S' j = true) (he : ∀ i, i ≠ j → S' i = S i ∧ (S i = true → val' i = val i)) : IsAct ops val' S' a0 (a.put o.dst v) := by
  obtain ⟨h1, h2, h3⟩ := h
  cases hd : o.dst with
  | none =>
    refine IsAct.congr (val := val) (S := S) ⟨h1, h2, h3⟩ fun i t hwi => ?_
    have hij : i ≠ j := by
      rintro rfl
      obtain ⟨_, o', ho', hd'⟩ := writer_spec hwi
      rw [ho] at ho'; cases ho'
      rw [hd] at hd'; cases hd'
    exact ⟨(he i hij).1.symm, fun hS => ((he i hij).2 hS).symm⟩
  | some d =>
    refine ⟨h1, by simp [Act.put, h2], fun t ht => ?_⟩
    simp only [Act.put, Array.getElem?_setIfInBounds]
    by_cases hdt : d = t
    · subst hdt
      rw [if_pos rfl, if_pos (by omega)]
      unfold curTmp
      rw [hw d hd]
      simp only [hj, if_true, hv (by simp [hd])]
    · rw [if_neg hdt, h3 t ht]
      congr 1
      unfold curTmp
      cases hwt : writer ops t with
      | none => rfl
      | some i =>
        have hij : i ≠ j := by
          rintro rfl
          obtain ⟨_, o', ho', hd'⟩ := writer_spec hwt
          rw [ho] at ho'; cases ho'
          rw [hd] at hd'; cases hd'; exact hdt rfl
        obtain ⟨e1, e2⟩ := he i hij
        simp only [e1]
        by_cases hS : S i = true
        · rw [if_pos hS, if_pos hS, e2 hS]
        · rw [if_neg hS, if_neg hS]
theorem isAct_start (val : Nat → Value) (a0 : Act) : IsAct ops val (fun _ => false) a0 a0 := by
  refine ⟨rfl, rfl, fun t ht => ?_⟩
  have : curTmp ops val (fun _ => false) a0 t = a0.tmps.getD t undef := by unfold curTmp; split <;> simp
  rw [this]
  simp [ht]
/-- Two acts that agree on what an operation looks at. -/
theorem op_same {o : Oper} {a b : Act} (hs : ∀ cs b, o.op ≠ .select cs b) (h : ∀ t ∈ o.looksAt ops, a.tmps[t]? = b.tmps[t]?) :
    execOp a.eval o = execOp b.eval o ∧ Region.wanted o (yielded ops a.tmps) = Region.wanted o (yielded ops b.tmps) := by
  refine ⟨execOp_congr o hs fun x hx => ?_, ?_⟩
  · cases x with
    | tmp t =>
      have := h t (List.mem_append_left _ (List.mem_filterMap.2 ⟨.tmp t, by simpa using hx, rfl⟩))
      simp only [Act.eval, Array.getD_eq_getD_getElem?, this]
    | _ => rfl
  · unfold Region.wanted
    cases hg : o.guard with
    | none => rfl
    | some gw =>
      obtain ⟨g, want⟩ := gw
      have hy : yielded ops a.tmps g = yielded ops b.tmps g := by
        unfold yielded
        cases ht : (ops[g]?).bind (·.dst) with
        | none => rfl
        | some t =>
          have := h t (by simp [Oper.looksAt, hg, ht])
          simp only [Option.bind_some, this]
      simp only [hy]
def lexVal (ms : List Mix) (j : Nat) : Value := match ms[j]? with | some m => m.lex | none => undef
def realVal (ms : List Mix) (adr : Nat → Nat) (j : Nat) : Value := match ms[j]? with | some m => m.val (adr j) | none => undef
/-- The new variables' addresses are laid into the slots. -/
def finMix (adr : Nat → Nat) : Nat → List Mix → Act → Act
  | _, [], a => a
  | j, .alloc p _ _ :: r, a => finMix adr (j + 1) r (a.put (some p) (.pointer (some ⟨adr j, 0, none⟩)))
  | j, _ :: r, a => finMix adr (j + 1) r a
/-- What holds of the variables that are made, once all is done. -/
def Made (w : World) (ms : List Mix) (adr : Nat → Nat) (S : Nat → Bool) (w' : World) : Prop :=
  Below w.heap.size w w' ∧
  (∀ j p T Z, ms[j]? = some (.alloc p T Z) → S j = true → w.heap.size ≤ adr j ∧ ∃ c, Blk w' (adr j) c T ∧ c.size = Z.size ∧
    (∀ k V, ms[k]? = some (.store j V) → S k = true → c = V) ∧ ((∀ k V, ms[k]? = some (.store j V) → S k = false) → c = Z)) ∧
  (∀ j p T Z j' p' T' Z', ms[j]? = some (.alloc p T Z) → ms[j']? = some (.alloc p' T' Z') → S j = true → S j' = true → adr j = adr j' → j = j') ∧
  (∀ k i V, ms[k]? = some (.store i V) → S k = true → S i = true)
theorem blk_lt {w : World} {b : Nat} {c : Array Value} {t : TypeId} (h : Blk w b c t) : b < w.heap.size := by
  unfold Blk at h
  rcases Nat.lt_or_ge b w.heap.size with h' | h'
  · exact h'
  · rw [Array.getElem?_eq_none h'] at h; cases h
theorem Made.later {w w' : World} {ms : List Mix} {adr : Nat → Nat} {S S' : Nat → Bool} (h : Made w ms adr S w') {w'' : World} (hl : Later w' w'')
    (hS : ∀ j m, ms[j]? = some m → (∀ v, m ≠ .quiet v) → S' j = S j) (hmono : ∀ j, S j = true → S' j = true) : Made w ms adr S' w'' := by
  obtain ⟨x, rfl⟩ := hl
  obtain ⟨h1, h2, h3, h4⟩ := h
  refine ⟨below_more h1 h1.size x, fun j p T Z hj hSj => ?_, fun j p T Z j' p' T' Z' hj hj' hSj hSj' => ?_, fun k i V hk hSk => hmono i (h4 k i V hk (by rw [← hS k _ hk (by simp)]; exact hSk))⟩
  · rw [hS j _ hj (by simp)] at hSj
    obtain ⟨g1, c, g2, g3, g4, g5⟩ := h2 j p T Z hj hSj
    refine ⟨g1, c, by rw [blk_more _ _ _ _ _ (blk_lt g2)]; exact g2, g3, fun k V hk hSk => g4 k V hk (by rw [← hS k _ hk (by simp)]; exact hSk), fun hk => g5 fun k V hk' => by rw [← hS k _ hk' (by simp)]; exact hk k V hk'⟩
  · rw [hS j _ hj (by simp)] at hSj
    rw [hS j' _ hj' (by simp)] at hSj'
    exact h3 j p T Z j' p' T' Z' hj hj' hSj hSj'
theorem Made.alloc {w w' : World} {ms : List Mix} {adr : Nat → Nat} {S S' : Nat → Bool} (h : Made w ms adr S w') {i : Nat} {p : Tmp} {T : TypeId} {Z : Array Value} (hi : ms[i]? = some (.alloc p T Z)) (hun : S i = false)
    (hSi : S' i = true) (hS : ∀ j, j ≠ i → S' j = S j) : Made w ms (fun j => if j = i then w'.heap.size else adr j) S' (w'.alloc (.cells Z T)) := by
  obtain ⟨h1, h2, h3, h4⟩ := h
  have hst : ∀ k j V, ms[k]? = some (.store j V) → S' k = S k := fun k j V hk => hS k (by rintro rfl; rw [hi] at hk; cases hk)
  refine ⟨h1.alloc h1.size _, fun j q T' Z' hj hSj => ?_, fun j q T1 Z1 j' q' T2 Z2 hj hj' hSj hSj' => ?_, fun k j V hk hSk => ?_⟩
  · by_cases hji : j = i
    · subst hji
      rw [hi] at hj
      cases hj
      simp only [if_true]
      refine ⟨h1.size, Z, blk_at _ _ _ _ rfl, rfl, fun k V hk hSk => ?_, fun _ => rfl⟩
      rw [hst k _ V hk] at hSk
      rw [h4 k _ V hk hSk] at hun
      cases hun
    · simp only [if_neg hji]
      rw [hS j hji] at hSj
      obtain ⟨g1, c, g2, g3, g4, g5⟩ := h2 j q T' Z' hj hSj
      exact ⟨g1, c, by rw [blk_past _ _ _ _ _ (blk_lt g2)]; exact g2, g3, fun k V hk hSk => g4 k V hk (by rw [← hst k _ V hk]; exact hSk), fun hk => g5 fun k V hk' => by rw [← hst k _ V hk']; exact hk k V hk'⟩
  · by_cases hji : j = i <;> by_cases hji' : j' = i
    · intro _; rw [hji, hji']
    · rw [hS j' hji'] at hSj'
      obtain ⟨_, c, g2, _⟩ := h2 j' q' T2 Z2 hj' hSj'
      have := blk_lt g2
      simp only [hji, hji', if_true, if_false]
      omega
    · rw [hS j hji] at hSj
      obtain ⟨_, c, g2, _⟩ := h2 j q T1 Z1 hj hSj
      have := blk_lt g2
      simp only [hji, hji', if_true, if_false]
      omega
    · simp only [if_neg hji, if_neg hji']
      rw [hS j hji] at hSj
      rw [hS j' hji'] at hSj'
      exact h3 j q T1 Z1 j' q' T2 Z2 hj hj' hSj hSj'
  · rw [hst k j V hk] at hSk
    have := h4 k j V hk hSk
    by_cases hji : j = i
    · rw [hji]; exact hSi
    · rw [hS j hji]; exact this
theorem Made.store {w w' : World} {ms : List Mix} {adr : Nat → Nat} {S S' : Nat → Bool} (h : Made w ms adr S w') {i k : Nat} {p : Tmp} {T : TypeId} {Z V : Array Value} (hk : ms[k]? = some (.store i V)) (hi : ms[i]? = some (.alloc p T Z)) (hSi : S i = true) (hV : V.size = Z.size)
    (hone : ∀ k' V', ms[k']? = some (.store i V') → k' = k) (hSk : S' k = true) (hS : ∀ j, j ≠ k → S' j = S j) : Made w ms adr S' (w'.setRow (adr i) V) := by
  obtain ⟨h1, h2, h3, h4⟩ := h
  have hst : ∀ j q T Z, ms[j]? = some (.alloc q T Z) → S' j = S j := fun j q T Z hj => hS j (by rintro rfl; rw [hk] at hj; cases hj)
  obtain ⟨gi, ci, gb, gs, _, _⟩ := h2 i p T Z hi hSi
  refine ⟨below_row h1 gi V, fun j q T' Z' hj hSj => ?_, fun j q T1 Z1 j' q' T2 Z2 hj hj' hSj hSj' => ?_, fun k' j V' hk' hSk' => ?_⟩
  · by_cases hji : j = i
    · subst hji
      rw [hi] at hj
      cases hj
      refine ⟨gi, V, setRow_heap w' _ _ V T _ gb, hV, fun k' V' hk' _ => ?_, fun hk' => ?_⟩
      · have := hone k' V' hk'
        subst this
        rw [hk] at hk'
        cases hk'; rfl
      · have := hk' k V hk
        rw [hSk] at this
        cases this
    · rw [hst j q T' Z' hj] at hSj
      obtain ⟨g1, c, g2, g3, g4, g5⟩ := h2 j q T' Z' hj hSj
      have hne : adr j ≠ adr i := fun e => hji (h3 j q T' Z' i p T Z hj hi hSj hSi e)
      have hkk : ∀ k' V', ms[k']? = some (.store j V') → S' k' = S k' := fun k' V' hk' => hS k' (by rintro rfl; rw [hk] at hk'; cases hk'; exact hji rfl)
      exact ⟨g1, c, by unfold Blk; rw [setRow_other w' _ _ V hne]; exact g2, g3, fun k' V' hk' hSk' => g4 k' V' hk' (by rw [← hkk k' V' hk']; exact hSk'), fun hk' => g5 fun k' V' hk2 => by rw [← hkk k' V' hk2]; exact hk' k' V' hk2⟩
  · rw [hst j q T1 Z1 hj] at hSj
    rw [hst j' q' T2 Z2 hj'] at hSj'
    exact h3 j q T1 Z1 j' q' T2 Z2 hj hj' hSj hSj'
  · by_cases hkk : k' = k
    · subst hkk
      rw [hk] at hk'
      cases hk'
      rw [hst i p T Z hi]; exact hSi
    · rw [hS k' hkk] at hSk'
      have hij := h4 k' j V' hk' hSk'
      by_cases hjk : j = k
      · rw [hjk]; exact hSk
      · rw [hS j hjk]; exact hij
/-! ### The frame -/
theorem mixB_spec {ks : List Kd} (h : mixB ops ks = true) : Region.noSelect ops = true ∧ ks.length = ops.size ∧
    (∀ j o, ops[j]? = some o → (∀ e ∈ o.after, Region.binds .any e = true → e.on < j) ∧ (∀ d, o.dst = some d → writer ops d = some j) ∧
      ∀ t ∈ o.looksAt ops, ∀ i : Nat, writer ops t = some i → predOf ops i j = true ∧ (ks[i]? = some Kd.a → ks[j]? = some (Kd.s i))) ∧
    (∀ j j' i : Nat, ks[j]? = some (Kd.s i) → ks[j']? = some (Kd.s i) → j' = j) ∧
    (∀ j j' : Nat, ks[j]? = some Kd.o → (ks[j']? = some Kd.o → j' = j) ∧ (ks[j']? = some Kd.q → reach ops j j' j = true)) := by
  simp only [mixB, Bool.and_eq_true, decide_eq_true_eq] at h
  obtain ⟨⟨⟨h1, h2⟩, h3⟩, h4⟩ := h
  refine ⟨h1, h2, fun j o ho => ?_, fun j j' i hj hj' => ?_, fun j j' hj => ?_⟩
  · have hj : j < ops.size := (Array.getElem?_eq_some_iff.1 ho).1
    have := List.all_eq_true.1 h3 j (List.mem_range.2 hj)
    rw [ho] at this
    simp only [Bool.and_eq_true] at this
    obtain ⟨⟨g1, g2⟩, g3⟩ := this
    refine ⟨fun e he hb => ?_, fun d hd => ?_, fun t ht i hi => ?_⟩
    · rw [← Array.all_toList] at g1
      have := List.all_eq_true.1 g1 e (Array.mem_toList_iff.2 he)
      simpa [hb] using this
    · rw [hd] at g2
      simpa using g2
    · have := List.all_eq_true.1 g3 t ht
      rw [hi] at this
      simp only [Bool.and_eq_true, Bool.or_eq_true, bne_iff_ne] at this
      refine ⟨this.1, fun hki => ?_⟩
      rcases this.2 with h | h
      · exact absurd hki h
      · split at h
        · rename_i k hk
          rw [hk]
          have : k = i := by simpa using h
          rw [this]
        · cases h
  · have hjl : j < ops.size := by have := (List.getElem?_eq_some_iff.1 hj).1; omega
    have hjl' : j' < ops.size := by have := (List.getElem?_eq_some_iff.1 hj').1; omega
    have := List.all_eq_true.1 h4 j (List.mem_range.2 hjl)
    rw [hj] at this
    have := List.all_eq_true.1 this j' (List.mem_range.2 hjl')
    simp only [Bool.or_eq_true, bne_iff_ne] at this
    rcases this with h | h
    · exact absurd hj' h
    · simpa using h
  · have hjl : j < ops.size := by have := (List.getElem?_eq_some_iff.1 hj).1; omega
    have := List.all_eq_true.1 h4 j (List.mem_range.2 hjl)
    rw [hj] at this
    refine ⟨fun hj' => ?_, fun hj' => ?_⟩
    · have hjl' : j' < ops.size := by have := (List.getElem?_eq_some_iff.1 hj').1; omega
      have := List.all_eq_true.1 this j' (List.mem_range.2 hjl')
      simp only [Bool.and_eq_true, Bool.or_eq_true, bne_iff_ne] at this
      rcases this.1 with h | h
      · exact absurd hj' h
      · simpa using h
    · have hjl' : j' < ops.size := by have := (List.getElem?_eq_some_iff.1 hj').1; omega
      have := List.all_eq_true.1 this j' (List.mem_range.2 hjl')
      simp only [Bool.and_eq_true, Bool.or_eq_true, bne_iff_ne] at this
      rcases this.2 with h | h
      · exact absurd hj' h
      · exact h
theorem lexAct_is {ms : List Mix} {a0 : Act} (hlen : ms.length = ops.size) (hw : ∀ (j : Nat) (o : Oper) d, ops[j]? = some o → o.dst = some d → writer ops d = some j) :
    ∀ k, k ≤ ops.size → IsAct ops (lexVal ms) (fun j => decide (j < k)) a0 (lexAct ops ms a0 k) := by
  intro k
  induction k with
  | zero => intro _; exact (isAct_start (lexVal ms) a0).congr fun j t _ => ⟨by simp, fun h => by cases h⟩
  | succ k ih =>
    intro hk
    have ho : ops[k]? = some (ops[k]'(by omega)) := by simp
    have hm : ms[k]? = some (ms[k]'(by omega)) := by simp
    unfold lexAct
    rw [ho, hm]
    refine (ih (by omega)).put ho (fun d hd => hw k _ d ho hd) _ _ _ (fun _ => by unfold lexVal; rw [hm]) (by simp) fun i hi => ⟨?_, fun _ => rfl⟩
    simp only [decide_eq_decide]
    omega
def hyb (ms : List Mix) (adr : Nat → Nat) (k j : Nat) : Value := if j < k then realVal ms adr j else lexVal ms j
theorem finMix_is {ms : List Mix} {a0 : Act} {adr : Nat → Nat} (hw : ∀ (j : Nat) (o : Oper) d, ops[j]? = some o → o.dst = some d → writer ops d = some j) (hd : ∀ (j : Nat) p T Z, ms[j]? = some (Mix.alloc p T Z) → ∃ o : Oper, ops[j]? = some o ∧ o.dst = some p) :
    ∀ (l : List Mix) (k : Nat) (a : Act), (∀ j, l[j]? = ms[k + j]?) → IsAct ops (hyb ms adr k) (fun _ => true) a0 a → IsAct ops (hyb ms adr (k + l.length)) (fun _ => true) a0 (finMix adr k l a) := by
  intro l
  induction l with
  | nil => intro k a _ h; exact h
  | cons m l ih =>
    intro k a hl h
    have h0 : ms[k]? = some m := by simpa using (hl 0).symm
    have hl' : ∀ j, l[j]? = ms[k + 1 + j]? := fun j => by have := hl (j + 1); simpa [Nat.add_assoc, Nat.add_comm 1 j] using this
    have hk : k + (m :: l).length = k + 1 + l.length := by simp; omega
    rw [hk]
    have hother : ∀ i, i ≠ k → hyb ms adr (k + 1) i = hyb ms adr k i := fun i hi => by
      unfold hyb
      by_cases h1 : i < k
      · rw [if_pos h1, if_pos (by omega)]
      · rw [if_neg h1, if_neg (by omega)]
    have hsame : m.val (adr k) = m.lex → IsAct ops (hyb ms adr (k + 1)) (fun _ => true) a0 a := fun hv => h.congr fun j t _ => ⟨rfl, fun _ => by
      by_cases hj : j = k
      · subst hj
        unfold hyb realVal lexVal
        rw [if_neg (by omega), if_pos (by omega), h0]
        exact hv.symm
      · exact (hother j hj).symm⟩
    cases m with
    | quiet v => exact ih (k + 1) a hl' (hsame rfl)
    | store i V => exact ih (k + 1) a hl' (hsame rfl)
    | old b V => exact ih (k + 1) a hl' (hsame rfl)
    | alloc p T Z =>
      obtain ⟨o, ho, hdst⟩ := hd k p T Z h0
      unfold finMix
      refine ih (k + 1) _ hl' ?_
      rw [← hdst]
      refine h.put ho (fun d hd' => hw k o d ho hd') _ _ _ (fun _ => ?_) rfl fun i hi => ⟨rfl, fun _ => hother i hi⟩
      unfold hyb realVal
      rw [if_pos (by omega), h0]
      rfl
theorem count_set {listed : Array Bool} {i : Nat} (h : listed.getD i true = false) : (listed.setIfInBounds i true).toList.count false < listed.toList.count false := by
  have hi : i < listed.size := by
    rcases Nat.lt_or_ge i listed.size with h' | h'
    · exact h'
    · simp [Array.getElem?_eq_none h'] at h
  have hv : listed.toList[i]'(by simpa using hi) = false := by simpa [hi] using h
  have hmem : false ∈ listed.toList := by rw [← hv]; exact List.getElem_mem _
  have hpos : 0 < listed.toList.count false := List.count_pos_iff.2 hmem
  rw [Array.toList_setIfInBounds, List.count_set (by simpa using hi), hv]
  have h1 : (if (false == false) = true then 1 else 0) = 1 := rfl
  have h2 : (if (true == false) = true then 1 else 0) = 0 := rfl
  rw [h1, h2]
  omega
theorem all_listed {listed : Array Bool} (h : listed.toList.count false = 0) : ∀ j, j < listed.size → listed.getD j false = true := by
  intro j hj
  have hn : false ∉ listed.toList := List.count_eq_zero.1 h
  cases hv : listed.getD j false with
  | true => rfl
  | false =>
    exfalso
    apply hn
    have : listed.toList[j]'(by simpa using hj) = false := by simpa [hj] using hv
    rw [← this]
    exact List.getElem_mem _
theorem ready_least (hback : ∀ j o, ops[j]? = some o → ∀ e ∈ o.after, Region.binds .any e = true → e.on < j) {listed : Array Bool} (hsz : listed.size = ops.size) : ∀ n j, j ≤ n → j < ops.size → listed.getD j true = false → Region.ready .any ops listed ≠ [] := by
  intro n
  induction n with
  | zero =>
    intro j hj hjs hun h0
    have ho : ops[j]? = some (ops[j]) := by simp
    have : j ∈ Region.ready .any ops listed := mem_ready.2 ⟨hun, _, ho, fun e he hb => by have := hback j _ ho e he hb; omega⟩
    rw [h0] at this; cases this
  | succ n ih =>
    intro j hj hjs hun h0
    have ho : ops[j]? = some (ops[j]) := by simp
    by_cases hall : ∀ e ∈ (ops[j]).after, Region.binds .any e = true → listed.getD e.on false = true
    · have : j ∈ Region.ready .any ops listed := mem_ready.2 ⟨hun, _, ho, hall⟩
      rw [h0] at this; cases this
    · simp only [Classical.not_forall] at hall
      obtain ⟨e, he, hb, hl⟩ := hall
      have hlt := hback j _ ho e he hb
      have hl' : listed.getD e.on false = false := by simpa using hl
      exact ih e.on (by omega) (by omega) (getD_in (by omega) hl') h0

/-- The world at the region's start, with the store into a variable of old if that has come up. -/
def Base (w : World) (ms : List Mix) (S : Nat → Bool) (w0 : World) : Prop :=
  (w0 = w ∧ ∀ k b V, ms[k]? = some (.old b V) → S k = false) ∨ (∃ k b V, ms[k]? = some (.old b V) ∧ S k = true ∧ w0 = w.setRow b V)
theorem reach_done {S : Nat → Bool} (h : ∀ j k, predOf ops j k = true → S k = true → S j = true) : ∀ f j k, reach ops f j k = true → S k = true → S j = true := by
  intro f
  induction f with
  | zero => intro j k hr; cases hr
  | succ f ih =>
    intro j k hr hk
    simp only [reach, Bool.or_eq_true, List.any_eq_true, Bool.and_eq_true] at hr
    rcases hr with hr | ⟨m, _, h1, h2⟩
    · exact h j k hr hk
    · exact ih j m h2 (h m k h1 hk)
theorem Made.old {w w' : World} {ms : List Mix} {adr : Nat → Nat} {S S' : Nat → Bool} (h : Made w ms adr S w') {k b : Nat} {V : Array Value} (hk : ms[k]? = some (.old b V)) (hb : b < w.heap.size) (hSk : S' k = true) (hS : ∀ j, j ≠ k → S' j = S j) :
    Made (w.setRow b V) ms adr S' (w'.setRow b V) := by
  obtain ⟨h1, h2, h3, h4⟩ := h
  have hne : ∀ j m, ms[j]? = some m → (∀ b V, m ≠ .old b V) → S' j = S j := fun j m hj hm => hS j (by rintro rfl; rw [hk] at hj; cases hj; exact hm b V rfl)
  have hb' : Below w.heap.size (w.setRow b V) (w'.setRow b V) := by
    obtain ⟨x, rfl⟩ := of_below h1
    rw [setRow_more _ _ _ _ hb]
    exact below_more (Below.refl _ _) (by simp) x
  refine ⟨by rw [setRow_size]; exact hb', fun j p T Z hj hSj => ?_, fun j p T Z j' p' T' Z' hj hj' hSj hSj' => ?_, fun k' i V' hk' hSk' => ?_⟩
  · rw [hne j _ hj (by simp)] at hSj
    obtain ⟨g1, c, g2, g3, g4, g5⟩ := h2 j p T Z hj hSj
    rw [setRow_size]
    refine ⟨g1, c, by unfold Blk; rw [setRow_other w' _ _ V (by omega)]; exact g2, g3, fun k V hk hSk => g4 k V hk (by rw [← hne k _ hk (by simp)]; exact hSk), fun hk => g5 fun k V hk' => by rw [← hne k _ hk' (by simp)]; exact hk k V hk'⟩
  · rw [hne j _ hj (by simp)] at hSj
    rw [hne j' _ hj' (by simp)] at hSj'
    exact h3 j p T Z j' p' T' Z' hj hj' hSj hSj'
  · rw [hne k' _ hk' (by simp)] at hSk'
    have := h4 k' i V' hk' hSk'
    by_cases hik : i = k
    · rw [hik]; exact hSk
    · rw [hS i hik]; exact this
/-! ### The walk -/
/-- In whatever order the operations come up. -/
theorem wpAny_mix {ks : List Kd} {ms : List Mix} {a0 : Act} {w : World} {Q : Exit → Act → World → Prop} (hB : mixB ops ks = true) (hlen : ms.length = ops.size)
    (hmix : ∀ j o m k, ops[j]? = some o → ms[j]? = some m → ks[j]? = some k → mixAt P ops w ms j o (lexAct ops ms a0 j) k m)
    (hQ : ∀ adr w0 w', Base w ms (fun _ => true) w0 → Made w0 ms adr (fun _ => true) w' → Q .normal (finMix adr 0 ms (lexAct ops ms a0 ms.length)) w') :
    ∀ (fuel : Nat) (listed : Array Bool) (a : Act) (w0 w' : World) (adr : Nat → Nat), listed.size = ops.size → listed.toList.count false ≤ fuel → (∀ j k, predOf ops j k = true → doneOf listed k = true → doneOf listed j = true) → Base w ms (doneOf listed) w0 → Made w0 ms adr (doneOf listed) w' → IsAct ops (realVal ms adr) (doneOf listed) a0 a →
      wpAny P .any ops Q fuel listed a w' := by
  obtain ⟨hsel, hklen, hfr, hone, hold⟩ := mixB_spec hB
  have hw : ∀ (j : Nat) (o : Oper) d, ops[j]? = some o → o.dst = some d → writer ops d = some j := fun j o d ho hd => (hfr j o ho).2.1 d hd
  have hkd : ∀ j m, ms[j]? = some m → ∃ o k, ops[j]? = some o ∧ ks[j]? = some k ∧ mixAt P ops w ms j o (lexAct ops ms a0 j) k m := fun j m hm => by
    have hj : j < ms.length := (List.getElem?_eq_some_iff.1 hm).1
    have ho : ops[j]? = some (ops[j]'(by omega)) := by simp
    have hk : ks[j]? = some (ks[j]'(by omega)) := by simp
    exact ⟨_, _, ho, hk, hmix j _ m _ ho hm hk⟩
  have hal : ∀ (j : Nat) p T Z, ms[j]? = some (Mix.alloc p T Z) → ks[j]? = some Kd.a ∧ ∃ o : Oper, ops[j]? = some o ∧ o.dst = some p := fun j p T Z hm => by
    obtain ⟨o, k, ho, hk, h⟩ := hkd j _ hm
    cases k with
    | a => exact ⟨hk, o, ho, h.2.1⟩
    | q => exact h.elim
    | s i => exact h.elim
    | o => exact h.elim
    | f => exact h.elim
  have hst : ∀ (j : Nat) i V, ms[j]? = some (Mix.store i V) → ks[j]? = some (Kd.s i) := fun j i V hm => by
    obtain ⟨o, k, ho, hk, h⟩ := hkd j _ hm
    cases k with
    | a => exact h.elim
    | q => exact h.elim
    | s i' => rw [hk, h.1]
    | o => exact h.elim
    | f => exact h.elim
  have hod : ∀ (j : Nat) b V, ms[j]? = some (Mix.old b V) → ks[j]? = some Kd.o := fun j b V hm => by
    obtain ⟨o, k, ho, hk, h⟩ := hkd j _ hm
    cases k with
    | a => exact h.elim
    | q => exact h.elim
    | s i' => exact h.elim
    | o => exact hk
    | f => exact h.elim
  have hend : ∀ (listed : Array Bool) (a : Act) (w0 w' : World) (adr : Nat → Nat), listed.size = ops.size → (∀ j, j < listed.size → listed.getD j false = true) → Base w ms (doneOf listed) w0 → Made w0 ms adr (doneOf listed) w' → IsAct ops (realVal ms adr) (doneOf listed) a0 a → Q .normal a w' := by
    intro listed a w0 w' adr hsz hall hBs hM hA
    have hall' : ∀ j, j < ops.size → doneOf listed j = true := fun j hj => hall j (by omega)
    have e1 : IsAct ops (realVal ms adr) (fun _ => true) a0 a := hA.congr fun j t hwr => ⟨hall' j (writer_spec hwr).1, fun _ => rfl⟩
    have e2 : IsAct ops (hyb ms adr 0) (fun _ => true) a0 (lexAct ops ms a0 ms.length) := by
      rw [hlen]
      refine (lexAct_is hlen hw ops.size (Nat.le_refl _)).congr fun j t hwr => ⟨by simpa using (writer_spec hwr).1, fun _ => rfl⟩
    have e3 := finMix_is (adr := adr) hw (fun j p T Z hm => (hal j p T Z hm).2) ms 0 _ (fun j => by rw [Nat.zero_add]) e2
    have e4 : IsAct ops (realVal ms adr) (fun _ => true) a0 (finMix adr 0 ms (lexAct ops ms a0 ms.length)) := e3.congr fun j t hwr => ⟨rfl, fun _ => by
      unfold hyb
      rw [if_pos (by have := (writer_spec hwr).1; omega)]⟩
    rw [e1.unique e4]
    have hB' : Base w ms (fun _ => true) w0 := by
      rcases hBs with ⟨e, h⟩ | ⟨k, b, V, h1, h2, h3⟩
      · refine .inl ⟨e, fun k b V hk => ?_⟩
        have := h k b V hk
        rw [hall' k (by have := (List.getElem?_eq_some_iff.1 hk).1; omega)] at this
        cases this
      · exact .inr ⟨k, b, V, h1, rfl, h3⟩
    refine hQ adr w0 w' hB' (hM.later (later_refl _) (fun j m hm _ => ?_) fun _ _ => rfl)
    exact (hall' j (by have := (List.getElem?_eq_some_iff.1 hm).1; omega)).symm
  intro fuel
  induction fuel with
  | zero =>
    intro listed a w0 w' adr hsz hc hCl hBs hM hA
    have hall := all_listed (listed := listed) (by omega)
    refine ⟨?_, hend listed a w0 w' adr hsz hall hBs hM hA⟩
    apply List.eq_nil_iff_forall_not_mem.2
    intro j hj
    obtain ⟨hun, o, ho, _⟩ := mem_ready.1 hj
    have hj' : j < ops.size := (Array.getElem?_eq_some_iff.1 ho).1
    have := hall j (by omega)
    rw [getD_both hun] at this
    cases this
  | succ fuel ih =>
    intro listed a w0 w' adr hsz hc hCl hBs hM hA
    refine ⟨fun h0 => ?_, fun i hi => ?_⟩
    · refine hend listed a w0 w' adr hsz (fun j hj => ?_) hBs hM hA
      cases hv : listed.getD j false with
      | true => rfl
      | false => exact absurd h0 (ready_least (fun j o ho => (hfr j o ho).1) hsz j j (Nat.le_refl _) (by omega) (getD_in hj hv))
    · obtain ⟨hun, o, ho, hall⟩ := mem_ready.1 hi
      have hio : i < ops.size := (Array.getElem?_eq_some_iff.1 ho).1
      have hm : ms[i]? = some (ms[i]'(by omega)) := by simp
      have hk : ks[i]? = some (ks[i]'(by omega)) := by simp
      generalize ms[i]'(by omega) = m at hm
      generalize ks[i]'(by omega) = k at hk
      have hx := hmix i o m k ho hm hk
      obtain ⟨hback, hdst, hlook⟩ := hfr i o ho
      have hpred : ∀ t ∈ o.looksAt ops, ∀ j, writer ops t = some j → j < i ∧ doneOf listed j = true := by
        intro t ht j hj
        obtain ⟨hp, _⟩ := hlook t ht j hj
        unfold predOf at hp
        rw [ho] at hp
        simp only [← Array.any_toList] at hp
        obtain ⟨e, he, hbe⟩ := List.any_eq_true.1 hp
        simp only [Bool.and_eq_true, beq_iff_eq] at hbe
        obtain ⟨hb, rfl⟩ := hbe
        have he' := Array.mem_toList_iff.1 he
        exact ⟨hback e he' hb, hall e he' hb⟩
      have hL := lexAct_is (a0 := a0) hlen hw i (by omega)
      have hlook' : ∀ t ∈ o.looksAt ops, (∀ j, writer ops t = some j → ks[j]? ≠ some Kd.a) → a.tmps[t]? = (lexAct ops ms a0 i).tmps[t]? := by
        intro t ht hna
        rcases Nat.lt_or_ge t a0.tmps.size with hlt | hge
        · rw [hA.2.2 t hlt, hL.2.2 t hlt]
          congr 1
          unfold curTmp
          cases hwr : writer ops t with
          | none => rfl
          | some j =>
            obtain ⟨h1, h2⟩ := hpred t ht j hwr
            simp only [h2, if_true]
            rw [if_pos (by simpa using h1)]
            have hjs := (writer_spec hwr).1
            have hmj : ms[j]? = some (ms[j]'(by omega)) := by simp
            unfold realVal lexVal
            rw [hmj]
            generalize ms[j]'(by omega) = mj at hmj
            cases mj with
            | quiet v => rfl
            | store _ _ => rfl
            | old _ _ => rfl
            | alloc p T Z => exact absurd (hal j p T Z hmj).1 (hna j hwr)
        · rw [Array.getElem?_eq_none (by rw [hA.2.1]; omega), Array.getElem?_eq_none (by rw [hL.2.1]; omega)]
      have hsz' : (listed.setIfInBounds i true).size = ops.size := by simp [hsz]
      have hc' : (listed.setIfInBounds i true).toList.count false ≤ fuel := by have := count_set hun; omega
      have hSi : doneOf (listed.setIfInBounds i true) i = true := by unfold doneOf; simp [hsz, hio]
      have hSo : ∀ j, j ≠ i → doneOf (listed.setIfInBounds i true) j = doneOf listed j := fun j hj => by unfold doneOf; exact getD_set_ne false (Ne.symm hj)
      have hSn : doneOf listed i = false := getD_both hun
      have hput : ∀ v adr', (o.dst ≠ none → realVal ms adr' i = v) → (∀ j, j ≠ i → adr' j = adr j) → IsAct ops (realVal ms adr') (doneOf (listed.setIfInBounds i true)) a0 (a.put o.dst v) := fun v adr' hv hne =>
        hA.put ho (fun d hd => hdst d hd) v _ _ hv hSi fun j hj => ⟨hSo j hj, fun _ => by unfold realVal; rw [hne j hj]⟩
      have hup : ∀ j, doneOf listed j = true → doneOf (listed.setIfInBounds i true) j = true := fun j hj => by
        by_cases hji : j = i
        · rw [hji]; exact hSi
        · rw [hSo j hji]; exact hj
      have hCl' : ∀ j k, predOf ops j k = true → doneOf (listed.setIfInBounds i true) k = true → doneOf (listed.setIfInBounds i true) j = true := by
        intro j k hj hSk
        by_cases hki : k = i
        · subst hki
          unfold predOf at hj
          rw [ho] at hj
          simp only [← Array.any_toList] at hj
          obtain ⟨e, he, hbe⟩ := List.any_eq_true.1 hj
          simp only [Bool.and_eq_true, beq_iff_eq] at hbe
          obtain ⟨hb', rfl⟩ := hbe
          exact hup _ (hall e (Array.mem_toList_iff.1 he) hb')
        · rw [hSo k hki] at hSk
          exact hup j (hCl j k hj hSk)
      have hBase : (∀ b V, m ≠ .old b V) → Base w ms (doneOf (listed.setIfInBounds i true)) w0 := fun hno => by
        rcases hBs with ⟨e, h⟩ | ⟨k', b, V, h1, h2, h3⟩
        · exact .inl ⟨e, fun k' b V hk' => by rw [hSo k' (by rintro rfl; rw [hm] at hk'; cases hk'; exact hno b V rfl)]; exact h k' b V hk'⟩
        · exact .inr ⟨k', b, V, h1, hup _ h2, h3⟩
      have hnext : ∀ v, m = .quiet v → ∀ w'', Later w' w'' → wpAny P .any ops Q fuel (listed.setIfInBounds i true) (a.put o.dst v) w'' := fun v hmv w'' hl =>
        ih _ _ w0 w'' adr hsz' hc' hCl' (hBase (by subst hmv; simp)) (hM.later hl (fun j m' hm' hnq => hSo j (by rintro rfl; rw [hm] at hm'; cases hm'; exact hnq v hmv)) fun j hj => by
          by_cases hji : j = i
          · rw [hji]; exact hSi
          · rw [hSo j hji]; exact hj) (hput v adr (fun _ => by unfold realVal; rw [hm, hmv]; rfl) fun _ _ => rfl)
      unfold wpOp
      simp only [ho]
      cases k with
      | f =>
        cases m with
        | alloc _ _ _ => exact hx.elim
        | store _ _ => exact hx.elim
        | old _ _ => exact hx.elim
        | quiet v =>
          have hna : ∀ t ∈ o.looksAt ops, a.tmps[t]? = (lexAct ops ms a0 i).tmps[t]? := fun t ht => hlook' t ht fun j hj hka => by
            have := (hlook t ht j hj).2 hka
            rw [hk] at this
            cases this
          obtain ⟨he, _⟩ := op_same (Region.noSelect_spec hsel i o · · ho) hna
          obtain ⟨hg, hrun⟩ : freeOK P o v (lexAct ops ms a0 i) := hx
          have hwt : Region.wanted o (yielded ops a.tmps) = true := by simp [Region.wanted, hg]
          rw [if_pos hwt]
          refine .inl ?_
          unfold Oper.wp
          rw [he, hrun]
          exact hnext v rfl _ (later_refl _)
      | o =>
        cases m with
        | alloc _ _ _ => exact hx.elim
        | store _ _ => exact hx.elim
        | quiet _ => exact hx.elim
        | old b V =>
          have hna : ∀ t ∈ o.looksAt ops, a.tmps[t]? = (lexAct ops ms a0 i).tmps[t]? := fun t ht => hlook' t ht fun j hj hka => by
            have := (hlook t ht j hj).2 hka
            rw [hk] at this
            cases this
          obtain ⟨he, _⟩ := op_same (Region.noSelect_spec hsel i o · · ho) hna
          obtain ⟨hg, hd, ty, x, y, c0, T, hop, hex, hey, hblk, hVs, hV1, hinf⟩ : oldOK P w b V o (lexAct ops ms a0 i) := hx
          have hwt : Region.wanted o (yielded ops a.tmps) = true := by simp [Region.wanted, hg]
          rw [if_pos hwt]
          refine .inl ?_
          have hw0 : w0 = w := by
            rcases hBs with ⟨e, _⟩ | ⟨k', b', V', h1, h2, _⟩
            · exact e
            · have := (hold i k' hk).1 (hod k' b' V' h1)
              rw [this, hSn] at h2
              cases h2
          subst hw0
          have hbl := blk_lt hblk
          have hblk' : Blk w' b c0 T := by
            obtain ⟨z, rfl⟩ := of_below hM.1
            rw [blk_more _ _ _ _ _ hbl]; exact hblk
          have hrun := run_storeVar_row (P := P) w' b T ty c0 V hblk' (by rw [hinf, hVs]) (by rw [hVs]) hV1
          unfold Oper.wp
          rw [he]
          unfold execOp
          simp only [hop, hex, hey, Instr.storeAt, Instr.sureAddr, Sem.run_bind, Sem.run_pure, Result.andThen_ok, hrun, Oper.upon]
          exact ih _ _ (w0.setRow b V) _ adr hsz' hc' hCl' (.inr ⟨i, b, V, hm, hSi, rfl⟩) (hM.old hm hbl hSi hSo) (hput _ _ (fun hne => absurd hd hne) fun _ _ => rfl)
      | q =>
        cases m with
        | alloc _ _ _ => exact hx.elim
        | store _ _ => exact hx.elim
        | old _ _ => exact hx.elim
        | quiet v =>
          have hna : ∀ t ∈ o.looksAt ops, a.tmps[t]? = (lexAct ops ms a0 i).tmps[t]? := fun t ht => hlook' t ht fun j hj hka => by
            have := (hlook t ht j hj).2 hka
            rw [hk] at this
            cases this
          obtain ⟨he, hwd⟩ := op_same (Region.noSelect_spec hsel i o · · ho) hna
          have hq : quietOK P ops w o v (lexAct ops ms a0 i) := hx
          unfold quietOK at hq
          rw [← he, ← hwd] at hq
          have hnext := hnext v rfl
          have hw0 : w0 = w := by
            rcases hBs with ⟨e, _⟩ | ⟨k', b', V', h1, h2, _⟩
            · exact e
            · have := reach_done hCl _ _ _ ((hold k' i (hod k' b' V' h1)).2 hk) h2
              rw [hSn] at this
              cases this
          subst hw0
          split
          · rename_i hwt
            rw [if_pos hwt] at hq
            refine .inl ?_
            obtain ⟨x, hx'⟩ := of_below hM.1
            subst hx'
            have h3 := hq x
            unfold Oper.wp
            generalize (execOp a.eval o).run P (more w0 x) = r at *
            cases r with
            | ok n w'' =>
              cases n <;> simp only [lateUpon] at h3 <;> simp only [Oper.upon]
              case value u => obtain ⟨rfl, rfl⟩ := h3; exact hnext _ (later_refl _)
              case skip => obtain ⟨rfl, rfl⟩ := h3; exact hnext _ (later_refl _)
              case enter f args => obtain ⟨rfl, h3⟩ := h3; exact h3.mono fun e w3 ⟨he, hl⟩ => by subst he; exact hnext _ hl
            | halt x w'' => simp only [lateUpon] at h3
          · rename_i hwt
            rw [if_neg hwt] at hq
            subst hq
            exact hnext _ (later_refl _)
      | a =>
        cases m with
        | quiet _ => exact hx.elim
        | store _ _ => exact hx.elim
        | old _ _ => exact hx.elim
        | alloc p T Z =>
          obtain ⟨hg, hd, hrun⟩ : allocOK P o p T Z := hx
          have hwt : Region.wanted o (yielded ops a.tmps) = true := by simp [Region.wanted, hg]
          rw [if_pos hwt]
          refine .inl ?_
          unfold Oper.wp
          rw [hrun]
          simp only [Oper.upon]
          refine ih _ _ w0 _ (fun j => if j = i then w'.heap.size else adr j) hsz' hc' hCl' (hBase (by simp)) (hM.alloc hm hSn hSi hSo) (hput _ _ (fun _ => ?_) fun j hj => by simp only [if_neg hj])
          unfold realVal
          rw [hm]
          simp [Mix.val]
      | s ia =>
        cases m with
        | quiet _ => exact hx.elim
        | alloc _ _ _ => exact hx.elim
        | old _ _ => exact hx.elim
        | store i' V =>
          obtain ⟨rfl, hlt, hg, hd, ty, p, y, T, Z, hop, hma, hyp, hev, hVs, hV1, hinf, hps⟩ : i' = ia ∧ ia < i ∧ storeOK P ops ms ia V o (lexAct ops ms a0 i) := hx
          have hwt : Region.wanted o (yielded ops a.tmps) = true := by simp [Region.wanted, hg]
          rw [if_pos hwt]
          refine .inl ?_
          obtain ⟨_, oa, hoa, hda⟩ := hal i' p T Z hma
          have hwp := hw i' oa p hoa hda
          have hpl : p ∈ o.looksAt ops := List.mem_append_left _ (List.mem_filterMap.2 ⟨.tmp p, by simp [hop, Op.operands], rfl⟩)
          obtain ⟨_, hdone⟩ := hpred p hpl i' hwp
          obtain ⟨g1, c, g2, g3, _, _⟩ := hM.2.1 i' p T Z hma hdone
          have hp : a.eval (.tmp p) = .pointer (some ⟨adr i', 0, none⟩) := by
            have := hA.2.2 p (by rw [← hL.2.1]; exact hps)
            unfold curTmp at this
            rw [hwp] at this
            simp only [hdone, if_true, realVal, hma, Mix.val] at this
            simp only [Act.eval, Array.getD_eq_getD_getElem?, this, Option.getD_some]
          have hye : a.eval y = .agg V := by
            rw [← hev]
            cases y with
            | tmp q =>
              have hqp : q ≠ p := fun e => hyp (by rw [e])
              have hql : q ∈ o.looksAt ops := List.mem_append_left _ (List.mem_filterMap.2 ⟨.tmp q, by simp [hop, Op.operands], rfl⟩)
              have := hlook' q hql fun j hj hka => by
                have h1 := (hlook q hql j hj).2 hka
                rw [hk] at h1
                cases h1
                obtain ⟨_, oj, hoj, hdj⟩ := writer_spec hj
                rw [hoa] at hoj
                cases hoj
                rw [hda] at hdj
                cases hdj
                exact hqp rfl
              simp only [Act.eval, Array.getD_eq_getD_getElem?, this]
            | _ => rfl
          have hrun := run_storeVar_row (P := P) w' (adr i') T ty c V g2 (by rw [hinf, hVs]) (by rw [g3, hVs]) hV1
          unfold Oper.wp execOp
          simp only [hop, hp, hye, Instr.storeAt, Instr.sureAddr, Sem.run_bind, Sem.run_pure, Result.andThen_ok, hrun, Oper.upon]
          refine ih _ _ w0 _ adr hsz' hc' hCl' (hBase (by simp)) (hM.store hm hma hdone hVs (fun k' V' hk' => hone i k' i' hk (hst k' i' V' hk')) hSi hSo) (hput _ _ (fun hne => absurd hd hne) fun _ _ => rfl)

theorem base_start {w : World} {ms : List Mix} : Base w ms (fun _ => false) w := .inl ⟨rfl, fun _ _ _ _ => rfl⟩
theorem made_start {w w' : World} {ms : List Mix} {adr : Nat → Nat} (h : Below w.heap.size w w') : Made w ms adr (fun _ => false) w' :=
  ⟨h, fun _ _ _ _ _ h => (by cases h), fun _ _ _ _ _ _ _ _ _ _ h => (by cases h), fun _ _ _ _ h => (by cases h)⟩
/-- A region with calls, new variables, stores into them and at most one store into a variable of old, in whatever order. -/
theorem region_mix {id : Nat} {Q : Exit → Act → World → Prop} {a : Act} {w : World} {l : List Oper} (ks : List Kd) (hm : P.follows .mixedOrders = true) (hB : mixB l.toArray ks = true)
    (h : wpMix P l.toArray w (fun ms a' => ∀ adr w0 w', Base w ms (fun _ => true) w0 → Made w0 ms adr (fun _ => true) w' → Q .normal (finMix adr 0 ms a') w') ks [] l a) : (Code.region id l.toArray true).wp P Q a w := by
  refine wp_region_any hm ?_
  obtain ⟨ms, h1, h2, h3⟩ := mix_unroll (ops := l.toArray) (a0 := a) (ks0 := ks) l ks [] a (by simp) (by simp) rfl (fun j o m k hj _ _ _ => by simp at hj) h
  have hd : doneOf (Array.replicate l.toArray.size false) = fun _ => false := funext fun j => getD_replicate_false _ _
  refine wpAny_mix hB (by simpa using h1) h3 h2 _ _ a w _ (fun _ => 0) (by simp) ?_ ?_ ?_ ?_ ?_
  · simp
  · rw [hd]; intro _ _ _ h; cases h
  · rw [hd]; exact base_start
  · rw [hd]; exact made_start (Below.refl _ _).drew
  · rw [hd]; exact isAct_start _ a

/-! ### What is left behind -/
def olds (ms : List Mix) : List (Nat × Array Value) := ms.filterMap fun | .old b V => some (b, V) | _ => none
theorem base_none {w w0 : World} {ms : List Mix} (h : Base w ms (fun _ => true) w0) (hn : olds ms = []) : w0 = w := by
  rcases h with ⟨e, _⟩ | ⟨k, b, V, h1, _⟩
  · exact e
  · have : (b, V) ∈ olds ms := List.mem_filterMap.2 ⟨_, List.mem_of_getElem? h1, rfl⟩
    rw [hn] at this
    cases this
theorem base_old {w w0 : World} {ms : List Mix} (h : Base w ms (fun _ => true) w0) {b : Nat} {V : Array Value} (hn : olds ms = [(b, V)]) : w0 = w.setRow b V := by
  rcases h with ⟨_, h⟩ | ⟨k, b', V', h1, _, h3⟩
  · have : (b, V) ∈ olds ms := by rw [hn]; simp
    obtain ⟨m, hm, e⟩ := List.mem_filterMap.1 this
    obtain ⟨k, hk⟩ := List.getElem?_of_mem hm
    cases m with
    | old b' V' => cases h k b' V' hk
    | quiet _ => cases e
    | alloc _ _ _ => cases e
    | store _ _ => cases e
  · have : (b', V') ∈ olds ms := List.mem_filterMap.2 ⟨_, List.mem_of_getElem? h1, rfl⟩
    rw [hn] at this
    cases List.mem_singleton.1 this
    exact h3
theorem more_cut {w w' : World} (h : Below w.heap.size w w') {g : Nat} (hg : w.heap.size ≤ g) {c : Array Value} {t : TypeId} (hb : Blk w' g c t) :
    ∃ x1 x2, w' = more ((more w x1).alloc (.cells c t)) x2 ∧ g = (more w x1).heap.size := by
  obtain ⟨y, rfl⟩ := of_below h
  have hlt := blk_lt hb
  rw [size_more] at hlt
  unfold Blk more at hb
  rw [Array.getElem?_append_right hg] at hb
  refine ⟨⟨y.objs.extract 0 (g - w.heap.size), y.drawn⟩, ⟨y.objs.extract (g - w.heap.size + 1) y.objs.size, y.drawn⟩, ?_, by rw [size_more]; simp; omega⟩
  unfold more World.alloc
  simp only [World.mk.injEq, and_true]
  apply Array.ext_getElem?
  intro j
  simp only [Array.getElem?_append, Array.getElem?_push, Array.getElem?_extract, Array.size_append, Array.size_push, Array.size_extract]
  by_cases h1 : j < w.heap.size
  · rw [if_pos h1, if_pos (by omega), if_neg (by omega), if_pos h1]
  · rw [if_neg h1]
    by_cases h2 : j < g
    · rw [if_pos (by omega), if_neg (by omega), if_neg h1, if_pos (by omega)]
      simp
    · by_cases h3 : j = g
      · subst h3
        rw [if_pos (by omega), if_pos (by omega), hb]
      · rw [if_neg (by omega)]
        by_cases h4 : j - w.heap.size < y.objs.size
        · rw [if_pos (by omega)]
          congr 1
          omega
        · rw [if_neg (by omega), Array.getElem?_eq_none (by omega)]
/-- One new variable alone. -/
theorem made_one {w w' : World} {ms : List Mix} {adr : Nat → Nat} (h : Made w ms adr (fun _ => true) w') {i k : Nat} {p : Tmp} {T : TypeId} {Z V : Array Value} (hi : ms[i]? = some (.alloc p T Z)) (hk : ms[k]? = some (.store i V)) :
    ∃ x1 x2, w' = more ((more w x1).alloc (.cells V T)) x2 ∧ adr i = (more w x1).heap.size := by
  obtain ⟨g1, c, g2, _, g4, _⟩ := h.2.1 i p T Z hi rfl
  have := g4 k V hk rfl
  subst this
  exact more_cut h.1 g1 g2
theorem made_quiet {w w' : World} {ms : List Mix} {adr : Nat → Nat} (h : Made w ms adr (fun _ => true) w') : ∃ x, w' = more w x := of_below h.1
/-! ### The steps of a walk -/
variable {w : World} {F : List Mix → Act → Prop} {acc : List Mix} {ks : List Kd} {o : Oper} {rest : List Oper} {a : Act}
theorem mix_q (h : ∀ K : Value → Act → Prop, (∀ v a, wpMix P ops w F ks (acc ++ [.quiet v]) rest a → K v a) → if Region.wanted o (yielded ops a.tmps) = true then ∃ v, (∀ x, lateUpon P v (more w x) ((execOp a.eval o).run P (more w x))) ∧ K v (a.put o.dst v) else K undef (a.put o.dst undef)) :
    wpMix P ops w F (.q :: ks) acc (o :: rest) a := by
  have := h _ (fun _ _ h => h)
  unfold wpMix quietOK
  split at this
  · rename_i hw
    obtain ⟨v, h1, h2⟩ := this
    exact ⟨v, by rw [if_pos hw]; exact h1, h2⟩
  · rename_i hw
    exact ⟨undef, by rw [if_neg hw], this⟩
def freeUpon (v : Value) (W : World) : Result Next → Prop
  | .ok (.value u) w'' => w'' = W ∧ u = v
  | _ => False
attribute [go_sem] freeUpon
instance world_there : Nonempty World := inferInstance
theorem mix_f (hg : o.guard = none) (h : ∀ K : Value → Act → Prop, (∀ v a, wpMix P ops w F ks (acc ++ [.quiet v]) rest a → K v a) → ∃ v, (∀ W, freeUpon v W ((execOp a.eval o).run P W)) ∧ K v (a.put o.dst v)) : wpMix P ops w F (.f :: ks) acc (o :: rest) a := by
  obtain ⟨v, h1, h2⟩ := h _ (fun _ _ h => h)
  refine ⟨v, ⟨hg, fun W => ?_⟩, h2⟩
  have := h1 W
  generalize (execOp a.eval o).run P W = r at this
  cases r with
  | ok n w'' =>
    cases n <;> simp only [freeUpon] at this
    obtain ⟨rfl, rfl⟩ := this
    rfl
  | halt x w'' => simp only [freeUpon] at this
theorem mix_a {p : Tmp} {T : TypeId} {Z : Array Value} (hg : o.guard = none) (hd : o.dst = some p) (hr : ∀ ρ w', (execOp ρ o).run P w' = .ok (.value (.pointer (some ⟨w'.heap.size, 0, none⟩))) (w'.alloc (.cells Z T)))
    (h : wpMix P ops w F ks (acc ++ [.alloc p T Z]) rest (a.put (some p) undef)) : wpMix P ops w F (.a :: ks) acc (o :: rest) a := ⟨p, T, Z, ⟨hg, hd, hr⟩, by rw [hd]; exact h⟩
theorem mix_s {i : Nat} {ty : TypeId} {p : Tmp} {y : Operand} {T : TypeId} {Z V : Array Value} (hg : o.guard = none) (hd : o.dst = none) (ho : o.op = .store ty (.tmp p) y) (hi : acc[i]? = some (.alloc p T Z)) (hy : y ≠ .tmp p) (hv : a.eval y = .agg V) (hp : p < a.tmps.size)
    (hinf : (P.info? ty).map (·.size) = some Z.size) (hn : V.size = Z.size) (h1 : oneCells V) (h : wpMix P ops w F ks (acc ++ [.store i V]) rest a) : wpMix P ops w F (.s i :: ks) acc (o :: rest) a :=
  ⟨V, ⟨hg, hd, ty, p, y, T, Z, ho, hi, hy, hv, hn, h1, hinf, hp⟩, by rw [hd]; exact h⟩
theorem mix_o (n : Nat) {b : Nat} {ty : TypeId} {x y : Operand} {V : Array Value} (hg : o.guard = none) (hd : o.dst = none) (ho : o.op = .store ty x y) (hx : a.eval x = .pointer (some ⟨b, 0, none⟩)) (hv : a.eval y = .agg V) (hb : hasRow w b n)
    (hinf : (P.info? ty).map (·.size) = some n) (hn : V.size = n) (h1 : oneCells V) (h : wpMix P ops w F ks (acc ++ [.old b V]) rest a) : wpMix P ops w F (.o :: ks) acc (o :: rest) a := by
  obtain ⟨c0, T, hc, hs⟩ := hb
  exact ⟨b, V, ⟨hg, hd, ty, x, y, c0, T, ho, hx, hv, hc, by rw [hn, hs], h1, by rw [hinf, hs]⟩, by rw [hd]; exact h⟩
theorem mix_end (h : F acc a) : wpMix P ops w F [] acc [] a := h
end
attribute [irreducible] wpMix
end Go.Proofs.Ytbpadfmdjgjjlaa
