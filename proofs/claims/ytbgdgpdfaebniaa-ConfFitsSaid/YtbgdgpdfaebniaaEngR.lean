/- A region does what the reading says, in whatever order its operations come. No program in sight. -/
import Derived.Test.YtbgdgpdfaebniaaEngApp
set_option linter.unusedSimpArgs false
set_option linter.unusedVariables false
namespace Go.Proofs.Ytbgdgpdfaebniaa
/-- One operation of a region, as it was read. -/
structure TI where
  s : Rg
  ch : List (Nat × Bool)
  v : EV
  n : Option (List EV)
  ws : List Wr
  tr : List Nat
  k : Option Nat
def TI.next (t : TI) (o : Oper) : Rg := t.s.next ⟨o.dst, t.ch, t.v⟩ t.n t.ws t.tr t.k
structure TIOK (P : Program) (base : List EV) (o : Oper) (t : TI) : Prop where
  ch : chainOf t.s.rs o.guard = some t.ch
  dst : dstOK base.length o.dst = true
  quiet : t.ch ≠ [] → t.n = none ∧ t.ws = []
  quietK : t.ch ≠ [] → t.k = none
  fresh : ∀ k, t.k = some k → k ∉ t.s.dead
  wr : ∀ x ∈ t.ws, x.b ∈ t.tr ∧ ∃ cs, boxGet t.s.bx x.b = some cs ∧ x.off + x.new.length ≤ cs.length
  go : guardOf t.s.rs t.ch ≠ some false → ∀ B ow bx nb bg w (a : Act), Inv B ow bx nb bg w → Args ow bx w (argE base t.s.rs t.ch o.op) a.eval o.op → (∀ b ∈ t.tr, bg b = boxGet t.s.bx b) →
    (t.n.isSome = true → bg t.s.bx.length = none ∧ t.s.bx.length < nb) → (∀ k, t.k = some k → bx.dead k = false) → GoesK P B ow bx nb bg w a o t.s.bx.length t.v t.n t.ws t.k
def Linked (P : Program) (base : List EV) : List Oper → Rg → List TI → Rg → Prop
  | [], s, [], s' => s = s'
  | o :: os, s, t :: ts, s' => t.s = s ∧ TIOK P base o t ∧ Linked P base os (t.next o) ts s'
  | _, _, _, _ => False
theorem regE_linked {ρ : Type} {P : Program} {Γ : Cx} (hΓ : CxOK P Γ) {base : List EV} {q : Rg → Option ρ} {r : ρ} : ∀ (l : List Oper) (s : Rg), regE Γ base l s q = some r → ∃ ts s', Linked P base l s ts s' ∧ q s' = some r
  | [], s, h => ⟨[], s, rfl, h⟩
  | o :: os, s, h => by
    simp only [regE] at h
    split at h
    · rename_i ch hch hdst
      split at h
      · rename_i x y t happ
        split at h
        · obtain ⟨v, k, h1, h2, h3⟩ := app_sound hΓ happ h
          obtain ⟨ts, s', k1, k2⟩ := regE_linked hΓ os _ h1
          refine ⟨⟨s, [], v, none, [], [], some k⟩ :: ts, s', ⟨rfl, ⟨hch, hdst, fun hne => absurd rfl hne, fun hne => absurd rfl hne, (fun k' hk' => by cases hk'; exact h2), (fun x hx => by cases hx), fun _ B ow bx nb bg w a hi hA _ _ hd => h3 _ B ow bx nb bg w a hi hA (hd k rfl)⟩, k1⟩, k2⟩
        · cases h
      · obtain ⟨v, n, ws, tr, h1, h2, h3, h4⟩ := op_sound hΓ h
        obtain ⟨ts, s', k1, k2⟩ := regE_linked hΓ os _ h1
        refine ⟨⟨s, ch, v, n, ws, tr, none⟩ :: ts, s', ⟨rfl, ⟨hch, hdst, fun hne => h2 ?_, fun _ => rfl, (fun k hk => by cases hk), h3, fun hg B ow bx nb bg w a hi hA hb hn _ => (h4 hg B ow bx nb bg w a hi hA hb hn).goesK⟩, k1⟩, k2⟩
        unfold guardOf
        cases ch with
        | nil => exact absurd rfl hne
        | cons p r => rfl
    · cases h
def TI.wrs (t : TI) : List Nat := match t.n with
  | some _ => t.s.bx.length :: t.ws.map (·.b)
  | none => t.ws.map (·.b)
section
variable {P : Program} {base : List EV}
theorem Linked.length : ∀ {l : List Oper} {s : Rg} {ts : List TI} {s' : Rg}, Linked P base l s ts s' → ts.length = l.length
  | [], _, [], _, _ => rfl
  | o :: os, s, t :: ts, s', h => by have := Linked.length h.2.2; simp [this]
/-- Each item: what was known when it came. -/
theorem Linked.at : ∀ {l : List Oper} {s : Rg} {ts : List TI} {s' : Rg}, Linked P base l s ts s' → ∀ (i : Nat) o t, l[i]? = some o → ts[i]? = some t →
    TIOK P base o t ∧ t.s.rs.length = s.rs.length + i ∧ (∃ more, s'.rs = t.s.rs ++ (⟨o.dst, t.ch, t.v⟩ : Rec) :: more) ∧ (∃ more, s'.tw = t.s.tw ++ (t.tr, t.wrs) :: more) ∧ t.s.tw.length = s.tw.length + i ∧
      t.s.bx.length ≤ s'.bx.length ∧ (t.n.isSome = true → t.s.bx.length < s'.bx.length) ∧ s.bx.length ≤ t.s.bx.length
  | [], s, [], s', h, i, o, t, ho, ht => by simp at ho
  | o0 :: os, s, t0 :: ts, s', h, i, o, t, ho, ht => by
    obtain ⟨h1, h2, h3⟩ := h
    have hnl : t0.s.bx.length ≤ (t0.next o0).bx.length ∧ (t0.n.isSome = true → t0.s.bx.length < (t0.next o0).bx.length) := by
      have hfold : ∀ (ws : List Wr) (bx : List (Option (List EV))), (ws.foldl applyW bx).length = bx.length := by
        intro ws
        induction ws with
        | nil => intro bx; rfl
        | cons x r ih => intro bx; simp only [List.foldl_cons]; rw [ih]; unfold applyW; split <;> simp
      unfold TI.next Rg.next newB
      cases t0.n <;> simp [hfold]
    cases i with
    | zero =>
      simp at ho ht
      subst ho ht
      have tail : ∀ {l : List Oper} {s : Rg} {ts : List TI} {s' : Rg}, Linked P base l s ts s' → (∃ more, s'.rs = s.rs ++ more) ∧ (∃ more, s'.tw = s.tw ++ more) ∧ s.bx.length ≤ s'.bx.length := by
        intro l
        induction l with
        | nil =>
          intro s ts s' h
          cases ts with
          | nil => cases h; exact ⟨⟨[], by simp⟩, ⟨[], by simp⟩, Nat.le_refl _⟩
          | cons t ts => exact absurd h id
        | cons o os ih =>
          intro s ts s' h
          cases ts with
          | nil => exact absurd h id
          | cons t ts =>
            obtain ⟨g1, g2, g3⟩ := h
            obtain ⟨⟨m1, k1⟩, ⟨m2, k2⟩, k3⟩ := ih g3
            subst g1
            have hfold : ∀ (ws : List Wr) (bx : List (Option (List EV))), (ws.foldl applyW bx).length = bx.length := by
              intro ws
              induction ws with
              | nil => intro bx; rfl
              | cons x r ih => intro bx; simp only [List.foldl_cons]; rw [ih]; unfold applyW; split <;> simp
            refine ⟨⟨_, by rw [k1]; unfold TI.next Rg.next; simp only [List.append_assoc]; rfl⟩, ⟨_, by rw [k2]; unfold TI.next Rg.next; simp only [List.append_assoc]; rfl⟩, ?_⟩
            have : t.s.bx.length ≤ (t.next o).bx.length := by
              unfold TI.next Rg.next newB
              cases t.n <;> simp [hfold]
            omega
      obtain ⟨⟨m1, k1⟩, ⟨m2, k2⟩, k3⟩ := tail h3
      subst h1
      refine ⟨h2, by simp, ⟨m1, by rw [k1]; unfold TI.next Rg.next; simp⟩, ⟨m2, by rw [k2]; unfold TI.next Rg.next TI.wrs; cases t0.n <;> simp⟩, by simp, by omega, fun h => by have := hnl.2 h; omega, Nat.le_refl _⟩
    | succ i =>
      obtain ⟨g1, g2, g3, g4, g5, g6, g7, g8⟩ := Linked.at h3 i o t (by simpa using ho) (by simpa using ht)
      refine ⟨g1, ?_, g3, g4, ?_, g6, g7, ?_⟩
      · rw [g2]; unfold TI.next Rg.next; simp [h1]; omega
      · rw [g5]; unfold TI.next Rg.next; simp [h1]; omega
      · have := hnl.1; rw [h1] at this; omega
/-- What an operation makes of the cells of one box. -/
def TI.f (t : TI) (b : Nat) (c : Option (List EV)) : Option (List EV) := upd (fun _ => c) t.s.bx.length t.n t.ws b
theorem upd_point (bg : Nat → Option (List EV)) (id : Nat) (n : Option (List EV)) (b : Nat) : ∀ (ws : List Wr), upd bg id n ws b = upd (fun _ => bg b) id n ws b := by
  have hw : ∀ (ws : List Wr) (bg bg' : Nat → Option (List EV)), bg b = bg' b → ws.foldl updW bg b = ws.foldl updW bg' b := by
    intro ws
    induction ws with
    | nil => intro bg bg' h; exact h
    | cons x r ih =>
      intro bg bg' h
      simp only [List.foldl_cons]
      refine ih _ _ ?_
      unfold updW
      split
      · rw [h]
      · exact h
  intro ws
  unfold upd updN
  cases n with
  | none => exact hw ws _ _ rfl
  | some cs =>
    simp only
    split
    · rfl
    · exact hw ws _ _ rfl
theorem TI.f_id {t : TI} {b : Nat} {c : Option (List EV)} (h : b ∉ t.wrs) : t.f b c = c := by
  unfold TI.f upd updN
  unfold TI.wrs at h
  cases hn : t.n with
  | none =>
    rw [hn] at h
    exact foldl_updW_other _ _ _ fun x hx e => h (List.mem_map.2 ⟨x, hx, e⟩)
  | some cs =>
    rw [hn] at h
    simp only [List.mem_cons, not_or] at h
    simp only [if_neg h.1]
    exact foldl_updW_other _ _ _ fun x hx e => h.2 (List.mem_map.2 ⟨x, hx, e⟩)
theorem boxGet_next (t : TI) (o : Oper) (b : Nat) : boxGet (t.next o).bx b = t.f b (boxGet t.s.bx b) := by
  have hfold : ∀ (ws : List Wr) (bx : List (Option (List EV))), (ws.foldl applyW bx).length = bx.length := by
    intro ws
    induction ws with
    | nil => intro bx; rfl
    | cons x r ih => intro bx; simp only [List.foldl_cons]; rw [ih]; unfold applyW; split <;> simp
  have hget : ∀ (ws : List Wr) (bx : List (Option (List EV))), boxGet (ws.foldl applyW bx) b = ws.foldl updW (fun _ => boxGet bx b) b := by
    intro ws
    induction ws with
    | nil => intro bx; rfl
    | cons x r ih =>
      intro bx
      simp only [List.foldl_cons]
      rw [ih]
      have hp := upd_point (updW (fun _ => boxGet bx b) x) 0 none b r
      unfold upd updN at hp
      simp only at hp
      rw [hp]
      have key : boxGet (applyW bx x) b = updW (fun _ => boxGet bx b) x b := by
       unfold applyW updW
       cases hx : boxGet bx x.b with
        | none =>
          simp only
          split
          · rename_i e; rw [e, hx]; rfl
          · rfl
        | some cs =>
          simp only
          split
          · rename_i e
            subst e
            rw [hx]
            simp only [Option.map_some]
            rw [boxGet_spec] at hx ⊢
            have := (List.getElem?_eq_some_iff.1 hx).1
            simp [this]
          · rename_i e
            unfold boxGet
            rw [List.getElem?_set_ne (fun h => e h.symm)]
      rw [key]
  unfold TI.next Rg.next TI.f upd updN newB
  cases hn : t.n with
  | none => simp only; exact hget _ _
  | some cs =>
    simp only
    split
    · rename_i e
      subst e
      rw [boxGet_spec]
      rw [← hfold t.ws t.s.bx]
      simp
    · rename_i e
      rw [← hget]
      unfold boxGet
      by_cases hlt : b < (t.ws.foldl applyW t.s.bx).length
      · rw [List.getElem?_append_left hlt]
      · rw [List.getElem?_append_right (by omega), List.getElem?_eq_none (by rw [hfold] at hlt ⊢; simp; omega), List.getElem?_eq_none (by omega)]
/-- The boxes behind some of the operations, one by one. -/
def foldI (D : Nat → Bool) : List TI → Nat → Nat → Option (List EV) → Option (List EV)
  | [], _, _, c => c
  | t :: ts, k, b, c => foldI D ts (k + 1) b (if D k then t.f b c else c)
theorem foldI_skip {D : Nat → Bool} {b : Nat} : ∀ (ts : List TI) (k : Nat) (c : Option (List EV)), (∀ (j : Nat) t, ts[j]? = some t → D (k + j) = true → b ∉ t.wrs) → foldI D ts k b c = c
  | [], _, _, _ => rfl
  | t :: ts, k, c, h => by
    simp only [foldI]
    have : (if D k then t.f b c else c) = c := by
      split
      · rename_i hd; exact TI.f_id (h 0 t rfl (by simpa using hd))
      · rfl
    rw [this]
    exact foldI_skip ts (k + 1) c fun j t ht hd => h (j + 1) t (by simpa using ht) (by rw [show k + (j + 1) = k + 1 + j by omega]; exact hd)
theorem foldI_congr {D D' : Nat → Bool} {b : Nat} : ∀ (ts : List TI) (k : Nat) (c : Option (List EV)), (∀ (j : Nat) t, ts[j]? = some t → b ∈ t.wrs → D (k + j) = D' (k + j)) → foldI D ts k b c = foldI D' ts k b c
  | [], _, _, _ => rfl
  | t :: ts, k, c, h => by
    simp only [foldI]
    have : (if D k then t.f b c else c) = (if D' k then t.f b c else c) := by
      by_cases hb : b ∈ t.wrs
      · have := h 0 t rfl hb
        simp only [Nat.add_zero] at this
        rw [this]
      · rw [TI.f_id hb]; simp
    rw [this]
    exact foldI_congr ts (k + 1) _ fun j t ht hb => by rw [show k + 1 + j = k + (j + 1) by omega]; exact h (j + 1) t (by simpa using ht) hb
def addD (D : Nat → Bool) (i : Nat) : Nat → Bool := fun k => if k = i then true else D k
theorem foldI_add {D : Nat → Bool} {b i : Nat} : ∀ (ts : List TI) (k : Nat) (c : Option (List EV)) (t : TI), k ≤ i → ts[i - k]? = some t → D i = false → (∀ (j : Nat) u, i < k + j → ts[j]? = some u → D (k + j) = true → b ∈ u.wrs → b ∉ t.wrs) →
    t.f b (foldI D ts k b c) = foldI (addD D i) ts k b c
  | [], k, c, t, _, ht, _, _ => by simp at ht
  | u :: ts, k, c, t, hk, ht, hD, h => by
    simp only [foldI]
    by_cases he : k = i
    · subst he
      simp only [Nat.sub_self, List.getElem?_cons_zero, Option.some.injEq] at ht
      subst ht
      have e1 : addD D k k = true := by simp [addD]
      rw [hD, e1]
      simp only [Bool.false_eq_true, if_false, if_true]
      have e2 : ∀ c, foldI (addD D k) ts (k + 1) b c = foldI D ts (k + 1) b c := fun c => foldI_congr ts (k + 1) c fun j t _ _ => by unfold addD; rw [if_neg (by omega)]
      rw [e2]
      by_cases hb : b ∈ u.wrs
      · have hs : ∀ c, foldI D ts (k + 1) b c = c := fun c => foldI_skip ts (k + 1) c fun j v hv hd hbv => h (j + 1) v (by omega) (by simpa using hv) (by rw [show k + (j + 1) = k + 1 + j by omega]; exact hd) hbv hb
        rw [hs, hs]
      · rw [TI.f_id hb, TI.f_id hb]
    · have e1 : addD D i k = D k := by unfold addD; rw [if_neg he]
      rw [e1]
      exact foldI_add ts (k + 1) _ t (by omega) (by rw [show i - k = i - (k + 1) + 1 by omega] at ht; simpa using ht) hD fun j v hj hv hd => h (j + 1) v (by omega) (by simpa using hv) (by rw [show k + (j + 1) = k + 1 + j by omega]; exact hd)
theorem Linked.boxes : ∀ {l : List Oper} {s : Rg} {ts : List TI} {s' : Rg}, Linked P base l s ts s' → ∀ (k b : Nat), boxGet s'.bx b = foldI (fun _ => true) ts k b (boxGet s.bx b)
  | [], s, [], s', h, k, b => by cases h; rfl
  | o :: os, s, t :: ts, s', h, k, b => by
    obtain ⟨h1, h2, h3⟩ := h
    simp only [foldI, if_true]
    rw [Linked.boxes h3 (k + 1) b, boxGet_next, h1]
theorem Linked.boxesAt : ∀ {l : List Oper} {s : Rg} {ts : List TI} {s' : Rg}, Linked P base l s ts s' → ∀ (i : Nat) t (k b : Nat), ts[i]? = some t → boxGet t.s.bx b = foldI (fun j => decide (j < k + i)) ts k b (boxGet s.bx b)
  | [], s, [], s', h, i, t, k, b, ht => by simp at ht
  | o :: os, s, u :: ts, s', h, i, t, k, b, ht => by
    obtain ⟨h1, h2, h3⟩ := h
    cases i with
    | zero =>
      simp at ht
      subst ht
      rw [h1]
      refine (foldI_skip _ _ _ fun j v _ hd => ?_).symm
      have : k + j < k + 0 := by simpa using hd
      omega
    | succ i =>
      simp only [foldI]
      have hd : (if decide (k < k + (i + 1)) = true then u.f b (boxGet s.bx b) else boxGet s.bx b) = u.f b (boxGet s.bx b) := if_pos (by simp)
      rw [hd, Linked.boxesAt h3 i t (k + 1) b (by simpa using ht), boxGet_next, h1]
      rw [show k + 1 + i = k + (i + 1) by omega]
end
end Go.Proofs.Ytbgdgpdfaebniaa
