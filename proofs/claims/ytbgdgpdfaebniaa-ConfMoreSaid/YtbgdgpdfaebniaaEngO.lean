/- A call does what is promised of the function. No program in sight. -/
import Derived.Test.YtbgdgpdfaebniaaEngN
set_option linter.unusedSimpArgs false
set_option linter.unusedVariables false
namespace Go.Proofs.Ytbgdgpdfaebniaa
/-- The number under which the function knows a box. -/
def asgInv (a : List (Nat × Nat)) (b : Nat) : Option Nat := match a with
  | [] => none
  | (k, c) :: r => if c = b then some k else asgInv r b
theorem asgInv_mem : ∀ (a : List (Nat × Nat)) (b i : Nat), asgInv a b = some i → (i, b) ∈ a
  | [], _, _, h => by cases h
  | (k, c) :: r, b, i, h => by
    simp only [asgInv] at h
    split at h
    · rename_i hc; cases h; subst hc; simp
    · exact List.mem_cons_of_mem _ (asgInv_mem r b i h)
theorem asgInv_some : ∀ (a : List (Nat × Nat)) (b i : Nat), (i, b) ∈ a → ∃ j, asgInv a b = some j
  | [], _, _, h => by simp at h
  | (k, c) :: r, b, i, h => by
    simp only [asgInv]
    split
    · exact ⟨k, rfl⟩
    · rename_i hc
      rcases List.mem_cons.1 h with e | h
      · cases e; exact absurd rfl hc
      · exact asgInv_some r b i h
theorem asgBelow_spec : ∀ (n : Nat) (a : List (Nat × Nat)), asgBelow n a = true → ∀ i b, (i, b) ∈ a → i < n
  | n, [], _, _, _, h => by simp at h
  | n, (k, c) :: r, h, i, b, hm => by
    simp only [asgBelow, Bool.and_eq_true] at h
    rcases List.mem_cons.1 hm with e | hm
    · cases e; exact Nat.le_of_ble_eq_true h.1
    · exact asgBelow_spec n r h.2 i b hm
def owCall (a : List (Nat × Nat)) (ow : Nat → Owner) : Nat → Owner := fun blk => match ow blk with
  | .stable => .stable
  | .box b => match asgInv a b with
    | some i => .box i
    | none => .junk
  | .tok _ fr => .part fr
  | .part fr => .part fr
  | .junk => .junk
def bxCall (a : List (Nat × Nat)) (bx : Bx) : Bx := ⟨fun i => match asgGet a i with
  | some b => bx b
  | none => 0, fun _ => false⟩
theorem owCall_rigid {a : List (Nat × Nat)} {ow : Nat → Owner} {blk n : Nat} (h : Rigid ow blk n) : Rigid (owCall a ow) blk n := by
  rcases rigid_cases h with h | ⟨k, fr, h, hn⟩ | ⟨fr, h, hn⟩
  · exact rigid_stable (by simp [owCall, h])
  · exact rigid_part (by simp [owCall, h]) hn
  · exact rigid_part (by simp [owCall, h]) hn
theorem trCall {a : List (Nat × Nat)} (ha : AsgOK a) (ow : Nat → Owner) (bx : Bx) : TrOK a ow bx (owCall a ow) (bxCall a bx) := by
  refine ⟨fun blk n h => owCall_rigid h, fun i b hm hb => ⟨by simp [bxCall, ha.key i b hm], ?_⟩⟩
  obtain ⟨j, hj⟩ := asgInv_some a b i hm
  have : j = i := ha.inj j i b (asgInv_mem a b j hj) hm
  simp [owCall, hb, hj, this]
theorem res_dat : ∀ (l : List EV) {ow ow' : Nat → Owner} {bx bx' : Bx} {w : World} {v : Value}, (∀ e ∈ l, ∃ t x, e = .dat t x) → (∀ blk n, Rigid ow blk n → Rigid ow' blk n) → RepEV ow bx w (resEV l) v → RepEV ow' bx' w (resEV l) v := by
  intro l ow ow' bx bx' w v hd hst h
  have one : ∀ e v, (∃ t x, e = EV.dat t x) → RepEV ow bx w e v → RepEV ow' bx' w e v := by
    rintro e v ⟨t, x, rfl⟩ h
    cases h with
    | dat h => exact .dat (h.keep (KeepSt.of fun blk n hs => ⟨hst blk n hs, rfl⟩))
  unfold resEV at h ⊢
  split at h
  · exact one _ _ (hd _ (by simp)) h
  · cases h with
    | tup h1 h2 => exact .tup h1 fun i e v he hv => one e v (hd e (List.mem_of_getElem? he)) (h2 i e v he hv)
theorem unpack_dat : ∀ (t : Ty) (n : Nat) (x : t.den), ∀ e ∈ unpackL t n x, ∃ t v, e = .dat t v := by
  intro t
  induction t with
  | pair a b iha ihb =>
    intro n x e he
    cases n with
    | zero => simp [unpackL] at he
    | succ n =>
      cases n with
      | zero => simp [unpackL] at he; exact ⟨_, _, he⟩
      | succ n =>
        simp only [unpackL] at he
        rcases List.mem_cons.1 he with he | he
        · exact ⟨_, _, he⟩
        · exact ihb _ _ e he
  | _ =>
    intro n x e he
    cases n with
    | zero => simp [unpackL] at he
    | succ n => simp [unpackL] at he; exact ⟨_, _, he⟩
theorem refill_rest : ∀ (ps : List PT) (cs new out rest : List EV), refill ps cs new = some (out, rest) → ∀ e ∈ rest, e ∈ new := by
  intro ps
  induction ps with
  | nil =>
    intro cs new out rest h
    cases cs with
    | nil => simp only [refill] at h; cases h; exact fun e he => he
    | cons c cs => simp only [refill] at h; cases h
  | cons p ps ih =>
    intro cs new out rest h
    cases cs with
    | nil => cases p <;> simp only [refill] at h <;> cases h
    | cons c cs =>
      cases p with
      | own t => simp only [refill] at h; cases h
      | dat t =>
        cases new with
        | nil => simp only [refill] at h; cases h
        | cons x new =>
          simp only [refill] at h
          split at h
          · rename_i h1; cases h; exact fun e he => List.mem_cons_of_mem _ (ih _ _ _ _ h1 e he)
          · cases h
      | ref i off =>
        simp only [refill] at h
        split at h
        · rename_i h1; cases h; exact ih _ _ _ _ h1
        · cases h
      | sl b => simp only [refill] at h; cases h
      | clo f a b =>
        simp only [refill] at h
        split at h
        · rename_i h1; cases h; exact ih _ _ _ _ h1
        · cases h
/-- What is written into the boxes, one by one. -/
theorem refillB_spec {rd : Nat → Option (List EV)} {asg : List (Nat × Nat)} : ∀ (bs : List (List PT)) (i : Nat) (new : List EV) (ws : List Wr), refillB rd asg i bs new = some ws → bs.all (ptPlain false 200) = true → (∀ p ∈ bs, p.length < 200) →
    ws.length = bs.length ∧ (fillB bs new).length = bs.length ∧ ∀ j, j < bs.length → ∃ b cs out es', asgGet asg (i + j) = some b ∧ rd b = some cs ∧ ws[j]? = some ⟨b, 0, out⟩ ∧ (fillB bs new)[j]? = some (some es') ∧ es'.length = out.length ∧ out.length = cs.length ∧
      ∀ (k : Nat) e e', out[k]? = some e → es'[k]? = some e' → ((e = e' ∧ e' ∈ new) ∨ ∃ i' off pts, bs[j]? = some pts ∧ pts[k]? = some (.ref i' off) ∧ e' = .ptr i' off ∧ cs[k]? = some e)
  | [], i, new, ws, h, _, _ => by
    simp only [refillB] at h
    cases h
    exact ⟨rfl, rfl, fun j hj => absurd hj (by simp)⟩
  | pts :: r, i, new, ws, h, hp, hl => by
    simp only [List.all_cons, Bool.and_eq_true] at hp
    simp only [refillB] at h
    split at h
    · rename_i b hb
      split at h
      · rename_i cs hcs
        split at h
        · rename_i l rest hr
          split at h
          · rename_i ws' hws
            cases h
            obtain ⟨es', g1, g2, g3, g4⟩ := refill_fill 200 pts cs new l rest hr hp.1 (hl pts (by simp))
            have hsub : ∀ e ∈ rest, e ∈ new := refill_rest pts cs new l rest hr
            obtain ⟨k1, k2, k3⟩ := refillB_spec r (i + 1) rest ws' hws hp.2 (fun p hp => hl p (by simp [hp]))
            have hfb : fillB (pts :: r) new = some es' :: fillB r rest := by simp only [fillB, g1]
            refine ⟨by simp [k1], by rw [hfb]; simp [k2], fun j hj => ?_⟩
            cases j with
            | zero =>
              refine ⟨b, cs, l, es', hb, hcs, rfl, by rw [hfb]; rfl, g2, g3, fun k e e' he he' => ?_⟩
              rcases g4 k e e' he he' with h | ⟨i', off, h1, h2, h3⟩
              · exact .inl h
              · exact .inr ⟨i', off, pts, rfl, h1, h2, h3⟩
            | succ j =>
              obtain ⟨b', cs', out, es'', q1, q2, q3, q4, q5, q6, q7⟩ := k3 j (by simpa using hj)
              refine ⟨b', cs', out, es'', by rw [show i + (j + 1) = i + 1 + j by omega]; exact q1, q2, by simpa using q3, by rw [hfb]; simpa using q4, q5, q6, fun k e e' he he' => ?_⟩
              rcases q7 k e e' he he' with h | ⟨i', off, pts', h0, h1, h2, h3⟩
              · exact .inl ⟨h.1, hsub _ h.2⟩
              · exact .inr ⟨i', off, pts', by simpa using h0, h1, h2, h3⟩
          · cases h
        · cases h
      · cases h
    · cases h
theorem foldl_updW_other : ∀ (ws : List Wr) (bg : Nat → Option (List EV)) (b : Nat), (∀ x ∈ ws, x.b ≠ b) → ws.foldl updW bg b = bg b
  | [], _, _, _ => rfl
  | x :: r, bg, b, h => by
    simp only [List.foldl_cons]
    rw [foldl_updW_other r _ b (fun y hy => h y (by simp [hy]))]
    unfold updW
    rw [if_neg (fun e => h x (by simp) e.symm)]
theorem foldl_updW_isSome : ∀ (ws : List Wr) (bg : Nat → Option (List EV)) (b : Nat), (ws.foldl updW bg b).isSome = (bg b).isSome
  | [], _, _ => rfl
  | x :: r, bg, b => by
    simp only [List.foldl_cons]
    rw [foldl_updW_isSome r _ b]
    unfold updW
    split <;> simp
theorem foldl_updW_at : ∀ (ws : List Wr) (bg : Nat → Option (List EV)) (b : Nat) (out cs : List EV) (j : Nat), ws[j]? = some ⟨b, 0, out⟩ → bg b = some cs → out.length = cs.length →
    (∀ (k : Nat) x, ws[k]? = some x → x.b = b → k = j) → ws.foldl updW bg b = some out
  | [], _, _, _, _, j, h, _, _, _ => by simp at h
  | x :: r, bg, b, out, cs, j, h, hb, hl, hu => by
    simp only [List.foldl_cons]
    cases j with
    | zero =>
      simp at h
      subst h
      rw [foldl_updW_other r _ b (fun y hy e => by
        obtain ⟨k, hk⟩ := List.getElem?_of_mem hy
        have := hu (k + 1) y (by simpa using hk) e
        omega)]
      unfold updW
      simp only [if_true, hb, Option.map_some, splice]
      simp [← hl]
    | succ j =>
      have hx : x.b ≠ b := fun e => by have := hu 0 x rfl e; omega
      refine foldl_updW_at r _ b out cs j (by simpa using h) ?_ hl (fun k y hk e => by have := hu (k + 1) y (by simpa using hk) e; omega)
      unfold updW
      rw [if_neg (fun e => hx e.symm)]
      exact hb
end Go.Proofs.Ytbgdgpdfaebniaa
