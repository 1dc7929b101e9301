/- Each operation does what the reading says: stores, addresses, parts. No program in sight. -/
import Derived.Test.YtbgdgpdfaebniaaEngH
set_option linter.unusedSimpArgs false
set_option linter.unusedVariables false
namespace Go.Proofs.Ytbgdgpdfaebniaa
section
variable {ρ : Type} {P : Program} {Γ : Cx} {id : Nat} {rd : Nat → Option (List EV)} {g : Option Bool} {A : Operand → EV} {o : Oper} {q : EV → Option (List EV) → List Wr → List Nat → Option ρ} {r : ρ}
theorem goes_write {B : Base} {ow : Nat → Owner} {bx : Bx} {nb : Nat} {bg : Nat → Option (List EV)} {w : World} {a : Act} {b off : Nat} {cs new : List EV} {nvs : List Value} (hi : Inv B ow bx nb bg w)
    (hb : bg b = some cs) (hn : RepCs ow bx w new nvs) (hle : off + new.length ≤ cs.length)
    (h : ∀ c T, w.heap[bx b]? = some (.cells c T (0, 0)) → c.size = cs.length → RepCs ow bx w cs c.toList →
      (execOp a.eval o).run P w = .ok .skip (w.setRow (bx b) (c.toList.take off ++ nvs ++ c.toList.drop (off + nvs.length)).toArray)) :
    Goes P B ow bx nb bg w a o id .undef none [⟨b, off, new⟩] := by
  intro K Q hK
  obtain ⟨c, T, h1, h2, h3, h4, h5⟩ := hi.write hb hn hle
  unfold Oper.wp
  rw [h c T h1 h2 h3]
  exact hK _ _ _ _ h4 (.undef _) h5 rfl
theorem mergeRow_length {c : Bool} : ∀ (xs ys zs : List EV), mergeRow c xs ys = some zs → zs.length = xs.length := by
  intro xs
  induction xs with
  | nil => intro ys zs h; simp only [mergeRow] at h; cases h; rfl
  | cons x xs ih =>
    intro ys zs h
    cases ys with
    | nil => simp only [mergeRow] at h; cases h
    | cons y ys =>
      simp only [mergeRow] at h
      split at h
      · split at h
        · rename_i hz
          cases h
          simp [ih _ _ hz]
        · cases h
      · cases h
theorem mergeRow_length2 {c : Bool} : ∀ (xs ys zs : List EV), mergeRow c xs ys = some zs → zs.length = xs.length ∧ xs.length ≤ ys.length := by
  intro xs
  induction xs with
  | nil => intro ys zs h; simp only [mergeRow] at h; cases h; exact ⟨rfl, Nat.zero_le _⟩
  | cons x xs ih =>
    intro ys zs h
    cases ys with
    | nil => simp only [mergeRow] at h; cases h
    | cons y ys =>
      simp only [mergeRow] at h
      split at h
      · split at h
        · rename_i hz
          cases h
          have := ih _ _ hz
          simp [this]
        · cases h
      · cases h
theorem mergeRow_rep {ow : Nat → Owner} {bx : Bx} {w : World} {c : Bool} : ∀ (xs ys zs : List EV) (us vs : List Value), mergeRow c xs ys = some zs → RepCs ow bx w xs us → RepCs ow bx w ys vs → xs.length = ys.length →
    RepCs ow bx w zs (if c then us else vs) := by
  intro xs
  induction xs with
  | nil =>
    intro ys zs us vs h hx hy hl
    simp only [mergeRow] at h
    cases h
    have h1 : us = [] := by have := hx.1; simpa using this.symm
    have h2 : vs = [] := by have := hy.1; rw [← hl] at this; simpa using this.symm
    subst h1 h2
    simp [RepCs.nil]
  | cons x xs ih =>
    intro ys zs us vs h hx hy hl
    cases ys with
    | nil => simp at hl
    | cons y ys =>
      simp only [mergeRow] at h
      split at h
      · rename_i z hz
        split at h
        · rename_i zs' hzs
          cases h
          obtain ⟨u, us', rfl, hu, hu1, hxs⟩ := hx.cons_inv
          obtain ⟨v, vs', rfl, hv, hv1, hys⟩ := hy.cons_inv
          have hr := ih _ _ _ _ hzs hxs hys (by simpa using hl)
          unfold mergeEV at hz
          split at hz
          · split at hz
            · rename_i t x' t' y' ht
              subst ht
              cases hz
              cases c with
              | true => simp only [if_true, cond_true] at hr ⊢; exact (RepCs.one hu hu1).append hr
              | false => simp only [Bool.false_eq_true, if_false, cond_false] at hr ⊢; exact (RepCs.one hv hv1).append hr
            · cases hz
          · cases hz
        · cases h
      · cases h
theorem splice_length {α : Type} {l new : List α} {off : Nat} (h : off + new.length ≤ l.length) : (l.take off ++ new ++ l.drop (off + new.length)).length = l.length := by
  simp; omega
theorem storeIx_length {s : Nat} {i : Int} {new : List EV} : ∀ (n off j : Nat) (cs cs' : List EV), storeIx cs off s i new j n = some cs' → cs'.length = cs.length := by
  intro n
  induction n with
  | zero => intro off j cs cs' h; cases h; rfl
  | succ n ih =>
    intro off j cs cs' h
    simp only [storeIx] at h
    split at h
    · rename_i m hm
      rw [ih _ _ _ _ h]
      have hml := mergeRow_length2 _ _ _ hm
      simp only [splice, List.length_append, List.length_take, List.length_drop]
      simp at hml
      omega
    · cases h
/-- A store at an element by its number. -/
theorem storeIx_rep {ow : Nat → Owner} {bx : Bx} {w : World} {s : Nat} {i : Int} {new : List EV} {nvs : List Value} (hn : RepCs ow bx w new nvs) : ∀ (n off j : Nat) (cs cs' : List EV) (vs : List Value),
    storeIx cs off s i new j n = some cs' → RepCs ow bx w cs vs → (n = 0 ∨ off + (n - 1) * s + new.length ≤ cs.length) → 
    cs'.length = cs.length ∧ ((j : Int) ≤ i → i < (j + n : Nat) → RepCs ow bx w cs' (vs.take (off + (i.toNat - j) * s) ++ nvs ++ vs.drop (off + (i.toNat - j) * s + nvs.length))) ∧
      (¬ ((j : Int) ≤ i ∧ i < (j + n : Nat)) → RepCs ow bx w cs' vs) := by
  intro n
  induction n with
  | zero => intro off j cs cs' vs h hc _; cases h; exact ⟨rfl, fun h1 h2 => absurd h1 (by omega), fun _ => hc⟩
  | succ n ih =>
    intro off j cs cs' vs h hc hle
    have hle' : off + n * s + new.length ≤ cs.length := by simpa using hle
    have hoff : off + new.length ≤ cs.length := by have : 0 ≤ n * s := Nat.zero_le _; omega
    simp only [storeIx] at h
    split at h
    · rename_i m hm
      have hml := mergeRow_length _ _ _ hm
      have hlen : (splice cs off m).length = cs.length := by
        have := splice_length (l := cs) (new := m) (off := off) (by rw [hml]; exact hoff)
        simpa [splice] using this
      have hlv : cs.length = vs.length := hc.1
      have hln : new.length = nvs.length := hn.1
      have hseg := (hc.drop off).take new.length
      have hmr := mergeRow_rep (c := (i == (j : Int))) _ _ _ _ _ hm hn hseg (by simp; omega)
      have hnext : n = 0 ∨ off + s + (n - 1) * s + new.length ≤ (splice cs off m).length := by
        cases n with
        | zero => exact .inl rfl
        | succ k =>
          refine .inr ?_
          rw [hlen]
          have : (k + 1) * s = k * s + s := Nat.succ_mul _ _
          simp only [Nat.add_sub_cancel]
          omega
      by_cases hij : i = (j : Int)
      · have hb : (i == (j : Int)) = true := by simp [hij]
        rw [hb] at hmr
        simp only [if_true] at hmr
        have hcs := hc.splice hmr off
        obtain ⟨g1, g2, g3⟩ := ih _ _ _ _ _ h hcs hnext
        refine ⟨by rw [g1, hlen], fun _ _ => ?_, fun hneg => absurd ⟨by omega, by omega⟩ hneg⟩
        have := g3 (by omega)
        rw [show i.toNat - j = 0 by omega]
        simpa using this
      · have hb : (i == (j : Int)) = false := by simp [hij]
        rw [hb] at hmr
        simp only [Bool.false_eq_true, if_false] at hmr
        have hcs := hc.splice hmr off
        have hsame : vs.take off ++ (vs.drop off).take new.length ++ vs.drop (off + ((vs.drop off).take new.length).length) = vs := by
          have : ((vs.drop off).take new.length).length = new.length := by simp; omega
          rw [this, List.append_assoc]
          have e : (vs.drop off).take new.length ++ vs.drop (off + new.length) = vs.drop off := by
            rw [← List.drop_drop]; exact List.take_append_drop _ _
          rw [e, List.take_append_drop]
        rw [hsame] at hcs
        obtain ⟨g1, g2, g3⟩ := ih _ _ _ _ _ h hcs hnext
        refine ⟨by rw [g1, hlen], fun h1 h2 => ?_, fun hneg => g3 (by omega)⟩
        have := g2 (by omega) (by omega)
        have e : off + s + (i.toNat - (j + 1)) * s = off + (i.toNat - j) * s := by
          have : i.toNat - j = (i.toNat - (j + 1)) + 1 := by omega
          rw [this, Nat.succ_mul]; omega
        rw [e] at this
        exact this
    · cases h
theorem storeVar_at {T : TypeId} {w : World} {b off n : Nat} {c : Array Value} {U : TypeId} {u : Value} (hs : (sizeOf T).run P w = .ok n w) (hn : u.cells.size = n) (hb : w.heap[b]? = some (.cells c U (0, 0)))
    (hle : off + u.cells.size ≤ c.size) (h1 : ∀ v ∈ u.cells.toList, v.oneCell' = true) :
    (storeVar T ⟨b, off, none⟩ u).run P w = .ok () (w.setRow b (c.toList.take off ++ u.cells.toList ++ c.toList.drop (off + u.cells.toList.length)).toArray) := by
  have := run_storeCells_at P b off U u.cells.toList 0 c w hb (by simpa using hle) h1
  unfold storeVar
  simp only [Sem.run_bind, hs, Result.andThen_ok, hn, ne_eq, not_true_eq_false, if_false]
  simpa using this
theorem RepCs.ones {ow : Nat → Owner} {bx : Bx} {w : World} {es : List EV} {vs : List Value} (h : RepCs ow bx w es vs) : ∀ v ∈ vs, v.oneCell' = true := by
  intro v hv
  obtain ⟨i, hi⟩ := List.getElem?_of_mem hv
  have hlt : i < vs.length := (List.getElem?_eq_some_iff.1 hi).1
  exact (h.2 i _ v (List.getElem?_eq_getElem (by rw [h.1]; exact hlt)) hi).2
theorem sound_store {T : TypeId} {x y : Operand} (hΓ : CxOK P Γ) (ho : o.op = .store T x y) (h : opE Γ id rd g A (.store T x y) q = some r) : Sound P id rd g A o q r := by
  have hx : ∀ {ow bx w ev}, Args ow bx w A ev o.op → RepEV ow bx w (A x) (ev x) ∧ RepEV ow bx w (A y) (ev y) := by
    intro ow bx w ev hA
    rw [ho] at hA
    exact ⟨args_of hA (by intros; simp) x (by simp [Op.operands]), args_of hA (by intros; simp) y (by simp [Op.operands])⟩
  simp only [opE] at h
  obtain ⟨rfl, h⟩ := noGuard_spec h
  split at h
  · rename_i d hd
    have hOK := hΓ.td T d hd
    split at h
    · rename_i new hnew
      split at h
      · rename_i b off he
        split at h
        · rename_i cs hcs
          split at h
          · rename_i hck
            simp only [Bool.and_eq_true] at hck
            have hl1 := Nat.eq_of_beq_eq_true hck.1
            have hl2 := Nat.le_of_ble_eq_true hck.2
            refine ⟨_, _, _, _, h, fun h => (by cases h), fun x hx => (by simp at hx; subst hx; exact ⟨by simp, cs, hcs, by simp only; omega⟩), fun _ B ow bx nb bg w a hi hA hb hn => ?_⟩
            obtain ⟨hp, hv⟩ := hx hA
            rw [he] at hp
            have hnv := cells_rep hnew hv
            refine goes_write hi (by rw [hb b (by simp)]; exact hcs) hnv (by omega) fun c U hc hcl hcr => ?_
            cases hpe : a.eval x with
            | pointer ad =>
              rw [hpe] at hp
              cases hp with
              | ptr hq =>
                have hsz : (a.eval y).cells.size = d.zero.length := by have := hnv.1; simp at this; omega
                have := storeVar_at (P := P) (T := T) (hOK.sizeOf (w := w)) hsz hc (off := off) (by omega) hnv.ones
                unfold execOp
                rw [ho]
                simp only [hpe, Instr.storeAt, Instr.sureAddr, Sem.run_bind, Sem.run_pure, Result.andThen_ok, this]
            | _ => rw [hpe] at hp; cases hp
          · cases h
        · cases h
      · rename_i b off s n i o' he
        split at h
        · rename_i cs hcs
          split at h
          · rename_i hck
            simp only [Bool.and_eq_true] at hck
            have hl1 := Nat.eq_of_beq_eq_true hck.1.1
            have hl2 := Nat.le_of_ble_eq_true hck.1.2
            have hl3 := Nat.le_of_ble_eq_true hck.2
            split at h
            · rename_i cs' hcs'
              refine ⟨_, _, _, _, h, fun h => (by cases h), fun x hx => (by simp at hx; subst hx; exact ⟨by simp, cs, hcs, by simp only [Nat.zero_add]; rw [storeIx_length _ _ _ _ _ hcs']; exact Nat.le_refl _⟩), fun _ B ow bx nb bg w a hi hA hb hn => ?_⟩
              obtain ⟨hp, hv⟩ := hx hA
              rw [he] at hp
              have hnv := cells_rep hnew hv
              have hbg : bg b = some cs := by rw [hb b (by simp)]; exact hcs
              obtain ⟨hown, c, U, hc, hcr⟩ := hi.box b cs hbg
              cases hpe : a.eval x with
              | pointer ad =>
                rw [hpe] at hp
                cases hp with
                | pix hq h0 h1 =>
                  have hn0 : 0 < n := by omega
                  have hns : (n - 1) * s + s = n * s := by
                    have : n = (n - 1) + 1 := by omega
                    rw [this, Nat.succ_mul]; simp
                  have hix := storeIx_rep hnv n (off + o') 0 cs cs' c.toList hcs' hcr (.inr (by omega))
                  obtain ⟨g1, g2, _⟩ := hix
                  have g2' := g2 (by omega) (by omega)
                  have hiN : i.toNat * s + s ≤ n * s := by
                    have : i.toNat + 1 ≤ n := by omega
                    have := Nat.mul_le_mul_right s this
                    rw [Nat.succ_mul] at this
                    exact this
                  have hsz : (a.eval y).cells.size = d.zero.length := by have := hnv.1; simp at this; omega
                  have hcl : c.size = cs.length := by have := hcr.1; simpa using this.symm
                  refine goes_write hi hbg g2' (by omega) fun c' U' hc' hcl' hcr' => ?_
                  rw [hc] at hc'
                  cases hc'
                  have := storeVar_at (P := P) (T := T) (hOK.sizeOf (w := w)) hsz hc (off := off + i.toNat * s + o') (by omega) hnv.ones
                  unfold execOp
                  rw [ho]
                  simp only [hpe, Instr.storeAt, Instr.sureAddr, Sem.run_bind, Sem.run_pure, Result.andThen_ok, this]
                  congr 3
                  simp only [Nat.sub_zero]
                  have e : off + o' + i.toNat * s = off + i.toNat * s + o' := by omega
                  rw [e]
                  simp
                  omega
              | _ => rw [hpe] at hp; cases hp
            · cases h
          · cases h
        · cases h
      · cases h
    · cases h
  · cases h
theorem sound_nilCheck {x : Operand} (ho : o.op = .nilCheck x) (h : opE Γ id rd g A (.nilCheck x) q = some r) : Sound P id rd g A o q r := by
  have hx : ∀ {ow bx w ev}, Args ow bx w A ev o.op → RepEV ow bx w (A x) (ev x) := by
    intro ow bx w ev hA
    rw [ho] at hA
    exact args_of hA (by intros; simp) x (by simp [Op.operands])
  have run : ∀ {a : Act} {w : World} {ad : Addr}, a.eval x = .pointer (some ad) → (execOp a.eval o).run P w = .ok (.value (.pointer (some ad))) w := by
    intro a w ad he
    unfold execOp
    rw [ho]
    simp [he]
  simp only [opE] at h
  split at h
  · rename_i b off he
    refine sound_pure h fun _ B ow bx nb bg w a hi hA hb => ?_
    have hp := hx hA
    rw [he] at hp
    cases hpe : a.eval x with
    | pointer ad =>
      rw [hpe] at hp
      cases hp with
      | ptr hq => exact ⟨_, run hpe, .ptr hq⟩
    | _ => rw [hpe] at hp; cases hp
  · rename_i b off s n i o' he
    refine sound_pure h fun _ B ow bx nb bg w a hi hA hb => ?_
    have hp := hx hA
    rw [he] at hp
    cases hpe : a.eval x with
    | pointer ad =>
      rw [hpe] at hp
      cases hp with
      | pix hq h0 h1 => exact ⟨_, run hpe, .pix hq h0 h1⟩
    | _ => rw [hpe] at hp; cases hp
  · rename_i t l i o' he
    refine sound_pure h fun _ B ow bx nb bg w a hi hA hb => ?_
    have hp := hx hA
    rw [he] at hp
    cases hpe : a.eval x with
    | pointer ad =>
      rw [hpe] at hp
      cases hp with
      | elt h0 h1 hs hbk hc => exact ⟨_, run hpe, .elt h0 h1 hs hbk hc⟩
    | _ => rw [hpe] at hp; cases hp
  · cases h
theorem sound_un {op : UnOp} {T : TypeId} {x : Operand} (ho : o.op = .unOp op T x) (h : opE Γ id rd g A (.unOp op T x) q = some r) : Sound P id rd g A o q r := by
  have hx : ∀ {ow bx w ev}, Args ow bx w A ev o.op → RepEV ow bx w (A x) (ev x) := by
    intro ow bx w ev hA
    rw [ho] at hA
    exact args_of hA (by intros; simp) x (by simp [Op.operands])
  simp only [opE] at h
  split at h
  · rename_i b he
    refine sound_pure h fun _ B ow bx nb bg w a hi hA hb => ?_
    have hp := hx hA
    rw [he] at hp
    exact ⟨.bool !b, by unfold execOp; rw [ho]; simp [repBool hp, Op.unary], repBool_mk⟩
  · rename_i k n he
    refine sound_pure h fun _ B ow bx nb bg w a hi hA hb => ?_
    have hp := hx hA
    rw [he] at hp
    exact ⟨_, by unfold execOp; rw [ho]; simp [(repInt hp).1, Op.unary, Op.intArith]; try rfl, repInt_mk (fits_wrap _ _)⟩
  · rename_i k n he
    refine sound_pure h fun _ B ow bx nb bg w a hi hA hb => ?_
    have hp := hx hA
    rw [he] at hp
    exact ⟨_, by unfold execOp; rw [ho]; simp [(repInt hp).1, Op.unary, Op.intBits]; try rfl, repInt_mk (fits_wrap _ _)⟩
  · cases h
theorem sound_convert {S D : TypeId} {x : Operand} (hΓ : CxOK P Γ) (ho : o.op = .convert S D x) (h : opE Γ id rd g A (.convert S D x) q = some r) : Sound P id rd g A o q r := by
  have hx : ∀ {ow bx w ev}, Args ow bx w A ev o.op → RepEV ow bx w (A x) (ev x) := by
    intro ow bx w ev hA
    rw [ho] at hA
    exact args_of hA (by intros; simp) x (by simp [Op.operands])
  simp only [opE] at h
  split at h
  · rename_i k n he
    split at h
    · rename_i dd hdd htd
      split at h
      · rename_i k' hk'
        refine sound_pure h fun _ B ow bx nb bg w a hi hA hb => ?_
        have hp := hx hA
        rw [he] at hp
        have und : ∀ {T d k}, Γ.td T = some d → d.ty = some (.int k) → P.underlying T = some (.int k) := by
          intro T d k hT hk
          have hOK := hΓ.td T d hT
          have hh := hOK.how
          have hag := (hOK.agg _ hk).2
          cases hw : d.how with
          | scalar => simp only [hw] at hh; obtain ⟨_, u, hu, _, _, h5, _⟩ := hh; rw [hu, h5 k hk]
          | struct fs => rw [hw] at hag; simp [Ty.isAgg] at hag
          | array n e s => rw [hw] at hag; simp [Ty.isAgg] at hag
          | slice e s b => simp only [hw] at hh; exact absurd hk (hh.2.2.2.2.1 k)
        obtain ⟨ds, hds, hks⟩ := tyIs_spec htd
        refine ⟨_, ?_, repInt_mk (fits_wrap k' n)⟩
        unfold execOp
        rw [ho]
        simp [(repInt hp).1, convert, underlying, und hds hks, und hdd hk', Conv.intToInt]
      · cases h
    · cases h
  · cases h
theorem sound_extract {x : Operand} {i : Nat} (ho : o.op = .extract x i) (h : opE Γ id rd g A (.extract x i) q = some r) : Sound P id rd g A o q r := by
  have hx : ∀ {ow bx w ev}, Args ow bx w A ev o.op → RepEV ow bx w (A x) (ev x) := by
    intro ow bx w ev hA
    rw [ho] at hA
    exact args_of hA (by intros; simp) x (by simp [Op.operands])
  simp only [opE] at h
  split at h
  · rename_i vs he
    split at h
    · rename_i v hv
      refine sound_pure h fun _ B ow bx nb bg w a hi hA hb => ?_
      have hp := hx hA
      rw [he] at hp
      generalize hpe : a.eval x = u at hp
      cases hp with
      | tup h1 h2 =>
        rename_i us
        have hlt : i < us.size := by rw [← h1]; exact (List.getElem?_eq_some_iff.1 hv).1
        refine ⟨us[i], ?_, h2 i v _ hv (Array.getElem?_eq_getElem hlt)⟩
        unfold execOp
        rw [ho]
        simp [hpe, Instr.extract, hlt]
    · cases h
  · cases h
end
end Go.Proofs.Ytbgdgpdfaebniaa
