/- 'append' does what the reading says. No program in sight. -/
import Derived.Test.YtbgdgpdfaebniaaEngQ
import Derived.Laws.AppendOwn
set_option linter.unusedSimpArgs false
set_option linter.unusedVariables false
namespace Go.Proofs.Ytbgdgpdfaebniaa
theorem isApp_spec {p : Op} {x y : Operand} {t : Nat} (h : isApp p = some (x, y, t)) : ∃ c, p = .call c ∧ c.callee = .builtin .append ∧ c.args = #[x, y] ∧ c.argTypes = #[t, t] := by
  unfold isApp at h
  split at h
  · rename_i c
    split at h
    · rename_i hc
      split at h
      · rename_i x' y' t1 t2 h1 h2
        split at h
        · rename_i hb
          cases h
          have hb := Nat.eq_of_beq_eq_true hb
          subst hb
          refine ⟨c, rfl, hc, ?_, ?_⟩
          · apply Array.ext'; simpa using h1
          · apply Array.ext'; simpa using h2
        · cases h
      · cases h
    · cases h
  · cases h
theorem appT_spec {P : Program} {Γ : Cx} {t : Nat} {ty : Ty} {b e : Nat} (hΓ : CxOK P Γ) (h : appT Γ t = some (ty, b, e)) : ∃ i z, P.underlying t = some (.slice e) ∧ P.info? e = some i ∧ i.size = ty.size ∧ i.bytes = b ∧ i.zero = some z ∧ z.cells.size = ty.size ∧ 0 < ty.size ∧ 0 < b := by
  unfold appT at h
  split at h
  · rename_i d hd
    split at h
    · rename_i e' s' bytes' hw
      split at h
      · rename_i de hde
        split at h
        · rename_i ty' hty
          split at h
          · rename_i h1
            cases h
            simp only [Bool.and_eq_true] at h1
            have hT := (hΓ.td _ _ hd).how
            rw [hw] at hT
            obtain ⟨_, hu, ⟨i, z, g1, g2, g3, g4⟩, _⟩ := hT
            obtain ⟨i', z', k1, k2, k3, k4, _⟩ := (hΓ.td _ _ hde).zero
            rw [g1] at k1
            cases k1
            rw [g4] at k2
            cases k2
            have hs := ((hΓ.td _ _ hde).agg _ hty).1
            exact ⟨i, z, hu, g1, by omega, g3, g4, by omega, Nat.le_of_ble_eq_true h1.1, Nat.le_of_ble_eq_true h1.2⟩
          · cases h
        · cases h
      · cases h
    · cases h
  · cases h
section
variable {ow : Nat → Owner} {bx : Bx} {w : World}
/-- The cells of a slice. -/
theorem slice_cells {a : Ty} {l : List a.den} {v : Value} (h : RepV ow w (.slice a) l v) (ha : 0 < a.size) : ∃ ad cap, v = .slice ad l.length cap ∧ l.length ≤ 9223372036854775807 ∧ l.length ≤ cap ∧
    (l ≠ [] → ∃ blk off c T fz, ad = some ⟨blk, off, none⟩ ∧ Rigid ow blk (off + l.length * a.size) ∧ w.heap[blk]? = some (.cells c T fz) ∧ off + l.length * a.size ≤ c.size ∧
      (∀ u ∈ (c.toList.drop off).take (l.length * a.size), u.oneCell' = true) ∧
      ∀ (i : Nat) x, l[i]? = some x → Rep ow w a x ((((c.toList.drop off).take (l.length * a.size)).drop (i * a.size)).take a.size)) := by
  obtain ⟨ad, cap, hv, ⟨h1, h2⟩, h3⟩ := h
  simp only [List.cons.injEq, and_true] at hv
  refine ⟨ad, cap, hv, h1, h2, fun hne => ?_⟩
  obtain ⟨blk, off, c, T, fz, k1, k2, k3, k4⟩ := h3 hne
  have hpos : 0 < l.length := List.length_pos_iff.2 hne
  have hlast := rep_length _ _ _ (k4 (l.length - 1) _ (List.getElem?_eq_getElem (by omega)))
  have hm : (l.length - 1) * a.size + a.size = l.length * a.size := by
    have := Nat.add_mul (l.length - 1) 1 a.size
    rw [Nat.one_mul, show l.length - 1 + 1 = l.length by omega] at this
    omega
  have hsz : off + l.length * a.size ≤ c.size := by
    rw [List.length_take, List.length_drop, Array.length_toList] at hlast
    omega
  have part : ∀ i, i < l.length → (((c.toList.drop off).take (l.length * a.size)).drop (i * a.size)).take a.size = (c.toList.drop (off + i * a.size)).take a.size := by
    intro i hi
    have hle : i * a.size + a.size ≤ l.length * a.size := by have := mul_part (off := 0) (s := a.size) hi; omega
    rw [List.drop_take, List.take_take, Nat.min_eq_left (by omega), List.drop_drop]
  refine ⟨blk, off, c, T, fz, k1, k2, k3, hsz, fun u hu => ?_, fun i x hx => ?_⟩
  · obtain ⟨j, hj⟩ := List.getElem?_of_mem hu
    have hjl : j < l.length * a.size := by
      have := (List.getElem?_eq_some_iff.1 hj).1
      rw [List.length_take] at this
      omega
    have hi : j / a.size < l.length := Nat.div_lt_of_lt_mul (by rwa [Nat.mul_comm])
    refine rep_one _ _ _ (k4 (j / a.size) _ (List.getElem?_eq_getElem hi)) u ?_
    rw [← part _ hi]
    have hjm : j = j / a.size * a.size + j % a.size := by
      have := Nat.div_add_mod j a.size
      rw [Nat.mul_comm] at this
      omega
    have hmod := Nat.mod_lt j ha
    refine List.mem_of_getElem? (i := j % a.size) ?_
    rw [List.getElem?_take, if_pos hmod, List.getElem?_drop, ← hjm]
    exact hj
  · rw [part i (List.getElem?_eq_some_iff.1 hx).1]
    exact k4 i x hx
/-- A slice out of its cells. -/
theorem rep_joined {ow' : Nat → Owner} {w' : World} {a : Ty} {l l' : List a.den} {g cap : Nat} {c : Array Value} {T : TypeId} {olds news : List Value} (ha : 0 < a.size) (hn : (l ++ l').length ≤ 9223372036854775807) (hc : (l ++ l').length ≤ cap)
    (hR : Rigid ow' g ((l ++ l').length * a.size)) (hb : w'.heap[g]? = some (.cells c T (0, 0))) (ht : c.toList.take ((l ++ l').length * a.size) = olds ++ news) (hlo : olds.length = l.length * a.size)
    (h1 : ∀ (i : Nat) x, l[i]? = some x → Rep ow' w' a x ((olds.drop (i * a.size)).take a.size)) (h2 : ∀ (i : Nat) x, l'[i]? = some x → Rep ow' w' a x ((news.drop (i * a.size)).take a.size)) :
    RepV ow' w' (.slice a) (l ++ l') (.slice (some ⟨g, 0, none⟩) (l ++ l').length cap) := by
  refine ⟨some ⟨g, 0, none⟩, cap, rfl, ⟨hn, hc⟩, fun _ => ⟨g, 0, c, T, (0, 0), rfl, by rw [Nat.zero_add]; exact hR, hb, fun i x hx => ?_⟩⟩
  rw [Nat.zero_add]
  have hi := (List.getElem?_eq_some_iff.1 hx).1
  have hle := mul_part (off := 0) (s := a.size) hi
  have e : (c.toList.drop (i * a.size)).take a.size = ((olds ++ news).drop (i * a.size)).take a.size := by
    rw [← ht, List.drop_take, List.take_take, Nat.min_eq_left (by omega)]
  rw [e]
  by_cases hl : i < l.length
  · rw [List.getElem?_append_left hl] at hx
    have hle' := mul_part (off := 0) (s := a.size) hl
    have := h1 i x hx
    rw [List.drop_append_of_le_length (by omega), List.take_append_of_le_length (by rw [List.length_drop]; omega)]
    exact this
  · rw [List.getElem?_append_right (by omega)] at hx
    have := h2 (i - l.length) x hx
    have e2 : (olds ++ news).drop (i * a.size) = news.drop ((i - l.length) * a.size) := by
      rw [List.drop_append, List.drop_eq_nil_of_le (by rw [hlo]; exact Nat.mul_le_mul_right _ (by omega)), List.nil_append, hlo, Nat.sub_mul]
    rw [e2]
    exact this
end
theorem alloc_size (w : World) (o : Obj) : (w.drew.alloc o).heap.size = w.heap.size + 1 := by
  show (w.heap.push o).size = w.heap.size + 1
  exact Array.size_push _
theorem toList_len {α : Type} (c : Array α) : c.toList.length = c.size := by simp
theorem natIn_false {k : Nat} {l : List Nat} (h : natIn k l = false) : k ∉ l := by
  intro hm
  unfold natIn at h
  rw [List.any_eq_false] at h
  exact h k hm (Nat.beq_refl k)
/-- Behind the operation: a block has a new token, and what was rigid stays. -/
theorem tok_step {B : Base} {ow : Nat → Owner} {bx : Bx} {nb : Nat} {bg : Nat → Option (List EV)} {w w' : World} (hi : Inv B ow bx nb bg w) {g k k' fr : Nat} {c : Array Value} {T : TypeId}
    (hg : (g = w.heap.size ∧ w'.heap.size = w.heap.size + 1) ∨ (w'.heap.size = w.heap.size ∧ ∃ fr₀ c₀, ow g = .tok k fr₀ ∧ w.heap[g]? = some (.cells c₀ T (0, 0)) ∧ fr₀ ≤ fr ∧ c.toList.take fr₀ = c₀.toList.take fr₀))
    (hb : w'.heap[g]? = some (.cells c T (0, 0))) (hold : ∀ blk, blk < w.heap.size → blk ≠ g → w'.heap[blk]? = w.heap[blk]?) (henv : w'.tape = w.tape ∧ w'.os = w.os ∧ w'.output = w.output) :
    Keeps ow bx w (fun blk => if blk = g then .tok k' fr else ow blk) ⟨bx.f, fun j => bx.dead j || Nat.beq k j⟩ w' ∧ Inv B (fun blk => if blk = g then .tok k' fr else ow blk) ⟨bx.f, fun j => bx.dead j || Nat.beq k j⟩ nb bg w' := by
  have hbox : ∀ b, ow g ≠ .box b := by
    intro b h
    rcases hg with ⟨hg, _⟩ | ⟨_, fr₀, c₀, h1, _⟩
    · have := hi.here g (by rw [h]; intro e; cases e)
      omega
    · rw [h1] at h; cases h
  have hlive : ∀ blk, ow blk ≠ .junk → blk ≠ g → w'.heap[blk]? = w.heap[blk]? := fun blk h hne => hold blk (hi.here blk h) hne
  have hk : Keeps ow bx w (fun blk => if blk = g then .tok k' fr else ow blk) ⟨bx.f, fun j => bx.dead j || Nat.beq k j⟩ w' := by
    refine ⟨fun blk n c1 T1 fz hr h1 => ?_, fun blk k2 fr2 h2 hd => ?_, fun j hd => ?_, fun b h => ?_⟩
    · by_cases hbg : blk = g
      · subst hbg
        rcases hg with ⟨hg, _⟩ | ⟨_, fr₀, c₀, g1, g2, g3, g4⟩
        · have := hi.here blk (rigid_live hr)
          omega
        · rw [g2] at h1
          cases h1
          have hn : n ≤ fr₀ := by
            rcases rigid_cases hr with h | ⟨_, _, h, hn⟩ | ⟨_, h, _⟩ <;> rw [g1] at h <;> cases h
            exact hn
          refine ⟨rigid_tok (k := k') (fr := fr) (by simp) (by omega), c, hb, ?_⟩
          have := congrArg (List.take n) g4
          rwa [List.take_take, List.take_take, Nat.min_eq_left hn] at this
      · exact ⟨rigid_eq hr (by simp only [if_neg hbg]), c1, by rw [hlive blk (rigid_live hr) hbg, h1], rfl⟩
    · simp only [Bool.or_eq_false_iff] at hd
      have hbg : blk ≠ g := by
        intro e
        subst e
        rcases hg with ⟨hg, _⟩ | ⟨_, fr₀, c₀, g1, _⟩
        · have := hi.here blk (by rw [h2]; intro e; cases e)
          omega
        · rw [g1] at h2
          cases h2
          rw [Nat.beq_refl] at hd
          exact absurd hd.2 (by simp)
      exact ⟨by simp only [if_neg hbg]; exact h2, hlive blk (by rw [h2]; intro e; cases e) hbg⟩
    · simp only [Bool.or_eq_false_iff] at hd
      exact hd.1
    · have hbg : bx b ≠ g := fun e => hbox b (by rw [← e]; exact h)
      exact ⟨rfl, by simp only [if_neg hbg]; exact h⟩
  refine ⟨hk, ?_⟩
  constructor
  · intro b cs hcs
    obtain ⟨h1, c1, T1, h2, h3⟩ := hi.box b cs hcs
    have hbg : bx b ≠ g := fun e => hbox b (by rw [← e]; exact h1)
    exact ⟨by simp only [if_neg hbg]; exact h1, c1, T1, by rw [hlive _ (by rw [h1]; intro e; cases e) hbg]; exact h2, h3.keep hk⟩
  · intro blk b h
    split at h
    · cases h
    · exact hi.back blk b h
  · intro blk h
    split at h
    · rename_i e
      subst e
      exact (Array.getElem?_eq_some_iff.1 hb).1
    · have := hi.here blk h
      rcases hg with ⟨_, h⟩ | ⟨h, _⟩ <;> omega
  · intro blk h1 h2
    obtain ⟨g1, g2, g3, g4⟩ := hi.old blk h1 h2
    have hs := hi.size
    have hbg : blk ≠ g := by
      intro e
      subst e
      rcases hg with ⟨hg, _⟩ | ⟨_, fr₀, c₀, k1, _⟩
      · omega
      · exact g4 _ _ k1
    refine ⟨?_, by simp only [if_neg hbg]; exact g2, by simp only [if_neg hbg]; exact ⟨g3, g4⟩⟩
    rw [hold blk (by omega) hbg]
    exact g1
  · have := hi.size
    rcases hg with ⟨_, h⟩ | ⟨h, _⟩ <;> omega
  · obtain ⟨e1, e2, e3⟩ := hi.env
    obtain ⟨e4, e5, e6⟩ := henv
    exact ⟨by rw [e4]; exact e1, by rw [e5]; exact e2, by rw [e6]; exact e3⟩
  · exact hi.kept
theorem app_sound {ρ : Type} {P : Program} {Γ : Cx} (hΓ : CxOK P Γ) {dead : List Nat} {o : Oper} {A : Operand → EV} {x y : Operand} {t : Nat} {q : EV → Nat → Option ρ} {r : ρ} (happ : isApp o.op = some (x, y, t))
    (h : appE Γ dead o.dst (A x) (A y) t q = some r) : ∃ v k, q v k = some r ∧ k ∉ dead ∧
      ∀ id B ow bx nb bg w (a : Act), Inv B ow bx nb bg w → Args ow bx w A a.eval o.op → bx.dead k = false → GoesK P B ow bx nb bg w a o id v none [] (some k) := by
  obtain ⟨c, hop, hcal, hargs, hats⟩ := isApp_spec happ
  unfold appE at h
  split at h
  · rename_i ty bytes e hT
    obtain ⟨i, z, hu, hinf, hsz, hby, hz, hzs, hpos, hbpos⟩ := appT_spec hΓ hT
    split at h
    · rename_i k l l' ho hl'
      split at h
      · rename_i hok
        obtain ⟨h1, h2⟩ := chk_spec h
        have hroom := h2 (by simp)
        rw [decide_eq_true_eq] at hroom
        simp only [appOK, Bool.and_eq_true, Bool.not_eq_true'] at hok
        obtain ⟨⟨hke, hnd⟩, _⟩ := hok
        have hke := Nat.eq_of_beq_eq_true hke
        refine ⟨_, k, h1, natIn_false hnd, fun id B ow bx nb bg w a hi hA hd => ?_⟩
        have hrx : RepEV ow bx w (A x) (a.eval x) := by
          rw [hop] at hA
          exact call_args hop (by rw [hop]; exact hA) x (by simp [Call.operands, hargs, hcal])
        have hry : RepEV ow bx w (A y) (a.eval y) := by
          rw [hop] at hA
          exact call_args hop (by rw [hop]; exact hA) y (by simp [Call.operands, hargs, hcal])
        have hX : RepV ow w (.slice ty) l (a.eval x) ∧ Own ow w k ty l.length (a.eval x) := by
          unfold appO at ho
          split at ho
          · rename_i hnil
            split at ho
            · cases ho
              rw [hnil] at hrx
              generalize a.eval x = u at hrx
              cases hrx
              exact ⟨rep_nil ty, .inl ⟨rfl, rfl⟩⟩
            · cases ho
          · rename_i k' ty' l0 hown
            split at ho
            · rename_i hty
              subst hty
              cases ho
              rw [hown] at hrx
              cases hrx with
              | own h h' => exact ⟨h, h' hd⟩
            · cases ho
          · cases ho
        have hY : RepV ow w (.slice ty) l' (a.eval y) := to_rep hl' hry
        have hrun : ∀ v' w', (Builtin.append_ #[t, t] o.type #[a.eval x, a.eval y]).run P w = .ok v' w' → (execOp a.eval o).run P w = .ok (.value v') w' := by
          intro v' w' hv
          rw [builtin_run hop hcal, hargs, hats]
          simp only [builtin, List.map_toArray, List.map_cons, List.map_nil]
          simp [hv]
        have hkB : (k + BIG) % 100000 = e := by rw [← hke]; unfold BIG; omega
        have hlen : (l ++ l').length = l.length + l'.length := List.length_append
        have hmaxn : l.length + l'.length ≤ 140737488355328 := by
          have := Nat.le_mul_of_pos_right (l.length + l'.length) hbpos
          omega
        -- what is left to show
        have fin : ∀ (w' : World) (g cap' : Nat) (cc : Array Value) (olds news : List Value),
            (Builtin.append_ #[t, t] o.type #[a.eval x, a.eval y]).run P w = .ok (.slice (some ⟨g, 0, none⟩) (l ++ l').length cap') w' →
            ((g = w.heap.size ∧ w'.heap.size = w.heap.size + 1) ∨ (w'.heap.size = w.heap.size ∧ ∃ fr₀ c₀, ow g = .tok k fr₀ ∧ w.heap[g]? = some (.cells c₀ e (0, 0)) ∧ fr₀ ≤ (l ++ l').length * ty.size ∧ cc.toList.take fr₀ = c₀.toList.take fr₀)) →
            w'.heap[g]? = some (.cells cc e (0, 0)) → (∀ blk, blk < w.heap.size → blk ≠ g → w'.heap[blk]? = w.heap[blk]?) → (w'.tape = w.tape ∧ w'.os = w.os ∧ w'.output = w.output) →
            cc.toList.take ((l ++ l').length * ty.size) = olds ++ news → olds.length = l.length * ty.size → cc.size = cap' * ty.size → (l ++ l').length ≤ cap' → (l ++ l').length ≤ 9223372036854775807 →
            (∀ (i : Nat) x, l[i]? = some x → Rep ow w ty x ((olds.drop (i * ty.size)).take ty.size)) → (∀ (i : Nat) x, l'[i]? = some x → Rep ow w ty x ((news.drop (i * ty.size)).take ty.size)) →
            GoesK P B ow bx nb bg w a o id (.own (k + BIG) ty (l ++ l')) none [] (some k) := by
          intro w' g cap' cc olds news hr hg hb hold henv htake hlo hcs hcap hmax ho1 ho2 K Q hK
          obtain ⟨hkeep, hinv⟩ := tok_step hi (k := k) (k' := k + BIG) (fr := (l ++ l').length * ty.size) hg hb hold henv
          unfold Oper.wp
          rw [hrun _ _ hr]
          refine hK _ _ _ _ hkeep (.own ?_ fun _ => .inr ⟨g, cap', cc, rfl, by simp, by rw [hkB]; exact hb, hcs, hcap⟩) hinv (fun j => rfl)
          exact rep_joined hpos hmax hcap (rigid_tok (k := k + BIG) (fr := (l ++ l').length * ty.size) (by simp) (Nat.le_refl _)) hb htake hlo (fun i x hx => Rep.keep hkeep.st _ _ _ (ho1 i x hx)) (fun i x hx => Rep.keep hkeep.st _ _ _ (ho2 i x hx))
        obtain ⟨adY, capY, hvY, hY1, hY2, hY3⟩ := slice_cells hY hpos
        obtain ⟨adX, capX, hvX, hX1, hX2, hX3⟩ := slice_cells hX.1 hpos
        -- the cells of a block of its own
        have hO : ∀ g cap c, a.eval x = .slice (some ⟨g, 0, none⟩) l.length cap → w.heap[g]? = some (.cells c (k % 100000) (0, 0)) → c.size = cap * ty.size → l.length ≤ cap →
            (c.toList.take (l.length * ty.size)).length = l.length * ty.size ∧ (∀ j u, (c.toList.take (l.length * ty.size))[j]? = some u → w.cell? ((⟨g, 0, none⟩ : Addr).add j) = some u) ∧
            ∀ (i : Nat) x, l[i]? = some x → Rep ow w ty x (((c.toList.take (l.length * ty.size)).drop (i * ty.size)).take ty.size) := by
          intro g cap c hv hb hc hn
          have hle : l.length * ty.size ≤ c.size := by rw [hc]; exact Nat.mul_le_mul_right _ hn
          refine ⟨by rw [List.length_take, toList_len c, Nat.min_eq_left hle], fun j u hj => ?_, fun i x hx => ?_⟩
          · rw [add_at, cell_at hb, Nat.zero_add]
            rw [List.getElem?_take] at hj
            split at hj
            · simpa using hj
            · cases hj
          · have hne : l ≠ [] := by intro e; rw [e] at hx; simp at hx
            obtain ⟨blk, off, c1, T1, fz1, q1, q2, q3, q4, q5, q6⟩ := hX3 hne
            rw [hvX, q1] at hv
            simp only [Value.slice.injEq, Option.some.injEq, Addr.mk.injEq] at hv
            obtain ⟨⟨rfl, rfl, _⟩, _⟩ := hv
            rw [q3] at hb
            cases hb
            have := q6 i x hx
            rwa [List.drop_zero] at this
        by_cases hl0 : l' = []
        · subst hl0
          have hf : (Builtin.firstCells i.size 0 (.slice adY 0 capY)).run P w = .ok #[] w := by
            cases adY with
            | none => exact run_firstCells_none w i.size 0 0 capY
            | some a' => exact run_firstCells_some w i.size 0 a' 0 capY [] (by simp) (by intro j v h'; simp at h')
          have r0 : (Builtin.append_ #[t, t] o.type #[a.eval x, a.eval y]).run P w = .ok (.slice adX l.length capX) w := by
            rw [hvX, hvY]
            cases adX <;> simp [Builtin.append_, run_underlying hu, sizeOf, typeInfo, hinf, Builtin.lenOf, hX2, hf, storeCells]
          rcases hX.2 with ⟨hnil, hln⟩ | ⟨g, cap, cc, hv, hown, hb, hc, hn⟩
          · intro K Q hK
            unfold Oper.wp
            rw [hrun _ _ r0, ← hvX]
            have hkeep : Keeps ow bx w ow ⟨bx.f, fun j => bx.dead j || Nat.beq k j⟩ w := by
              refine ⟨.refl ow w, fun _ _ _ h _ => ⟨h, rfl⟩, fun j h => ?_, fun _ h => ⟨rfl, h⟩⟩
              simp only [Bool.or_eq_false_iff] at h
              exact h.1
            refine hK _ ow ⟨bx.f, fun j => bx.dead j || Nat.beq k j⟩ _ hkeep (.own ?_ fun _ => .inl ⟨hnil, by simp [hln]⟩) ?_ (fun j => rfl)
            · rw [List.append_nil]; exact hX.1
            · exact ⟨fun b cs hcs => by
                obtain ⟨g1, c1, T1, g2, g3⟩ := hi.box b cs hcs
                exact ⟨g1, c1, T1, g2, g3.keep hkeep⟩, hi.back, hi.here, hi.old, hi.size, hi.env, hi.kept⟩
          · obtain ⟨o1, o2, o3⟩ := hO g cap cc hv hb hc hn
            have hr : (.slice adX l.length capX : Value) = .slice (some ⟨g, 0, none⟩) (l ++ []).length cap := by rw [← hvX, hv, List.append_nil]
            rw [hr] at r0
            rw [hke] at hb
            refine fin w g cap cc _ [] r0 (.inr ⟨rfl, _, cc, hown, hb, by simp, rfl⟩) hb (fun _ _ _ => rfl) ⟨rfl, rfl, rfl⟩ (by simp) o1 hc (by simpa using hn) (by simp; omega) o3 (fun i x hx => by simp at hx)
        · obtain ⟨blk, off, cY, TY, fzY, y1, y2, y3, y4, y5, y6⟩ := hY3 hl0
          have hposY : 0 < l'.length := List.length_pos_iff.2 hl0
          obtain ⟨news, hnewsdef⟩ : ∃ news, news = (cY.toList.drop off).take (l'.length * ty.size) := ⟨_, rfl⟩
          rw [← hnewsdef] at y5
          have hnl : news.length = l'.length * ty.size := by rw [hnewsdef, List.length_take, List.length_drop, toList_len cY, Nat.min_eq_left (by omega)]
          have hnews : ∀ j u, news[j]? = some u → w.cell? ((⟨blk, off, none⟩ : Addr).add j) = some u := by
            intro j u hj
            rw [add_at, cell_at y3]
            rw [hnewsdef, List.getElem?_take] at hj
            split at hj
            · rw [List.getElem?_drop] at hj
              simpa using hj
            · cases hj
          have y6' : ∀ (i : Nat) x, l'[i]? = some x → Rep ow w ty x ((news.drop (i * ty.size)).take ty.size) := by rw [hnewsdef]; exact y6
          have hnl' : news.length = l'.length * i.size := by rw [hnl, hsz]
          have hbytes : (l.length + l'.length) * i.bytes ≤ 140737488355328 := by rw [hby]; exact hroom
          rw [y1] at hvY
          rcases hX.2 with ⟨hnil, hln⟩ | ⟨g, cap, cc, hv, hown, hb, hc, hn⟩
          · have hl : l = [] := List.eq_nil_of_length_eq_zero hln
            subst hl
            have hr := run_append_nil (P := P) w t o.type e i z hu hinf hz ⟨blk, off, none⟩ l'.length capY news hnl' hnews hposY (by omega) (by simp at hbytes; omega)
            rw [← hvY, ← hnil] at hr
            have hge := grownCap_ge w l'.length 0 e
            refine fin _ w.heap.size (grownCap w l'.length 0 e) (news.toArray ++ Builtin.zeroCells z.cells (grownCap w l'.length 0 e - l'.length)) [] news hr (.inl ⟨rfl, alloc_size w _⟩) (heap_alloc_new w.drew _) (fun b hb _ => heap_alloc_old w.drew _ hb) ⟨rfl, rfl, rfl⟩ ?_ (by simp) ?_ (by simpa using hge) (by simp; omega) (fun i x hx => by simp at hx) y6'
            · simp only [Array.toList_append, List.nil_append, List.length_nil]
              rw [← hnl]
              exact List.take_left
            · rw [Array.size_append, List.size_toArray, size_zeroCells, hzs, hnl, ← Nat.add_mul, Nat.add_sub_cancel' hge]
          · obtain ⟨o1, o2, o3⟩ := hO g cap cc hv hb hc hn
            rw [hke] at hb
            have hle : l.length * ty.size ≤ cc.size := by rw [hc]; exact Nat.mul_le_mul_right _ hn
            by_cases hroom2 : l.length + l'.length ≤ cap
            · have hfit : l.length * ty.size + news.length ≤ cc.size := by rw [hnl, hc, ← Nat.add_mul]; exact Nat.mul_le_mul_right _ hroom2
              have hr := run_append_room (P := P) w t o.type e i hu hinf g l.length cap cc hb ⟨blk, off, none⟩ l'.length capY news hnl' hnews (fun u hu => y5 u hu) hroom2 (by rw [hsz]; exact hfit)
              rw [← hvY, ← hv, hsz, ← hlen] at hr
              refine fin _ g cap _ (cc.toList.take (l.length * ty.size)) news hr (.inr ⟨setRow_size _ _ _, _, cc, hown, hb, Nat.mul_le_mul_right _ (by omega), ?_⟩) (setRow_heap w g cc _ e (0, 0) hb) (fun b _ hne => setRow_other w g b _ hne) ⟨rfl, rfl, rfl⟩ ?_ o1 ?_ (by omega) (by omega) o3 y6'
              · rw [List.append_assoc, List.take_append_of_le_length (by rw [o1]; exact Nat.le_refl _), List.take_take, Nat.min_self]
              · have : (l ++ l').length * ty.size = (cc.toList.take (l.length * ty.size) ++ news).length := by rw [hlen, Nat.add_mul, List.length_append (as := cc.toList.take (l.length * ty.size)), o1, hnl]
                rw [this]
                exact List.take_left
              · rw [List.size_toArray, List.length_append, List.length_append, o1, List.length_drop, toList_len cc, ← hc]
                omega
            · have hfitb : Builtin.nextslicecap (l.length + l'.length) cap * i.bytes ≤ 281474976710656 := growslice_fits (by omega) hbytes
              have hr := run_append_grow (P := P) w t o.type e i z hu hinf hz ⟨g, 0, none⟩ l.length cap (cc.toList.take (l.length * ty.size)) (by rw [o1, hsz]) o2 ⟨blk, off, none⟩ l'.length capY news hnl' hnews (by omega) (by omega) hfitb
              rw [← hvY, ← hv, ← hlen] at hr
              have hge := grownCap_ge w (l ++ l').length cap e
              refine fin _ w.heap.size (grownCap w (l ++ l').length cap e) _ (cc.toList.take (l.length * ty.size)) news hr (.inl ⟨rfl, alloc_size w _⟩) (heap_alloc_new w.drew _) (fun b hb _ => heap_alloc_old w.drew _ hb) ⟨rfl, rfl, rfl⟩ ?_ o1 ?_ hge (by omega) o3 y6'
              · have : (l ++ l').length * ty.size = (cc.toList.take (l.length * ty.size) ++ news).length := by rw [hlen, Nat.add_mul, List.length_append (as := cc.toList.take (l.length * ty.size)), o1, hnl]
                rw [this]
                simp only [Array.toList_append]
                exact List.take_left
              · rw [Array.size_append, Array.size_append, List.size_toArray, List.size_toArray, size_zeroCells, hzs, hnl, o1, ← Nat.add_mul, ← Nat.add_mul, ← hlen, Nat.add_sub_cancel' hge]
      · cases h
    · cases h
  · cases h
end Go.Proofs.Ytbgdgpdfaebniaa
