/- Each operation does what the reading says: lengths, literals, parts of slices. No program in sight. -/
import Derived.Test.YtbgdgpdfaebniaaEngJ
import Derived.Great.BuildSlice
set_option linter.unusedSimpArgs false
set_option linter.unusedVariables false
namespace Go.Proofs.Ytbgdgpdfaebniaa
section
variable {ρ : Type} {P : Program} {Γ : Cx} {id : Nat} {rd : Nat → Option (List EV)} {g : Option Bool} {A : Operand → EV} {o : Oper} {q : EV → Option (List EV) → List Wr → List Nat → Option ρ} {r : ρ}
theorem isSliceT_spec {t : Nat} (hΓ : CxOK P Γ) (h : isSliceT Γ t = true) : ∃ e, P.underlying t = some (.slice e) := by
  unfold isSliceT at h
  split at h
  · rename_i d hd
    split at h
    · rename_i e s b hw
      have hh := (hΓ.td t d hd).how
      simp only [hw] at hh
      exact ⟨e, hh.2.1⟩
    · cases h
  · cases h
theorem isStr_spec {t : Nat} (hΓ : CxOK P Γ) (h : tyIs (Γ.td t) .str = true) : P.underlying t = some .string := by
  obtain ⟨d, hd, hty⟩ := tyIs_spec h
  have hOK := hΓ.td t d hd
  have hh := hOK.how
  have hag := (hOK.agg _ hty).2
  cases hw : d.how with
  | scalar => simp only [hw] at hh; obtain ⟨_, u, hu, _, _, _, h6, _⟩ := hh; rw [hu, h6 hty]
  | struct fs => rw [hw] at hag; simp [Ty.isAgg] at hag
  | array n e s => rw [hw] at hag; simp [Ty.isAgg] at hag
  | slice e s b => simp only [hw] at hh; exact absurd hty hh.2.2.2.2.2
theorem builtin_run {c : Call} {b : Builtin} {a : Act} {w : World} (ho : o.op = .call c) (hc : c.callee = .builtin b) :
    (execOp a.eval o).run P w = (builtin b c.argTypes o.type (c.args.map fun | .const _ => true | _ => false) (c.args.map a.eval)).run P w := by
  unfold execOp
  rw [ho]
  simp only [resolve, hc, Sem.run_bind, Sem.run_pure, Result.andThen_ok, invoke]
  rfl
theorem one_arg {c : Call} {e : EV} (h : c.args.toList.map A = [e]) : ∃ x, c.args = #[x] ∧ A x = e := by
  obtain ⟨args⟩ : ∃ l, c.args = l := ⟨_, rfl⟩
  cases hl : c.args.toList with
  | nil => rw [hl] at h; simp at h
  | cons x r =>
    rw [hl] at h
    simp only [List.map_cons, List.cons.injEq, List.map_eq_nil_iff] at h
    obtain ⟨h1, rfl⟩ := h
    exact ⟨x, by rw [← Array.toArray_toList (xs := c.args), hl], h1⟩
theorem call_args {c : Call} {ow : Nat → Owner} {bx : Bx} {w : World} {ev : Operand → Value} (ho : o.op = .call c) (h : Args ow bx w A ev o.op) : ∀ x ∈ c.operands, RepEV ow bx w (A x) (ev x) := by
  rw [ho] at h
  exact args_of h (by intros; simp)
theorem sound_len {c : Call} (hΓ : CxOK P Γ) (ho : o.op = .call c) (hc : c.callee = .builtin .len) (h : opE Γ id rd g A (.call c) q = some r) : Sound P id rd g A o q r := by
  have run : ∀ {a : Act} {w : World} {x : Operand} {T : TypeId}, c.args = #[x] → c.argTypes[0]? = some T → (execOp a.eval o).run P w = ((Builtin.len_ c.argTypes o.type #[a.eval x]).run P w).andThen fun u w => .ok (.value u) w := by
    intro a w x T hx hT
    rw [builtin_run ho hc]
    simp [builtin, hx]
  have arg : ∀ {ow bx w} {ev : Operand → Value} {x : Operand}, c.args = #[x] → Args ow bx w A ev o.op → RepEV ow bx w (A x) (ev x) := by
    intro ow bx w ev x hx hA
    exact call_args ho hA x (by simp [Call.operands, hx])
  simp only [opE, hc] at h
  split at h
  · rename_i T hT
    split at h
    · rename_i s he
      obtain ⟨x, hx, hax⟩ := one_arg he
      split at h
      · rename_i hst
        refine sound_pure h fun _ B ow bx nb bg w a hi hA hb => ?_
        have hp := arg hx hA
        rw [hax] at hp
        obtain ⟨h1, h2⟩ := repStr hp
        refine ⟨goInt s.size, ?_, goInt_rep h2⟩
        rw [run hx hT, h1]
        simp [Builtin.len_, hT, underlying, isStr_spec hΓ hst]
      · cases h
    · rename_i ty l he
      obtain ⟨x, hx, hax⟩ := one_arg he
      split at h
      · rename_i hst
        refine sound_pure h fun _ B ow bx nb bg w a hi hA hb => ?_
        have hp := arg hx hA
        rw [hax] at hp
        cases hp with
        | dat hp =>
          obtain ⟨ad, cap, h1, h2, _⟩ := hp
          simp only [List.cons.injEq, and_true] at h1
          refine ⟨goInt l.length, ?_, goInt_rep h2.1⟩
          obtain ⟨e, hu⟩ := isSliceT_spec hΓ hst
          rw [run hx hT, h1]
          simp [Builtin.len_, hT, underlying, hu]
      · cases h
    · rename_i k ty l he
      obtain ⟨x, hx, hax⟩ := one_arg he
      split at h
      · rename_i hst
        refine sound_pure h fun _ B ow bx nb bg w a hi hA hb => ?_
        have hp := arg hx hA
        rw [hax] at hp
        cases hp with
        | own hp _ =>
          obtain ⟨ad, cap, h1, h2, _⟩ := hp
          simp only [List.cons.injEq, and_true] at h1
          refine ⟨goInt l.length, ?_, goInt_rep h2.1⟩
          obtain ⟨e, hu⟩ := isSliceT_spec hΓ hst
          rw [run hx hT, h1]
          simp [Builtin.len_, hT, underlying, hu]
      · cases h
    · rename_i he
      obtain ⟨x, hx, hax⟩ := one_arg he
      split at h
      · rename_i hst
        refine sound_pure h fun _ B ow bx nb bg w a hi hA hb => ?_
        have hp := arg hx hA
        rw [hax] at hp
        obtain ⟨e, hu⟩ := isSliceT_spec hΓ hst
        generalize hpe : a.eval x = u at hp
        cases hp with
        | nil =>
          refine ⟨goInt 0, ?_, goInt_rep (n := 0) (by omega)⟩
          rw [run hx hT, hpe]
          simp [Builtin.len_, hT, underlying, hu]
      · cases h
    · rename_i es he
      obtain ⟨x, hx, hax⟩ := one_arg he
      split at h
      · rename_i hst
        refine sound_pure h fun _ B ow bx nb bg w a hi hA hb => ?_
        have hp := arg hx hA
        rw [hax] at hp
        obtain ⟨e, hu⟩ := isSliceT_spec hΓ hst
        generalize hpe : a.eval x = u at hp
        cases hp with
        | sl q0 q1 qs qb q2 q3 =>
          refine ⟨goInt es.length, ?_, goInt_rep (by omega)⟩
          rw [run hx hT, hpe]
          simp [Builtin.len_, hT, underlying, hu]
      · cases h
    · cases h
  · cases h
theorem minMax_spec {w : World} {ow : Nat → Owner} {bx : Bx} {mx : Bool} {k : IntKind} : ∀ (es : List EV) (vs : List Value) (x m : Int), minMax mx k x es = some m → fits k x = true → es.length = vs.length →
    (∀ (i : Nat) e v, es[i]? = some e → vs[i]? = some v → RepEV ow bx w e v) →
    (vs.foldlM (fun a b => match mx with | true => Builtin.max2 a b | false => Builtin.min2 a b) (.int k x)).run P w = .ok (.int k m) w ∧ fits k m = true := by
  intro es
  induction es with
  | nil =>
    intro vs x m h hf hl _
    simp only [minMax] at h
    cases h
    cases vs with
    | nil => exact ⟨rfl, hf⟩
    | cons v vs => simp at hl
  | cons e es ih =>
    intro vs x m h hf hl hall
    cases vs with
    | nil => simp at hl
    | cons v vs =>
      cases e with
      | dat t y =>
        cases t with
        | int k' =>
          simp only [minMax] at h
          split at h
          · rename_i hk
            subst hk
            have hv := hall 0 _ _ rfl rfl
            obtain ⟨hv, hfy⟩ := repInt hv
            subst hv
            obtain ⟨g1, g2⟩ := ih vs _ m h (by cases mx <;> simp only <;> split <;> assumption) (by simpa using hl) (fun i e v he hv => hall (i + 1) e v he hv)
            refine ⟨?_, g2⟩
            rw [List.foldlM_cons, Sem.run_bind]
            cases mx with
            | true =>
              simp only [Builtin.max2, Sem.run_pure, Result.andThen_ok] at g1 ⊢
              exact g1
            | false =>
              simp only [Builtin.min2, Sem.run_pure, Result.andThen_ok] at g1 ⊢
              exact g1
          · cases h
        | _ => simp [minMax] at h
      | _ => simp [minMax] at h
theorem sound_minMax {c : Call} {mx : Bool} (ho : o.op = .call c) (hc : c.callee = .builtin (match mx with | true => .max | false => .min)) (h : opE Γ id rd g A (.call c) q = some r) : Sound P id rd g A o q r := by
  have main : ∀ {k x r' m}, c.args.toList.map A = .dat (.int k) x :: r' → minMax mx k x r' = some m → q (.dat (.int k) m) none [] [] = some r → Sound P id rd g A o q r := by
    intro k x r' m he hm h
    refine sound_pure h fun _ B ow bx nb bg w a hi hA hb => ?_
    have hall := call_args ho hA
    cases hl : c.args.toList with
    | nil => rw [hl] at he; simp at he
    | cons y ys =>
      rw [hl] at he
      simp only [List.map_cons, List.cons.injEq] at he
      obtain ⟨he1, he2⟩ := he
      have hmem : ∀ z ∈ y :: ys, RepEV ow bx w (A z) (a.eval z) := fun z hz => hall z (by
        rw [← hl] at hz
        simp only [Call.operands]
        exact Array.mem_append.2 (.inr (by simpa using hz)))
      have hy := hmem y (by simp)
      rw [he1] at hy
      obtain ⟨hy1, hy2⟩ := repInt hy
      obtain ⟨g1, g2⟩ := minMax_spec (P := P) (ow := ow) (bx := bx) (w := w) r' (ys.map a.eval) x m hm hy2 (by rw [← he2]; simp) (fun i e v hie hiv => by
        rw [← he2] at hie
        simp only [List.getElem?_map, Option.map_eq_some_iff] at hie hiv
        obtain ⟨z, hz, rfl⟩ := hie
        obtain ⟨z', hz', rfl⟩ := hiv
        rw [hz] at hz'
        cases hz'
        exact hmem z (by simp [List.mem_of_getElem? hz]))
      refine ⟨.int k m, ?_, repInt_mk g2⟩
      rw [builtin_run ho hc]
      have hargs : (c.args.map a.eval).toList = .int k x :: ys.map a.eval := by simp [hl, hy1]
      cases mx with
      | true =>
        simp only at g1
        simp only [builtin, Builtin.max_, hargs, Sem.run_bind]
        have : (fun a b => Builtin.max2 a b) = Builtin.max2 := rfl
        rw [this] at g1
        rw [g1]
        rfl
      | false =>
        simp only at g1
        simp only [builtin, Builtin.min_, hargs, Sem.run_bind]
        have : (fun a b => Builtin.min2 a b) = Builtin.min2 := rfl
        rw [this] at g1
        rw [g1]
        rfl
  cases mx with
  | true =>
    simp only at hc
    simp only [opE, hc] at h
    split at h
    · rename_i k x r' he
      split at h
      · rename_i m hm; exact main he hm h
      · cases h
    · cases h
  | false =>
    simp only at hc
    simp only [opE, hc] at h
    split at h
    · rename_i k x r' he
      split at h
      · rename_i m hm; exact main he hm h
      · cases h
    · cases h
/-- The cells of parts, laid one behind the other into a row. -/
theorem fold_cells (off : Nat) : ∀ (l : List Value) (k : Nat) (cs : Array Value), off + k + l.length ≤ cs.size →
    ((l.zipIdx k).foldl (fun (cs : Array Value) (p : Value × Nat) => cs.setIfInBounds (off + p.2) p.1) cs).toList = cs.toList.take (off + k) ++ l ++ cs.toList.drop (off + k + l.length)
  | [], k, cs, _ => by simp
  | v :: rest, k, cs, h => by
    have hlt : off + k < cs.size := by simp at h; omega
    have ih := fold_cells off rest (k + 1) (cs.setIfInBounds (off + k) v) (by simp at h ⊢; omega)
    simp only [List.zipIdx_cons, List.foldl_cons]
    rw [ih]
    have e := list_seg_step cs.toList (off + k) v rest (by simp at h ⊢; omega)
    simpa [Array.toList_setIfInBounds, Nat.add_assoc] using e
theorem fill_one {place : Nat → Option (Nat × Nat)} {i off size : Nat} {v : Value} {rest : List (Nat × Value)} {cs : Array Value} (hp : place i = some (off, size)) (hs : v.cells.size = size) (hle : off + size ≤ cs.size) :
    Instr.fill place cs ((i, v) :: rest) = Instr.fill place (cs.toList.take off ++ v.cells.toList ++ cs.toList.drop (off + v.cells.toList.length)).toArray rest := by
  have hf := fold_cells off v.cells.toList 0 cs (by simp; omega)
  simp only [Instr.fill, hp]
  have : (decide (v.cells.size ≠ size) || decide (off + v.cells.size > cs.size)) = false := by simp [hs]; omega
  simp only [this, Bool.false_eq_true, if_false]
  congr 1
  apply Array.ext'
  rw [← Array.foldl_toList, Array.toList_zipIdx]
  simpa using hf
theorem fill_rep {ow : Nat → Owner} {bx : Bx} {w : World} {pl place : Nat → Option (Nat × Nat)} (hpl : ∀ i p, pl i = some p → place i = some p) : ∀ (es : List (Nat × EV)) (vs : List (Nat × Value)) (cs cs' : List EV) (zs : Array Value),
    fillE pl cs es = some cs' → RepCs ow bx w cs zs.toList → es.length = vs.length → (∀ (k : Nat) e v, es[k]? = some e → vs[k]? = some v → e.1 = v.1 ∧ RepEV ow bx w e.2 v.2) →
    ∃ zs', Instr.fill place zs vs = some zs' ∧ RepCs ow bx w cs' zs'.toList := by
  intro es
  induction es with
  | nil =>
    intro vs cs cs' zs h hc hl _
    cases vs with
    | nil => simp only [fillE] at h; cases h; exact ⟨zs, rfl, hc⟩
    | cons v vs => simp at hl
  | cons e es ih =>
    intro vs cs cs' zs h hc hl hall
    cases vs with
    | nil => simp at hl
    | cons v vs =>
      obtain ⟨i, e⟩ := e
      obtain ⟨i', v⟩ := v
      obtain ⟨h1, h2⟩ := hall 0 _ _ rfl rfl
      simp only at h1 h2
      subst h1
      simp only [fillE] at h
      split at h
      · rename_i off size hp
        split at h
        · rename_i new hnew
          split at h
          · rename_i hck
            simp only [Bool.and_eq_true] at hck
            have k1 := Nat.eq_of_beq_eq_true hck.1
            have k2 := Nat.le_of_ble_eq_true hck.2
            have hn := cells_rep hnew h2
            have hcl : cs.length = zs.size := by have := hc.1; simpa using this
            have hnl : new.length = v.cells.size := by have := hn.1; simpa using this
            rw [fill_one (hpl _ _ hp) (by omega) (by omega)]
            exact ih vs _ _ _ h (by simpa using hc.splice hn off) (by simpa using hl) (fun k e' v' he hv => hall (k + 1) e' v' (by simpa using he) (by simpa using hv))
          · cases h
        · cases h
      · cases h
theorem build_args {T : TypeId} {ps : Array (Nat × Operand)} {ow : Nat → Owner} {bx : Bx} {w : World} {ev : Operand → Value} (hall : ∀ p ∈ ps, RepEV ow bx w (A p.2) (ev p.2)) :
    ∀ (k : Nat) e v, (ps.toList.map fun p => (p.1, A p.2))[k]? = some e → ((ps.map fun (i, x) => (i, ev x)).toList)[k]? = some v → e.1 = v.1 ∧ RepEV ow bx w e.2 v.2 := by
  intro k e v he hv
  simp only [List.getElem?_map, Option.map_eq_some_iff, Array.toList_map] at he hv
  obtain ⟨p, hp, rfl⟩ := he
  obtain ⟨p', hp', rfl⟩ := hv
  rw [hp] at hp'
  cases hp'
  exact ⟨rfl, hall p (by simpa using List.mem_of_getElem? hp)⟩
theorem sound_build {T : TypeId} {ps : Array (Nat × Operand)} (hΓ : CxOK P Γ) (ho : o.op = .build T ps) (h : opE Γ id rd g A (.build T ps) q = some r) : Sound P id rd g A o q r := by
  simp only [opE] at h
  split at h
  · rename_i d hd
    have hOK := hΓ.td T d hd
    have hag : aggD d = true := by
      cases hag : aggD d with
      | false => rw [hag] at h; cases h
      | true => rfl
    rw [hag] at h
    simp only at h
    split at h
    · rename_i cs hcs
      have main : ∀ {ow bx w} {a : Act}, Args ow bx w A a.eval o.op → ∃ zs : Array Value, (execOp a.eval o).run P w = .ok (.value (.agg zs)) w ∧ RepCs ow bx w cs zs.toList := by
        intro ow bx w a hA
        rw [ho] at hA
        have hall := args_of hA (by intros; simp)
        have hps : ∀ p ∈ ps, RepEV ow bx w (A p.2) (a.eval p.2) := fun p hp => hall p.2 (by
          simp only [Op.operands]
          rw [List.mem_toArray, List.mem_map]
          exact ⟨p, by simpa using hp, rfl⟩)
        have hb := build_args (T := T) hps
        obtain ⟨i, z, z1, z2, z3, z4, z5⟩ := hOK.zero
        have hh := hOK.how
        have fin : ∀ place : Nat → Option (Nat × Nat), (∀ i p, fieldPl d i = some p → place i = some p) → ∃ zs', Instr.fill place z.cells (ps.map fun (i, x) => (i, a.eval x)).toList = some zs' ∧ RepCs ow bx w cs zs'.toList :=
          fun place hpl => fill_rep hpl _ _ _ _ _ hcs (z5 ow bx w) (by simp) hb
        have : ∃ zs, P.built T (ps.map fun (i, x) => (i, a.eval x)).toList = some zs ∧ RepCs ow bx w cs zs.toList := by
          unfold Program.built
          cases hw : d.how with
          | struct fs =>
            simp only [hw] at hh
            obtain ⟨gs, hu, hf1, hf2⟩ := hh
            obtain ⟨zs, k1, k2⟩ := fin (fun i => (fs.map (·.2)).toArray[i]?) (fun i p hp => by
              unfold fieldPl at hp
              simp only [hw] at hp
              split at hp
              · rename_i ft off size hfs
                cases hp
                simp [hfs]
              · cases hp)
            exact ⟨zs, by simp only [z1, hu, z2, hf1]; exact k1, k2⟩
          | array n e s =>
            simp only [hw] at hh
            obtain ⟨hu, gi, g1, g2⟩ := hh
            obtain ⟨zs, k1, k2⟩ := fin (fun i => some (i * gi.size, gi.size)) (fun i p hp => by
              unfold fieldPl at hp
              simp only [hw] at hp
              cases hp
              rw [g2])
            exact ⟨zs, by simp only [z1, hu, z2, g1]; exact k1, k2⟩
          | scalar => unfold aggD at hag; simp [hw] at hag
          | slice e s b => unfold aggD at hag; simp [hw] at hag
        obtain ⟨zs, k1, k2⟩ := this
        refine ⟨zs, ?_, k2⟩
        unfold execOp
        rw [ho]
        have := run_build (P := P) w T (ps.map fun (i, x) => (i, a.eval x)) zs k1
        simp only [Sem.run_bind, this, Result.andThen_ok, Sem.run_pure]
      have rowcase : q (.row cs) none [] [] = some r → Sound P id rd g A o q r := fun h => sound_pure h fun _ B ow bx nb bg w a hi hA hb => by
        obtain ⟨zs, k1, k2⟩ := main hA
        exact ⟨.agg zs, k1, .row (by have := k2.1; rwa [Array.length_toList] at this) (fun i e v he hv => (k2.2 i e v he (by rw [Array.getElem?_toList]; exact hv)).1) (fun v hv => k2.ones v (Array.mem_toList_iff.2 hv))⟩
      split at h
      · exact rowcase h
      split at h
      · rename_i ty hty
        split at h
        · rename_i v hv
          refine sound_pure h fun _ B ow bx nb bg w a hi hA hb => ?_
          obtain ⟨zs, k1, k2⟩ := main hA
          obtain ⟨g1, g2, g3⟩ := asm_rep ty _ _ _ _ hv k2
          obtain ⟨e1, e2⟩ := hOK.agg ty hty
          have hle : cs.length ≤ ty.size := by
            have := congrArg List.length g2
            simp at this
            omega
          have hzs : zs.toList.take ty.size = zs.toList := List.take_of_length_le (by have := k2.1; omega)
          rw [hzs] at g1
          refine ⟨.agg zs, k1, .dat ?_⟩
          have hta : ty.isAgg = true := e2.2 (by unfold aggD at hag; exact hag)
          cases ty <;> simp only [Ty.isAgg] at hta <;> try cases hta
          all_goals exact ⟨_, rfl, g1⟩
        · exact rowcase h
      · exact rowcase h
    · cases h
  · cases h
/-- Parts of one size, laid one behind the other from the beginning on. -/
theorem fill_seq {s : Nat} : ∀ (vs : List Value) (k : Nat) (zs : Array Value), (∀ v ∈ vs, v.cells.size = s) → (k + vs.length) * s ≤ zs.size →
    ∃ zs', Instr.fill (fun i => some (i * s, s)) zs ((vs.zipIdx k).map fun p => (p.2, p.1)) = some zs' ∧ zs'.size = zs.size ∧
      (∀ j, j < k → (zs'.toList.drop (j * s)).take s = (zs.toList.drop (j * s)).take s) ∧ (∀ (j : Nat) v, vs[j]? = some v → (zs'.toList.drop ((k + j) * s)).take s = v.cells.toList) := by
  intro vs
  induction vs with
  | nil => intro k zs _ _; exact ⟨zs, rfl, rfl, fun _ _ => rfl, fun j v h => by simp at h⟩
  | cons v vs ih =>
    intro k zs hs hle
    have hv := hs v (by simp)
    have hk : k * s + s ≤ zs.size := by
      have h1 : (k + 1) * s ≤ (k + (v :: vs).length) * s := Nat.mul_le_mul_right s (by simp)
      rw [Nat.succ_mul] at h1
      omega
    have hsz : (zs.toList.take (k * s) ++ v.cells.toList ++ zs.toList.drop (k * s + v.cells.toList.length)).length = zs.size := by simp; omega
    obtain ⟨zs', g1, g2, g3, g4⟩ := ih (k + 1) (zs.toList.take (k * s) ++ v.cells.toList ++ zs.toList.drop (k * s + v.cells.toList.length)).toArray (fun u hu => hs u (by simp [hu])) (by
      rw [List.size_toArray, hsz]
      have : k + 1 + vs.length = k + (v :: vs).length := by simp; omega
      rw [this]; exact hle)
    refine ⟨zs', ?_, by rw [g2, List.size_toArray, hsz], fun j hj => ?_, fun j u hu => ?_⟩
    · simp only [List.zipIdx_cons, List.map_cons]
      rw [fill_one (place := fun i => some (i * s, s)) rfl hv hk]
      exact g1
    · rw [g3 j (by omega)]
      simp only
      have hjs : j * s + s ≤ k * s := by
        have : (j + 1) * s ≤ k * s := Nat.mul_le_mul_right s (by omega)
        rw [Nat.succ_mul] at this
        exact this
      apply List.ext_getElem?
      intro m
      simp only [List.getElem?_take, List.getElem?_drop]
      split
      · rw [List.append_assoc, List.getElem?_append_left (by simp; omega), List.getElem?_take, if_pos (by omega)]
      · rfl
    · cases j with
      | zero =>
        simp only [List.getElem?_cons_zero, Option.some.injEq] at hu
        subst hu
        rw [Nat.add_zero, g3 k (by omega)]
        simp only
        rw [List.append_assoc, List.drop_append_of_le_length (by simp; omega), List.drop_eq_nil_of_le (by simp; omega), List.nil_append, List.take_append_of_le_length (by simp; omega)]
        exact List.take_of_length_le (by simp; omega)
      | succ j =>
        have := g4 j u (by simpa using hu)
        rw [show k + (j + 1) = k + 1 + j by omega]
        exact this
theorem partsE_spec {ty : Ty} : ∀ (es : List (Nat × EV)) (k : Nat) (l : List ty.den), partsE ty es k = some l → l.length = es.length ∧ ∀ (j : Nat) (hj : j < l.length), ∃ e, es[j]? = some (k + j, e) ∧ e.toA ty = some (l[j]'hj)
  | [], k, l, h => by cases h; exact ⟨rfl, fun j hj => absurd hj (by simp)⟩
  | (i, e) :: r, k, l, h => by
    simp only [partsE] at h
    split at h
    · rename_i hik
      have hik := Nat.eq_of_beq_eq_true hik
      subst hik
      split at h
      · rename_i v hv
        split at h
        · rename_i l' hl'
          cases h
          obtain ⟨h1, h2⟩ := partsE_spec r (i + 1) l' hl'
          refine ⟨by simp [h1], fun j hj => ?_⟩
          cases j with
          | zero => exact ⟨e, by simp, hv⟩
          | succ j =>
            obtain ⟨e', g1, g2⟩ := h2 j (by simpa using hj)
            exact ⟨e', by rw [show i + (j + 1) = i + 1 + j by omega]; simpa using g1, g2⟩
        · cases h
      · cases h
    · cases h
theorem closE_spec : ∀ (es : List (Nat × EV)) (k : Nat) (l : List EV), closE es k = some l → l.length = es.length ∧ ∀ (j : Nat) (hj : j < l.length), ∃ f a b, es[j]? = some (k + j, .clo f a b) ∧ l[j]'hj = .clo f a b
  | [], k, l, h => by cases h; exact ⟨rfl, fun j hj => absurd hj (by simp)⟩
  | (i, e) :: r, k, l, h => by
    simp only [closE] at h
    split at h
    · rename_i hik
      have hik := Nat.eq_of_beq_eq_true hik
      subst hik
      split at h
      · rename_i f a b
        split at h
        · rename_i l' hl'
          cases h
          obtain ⟨h1, h2⟩ := closE_spec r (i + 1) l' hl'
          refine ⟨by simp [h1], fun j hj => ?_⟩
          cases j with
          | zero => exact ⟨f, a, b, by simp, rfl⟩
          | succ j =>
            obtain ⟨f', a', b', g1, g2⟩ := h2 j (by simpa using hj)
            exact ⟨f', a', b', by rw [show i + (j + 1) = i + 1 + j by omega]; simpa using g1, by simpa using g2⟩
        · cases h
      · cases h
    · cases h
theorem sound_buildSlice {T : TypeId} {n : Nat} {ps : Array (Nat × Operand)} (hΓ : CxOK P Γ) (ho : o.op = .buildSlice T n ps) (h : opE Γ id rd g A (.buildSlice T n ps) q = some r) : Sound P id rd g A o q r := by
  simp only [opE] at h
  split at h
  · rename_i d hd
    have hOK := hΓ.td T d hd
    split at h
    · rename_i e s b hw
      split at h
      · rename_i de hde
        have hOKe := hΓ.td e de hde
        split at h
        · rename_i ty hty
          split at h
          · rename_i l hl
            split at h
            · rename_i hck
              simp only [Bool.and_eq_true] at hck
              have hln := Nat.eq_of_beq_eq_true hck.1.1
              have hsmall := Nat.le_of_ble_eq_true hck.1.2
              have hsmall2 := Nat.le_of_ble_eq_true hck.2
              refine ⟨_, _, _, _, h, fun _ => ⟨rfl, rfl⟩, fun x hx => (by cases hx), fun _ B ow bx nb bg w a hi hA hb _ => ?_⟩
              rw [ho] at hA
              have hall := args_of hA (by intros; simp)
              have hh := hOK.how
              simp only [hw] at hh
              obtain ⟨_, hu, ⟨gi, z, g1, g2, g3, g4⟩, _⟩ := hh
              obtain ⟨i', z', z1, z2, z3, z4, z5⟩ := hOKe.zero
              rw [g1] at z1
              cases z1
              obtain ⟨e1, e2⟩ := hOKe.agg ty hty
              obtain ⟨p1, p2⟩ := partsE_spec _ _ _ hl
              -- the parts' values
              have hvs : (ps.map fun (i, x) => (i, a.eval x)).toList = (((ps.toList.map fun p => a.eval p.2)).zipIdx 0).map fun p => (p.2, p.1) := by
                apply List.ext_getElem?
                intro m
                simp only [Array.toList_map, List.getElem?_map, List.getElem?_zipIdx]
                cases hm : ps.toList[m]? with
                | none => simp
                | some p =>
                  have hml : m < l.length := by rw [p1]; simpa using (List.getElem?_eq_some_iff.1 hm).1
                  obtain ⟨e', k1, k2⟩ := p2 m hml
                  simp only [List.getElem?_map, hm, Option.map_some, Option.some.injEq, Prod.mk.injEq] at k1
                  simp [k1.1]
              have hrep : ∀ (j : Nat) (hj : j < l.length) v, (ps.toList.map fun p => a.eval p.2)[j]? = some v → RepV ow w ty (l[j]'hj) v := by
                intro j hj v hv
                obtain ⟨e', k1, k2⟩ := p2 j hj
                simp only [List.getElem?_map, Option.map_eq_some_iff] at k1 hv
                obtain ⟨p, hp, hpe⟩ := k1
                obtain ⟨p', hp', rfl⟩ := hv
                rw [hp] at hp'
                cases hp'
                obtain ⟨_, hpe2⟩ := Prod.mk.inj hpe
                rw [← hpe2] at k2
                exact toA_rep k2 (hall p.2 (by
                  simp only [Op.operands]
                  rw [List.mem_toArray, List.mem_map]
                  exact ⟨p, List.mem_of_getElem? hp, rfl⟩))
              have hlen : (ps.toList.map fun p => a.eval p.2).length = n := by rw [← hln, p1]; simp
              have hsz : ∀ v ∈ (ps.toList.map fun p => a.eval p.2), v.cells.size = gi.size := by
                intro v hv
                obtain ⟨j, hj⟩ := List.getElem?_of_mem hv
                have hjl : j < l.length := by have := (List.getElem?_eq_some_iff.1 hj).1; omega
                have := rep_length _ _ _ (repV_cells (hrep j hjl v hj))
                simp at this
                omega
              -- the cells
              obtain ⟨zs, k1, k2, _, k4⟩ := fill_seq (s := gi.size) (ps.toList.map fun p => a.eval p.2) 0 (if n * gi.size = 0 then #[] else (Array.range (n * gi.size)).map (z.cells[· % z.cells.size]!)) hsz (by
                rw [Nat.zero_add, hlen]; split <;> (simp; try omega))
              have hrun : (execOp a.eval o).run P w = .ok (.value (.slice (some ⟨w.heap.size, 0, none⟩) n n)) { w with heap := w.heap.push (.cells zs e) } := by
                unfold execOp
                rw [ho]
                have hns : ¬ n * gi.size > 2 ^ 24 := by rw [z3]; omega
                rw [← hvs] at k1
                by_cases h0 : n * gi.size = 0
                · rw [if_pos h0] at k1
                  have hz0 : ∀ f : Nat → Value, (Array.range (n * gi.size)).map f = #[] := fun f => by rw [h0]; simp
                  simp only [Instr.buildSlice, Sem.run_bind, underlying, run_program, Result.andThen_ok, hu, Sem.run_pure, sizeOf, typeInfo, g1, hns, if_false, h0, if_true]
                  rw [h0] at hz0
                  have hns0 : ¬ ((0 : Nat) > 2 ^ 24) := by decide
                  simp only [hns0, if_false, hz0, k1, newRow, Sem.run_bind, run_newObj, Result.andThen_ok, Sem.run_pure]
                · rw [if_neg h0] at k1
                  have := run_buildSlice (P := P) w T e n (ps.map fun (i, x) => (i, a.eval x)) zs gi z hu g1 g4 hns h0 k1
                  simp only [Sem.run_bind, this, Result.andThen_ok, Sem.run_pure]
                  rfl
              intro K Q hK
              unfold Oper.wp
              rw [hrun]
              obtain ⟨j1, j2⟩ := hi.pushStable .stable (.cells zs e) (.inl rfl)
              refine hK _ _ _ _ j1 (.dat ?_) j2 rfl
              refine ⟨some ⟨w.heap.size, 0, none⟩, n, by rw [hln], ⟨by omega, by omega⟩, fun _ => ⟨w.heap.size, 0, zs, e, (0, 0), rfl, rigid_stable (by simp), by simp, fun j x hx => ?_⟩⟩
              have hjl : j < l.length := (List.getElem?_eq_some_iff.1 hx).1
              have hxe : l[j]'hjl = x := (List.getElem?_eq_some_iff.1 hx).2
              obtain ⟨v, hv⟩ : ∃ v, (ps.toList.map fun p => a.eval p.2)[j]? = some v := ⟨_, List.getElem?_eq_getElem (by omega)⟩
              have := k4 j v hv
              rw [Nat.zero_add] at this ⊢
              rw [show ty.size = gi.size by omega, this, ← hxe]
              exact Rep.keep j1.st _ _ _ (repV_cells (hrep j hjl v hv))
            · cases h
          · cases h
        · split at h
          · rename_i l hl
            split at h
            · rename_i hck
              simp only [Bool.and_eq_true] at hck
              have hln := Nat.eq_of_beq_eq_true hck.1.1
              have hz1 := Nat.eq_of_beq_eq_true hck.1.2
              have hsmall := Nat.le_of_ble_eq_true hck.2
              refine ⟨_, _, _, _, h, fun _ => ⟨rfl, rfl⟩, fun x hx => (by cases hx), fun _ B ow bx nb bg w a hi hA hb _ => ?_⟩
              rw [ho] at hA
              have hall := args_of hA (by intros; simp)
              have hh := hOK.how
              simp only [hw] at hh
              obtain ⟨_, hu, ⟨gi, z, g1, g2, g3, g4⟩, _⟩ := hh
              obtain ⟨i', z', z1, z2, z3, z4, z5⟩ := hOKe.zero
              rw [g1] at z1
              cases z1
              have hgs : gi.size = 1 := by rw [z3, hz1]
              obtain ⟨p1, p2⟩ := closE_spec _ _ _ hl
              have hvs : (ps.map fun (i, x) => (i, a.eval x)).toList = (((ps.toList.map fun p => a.eval p.2)).zipIdx 0).map fun p => (p.2, p.1) := by
                apply List.ext_getElem?
                intro m
                simp only [Array.toList_map, List.getElem?_map, List.getElem?_zipIdx]
                cases hm : ps.toList[m]? with
                | none => simp
                | some p =>
                  have hml : m < l.length := by rw [p1]; simpa using (List.getElem?_eq_some_iff.1 hm).1
                  obtain ⟨f, a', b', k1, k2⟩ := p2 m hml
                  simp only [List.getElem?_map, hm, Option.map_some, Option.some.injEq, Prod.mk.injEq] at k1
                  simp [k1.1]
              have hrep : ∀ (j : Nat) (hj : j < l.length) v, (ps.toList.map fun p => a.eval p.2)[j]? = some v → RepEV ow bx w (l[j]'hj) v ∧ v.oneCell' = true := by
                intro j hj v hv
                obtain ⟨f, a', b', k1, k2⟩ := p2 j hj
                simp only [List.getElem?_map, Option.map_eq_some_iff] at k1 hv
                obtain ⟨p, hp, hpe⟩ := k1
                obtain ⟨p', hp', rfl⟩ := hv
                rw [hp] at hp'
                cases hp'
                obtain ⟨_, hpe2⟩ := Prod.mk.inj hpe
                have hr := hall p.2 (by
                  simp only [Op.operands]
                  rw [List.mem_toArray, List.mem_map]
                  exact ⟨p, List.mem_of_getElem? hp, rfl⟩)
                rw [hpe2] at hr
                rw [k2]
                refine ⟨hr, ?_⟩
                generalize a.eval p.2 = u at hr
                cases hr
                rfl
              have hlen : (ps.toList.map fun p => a.eval p.2).length = n := by rw [← hln, p1]; simp
              have hsz : ∀ v ∈ (ps.toList.map fun p => a.eval p.2), v.cells.size = gi.size := by
                intro v hv
                obtain ⟨j, hj⟩ := List.getElem?_of_mem hv
                have hjl : j < l.length := by have := (List.getElem?_eq_some_iff.1 hj).1; omega
                rw [value_cells (hrep j hjl v hj).2, hgs]
                rfl
              obtain ⟨zs, k1, k2, _, k4⟩ := fill_seq (s := gi.size) (ps.toList.map fun p => a.eval p.2) 0 (if n * gi.size = 0 then #[] else (Array.range (n * gi.size)).map (z.cells[· % z.cells.size]!)) hsz (by
                rw [Nat.zero_add, hlen]; split <;> (simp; try omega))
              have hzs : n ≤ zs.size := by
                rw [k2, hgs]
                split
                · rename_i h0; simp; omega
                · simp
              have hrun : (execOp a.eval o).run P w = .ok (.value (.slice (some ⟨w.heap.size, 0, none⟩) n n)) { w with heap := w.heap.push (.cells zs e) } := by
                unfold execOp
                rw [ho]
                have hns : ¬ n * gi.size > 2 ^ 24 := by rw [hgs]; omega
                rw [← hvs] at k1
                by_cases h0 : n * gi.size = 0
                · rw [if_pos h0] at k1
                  have hz0 : ∀ f : Nat → Value, (Array.range (n * gi.size)).map f = #[] := fun f => by rw [h0]; simp
                  simp only [Instr.buildSlice, Sem.run_bind, underlying, run_program, Result.andThen_ok, hu, Sem.run_pure, sizeOf, typeInfo, g1, hns, if_false, h0, if_true]
                  rw [h0] at hz0
                  have hns0 : ¬ ((0 : Nat) > 2 ^ 24) := by decide
                  simp only [hns0, if_false, hz0, k1, newRow, Sem.run_bind, run_newObj, Result.andThen_ok, Sem.run_pure]
                · rw [if_neg h0] at k1
                  have := run_buildSlice (P := P) w T e n (ps.map fun (i, x) => (i, a.eval x)) zs gi z hu g1 g4 hns h0 k1
                  simp only [Sem.run_bind, this, Result.andThen_ok, Sem.run_pure]
                  rfl
              intro K Q hK
              unfold Oper.wp
              rw [hrun]
              obtain ⟨j1, j2⟩ := hi.pushStable .stable (.cells zs e) (.inl rfl)
              have hcell : ∀ (j : Nat) v, j < l.length → zs[j]? = some v → (ps.toList.map fun p => a.eval p.2)[j]? = some v := by
                intro j v hj hv
                obtain ⟨u, hu'⟩ : ∃ u, (ps.toList.map fun p => a.eval p.2)[j]? = some u := ⟨_, List.getElem?_eq_getElem (by omega)⟩
                have := k4 j u hu'
                rw [Nat.zero_add, hgs, Nat.mul_one, value_cells (hrep j hj u hu').2] at this
                have h2 := congrArg (·[0]?) this
                simp [List.getElem?_take, List.getElem?_drop] at h2
                rw [hu', ← hv, h2]
              have hres : RepEV (fun blk => if blk = w.heap.size then Owner.stable else ow blk) bx { w with heap := w.heap.push (.cells zs e) } (.sl l) (.slice (some ⟨w.heap.size, 0, none⟩) l.length n) := by
                refine .sl (c := zs) (T := e) (fz := (0, 0)) (by omega) (by omega) (rigid_stable (by simp)) (by simp) (fun j x v hx hv => ?_) (fun j v hj hv => ?_)
                · have hjl : j < l.length := (List.getElem?_eq_some_iff.1 hx).1
                  have hxe : l[j]'hjl = x := (List.getElem?_eq_some_iff.1 hx).2
                  have := (hrep j hjl v (hcell j v hjl hv)).1
                  rw [hxe] at this
                  exact this.keep j1
                · exact (hrep j hj v (hcell j v hj hv)).2
              rw [hln] at hres
              exact hK _ _ _ _ j1 hres j2 rfl
            · cases h
          · cases h
      · cases h
    · cases h
  · cases h
end
end Go.Proofs.Ytbgdgpdfaebniaa
