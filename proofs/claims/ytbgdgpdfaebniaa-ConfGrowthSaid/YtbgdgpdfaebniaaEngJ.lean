/- Each operation does what the reading says: fields, elements, lengths, literals. No program in sight. -/
import Derived.Test.YtbgdgpdfaebniaaEngI
set_option linter.unusedSimpArgs false
set_option linter.unusedVariables false
namespace Go.Proofs.Ytbgdgpdfaebniaa
section
variable {ρ : Type} {P : Program} {Γ : Cx} {id : Nat} {rd : Nat → Option (List EV)} {g : Option Bool} {A : Operand → EV} {o : Oper} {q : EV → Option (List EV) → List Wr → List Nat → Option ρ} {r : ρ}
/-- Where a field lies, in the program. -/
theorem fieldPl_spec {T : Nat} {d : TD} {i off size : Nat} {w : World} (hOK : TdOK P T d) (h : fieldPl d i = some (off, size)) :
    (∃ gs g gi, P.underlying T = some (.struct gs) ∧ gs[i]? = some g ∧ g.offset = off ∧ P.info? g.type = some gi ∧ gi.size = size) ∨
    (∃ n e gi, P.underlying T = some (.array n e) ∧ P.info? e = some gi ∧ gi.size = size ∧ off = i * size) := by
  have hh := hOK.how
  unfold fieldPl at h
  cases hw : d.how with
  | struct fs =>
    simp only [hw] at hh h
    obtain ⟨gs, hu, hf1, hf2⟩ := hh
    split at h
    · rename_i ft off' size' hfs
      cases h
      obtain ⟨g, gi, g1, g2, g3, g4, g5⟩ := struct_field hf1 hf2 hfs
      exact .inl ⟨gs, g, gi, hu, g1, g3, by rw [g2]; exact g4, g5⟩
    · cases h
  | array n e s =>
    simp only [hw] at hh h
    cases h
    obtain ⟨hu, gi, g1, g2⟩ := hh
    exact .inr ⟨n, e, gi, hu, g1, g2, rfl⟩
  | scalar => simp [hw] at h
  | slice e s b => simp [hw] at h
theorem sound_fieldAddr {T : TypeId} {x : Operand} {i : Nat} (hΓ : CxOK P Γ) (ho : o.op = .fieldAddr T x i) (h : opE Γ id rd g A (.fieldAddr T x i) q = some r) : Sound P id rd g A o q r := by
  have hx : ∀ {ow bx w ev}, Args ow bx w A ev o.op → RepEV ow bx w (A x) (ev x) := by
    intro ow bx w ev hA
    rw [ho] at hA
    exact args_of hA (by intros; simp) x (by simp [Op.operands])
  simp only [opE] at h
  split at h
  · rename_i d hd
    have hOK := hΓ.td T d hd
    split at h
    · rename_i off size hpl
      split at h
      · rename_i hsz
        have h1 := Nat.le_of_ble_eq_true hsz
        have run : ∀ {a : Act} {w : World} {b n : Nat}, (∃ fs, d.how = .struct fs) → a.eval x = .pointer (some ⟨b, n, none⟩) → (execOp a.eval o).run P w = .ok (.value (.pointer (some ⟨b, n + off, none⟩))) w := by
          intro a w b n hst he
          rcases fieldPl_spec (w := w) hOK hpl with ⟨gs, gg, gi, h2, h3, h4, h5, h6⟩ | ⟨n', e, gi, h2, _⟩
          · unfold execOp
            rw [ho]
            have : ¬ gi.size = 0 := by omega
            simp [he, Instr.fieldAt, underlying, h2, h3, Instr.sureAddr, fieldPlace, sizeOf, typeInfo, h5, this, add_at, h4]
          · obtain ⟨fs, hfs⟩ := hst
            have hh := hOK.how
            simp only [hfs] at hh
            obtain ⟨gs, hu, _⟩ := hh
            rw [hu] at h2
            cases h2
        have hst : (∃ fs, d.how = .struct fs) ∨ (∃ n e s, d.how = .array n e s) := by
          unfold fieldPl at hpl
          cases hw : d.how with
          | struct fs => exact .inl ⟨fs, rfl⟩
          | array n e s => exact .inr ⟨n, e, s, rfl⟩
          | scalar => simp [hw] at hpl
          | slice e s b => simp [hw] at hpl
        have noarr : ∀ (a : Act) (w : World) (v : Value), True := fun _ _ _ => trivial
        split at h
        · rename_i hstr'
          have hstr : ∃ fs, d.how = .struct fs := by
            unfold isStruct at hstr'
            split at hstr'
            · rename_i fs hfs; exact ⟨fs, hfs⟩
            · cases hstr'
          split at h
          · rename_i b n he
            refine sound_pure h fun _ B ow bx nb bg w a hi hA hb => ?_
            have hp := hx hA
            rw [he] at hp
            cases hpe : a.eval x with
            | pointer ad =>
              rw [hpe] at hp
              cases hp with
              | ptr hq => exact ⟨_, run hstr hpe, .ptr hq⟩
            | _ => rw [hpe] at hp; cases hp
          · rename_i b o1 s n ix o' he
            refine sound_pure h fun _ B ow bx nb bg w a hi hA hb => ?_
            have hp := hx hA
            rw [he] at hp
            cases hpe : a.eval x with
            | pointer ad =>
              rw [hpe] at hp
              cases hp with
              | pix hq h0 h1 =>
                refine ⟨_, run hstr hpe, ?_⟩
                rw [Nat.add_assoc]
                exact .pix hq h0 h1
            | _ => rw [hpe] at hp; cases hp
          · rename_i ty l ix o' he
            refine sound_pure h fun _ B ow bx nb bg w a hi hA hb => ?_
            have hp := hx hA
            rw [he] at hp
            cases hpe : a.eval x with
            | pointer ad =>
              rw [hpe] at hp
              cases hp with
              | elt h0 h1 hs hbk hc =>
                refine ⟨_, run hstr hpe, ?_⟩
                rw [Nat.add_assoc]
                exact .elt h0 h1 hs hbk hc
            | _ => rw [hpe] at hp; cases hp
          · cases h
        · cases h
      · cases h
    · cases h
  · cases h
theorem part_read {T : Nat} {d : TD} {ow : Nat → Owner} {bx : Bx} {w : World} (hOK : TdOK P T d) {cs : List EV} {vs : Array Value} {off : Nat} {e : EV} (hr : readAt d cs off = some e) (hc : RepCs ow bx w cs vs.toList) :
    ∃ u, (part T vs off).run P w = .ok u w ∧ RepEV ow bx w e u := by
  -- a block that holds the cells
  let w' : World := { w with heap := w.heap.push (.cells vs 0) }
  have hb : w'.heap[w.heap.size]? = some (.cells vs 0 (0, 0)) := by simp [w']
  have hag := hOK.isAgg (w := w)
  have hsz := hOK.sizeOf (w := w)
  have hlen : cs.length = vs.size := by have := hc.1; simpa using this
  unfold readAt at hr
  have single : aggD d = false → cs[off]? = some e → ∃ u, (part T vs off).run P w = .ok u w ∧ RepEV ow bx w e u := by
    intro ha he
    have hlt : off < cs.length := (List.getElem?_eq_some_iff.1 he).1
    obtain ⟨v, hv⟩ : ∃ v, vs[off]? = some v := ⟨_, Array.getElem?_eq_getElem (by omega)⟩
    refine ⟨v, ?_, (hc.2 off e v he (by simpa using hv)).1⟩
    unfold part
    rw [Sem.run_bind, hag, ha]
    simp [hv]
  cases hd : d.how with
  | scalar => simp only [hd] at hr; exact single (by unfold aggD; rw [hd]) hr
  | slice e' s b' => simp only [hd] at hr; exact single (by unfold aggD; rw [hd]) hr
  | _ =>
    simp only [hd] at hr
    have ha : aggD d = true := by unfold aggD; rw [hd]
    split at hr
    · cases hr
    · rename_i hble
      have hle := Nat.le_of_ble_eq_true hble
      have hrun : (part T vs off).run P w = .ok (.agg (vs.extract off (off + d.zero.length))) w := by
        unfold part
        rw [Sem.run_bind, hag, ha]
        simp [hsz]
      have hex : (vs.extract off (off + d.zero.length)).toList = (vs.toList.drop off).take d.zero.length := by simp
      have rowcase : ∃ u, (part T vs off).run P w = .ok u w ∧ RepEV ow bx w (EV.row ((cs.drop off).take d.zero.length)) u := by
        have hcs := (hc.drop off).take d.zero.length
        rw [← hex] at hcs
        exact ⟨_, hrun, .row (by have := hcs.1; rwa [Array.length_toList] at this) (fun i e v he hv => (hcs.2 i e v he (by rw [Array.getElem?_toList]; exact hv)).1) (fun v hv => hcs.ones v (Array.mem_toList_iff.2 hv))⟩
      split at hr
      · rename_i t ht
        split at hr
        · rename_i x r hx
          cases hr
          obtain ⟨g1, g2, g3⟩ := asm_rep t _ _ _ _ hx (hc.drop off)
          obtain ⟨e1, e2⟩ := hOK.agg t ht
          refine ⟨_, hrun, .dat ?_⟩
          have hta : t.isAgg = true := e2.2 (by rw [hd])
          rw [e1, ← hex] at g1
          cases t <;> simp only [Ty.isAgg] at hta <;> try cases hta
          all_goals exact ⟨_, rfl, g1⟩
        · cases hr; exact rowcase
      · cases hr; exact rowcase
theorem sound_field {T : TypeId} {x : Operand} {i : Nat} (hΓ : CxOK P Γ) (ho : o.op = .field T x i) (h : opE Γ id rd g A (.field T x i) q = some r) : Sound P id rd g A o q r := by
  have hx : ∀ {ow bx w ev}, Args ow bx w A ev o.op → RepEV ow bx w (A x) (ev x) := by
    intro ow bx w ev hA
    rw [ho] at hA
    exact args_of hA (by intros; simp) x (by simp [Op.operands])
  simp only [opE] at h
  split at h
  · rename_i c v he
    split at h
    · rename_i d htd hd
      split at h
      · rename_i fs hfs
        split at h
        · rename_i ft off size hf
          split at h
          · rename_i fd hfd
            split at h
            · rename_i e hre
              refine sound_pure h fun _ B ow bx nb bg w a hi hA hb => ?_
              have hp := hx hA
              rw [he] at hp
              have hOK := hΓ.td T d hd
              have hh := hOK.how
              simp only [hfs] at hh
              obtain ⟨gs, hu, hgs1, hgs2⟩ := hh
              obtain ⟨gg, gi, g1, g2, g3, g4, g5⟩ := struct_field hgs1 hgs2 hf
              generalize hpe : a.eval x = u at hp
              cases hp with
              | dat hp =>
                obtain ⟨cells, hcells, hrep⟩ := hp
                obtain ⟨u', h1, h2⟩ := part_read (hΓ.td ft fd hfd) hre (rep_flat (bx := bx) _ _ _ hrep)
                refine ⟨u', ?_, h2⟩
                unfold execOp
                rw [ho]
                simp [hpe, hcells, Instr.field, underlying, hu, g1, asAgg, g2, g3, h1]
            · cases h
          · cases h
        · cases h
      · cases h
    · cases h
  · cases h
theorem sound_makeFunc {fn : Fn} {fst cap : Array Operand} (ho : o.op = .makeFunc fn fst cap) (h : opE Γ id rd g A (.makeFunc fn fst cap) q = some r) : Sound P id rd g A o q r := by
  simp only [opE] at h
  split at h
  · rename_i f
    refine sound_pure h fun _ B ow bx nb bg w a hi hA hb => ?_
    rw [ho] at hA
    have hall := args_of hA (by intros; simp)
    refine ⟨.func (.func f) (fst.map a.eval) (cap.map a.eval), ?_, .clo (by simp) (by simp) (fun i e v he hv => ?_) (fun i e v he hv => ?_)⟩
    · unfold execOp; rw [ho]; simp [Instr.makeFunc]
    · simp only [List.getElem?_map, Array.getElem?_map, Option.map_eq_some_iff] at he hv
      obtain ⟨y, hy, rfl⟩ := he
      obtain ⟨y', hy', rfl⟩ := hv
      have : y' = y := by have : fst.toList[i]? = some y' := by simpa using hy'
                          rw [hy] at this; cases this; rfl
      subst this
      exact hall y' (by simp only [Op.operands]; exact Array.mem_append.2 (.inl (Array.mem_of_getElem? hy')))
    · simp only [List.getElem?_map, Array.getElem?_map, Option.map_eq_some_iff] at he hv
      obtain ⟨y, hy, rfl⟩ := he
      obtain ⟨y', hy', rfl⟩ := hv
      have : y' = y := by have : cap.toList[i]? = some y' := by simpa using hy'
                          rw [hy] at this; cases this; rfl
      subst this
      exact hall y' (by simp only [Op.operands]; exact Array.mem_append.2 (.inr (Array.mem_of_getElem? hy')))
  · cases h
theorem intOf_spec {e : EV} {m : Int} (h : intOf e = some m) : ∃ k, e = .dat (.int k) m := by
  unfold intOf at h
  split at h
  · cases h; exact ⟨_, rfl⟩
  · cases h
theorem sliceOf_spec {t : Nat} {ty : Ty} (hΓ : CxOK P Γ) (h : sliceOf Γ t ty = true) : ∃ d e s b gi, Γ.td t = some d ∧ d.how = .slice e s b ∧ P.underlying t = some (.slice e) ∧ P.info? e = some gi ∧ gi.size = ty.size := by
  unfold sliceOf at h
  split at h
  · rename_i d hd
    split at h
    · rename_i e s b hw
      obtain ⟨ed, hed, hety⟩ := tyIs_spec h
      have hh := (hΓ.td t d hd).how
      simp only [hw] at hh
      obtain ⟨_, hu, ⟨gi, z, g1, g2, g3, g4⟩, _⟩ := hh
      obtain ⟨i, z', h1, h2, h3, _⟩ := (hΓ.td e ed hed).zero
      rw [g1] at h1
      cases h1
      exact ⟨d, e, s, b, gi, hd, hw, hu, g1, by rw [h3, ((hΓ.td e ed hed).agg _ hety).1]⟩
    · cases h
  · cases h
theorem asInt_run {w : World} {k : IntKind} {m : Int} : (asIntOf (.int k m)).run P w = .ok (k, m) w := rfl
theorem sound_indexAddr {T : TypeId} {x i : Operand} (hΓ : CxOK P Γ) (ho : o.op = .indexAddr T x i) (h : opE Γ id rd g A (.indexAddr T x i) q = some r) : Sound P id rd g A o q r := by
  have hx : ∀ {ow bx w ev}, Args ow bx w A ev o.op → RepEV ow bx w (A x) (ev x) ∧ RepEV ow bx w (A i) (ev i) := by
    intro ow bx w ev hA
    rw [ho] at hA
    exact ⟨args_of hA (by intros; simp) x (by simp [Op.operands]), args_of hA (by intros; simp) i (by simp [Op.operands])⟩
  simp only [opE] at h
  split at h
  · rename_i d hd
    have hOK := hΓ.td T d hd
    split at h
    · rename_i n e s hw
      have hh := hOK.how
      simp only [hw] at hh
      obtain ⟨hu, gi, g1, g2⟩ := hh
      have run : ∀ {a : Act} {w : World} {b off : Nat} {k : IntKind} {m : Int}, a.eval x = .pointer (some ⟨b, off, none⟩) → a.eval i = .int k m → 0 ≤ m → m < (n : Int) →
          (execOp a.eval o).run P w = .ok (.value (.pointer (some ⟨b, off + m.toNat * s, none⟩))) w := by
        intro a w b off k m he hei h0 h1
        unfold execOp
        rw [ho]
        simp [he, hei, Instr.indexAt, asIntOf, underlying, hu, Instr.sureAddr, h0, h1, sizeOf, typeInfo, g1, g2, add_at]
      split at h
      · rename_i b off he
        split at h
        · rename_i k m
          split at h
          · rename_i hck
            simp only [Bool.and_eq_true, decide_eq_true_eq] at hck
            refine sound_pure h fun _ B ow bx nb bg w a hi hA hb => ?_
            have hp := (hx hA).1
            rw [he] at hp
            cases hpe : a.eval x with
            | pointer ad =>
              rw [hpe] at hp
              cases hp with
              | ptr hq => exact ⟨_, run hpe rfl hck.1 hck.2, .ptr hq⟩
            | _ => rw [hpe] at hp; cases hp
          · cases h
        · split at h
          · rename_i m hm
            obtain ⟨h1, h2⟩ := chk_spec h
            obtain ⟨k, hk⟩ := intOf_spec hm
            refine sound_pure h1 fun hg B ow bx nb bg w a hi hA hb => ?_
            obtain ⟨hp, hpi⟩ := hx hA
            rw [he] at hp
            rw [hk] at hpi
            have hck := h2 hg
            simp only [Bool.and_eq_true, decide_eq_true_eq] at hck
            cases hpe : a.eval x with
            | pointer ad =>
              rw [hpe] at hp
              cases hp with
              | ptr hq => exact ⟨_, run hpe (repInt hpi).1 hck.1 hck.2, .pix hq hck.1 hck.2⟩
            | _ => rw [hpe] at hp; cases hp
          · cases h
      · cases h
    · rename_i e s b hw
      have main : ∀ {ty : Ty} {a : Act} {w : World} {len cap : Nat} {ad : Option Addr} {k : IntKind} {m : Int} {blk off : Nat}, sliceOf Γ T ty = true → a.eval x = .slice ad len cap → a.eval i = .int k m → 0 ≤ m → m < (len : Int) → ad = some ⟨blk, off, none⟩ →
          (execOp a.eval o).run P w = .ok (.value (.pointer (some ⟨blk, off + m.toNat * ty.size, none⟩))) w := by
        intro ty a w len cap ad k m blk off hs he hei h0 h1 had
        obtain ⟨d', e', s', b', gi, hd', hw', hu, g1, g2⟩ := sliceOf_spec hΓ hs
        unfold execOp
        rw [ho]
        simp [he, hei, Instr.indexAt, asIntOf, underlying, hu, had, h0, h1, sizeOf, typeInfo, g1, g2, add_at]
      split at h
      · rename_i ty l he
        split at h
        · rename_i m hm hs
          obtain ⟨h1, h2⟩ := chk_spec h
          obtain ⟨k, hk⟩ := intOf_spec hm
          refine sound_pure h1 fun hg B ow bx nb bg w a hi hA hb => ?_
          obtain ⟨hp, hpi⟩ := hx hA
          replace hp := raw_rep hp
          rw [he] at hp
          rw [hk] at hpi
          have hck := h2 hg
          simp only [Bool.and_eq_true, decide_eq_true_eq] at hck
          generalize hpe : a.eval x = u at hp
          cases hp with
          | dat hp =>
            obtain ⟨ad, cap, h3, h4, h5⟩ := hp
            have hne : l ≠ [] := by intro e; subst e; simp at hck; omega
            obtain ⟨blk, off, c, U, fz, k1, k2, k3, k4⟩ := h5 hne
            simp only [List.cons.injEq, and_true] at h3
            refine ⟨_, main hs (by rw [hpe, h3]) (repInt hpi).1 hck.1 hck.2 k1, ?_⟩
            have := RepEV.elt (ow := ow) (bx := bx) (w := w) (t := ty) (l := l) (i := m) (o := 0) hck.1 hck.2 k2 k3 k4
            rwa [Nat.add_zero] at this
        · cases h
      · rename_i es he
        split at h
        · rename_i m hm
          split at h
          · rename_i hck
            split at h
            · rename_i e0 he0
              simp only [Bool.and_eq_true, decide_eq_true_eq] at hck
              have hs1 := Nat.eq_of_beq_eq_true hck.2
              subst hs1
              obtain ⟨k, hk⟩ := intOf_spec hm
              refine sound_pure h fun hg B ow bx nb bg w a hi hA hb => ?_
              obtain ⟨hp, hpi⟩ := hx hA
              replace hp := raw_rep hp
              rw [he] at hp
              rw [hk] at hpi
              generalize hpe : a.eval x = u at hp
              cases hp with
              | sl q0 q1 qs qb q2 q3 =>
                rename_i blk cap c U fz
                have hh := hOK.how
                simp only [hw] at hh
                obtain ⟨_, hu, ⟨gi, z, g1, g2, g3, g4⟩, _⟩ := hh
                have hlt : m.toNat < es.length := by omega
                refine ⟨.pointer (some ⟨blk, m.toNat, none⟩), ?_, ?_⟩
                · unfold execOp
                  rw [ho]
                  simp [hpe, (repInt hpi).1, Instr.indexAt, asIntOf, underlying, hu, hck.1.1, hck.1.2, sizeOf, typeInfo, g1, g2, add_at]
                · obtain ⟨v, hv⟩ : ∃ v, c[m.toNat]? = some v := ⟨_, Array.getElem?_eq_getElem (by omega)⟩
                  exact .cp (rigid_mono qs (by omega)) qb hv (q3 _ v hlt hv) (q2 _ _ _ he0 hv)
            · cases h
          · cases h
        · cases h
      · cases h
    · cases h
  · cases h
end
end Go.Proofs.Ytbgdgpdfaebniaa
