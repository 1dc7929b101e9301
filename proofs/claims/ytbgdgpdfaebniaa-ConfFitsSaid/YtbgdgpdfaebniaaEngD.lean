/- Data in cells: taken apart and put together. No program in sight. -/
import Derived.Test.YtbgdgpdfaebniaaEngC
import Derived.Laws.Cells
import Derived.Laws.CopyRow
import Derived.Laws.Tables
set_option linter.unusedSimpArgs false
set_option linter.unusedVariables false
namespace Go.Proofs.Ytbgdgpdfaebniaa
section
variable {ow : Nat → Owner} {bx : Bx} {w : World}
theorem RepCs.nil : RepCs ow bx w [] [] := ⟨rfl, fun i e v h => by simp at h⟩
theorem RepCs.one {e : EV} {v : Value} (h : RepEV ow bx w e v) (h1 : v.oneCell' = true) : RepCs ow bx w [e] [v] :=
  ⟨rfl, fun i e' v' he hv => by cases i <;> simp at he hv; subst he; subst hv; exact ⟨h, h1⟩⟩
theorem RepCs.append {es es' : List EV} {vs vs' : List Value} (h : RepCs ow bx w es vs) (h' : RepCs ow bx w es' vs') : RepCs ow bx w (es ++ es') (vs ++ vs') := by
  refine ⟨by simp [h.1, h'.1], fun i e v he hv => ?_⟩
  rw [List.getElem?_append] at he hv
  rw [h.1] at he
  split at he
  · rename_i hi
    rw [if_pos hi] at hv
    exact h.2 i e v he hv
  · rename_i hi
    rw [if_neg hi] at hv
    exact h'.2 _ e v he hv
theorem RepCs.drop {es : List EV} {vs : List Value} (h : RepCs ow bx w es vs) (n : Nat) : RepCs ow bx w (es.drop n) (vs.drop n) :=
  ⟨by simp [h.1], fun i e v he hv => by rw [List.getElem?_drop] at he hv; exact h.2 _ e v he hv⟩
theorem RepCs.take {es : List EV} {vs : List Value} (h : RepCs ow bx w es vs) (n : Nat) : RepCs ow bx w (es.take n) (vs.take n) := by
  refine ⟨by simp [h.1], fun i e v he hv => ?_⟩
  rw [List.getElem?_take] at he hv
  split at he
  · rename_i hi
    rw [if_pos hi] at hv
    exact h.2 _ e v he hv
  · cases he
theorem RepCs.cons_inv {e : EV} {es : List EV} {vs : List Value} (h : RepCs ow bx w (e :: es) vs) : ∃ v vs', vs = v :: vs' ∧ RepEV ow bx w e v ∧ v.oneCell' = true ∧ RepCs ow bx w es vs' := by
  cases vs with
  | nil => have := h.1; simp at this
  | cons v vs' =>
    refine ⟨v, vs', rfl, (h.2 0 e v rfl rfl).1, (h.2 0 e v rfl rfl).2, ⟨by have := h.1; simpa using this, fun i e' v' he hv => h.2 (i + 1) e' v' (by simpa using he) (by simpa using hv)⟩⟩
theorem RepCs.splice {es new : List EV} {vs nvs : List Value} (h : RepCs ow bx w es vs) (hn : RepCs ow bx w new nvs) (off : Nat) :
    RepCs ow bx w (splice es off new) (vs.take off ++ nvs ++ vs.drop (off + nvs.length)) := by
  unfold Go.Proofs.Ytbgdgpdfaebniaa.splice
  rw [hn.1]
  exact ((h.take off).append hn).append (h.drop _)
theorem RepCs.set {es : List EV} {vs : List Value} (h : RepCs ow bx w es vs) (i : Nat) {e : EV} (he : ∀ v, vs[i]? = some v → RepEV ow bx w e v) : RepCs ow bx w (es.set i e) vs := by
  refine ⟨by simp [h.1], fun j e' v hj hv => ?_⟩
  rw [List.getElem?_set] at hj
  split at hj
  · rename_i hij
    subst hij
    split at hj
    · cases hj
      have hlt : i < vs.length := (List.getElem?_eq_some_iff.1 hv).1
      obtain ⟨e0, he0⟩ : ∃ e0, es[i]? = some e0 := ⟨_, List.getElem?_eq_getElem (by rw [h.1]; exact hlt)⟩
      exact ⟨he v hv, (h.2 i e0 v he0 hv).2⟩
    · cases hj
  · exact h.2 j e' v hj hv
theorem one_cells {v : Value} (h : v.oneCell' = true) : v.cells = #[v] := by cases v <;> first | rfl | cases h
theorem rep_flat : ∀ (t : Ty) (x : t.den) (vs : List Value), Rep ow w t x vs → RepCs ow bx w (flat t x) vs := by
  intro t
  induction t with
  | int k => rintro x vs ⟨rfl, h⟩; exact .one (.dat ⟨rfl, h⟩) rfl
  | bool => rintro x vs h; simp only [Rep] at h; subst h; exact .one (.dat rfl) rfl
  | str => rintro x vs ⟨rfl, h⟩; exact .one (.dat ⟨rfl, h⟩) rfl
  | unit => rintro x vs h; simp only [Rep] at h; subst h; exact .nil
  | pair a b iha ihb => rintro x vs ⟨c₁, c₂, rfl, h1, h2⟩; exact (iha _ _ h1).append (ihb _ _ h2)
  | slice a _ => rintro x vs ⟨ad, cap, rfl, h⟩; exact .one (.dat ⟨ad, cap, rfl, h⟩) rfl
  | agg a ih => exact fun x vs h => ih x vs h
theorem to_spec {e : EV} {t : Ty} {v : t.den} (h : e.to t = some v) : e = .dat t v ∨ (e = .nil ∧ ∃ a : Ty, t = .slice a ∧ HEq v ([] : List a.den)) ∨ ∃ (k : Nat) (a : Ty) (l : List a.den), e = .own k a l ∧ t = .slice a ∧ HEq v l := by
  cases e with
  | dat t' v' =>
    simp only [EV.to] at h
    split at h
    · rename_i ht
      subst ht
      cases h
      exact .inl rfl
    · cases h
  | nil =>
    cases t with
    | slice a =>
      simp only [EV.to] at h
      cases h
      exact .inr (.inl ⟨rfl, a, rfl, HEq.rfl⟩)
    | _ => simp [EV.to] at h
  | own k a l =>
    cases t with
    | slice b =>
      simp only [EV.to] at h
      split at h
      · rename_i hab
        subst hab
        cases h
        exact .inr (.inr ⟨k, a, _, rfl, rfl, HEq.rfl⟩)
      · cases h
    | _ => simp [EV.to] at h
  | _ => simp [EV.to] at h
theorem rep_nil (a : Ty) : Rep ow w (.slice a) [] [.slice none 0 0] := ⟨none, 0, rfl, ⟨Nat.zero_le _, Nat.zero_le _⟩, fun h => absurd rfl h⟩
theorem to_rep {e : EV} {t : Ty} {x : t.den} {v : Value} (h : e.to t = some x) (hv : RepEV ow bx w e v) : RepV ow w t x v := by
  rcases to_spec h with rfl | ⟨rfl, a, ht, hx⟩ | ⟨k, a, l, rfl, ht, hx⟩
  · cases hv with
    | dat h => exact h
  · subst ht
    cases eq_of_heq hx
    cases hv
    exact rep_nil a
  · subst ht
    cases eq_of_heq hx
    cases hv with
    | own h h' => exact h
theorem raw_rep {e : EV} {v : Value} (hv : RepEV ow bx w e v) : RepEV ow bx w e.raw v := by
  cases hv with
  | own h h' => exact .dat h
  | undef => exact .undef _
  | dat h => exact .dat h
  | nil => exact .nil
  | ptr h => exact .ptr h
  | pix h h0 h1 => exact .pix h h0 h1
  | elt h0 h1 hs hb hc => exact .elt h0 h1 hs hb hc
  | clo h1 h2 h3 h4 => exact .clo h1 h2 h3 h4
  | sl h0 h1 hs hb h2 h3 => exact .sl h0 h1 hs hb h2 h3
  | cp hs hb hv h1 h => exact .cp hs hb hv h1 h
  | tup h1 h2 => exact .tup h1 h2
  | row h1 h2 h3 => exact .row h1 h2 h3
theorem to_cell {e : EV} {t : Ty} {x : t.den} {v : Value} (h : e.to t = some x) (hv : RepEV ow bx w e v) (h1 : v.oneCell' = true) : Rep ow w t x [v] := by
  have := repV_cells (to_rep h hv)
  rwa [one_cells h1] at this
theorem asm_rep : ∀ (t : Ty) (es r : List EV) (x : t.den) (vs : List Value), asm t es = some (x, r) → RepCs ow bx w es vs →
    Rep ow w t x (vs.take t.size) ∧ r = es.drop t.size ∧ t.size ≤ es.length := by
  have cell : ∀ (t : Ty) (es r' : List EV) (x : t.den) (vs : List Value) (c : EV), t.size = 1 → es = c :: r' → c.to t = some x → RepCs ow bx w es vs →
      Rep ow w t x (vs.take t.size) ∧ r' = es.drop t.size ∧ t.size ≤ es.length := by
    intro t es r' x vs c hs he hto hc
    subst he
    obtain ⟨v, vs', rfl, hv, h1, hr⟩ := hc.cons_inv
    rw [hs]
    exact ⟨by simpa using to_cell hto hv h1, rfl, by simp⟩
  intro t
  induction t with
  | int k =>
    intro es r x vs h hc
    cases es with
    | nil => simp [asm] at h
    | cons c r' =>
      simp only [asm] at h
      split at h
      · rename_i v hv
        cases h
        exact cell _ _ _ _ _ _ rfl rfl hv hc
      · cases h
  | bool =>
    intro es r x vs h hc
    cases es with
    | nil => simp [asm] at h
    | cons c r' =>
      simp only [asm] at h
      split at h
      · rename_i v hv
        cases h
        exact cell _ _ _ _ _ _ rfl rfl hv hc
      · cases h
  | str =>
    intro es r x vs h hc
    cases es with
    | nil => simp [asm] at h
    | cons c r' =>
      simp only [asm] at h
      split at h
      · rename_i v hv
        cases h
        exact cell _ _ _ _ _ _ rfl rfl hv hc
      · cases h
  | slice a _ =>
    intro es r x vs h hc
    cases es with
    | nil => simp [asm] at h
    | cons c r' =>
      simp only [asm] at h
      split at h
      · rename_i v hv
        cases h
        exact cell _ _ _ _ _ _ rfl rfl hv hc
      · cases h
  | unit =>
    intro es r x vs h _
    cases h
    exact ⟨by simp [Ty.size, Rep], by simp [Ty.size], by simp [Ty.size]⟩
  | pair a b iha ihb =>
    intro es r x vs h hc
    simp only [asm] at h
    split at h
    · rename_i x1 r1 h1
      split at h
      · rename_i x2 r2 h2
        cases h
        obtain ⟨g1, rfl, g3⟩ := iha _ _ _ _ h1 hc
        obtain ⟨k1, rfl, k3⟩ := ihb _ _ _ _ h2 (hc.drop _)
        refine ⟨⟨_, _, ?_, g1, k1⟩, by simp [Ty.size], by simp [Ty.size] at *; omega⟩
        simp only [Ty.size]
        rw [List.take_add]
      · cases h
    · cases h
  | agg a ih => exact fun es r x vs h hc => ih es r x vs h hc
theorem toA_rep {e : EV} {t : Ty} {x : t.den} {v : Value} (h : e.toA t = some x) (hv : RepEV ow bx w e v) : RepV ow w t x v := by
  unfold EV.toA at h
  split at h
  · rename_i a cs
    split at h
    · rename_i v' hv'
      cases h
      cases hv with
      | row h1 h2 h3 =>
        rename_i vs
        have hc : RepCs ow bx w cs vs.toList := ⟨by simpa using h1, fun i e v he hv => ⟨h2 i e v he (by simpa using hv), h3 v (by simpa using List.mem_of_getElem? hv)⟩⟩
        obtain ⟨p1, p2, p3⟩ := asm_rep (.agg a) _ _ _ _ hv' hc
        have hle : vs.toList.length ≤ (Ty.agg a).size := by
          have := congrArg List.length p2
          have h3 := hc.1
          simp at this h3 ⊢
          omega
        rw [List.take_of_length_le hle] at p1
        exact ⟨vs, rfl, p1⟩
    · cases h
  · exact to_rep h hv
/-- A value that is stored: its cells. -/
theorem cells_rep {e : EV} {es : List EV} {v : Value} (h : e.cells = some es) (hv : RepEV ow bx w e v) : RepCs ow bx w es v.cells.toList := by
  cases hv <;> simp only [EV.cells] at h
  case undef => cases h
  case dat h' => cases h; exact rep_flat _ _ _ (repV_cells h')
  case nil => cases h; exact .one .nil rfl
  case own h0 h' =>
    cases h
    have h1 : v.oneCell' = true := rep_one _ _ _ h0 v (by simp)
    rw [one_cells h1]
    exact .one (.own h0 h') h1
  case ptr h' => cases h; exact .one (.ptr h') rfl
  case pix h' h0 h1 => cases h; exact .one (.pix h' h0 h1) rfl
  case elt h0 h1 hs hb hc => cases h; exact .one (.elt h0 h1 hs hb hc) rfl
  case clo h1 h2 h3 h4 => cases h; exact .one (.clo h1 h2 h3 h4) rfl
  case sl h0 h1 hs hb h2 h3 => cases h; exact .one (.sl h0 h1 hs hb h2 h3) rfl
  case cp hs hb hv h1 h' => cases h; exact .one (.cp hs hb hv h1 h') rfl
  case tup => cases h
  case row h1 h2 h3 =>
    cases h
    exact ⟨by simpa [Value.cells] using h1, fun i e v' he hv' => ⟨h2 i e v' he (by simpa [Value.cells] using hv'), h3 v' (by simpa [Value.cells] using List.mem_of_getElem? hv')⟩⟩
end
theorem add_at (b o n : Nat) : (⟨b, o, none⟩ : Addr).add n = ⟨b, o + n, none⟩ := by unfold Addr.add; split <;> simp_all
theorem cell_at {w : World} {b : Nat} {c : Array Value} {T : TypeId} {fz : Nat × Nat} (h : w.heap[b]? = some (.cells c T fz)) (o : Nat) : w.cell? ⟨b, o, none⟩ = c[o]? := by
  simp [World.cell?, h]
/-- What the program's table says of a type. -/
structure TdOK (P : Program) (T : Nat) (d : TD) : Prop where
  /-- its zero value, cell by cell -/
  zero : ∃ i z, P.info? T = some i ∧ i.zero = some z ∧ i.size = d.zero.length ∧ z.cells.size = d.zero.length ∧
    ∀ ow bx w, RepCs ow bx w d.zero z.cells.toList
  how : match d.how with
    | .scalar => d.zero.length = 1 ∧ ∃ u, P.underlying T = some u ∧ (∀ f, u ≠ .struct f) ∧ (∀ n e, u ≠ .array n e) ∧ (∀ k, d.ty = some (.int k) → u = .int k) ∧ (d.ty = some .str → u = .string) ∧ (d.ty = some .bool → u = .bool)
    | .struct fs => ∃ gs, P.underlying T = some (.struct gs) ∧ gs.toList.mapM (fun f => (P.info? f.type).map fun i => (f.offset, i.size)) = some (fs.map (·.2)) ∧ gs.toList.map (·.type) = fs.map (·.1)
    | .array n e s => P.underlying T = some (.array n e) ∧ ∃ i, P.info? e = some i ∧ i.size = s
    | .slice e s b => d.zero.length = 1 ∧ P.underlying T = some (.slice e) ∧ (∃ i z, P.info? e = some i ∧ i.size = s ∧ i.bytes = b ∧ i.zero = some z) ∧ d.ty ≠ some .bool ∧ (∀ k, d.ty ≠ some (.int k)) ∧ d.ty ≠ some .str
  eq : ∀ t, d.ty = some t → t.isAgg = true → t.plain = true → P.eqGuardType P.depth T = false ∧
    ∀ ow w (x y : t.den) vx vy, RepV ow w t x vx → RepV ow w t y vy → (Op.equalIn 10000 T vx vy).run P w = .ok (eqT t x y) w
  agg : ∀ t, d.ty = some t → t.size = d.zero.length ∧ (t.isAgg = true ↔ (match d.how with | .struct _ | .array _ _ _ => true | _ => false) = true)
theorem mapM_at {α β : Type} {f : α → Option β} : ∀ (l : List α) (m : List β), l.mapM f = some m → ∀ (i : Nat) b, m[i]? = some b → ∃ a, l[i]? = some a ∧ f a = some b
  | [], m, h, i, b, hb => by simp at h; subst h; simp at hb
  | a :: l, m, h, i, b, hb => by
    simp only [List.mapM_cons, Option.bind_eq_bind, Option.pure_def] at h
    cases ha : f a with
    | none => simp [ha] at h
    | some b0 =>
      cases hl : l.mapM f with
      | none => simp [ha, hl] at h
      | some m0 =>
        simp [ha, hl] at h
        subst h
        cases i with
        | zero => simp at hb; subst hb; exact ⟨a, rfl, ha⟩
        | succ i =>
          obtain ⟨a', h1, h2⟩ := mapM_at l m0 hl i b (by simpa using hb)
          exact ⟨a', by simpa using h1, h2⟩
theorem struct_field {P : Program} {gs : Array Field} {fs : List (Nat × Nat × Nat)} (h1 : gs.toList.mapM (fun f => (P.info? f.type).map fun i => (f.offset, i.size)) = some (fs.map (·.2))) (h2 : gs.toList.map (·.type) = fs.map (·.1))
    {i ft off size : Nat} (h : fs[i]? = some (ft, off, size)) : ∃ (g : Field) (gi : TypeInfo), gs[i]? = some g ∧ g.type = ft ∧ g.offset = off ∧ P.info? ft = some gi ∧ gi.size = size := by
  obtain ⟨g, g1, g2⟩ := mapM_at _ _ h1 i (off, size) (by simp [h])
  have g3 : g.type = ft := by
    have := congrArg (·[i]?) h2
    simp only [List.getElem?_map, g1, h, Option.map_some, Option.some.injEq] at this
    exact this
  rw [g3] at g2
  cases hi : P.info? ft with
  | none => simp [hi] at g2
  | some gi =>
    simp [hi] at g2
    exact ⟨g, gi, by simpa using g1, g3, g2.1, rfl, g2.2⟩
section
variable {P : Program} {T : Nat} {d : TD} {ow : Nat → Owner} {bx : Bx} {w : World}
theorem TdOK.isAgg (h : TdOK P T d) : (isAgg T).run P w = .ok (aggD d) w := by
  have hh := h.how
  unfold Go.isAgg aggD underlying
  cases hd : d.how <;> simp only [hd] at hh
  case scalar =>
    obtain ⟨_, u, hu, h1, h2, _, _, _⟩ := hh
    cases u <;> first | exact absurd rfl (h1 _) | exact absurd rfl (h2 _ _) | simp [hu]
  case struct fs =>
    obtain ⟨gs, hu, _⟩ := hh
    simp [hu]
  case array n e s => simp [hh.1]
  case slice e s b => simp [hh.2.1]
theorem TdOK.sizeOf (h : TdOK P T d) : (sizeOf T).run P w = .ok d.zero.length w := by
  obtain ⟨i, z, h1, h2, h3, _⟩ := h.zero
  simp [Go.sizeOf, typeInfo, h1, h3]
theorem load_cells_list {b o n : Nat} {c : Array Value} {U : TypeId} {fz : Nat × Nat} {vs : List Value} (hb : w.heap[b]? = some (.cells c U fz)) (hv : ∀ (i : Nat) v, vs[i]? = some v → c[o + i]? = some v) (hn : n = vs.length) :
    (loadCells ⟨b, o, none⟩ n).run P w = .ok vs.toArray w := by
  subst hn
  exact run_loadCells_list (P := P) w ⟨b, o, none⟩ vs (fun j v hj => by rw [add_at, cell_at hb]; exact hv j v hj)
/-- Reading a variable of a type at a place of a row of cells. -/
theorem read_run (h : TdOK P T d) {cs : List EV} {off : Nat} {e : EV} {b : Nat} {c : Array Value} {U : TypeId} {fz : Nat × Nat} {base : Nat} {vs : List Value} (hr : readAt d cs off = some e)
    (hb : w.heap[b]? = some (.cells c U fz)) (hvs : ∀ (i : Nat) v, vs[i]? = some v → c[base + i]? = some v) (hc : RepCs ow bx w cs vs) :
    ∃ v, (loadVar T ⟨b, base + off, none⟩).run P w = .ok v w ∧ RepEV ow bx w e v ∧ (aggD d = false → v.oneCell' = true) := by
  have hlen : cs.length = vs.length := hc.1
  have hag := h.isAgg (w := w)
  have hsz := h.sizeOf (w := w)
  have single : aggD d = false → cs[off]? = some e → ∃ v, (loadVar T ⟨b, base + off, none⟩).run P w = .ok v w ∧ RepEV ow bx w e v ∧ (aggD d = false → v.oneCell' = true) := by
    intro ha he
    have hlt : off < cs.length := (List.getElem?_eq_some_iff.1 he).1
    obtain ⟨v, hv⟩ : ∃ v, vs[off]? = some v := ⟨_, List.getElem?_eq_getElem (by omega)⟩
    obtain ⟨h1, h2⟩ := hc.2 off e v he hv
    refine ⟨v, ?_, h1, fun _ => h2⟩
    unfold loadVar
    rw [Sem.run_bind, hag, ha]
    simp [cell_at hb, hvs off v hv]
  have rowed : aggD d = true → ∀ n, n = d.zero.length → off + n ≤ cs.length → ∃ us : List Value, (loadVar T ⟨b, base + off, none⟩).run P w = .ok (.agg us.toArray) w ∧ us = (vs.drop off).take n := by
    intro ha n hn hle
    refine ⟨_, ?_, rfl⟩
    have hl := load_cells_list (P := P) (w := w) (o := base + off) (n := n) (vs := (vs.drop off).take n) hb (fun i v hv => by
      rw [List.getElem?_take] at hv
      split at hv
      · rw [List.getElem?_drop] at hv
        rw [Nat.add_assoc]
        exact hvs _ v hv
      · cases hv) (by simp; omega)
    unfold loadVar
    rw [Sem.run_bind, hag, ha]
    simp only [Result.andThen_ok, if_true, Sem.run_bind, hsz, ← hn, hl, Sem.run_pure]
  unfold readAt at hr
  cases hd : d.how with
  | scalar => simp only [hd] at hr; exact single (by unfold aggD; rw [hd]) hr
  | slice e' s b' => simp only [hd] at hr; exact single (by unfold aggD; rw [hd]) hr
  | _ =>
    simp only [hd] at hr
    have ha : aggD d = true := by unfold aggD; rw [hd]
    split at hr
    · cases hr
    · rename_i hble
      have hle := Nat.le_of_ble_eq_true hble
      obtain ⟨vs, h1, h2⟩ := rowed ha _ rfl hle
      have rowcase : ∃ v, (loadVar T ⟨b, base + off, none⟩).run P w = .ok v w ∧ RepEV ow bx w (EV.row ((cs.drop off).take d.zero.length)) v ∧ (aggD d = false → v.oneCell' = true) := by
        have hcs := (hc.drop off).take d.zero.length
        rw [← h2] at hcs
        refine ⟨_, h1, .row (by simpa using hcs.1) (fun i e v he hv => (hcs.2 i e v he (by simpa using hv)).1) (fun v hv => ?_), fun h => by rw [ha] at h; cases h⟩
        obtain ⟨i, hi⟩ := List.getElem?_of_mem (show v ∈ vs by simpa using hv)
        have hlt : i < vs.length := (List.getElem?_eq_some_iff.1 hi).1
        obtain ⟨e, he⟩ : ∃ e, ((cs.drop off).take d.zero.length)[i]? = some e := ⟨_, List.getElem?_eq_getElem (by rw [hcs.1]; exact hlt)⟩
        exact (hcs.2 i e v he hi).2
      split at hr
      · rename_i t ht
        split at hr
        · rename_i x r hx
          cases hr
          obtain ⟨g1, g2, g3⟩ := asm_rep t _ _ _ _ hx (hc.drop off)
          obtain ⟨e1, e2⟩ := h.agg t ht
          refine ⟨_, h1, .dat ?_, fun h => by rw [ha] at h; cases h⟩
          have hta : t.isAgg = true := e2.2 (by rw [hd])
          cases t <;> simp only [Ty.isAgg] at hta <;> try cases hta
          all_goals exact ⟨_, rfl, by rw [← e1] at h2; simpa [h2, Rep] using g1⟩
        · cases hr; exact rowcase
      · cases hr; exact rowcase
end
end Go.Proofs.Ytbgdgpdfaebniaa
