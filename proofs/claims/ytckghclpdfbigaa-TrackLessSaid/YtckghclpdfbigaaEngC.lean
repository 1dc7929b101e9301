/- What abstract values mean in a world. No program in sight. -/
import Derived.Test.YtckghclpdfbigaaEngB
import Derived.WalkKit
set_option linter.unusedSimpArgs false
set_option linter.unusedVariables false
namespace Go.Proofs.Ytckghclpdfbigaa
/-- Whose a block is: data that is never written again, a variable, a slice of the call's own, nobody's. -/
inductive Owner where
  | stable
  | box (b : Nat)
  | tok (k : Nat)
  | junk
  deriving DecidableEq
/-- Cells that hold data. -/
def Rep (ow : Nat → Owner) (w : World) : (t : Ty) → t.den → List Value → Prop
  | .int k, n, cs => cs = [.int k n] ∧ fits k n = true
  | .bool, b, cs => cs = [.bool b]
  | .str, s, cs => cs = [.string s] ∧ s.size ≤ 9223372036854775807
  | .unit, _, cs => cs = []
  | .pair a b, x, cs => ∃ c₁ c₂, cs = c₁ ++ c₂ ∧ Rep ow w a x.1 c₁ ∧ Rep ow w b x.2 c₂
  | .agg a, x, cs => Rep ow w a x cs
  | .slice a, l, cs => ∃ ad cap, cs = [.slice ad l.length cap] ∧ (l.length ≤ 9223372036854775807 ∧ l.length ≤ cap) ∧
      (l ≠ [] → ∃ blk off c T fz, ad = some ⟨blk, off, none⟩ ∧ ow blk = .stable ∧ w.heap[blk]? = some (.cells c T fz) ∧
        ∀ (i : Nat) x, l[i]? = some x → Rep ow w a x ((c.toList.drop (off + i * a.size)).take a.size))
def RepV (ow : Nat → Owner) (w : World) (t : Ty) (x : t.den) (v : Value) : Prop :=
  match t, x with
  | .agg a, x => ∃ cs : Array Value, v = .agg cs ∧ Rep ow w a x cs.toList
  | t, x => Rep ow w t x [v]
theorem rep_one {ow : Nat → Owner} {w : World} : ∀ (t : Ty) (x : t.den) (cs : List Value), Rep ow w t x cs → ∀ c ∈ cs, c.oneCell' = true := by
  intro t
  induction t with
  | int k => rintro x cs ⟨rfl, _⟩ c hc; simp at hc; subst hc; rfl
  | bool => rintro x cs h c hc; simp only [Rep] at h; subst h; simp at hc; subst hc; rfl
  | str => rintro x cs ⟨rfl, _⟩ c hc; simp at hc; subst hc; rfl
  | unit => rintro x cs h c hc; simp only [Rep] at h; subst h; simp at hc
  | pair a b iha ihb =>
    rintro x cs ⟨c₁, c₂, rfl, h1, h2⟩ c hc
    rcases List.mem_append.1 hc with h | h
    · exact iha _ _ h1 c h
    · exact ihb _ _ h2 c h
  | slice a _ => rintro x cs ⟨ad, cap, rfl, _⟩ c hc; simp at hc; subst hc; rfl
  | agg a ih => intro x cs h c hc; exact ih x cs h c hc
theorem rep_length {ow : Nat → Owner} {w : World} : ∀ (t : Ty) (x : t.den) (cs : List Value), Rep ow w t x cs → cs.length = t.size := by
  intro t
  induction t with
  | int k => rintro x cs ⟨rfl, _⟩; rfl
  | bool => rintro x cs h; simp only [Rep] at h; subst h; rfl
  | str => rintro x cs ⟨rfl, _⟩; rfl
  | unit => rintro x cs h; simp only [Rep] at h; subst h; rfl
  | pair a b iha ihb => rintro x cs ⟨c₁, c₂, rfl, h1, h2⟩; simp [Ty.size, iha _ _ h1, ihb _ _ h2]
  | slice a _ => rintro x cs ⟨ad, cap, rfl, _⟩; rfl
  | agg a ih => intro x cs h; exact ih x cs h
theorem value_cells {v : Value} (h : v.oneCell' = true) : v.cells = #[v] := by cases v <;> first | rfl | cases h
theorem repV_cells {ow : Nat → Owner} {w : World} {t : Ty} {x : t.den} {v : Value} (h : RepV ow w t x v) : Rep ow w t x v.cells.toList := by
  cases t <;> simp only [RepV] at h
  case agg a => obtain ⟨cs, rfl, h⟩ := h; exact h
  all_goals
    have h1 := rep_one _ _ _ h v (by simp)
    rw [value_cells h1]
    exact h
/-- A slice of the call's own: nil, or all of a block that nobody else reads. -/
def Own (ow : Nat → Owner) (w : World) (k : Nat) (t : Ty) (l : List t.den) (v : Value) : Prop :=
  (v = .slice none 0 0 ∧ l = []) ∨
  ∃ blk cap c T, v = .slice (some ⟨blk, 0, none⟩) l.length cap ∧ l.length ≤ 9223372036854775807 ∧ ow blk = .tok k ∧ w.heap[blk]? = some (.cells c T (0, 0)) ∧ cap * t.size = c.size ∧ l.length ≤ cap ∧
    (∀ (i : Nat) (h : i < c.size), (c[i]).oneCell' = true) ∧
    ∀ (i : Nat) x, l[i]? = some x → Rep ow w t x ((c.toList.drop (i * t.size)).take t.size)
/-- What an abstract value stands for. -/
inductive RepEV (ow : Nat → Owner) (bx : Nat → Nat) (w : World) : EV → Value → Prop where
  | undef (v) : RepEV ow bx w .undef v
  | dat {t x v} (h : RepV ow w t x v) : RepEV ow bx w (.dat t x) v
  | nil : RepEV ow bx w .nil (.slice none 0 0)
  | own {k t l v} (h : Own ow w k t l v) : RepEV ow bx w (.own k t l) v
  | ptr {b off} (h : ow (bx b) = .box b) : RepEV ow bx w (.ptr b off) (.pointer (some ⟨bx b, off, none⟩))
  | pix {b off s n : Nat} {i : Int} {o : Nat} (h : ow (bx b) = .box b) (h0 : 0 ≤ i) (h1 : i < (n : Int)) : RepEV ow bx w (.pix b off s n i o) (.pointer (some ⟨bx b, off + i.toNat * s + o, none⟩))
  | elt {t : Ty} {l : List t.den} {i : Int} {o blk off : Nat} {c T fz} (h0 : 0 ≤ i) (h1 : i < (l.length : Int)) (hs : ow blk = .stable) (hb : w.heap[blk]? = some (.cells c T fz))
      (hc : ∀ (j : Nat) x, l[j]? = some x → Rep ow w t x ((c.toList.drop (off + j * t.size)).take t.size)) :
      RepEV ow bx w (.elt t l i o) (.pointer (some ⟨blk, off + i.toNat * t.size + o, none⟩))
  | owx {k : Nat} {t : Ty} {l : List t.den} {i : Int} {o blk cap : Nat} (h0 : 0 ≤ i) (h1 : i < (l.length : Int)) (h : Own ow w k t l (.slice (some ⟨blk, 0, none⟩) l.length cap)) :
      RepEV ow bx w (.owx k t l i o) (.pointer (some ⟨blk, i.toNat * t.size + o, none⟩))
  | clo {f fst caps} {fs cs : Array Value} (h1 : fst.length = fs.size) (h2 : caps.length = cs.size) (h3 : ∀ (i : Nat) e v, fst[i]? = some e → fs[i]? = some v → RepEV ow bx w e v)
      (h4 : ∀ (i : Nat) e v, caps[i]? = some e → cs[i]? = some v → RepEV ow bx w e v) : RepEV ow bx w (.clo f fst caps) (.func (.func f) fs cs)
  | tup {es} {vs : Array Value} (h1 : es.length = vs.size) (h2 : ∀ (i : Nat) e v, es[i]? = some e → vs[i]? = some v → RepEV ow bx w e v) : RepEV ow bx w (.tup es) (.tuple vs)
  | row {es} {vs : Array Value} (h1 : es.length = vs.size) (h2 : ∀ (i : Nat) e v, es[i]? = some e → vs[i]? = some v → RepEV ow bx w e v) (h3 : ∀ v ∈ vs, v.oneCell' = true) :
      RepEV ow bx w (.row es) (.agg vs)
/-- A row of cells. -/
def RepCs (ow : Nat → Owner) (bx : Nat → Nat) (w : World) (es : List EV) (vs : List Value) : Prop :=
  es.length = vs.length ∧ ∀ (i : Nat) e v, es[i]? = some e → vs[i]? = some v → RepEV ow bx w e v ∧ v.oneCell' = true
/-- From one world to a later one: what was read stays. -/
structure Keeps (ow : Nat → Owner) (bx : Nat → Nat) (w : World) (ow' : Nat → Owner) (bx' : Nat → Nat) (w' : World) : Prop where
  st : ∀ blk, ow blk = .stable → ow' blk = .stable ∧ w'.heap[blk]? = w.heap[blk]?
  tk : ∀ blk k, ow blk = .tok k → ow' blk = .tok k ∧ w'.heap[blk]? = w.heap[blk]?
  bo : ∀ b, ow (bx b) = .box b → bx' b = bx b ∧ ow' (bx b) = .box b
theorem Keeps.refl (ow : Nat → Owner) (bx : Nat → Nat) (w : World) : Keeps ow bx w ow bx w :=
  ⟨fun _ h => ⟨h, rfl⟩, fun _ _ h => ⟨h, rfl⟩, fun _ h => ⟨rfl, h⟩⟩
section
variable {ow ow' ow'' : Nat → Owner} {bx bx' bx'' : Nat → Nat} {w w' w'' : World}
theorem Keeps.trans (h : Keeps ow bx w ow' bx' w') (k : Keeps ow' bx' w' ow'' bx'' w'') : Keeps ow bx w ow'' bx'' w'' := by
  refine ⟨fun blk hs => ?_, fun blk t hs => ?_, fun b hs => ?_⟩
  · obtain ⟨h1, h2⟩ := h.st blk hs
    obtain ⟨h3, h4⟩ := k.st blk h1
    exact ⟨h3, by rw [h4, h2]⟩
  · obtain ⟨h1, h2⟩ := h.tk blk t hs
    obtain ⟨h3, h4⟩ := k.tk blk t h1
    exact ⟨h3, by rw [h4, h2]⟩
  · obtain ⟨h1, h2⟩ := h.bo b hs
    obtain ⟨h3, h4⟩ := k.bo b (by rw [h1]; exact h2)
    exact ⟨by rw [h3, h1], by rw [← h1]; exact h4⟩
theorem Rep.keep (hst : ∀ blk, ow blk = .stable → ow' blk = .stable ∧ w'.heap[blk]? = w.heap[blk]?) : ∀ (t : Ty) (x : t.den) (cs : List Value), Rep ow w t x cs → Rep ow' w' t x cs := by
  intro t
  induction t with
  | int k => exact fun x cs h => h
  | bool => exact fun x cs h => h
  | str => exact fun x cs h => h
  | unit => exact fun x cs h => h
  | pair a b iha ihb =>
    rintro x cs ⟨c₁, c₂, rfl, h1, h2⟩
    exact ⟨c₁, c₂, rfl, iha _ _ h1, ihb _ _ h2⟩
  | slice a ih =>
    rintro x cs ⟨ad, cap, rfl, hl, h⟩
    refine ⟨ad, cap, rfl, hl, fun hne => ?_⟩
    obtain ⟨blk, off, c, T, fz, h1, h2, h3, h4⟩ := h hne
    obtain ⟨g1, g2⟩ := hst blk h2
    exact ⟨blk, off, c, T, fz, h1, g1, by rw [g2, h3], fun i y hy => ih _ _ (h4 i y hy)⟩
  | agg a ih => exact fun x cs h => ih x cs h
theorem RepV.keep (hst : ∀ blk, ow blk = .stable → ow' blk = .stable ∧ w'.heap[blk]? = w.heap[blk]?) {t : Ty} {x : t.den} {v : Value} (h : RepV ow w t x v) : RepV ow' w' t x v := by
  cases t <;> simp only [RepV] at h ⊢
  case agg a => obtain ⟨cs, rfl, h⟩ := h; exact ⟨cs, rfl, Rep.keep hst _ _ _ h⟩
  all_goals exact Rep.keep hst _ _ _ h
theorem Own.keep (hst : ∀ blk, ow blk = .stable → ow' blk = .stable ∧ w'.heap[blk]? = w.heap[blk]?) {k : Nat} (htk : ∀ blk, ow blk = .tok k → ow' blk = .tok k ∧ w'.heap[blk]? = w.heap[blk]?) {t : Ty} {l : List t.den} {v : Value}
    (h : Own ow w k t l v) : Own ow' w' k t l v := by
  rcases h with h | ⟨blk, cap, c, T, h1, h2, h3, h4, h5, h6, h7, h8⟩
  · exact .inl h
  · obtain ⟨g1, g2⟩ := htk blk h3
    exact .inr ⟨blk, cap, c, T, h1, h2, g1, by rw [g2, h4], h5, h6, h7, fun i x hx => Rep.keep hst _ _ _ (h8 i x hx)⟩
theorem RepEV.keep (K : Keeps ow bx w ow' bx' w') {e : EV} {v : Value} (h : RepEV ow bx w e v) : RepEV ow' bx' w' e v := by
  induction h with
  | undef v => exact .undef v
  | dat h => exact .dat (h.keep K.st)
  | nil => exact .nil
  | own h => exact .own (h.keep K.st fun blk => K.tk blk _)
  | ptr h =>
    obtain ⟨h1, h2⟩ := K.bo _ h
    rw [← h1]
    exact .ptr (by rw [h1]; exact h2)
  | pix h h0 hn =>
    obtain ⟨h1, h2⟩ := K.bo _ h
    rw [← h1]
    exact .pix (by rw [h1]; exact h2) h0 hn
  | elt h0 h1 hs hb hc =>
    obtain ⟨g1, g2⟩ := K.st _ hs
    exact .elt h0 h1 g1 (by rw [g2, hb]) fun j x hx => Rep.keep K.st _ _ _ (hc j x hx)
  | owx h0 h1 h => exact .owx h0 h1 (h.keep K.st fun blk => K.tk blk _)
  | clo h1 h2 h3 h4 ih3 ih4 => exact .clo h1 h2 ih3 ih4
  | tup h1 h2 ih => exact .tup h1 ih
  | row h1 h2 h3 ih => exact .row h1 ih h3
theorem RepCs.keep (K : Keeps ow bx w ow' bx' w') {es : List EV} {vs : List Value} (h : RepCs ow bx w es vs) : RepCs ow' bx' w' es vs :=
  ⟨h.1, fun i e v he hv => ⟨(h.2 i e v he hv).1.keep K, (h.2 i e v he hv).2⟩⟩
end
/-- How a call begins: the world, the blocks of it that the call may change, whose its blocks are. -/
structure Base where
  w : World
  M : Nat → Prop
  ow : Nat → Owner
  n : Nat
  bx : Nat → Nat
/-- The whole state between two operations. 'bg': the variables that there are. -/
structure Inv (B : Base) (ow : Nat → Owner) (bx : Nat → Nat) (nb : Nat) (bg : Nat → Option (List EV)) (w : World) : Prop where
  box : ∀ b cs, bg b = some cs → ow (bx b) = .box b ∧ ∃ c T, w.heap[bx b]? = some (.cells c T (0, 0)) ∧ RepCs ow bx w cs c.toList
  back : ∀ blk b, ow blk = .box b → blk = bx b ∧ (bg b).isSome = true ∧ b < nb
  here : ∀ blk, ow blk ≠ .junk → blk < w.heap.size
  old : ∀ blk, blk < B.w.heap.size → ¬ B.M blk → w.heap[blk]? = B.w.heap[blk]? ∧ ow blk = B.ow blk ∧ (ow blk = .stable ∨ ow blk = .junk)
  size : B.w.heap.size ≤ w.heap.size
  env : w.tape = B.w.tape ∧ w.os = B.w.os ∧ w.output = B.w.output
  kept : ∀ b, b < B.n → bx b = B.bx b ∧ (bg b).isSome = true
/-- Values in a row. -/
def RepL (ow : Nat → Owner) (bx : Nat → Nat) (w : World) (es : List EV) (vs : Array Value) : Prop :=
  es.length = vs.size ∧ ∀ (i : Nat) e v, es[i]? = some e → vs[i]? = some v → RepEV ow bx w e v
def Con.args0 (c : Con) (x : c.ins.den) : List EV := (fillP 200 c.ps (unpackL c.ins c.nin x)).1
def Con.boxes0 (c : Con) (x : c.ins.den) : List (Option (List EV)) := fillB c.boxes (fillP 200 c.ps (unpackL c.ins c.nin x)).2
def Con.res (c : Con) (y : c.outs.den) : EV := resEV ((unpackL c.outs c.nout y).take c.rs.length)
def Con.boxes1 (c : Con) (y : c.outs.den) : List (Option (List EV)) := fillB c.boxes ((unpackL c.outs c.nout y).drop c.rs.length)
/-- What is promised of a function holds. -/
structure ConOK (P : Program) (c : Con) : Prop where
  fn : ∃ fn, P.funcs[c.f]? = some fn ∧ fn.body.isSome = true ∧ (fn.name == "runtime.NumGoroutine") = false
  go : ∀ (x : c.ins.den) (y : c.outs.den), c.F x = some y → ∀ (w : World) (ow : Nat → Owner) (bx : Nat → Nat) (args : Array Value),
    Inv ⟨w, fun blk => ow blk ≠ .stable ∧ ow blk ≠ .junk, ow, c.boxes.length, bx⟩ ow bx c.boxes.length (boxGet (c.boxes0 x)) w → RepL ow bx w (c.args0 x) args →
    Calls P c.f args w fun e w' => ∃ v ow', e = .returned v ∧ Inv ⟨w, fun blk => ow blk ≠ .stable ∧ ow blk ≠ .junk, ow, c.boxes.length, bx⟩ ow' bx c.boxes.length (boxGet (c.boxes1 y)) w' ∧ RepEV ow' bx w' (c.res y) v
end Go.Proofs.Ytckghclpdfbigaa
