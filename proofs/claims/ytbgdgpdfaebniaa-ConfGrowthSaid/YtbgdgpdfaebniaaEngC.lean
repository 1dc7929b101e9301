/- What abstract values mean in a world. No program in sight. -/
import Derived.Test.YtbgdgpdfaebniaaEngB
import Derived.WalkKit
set_option linter.unusedSimpArgs false
set_option linter.unusedVariables false
namespace Go.Proofs.Ytbgdgpdfaebniaa
/-- Whose a block is: data that is never written again, a variable, a slice of the call's own, nobody's. -/
inductive Owner where
  | stable
  | box (b : Nat)
  | tok (k fr : Nat)
  | part (fr : Nat)
  | junk
  deriving DecidableEq
/-- Do the first n cells of a block stay as they are? -/
def Owner.rigid : Owner → Nat → Prop
  | .stable, _ => True
  | .tok _ fr, n => n ≤ fr
  | .part fr, n => n ≤ fr
  | _, _ => False
def Rigid (ow : Nat → Owner) (blk n : Nat) : Prop := (ow blk).rigid n
theorem rigid_stable {ow : Nat → Owner} {blk n : Nat} (h : ow blk = .stable) : Rigid ow blk n := by unfold Rigid; rw [h]; trivial
theorem rigid_tok {ow : Nat → Owner} {blk n k fr : Nat} (h : ow blk = .tok k fr) (hn : n ≤ fr) : Rigid ow blk n := by unfold Rigid; rw [h]; exact hn
theorem rigid_part {ow : Nat → Owner} {blk n fr : Nat} (h : ow blk = .part fr) (hn : n ≤ fr) : Rigid ow blk n := by unfold Rigid; rw [h]; exact hn
theorem rigid_cases {ow : Nat → Owner} {blk n : Nat} (h : Rigid ow blk n) : ow blk = .stable ∨ (∃ k fr, ow blk = .tok k fr ∧ n ≤ fr) ∨ ∃ fr, ow blk = .part fr ∧ n ≤ fr := by
  unfold Rigid at h
  cases hb : ow blk with
  | stable => exact .inl rfl
  | tok k fr => rw [hb] at h; exact .inr (.inl ⟨k, fr, rfl, h⟩)
  | part fr => rw [hb] at h; exact .inr (.inr ⟨fr, rfl, h⟩)
  | box b => rw [hb] at h; exact h.elim
  | junk => rw [hb] at h; exact h.elim
theorem rigid_live {ow : Nat → Owner} {blk n : Nat} (h : Rigid ow blk n) : ow blk ≠ .junk := by
  intro e
  unfold Rigid at h
  rw [e] at h
  exact h.elim
theorem rigid_box {ow : Nat → Owner} {blk n : Nat} (h : Rigid ow blk n) (b : Nat) : ow blk ≠ .box b := by
  intro e
  unfold Rigid at h
  rw [e] at h
  exact h.elim
theorem Owner.rigid_le : ∀ {o : Owner} {n m : Nat}, o.rigid n → m ≤ n → o.rigid m
  | .stable, _, _, _, _ => trivial
  | .tok _ _, _, _, h, hm => Nat.le_trans hm h
  | .part _, _, _, h, hm => Nat.le_trans hm h
  | .box _, _, _, h, _ => h.elim
  | .junk, _, _, h, _ => h.elim
theorem rigid_mono {ow : Nat → Owner} {blk n m : Nat} (h : Rigid ow blk n) (hm : m ≤ n) : Rigid ow blk m := Owner.rigid_le h hm
theorem rigid_eq {ow ow' : Nat → Owner} {blk n : Nat} (h : Rigid ow blk n) (e : ow' blk = ow blk) : Rigid ow' blk n := by
  unfold Rigid at *
  rw [e]
  exact h
/-- Where the variables are; which tokens are spent. -/
structure Bx where
  f : Nat → Nat
  dead : Nat → Bool
instance : CoeFun Bx (fun _ => Nat → Nat) := ⟨Bx.f⟩
/-- Cells that hold data. -/
def Rep (ow : Nat → Owner) (w : World) : (t : Ty) → t.den → List Value → Prop
  | .int k, n, cs => cs = [.int k n] ∧ fits k n = true
  | .bool, b, cs => cs = [.bool b]
  | .str, s, cs => cs = [.string s] ∧ s.size ≤ 9223372036854775807
  | .unit, _, cs => cs = []
  | .pair a b, x, cs => ∃ c₁ c₂, cs = c₁ ++ c₂ ∧ Rep ow w a x.1 c₁ ∧ Rep ow w b x.2 c₂
  | .agg a, x, cs => Rep ow w a x cs
  | .slice a, l, cs => ∃ ad cap, cs = [.slice ad l.length cap] ∧ (l.length ≤ 9223372036854775807 ∧ l.length ≤ cap) ∧
      (l ≠ [] → ∃ blk off c T fz, ad = some ⟨blk, off, none⟩ ∧ Rigid ow blk (off + l.length * a.size) ∧ w.heap[blk]? = some (.cells c T fz) ∧
        ∀ (i : Nat) x, l[i]? = some x → Rep ow w a x ((c.toList.drop (off + i * a.size)).take a.size))
def RepV (ow : Nat → Owner) (w : World) (t : Ty) (x : t.den) (v : Value) : Prop :=
  match t, x with
  | .agg a, x => ∃ cs : Array Value, v = .agg cs ∧ Rep ow w a x cs.toList
  | t, x => Rep ow w t x [v]
theorem rep_one {ow : Nat → Owner} {w : World} : ∀ (t : Ty) (x : t.den) (cs : List Value), Rep ow w t x cs → ∀ c ∈ cs, c.oneCell' = true := by
  intro t
  induction t with
  | int k => rintro x cs ⟨rfl, _⟩ c hc; simp at hc; subst hc; rfl
  | bool => rintro x cs h c hc; simp only [Rep] at h; subst h; simp at hc; subst hc; rfl
  | str => rintro x cs ⟨rfl, _⟩ c hc; simp at hc; subst hc; rfl
  | unit => rintro x cs h c hc; simp only [Rep] at h; subst h; simp at hc
  | pair a b iha ihb =>
    rintro x cs ⟨c₁, c₂, rfl, h1, h2⟩ c hc
    rcases List.mem_append.1 hc with h | h
    · exact iha _ _ h1 c h
    · exact ihb _ _ h2 c h
  | slice a _ => rintro x cs ⟨ad, cap, rfl, _⟩ c hc; simp at hc; subst hc; rfl
  | agg a ih => intro x cs h c hc; exact ih x cs h c hc
theorem rep_length {ow : Nat → Owner} {w : World} : ∀ (t : Ty) (x : t.den) (cs : List Value), Rep ow w t x cs → cs.length = t.size := by
  intro t
  induction t with
  | int k => rintro x cs ⟨rfl, _⟩; rfl
  | bool => rintro x cs h; simp only [Rep] at h; subst h; rfl
  | str => rintro x cs ⟨rfl, _⟩; rfl
  | unit => rintro x cs h; simp only [Rep] at h; subst h; rfl
  | pair a b iha ihb => rintro x cs ⟨c₁, c₂, rfl, h1, h2⟩; simp [Ty.size, iha _ _ h1, ihb _ _ h2]
  | slice a _ => rintro x cs ⟨ad, cap, rfl, _⟩; rfl
  | agg a ih => intro x cs h; exact ih x cs h
theorem value_cells {v : Value} (h : v.oneCell' = true) : v.cells = #[v] := by cases v <;> first | rfl | cases h
theorem repV_cells {ow : Nat → Owner} {w : World} {t : Ty} {x : t.den} {v : Value} (h : RepV ow w t x v) : Rep ow w t x v.cells.toList := by
  cases t <;> simp only [RepV] at h
  case agg a => obtain ⟨cs, rfl, h⟩ := h; exact h
  all_goals
    have h1 := rep_one _ _ _ h v (by simp)
    rw [value_cells h1]
    exact h
/-- A slice of the call's own: nil, or a block from its first cell on, of which no cell behind the slice is anybody's. -/
def Own (ow : Nat → Owner) (w : World) (k : Nat) (t : Ty) (n : Nat) (v : Value) : Prop :=
  (v = .slice none 0 0 ∧ n = 0) ∨
  ∃ blk cap c, v = .slice (some ⟨blk, 0, none⟩) n cap ∧ ow blk = .tok k (n * t.size) ∧ w.heap[blk]? = some (.cells c (k % 100000) (0, 0)) ∧ c.size = cap * t.size ∧ n ≤ cap
/-- What an abstract value stands for. -/
inductive RepEV (ow : Nat → Owner) (bx : Bx) (w : World) : EV → Value → Prop where
  | undef (v) : RepEV ow bx w .undef v
  | dat {t x v} (h : RepV ow w t x v) : RepEV ow bx w (.dat t x) v
  | nil : RepEV ow bx w .nil (.slice none 0 0)
  | own {k t} {l : List t.den} {v} (h : RepV ow w (.slice t) l v) (h' : bx.dead k = false → Own ow w k t l.length v) : RepEV ow bx w (.own k t l) v
  | ptr {b off} (h : ow (bx b) = .box b) : RepEV ow bx w (.ptr b off) (.pointer (some ⟨bx b, off, none⟩))
  | pix {b off s n : Nat} {i : Int} {o : Nat} (h : ow (bx b) = .box b) (h0 : 0 ≤ i) (h1 : i < (n : Int)) : RepEV ow bx w (.pix b off s n i o) (.pointer (some ⟨bx b, off + i.toNat * s + o, none⟩))
  | elt {t : Ty} {l : List t.den} {i : Int} {o blk off : Nat} {c T fz} (h0 : 0 ≤ i) (h1 : i < (l.length : Int)) (hs : Rigid ow blk (off + l.length * t.size)) (hb : w.heap[blk]? = some (.cells c T fz))
      (hc : ∀ (j : Nat) x, l[j]? = some x → Rep ow w t x ((c.toList.drop (off + j * t.size)).take t.size)) :
      RepEV ow bx w (.elt t l i o) (.pointer (some ⟨blk, off + i.toNat * t.size + o, none⟩))
  | clo {f fst caps} {fs cs : Array Value} (h1 : fst.length = fs.size) (h2 : caps.length = cs.size) (h3 : ∀ (i : Nat) e v, fst[i]? = some e → fs[i]? = some v → RepEV ow bx w e v)
      (h4 : ∀ (i : Nat) e v, caps[i]? = some e → cs[i]? = some v → RepEV ow bx w e v) : RepEV ow bx w (.clo f fst caps) (.func (.func f) fs cs)
  | sl {es : List EV} {blk cap : Nat} {c : Array Value} {T fz} (h0 : es.length ≤ 100000) (h1 : es.length ≤ c.size) (hs : Rigid ow blk es.length) (hb : w.heap[blk]? = some (.cells c T fz)) (h2 : ∀ (i : Nat) e v, es[i]? = some e → c[i]? = some v → RepEV ow bx w e v)
      (h3 : ∀ (i : Nat) v, i < es.length → c[i]? = some v → v.oneCell' = true) : RepEV ow bx w (.sl es) (.slice (some ⟨blk, 0, none⟩) es.length cap)
  | cp {e : EV} {blk off : Nat} {c : Array Value} {T fz} {v : Value} (hs : Rigid ow blk (off + 1)) (hb : w.heap[blk]? = some (.cells c T fz)) (hv : c[off]? = some v) (h1 : v.oneCell' = true) (h : RepEV ow bx w e v) :
      RepEV ow bx w (.cp e) (.pointer (some ⟨blk, off, none⟩))
  | tup {es} {vs : Array Value} (h1 : es.length = vs.size) (h2 : ∀ (i : Nat) e v, es[i]? = some e → vs[i]? = some v → RepEV ow bx w e v) : RepEV ow bx w (.tup es) (.tuple vs)
  | row {es} {vs : Array Value} (h1 : es.length = vs.size) (h2 : ∀ (i : Nat) e v, es[i]? = some e → vs[i]? = some v → RepEV ow bx w e v) (h3 : ∀ v ∈ vs, v.oneCell' = true) :
      RepEV ow bx w (.row es) (.agg vs)
/-- A row of cells. -/
def RepCs (ow : Nat → Owner) (bx : Bx) (w : World) (es : List EV) (vs : List Value) : Prop :=
  es.length = vs.length ∧ ∀ (i : Nat) e v, es[i]? = some e → vs[i]? = some v → RepEV ow bx w e v ∧ v.oneCell' = true
/-- What is rigid stays. -/
def KeepSt (ow : Nat → Owner) (w : World) (ow' : Nat → Owner) (w' : World) : Prop :=
  ∀ blk n c T fz, Rigid ow blk n → w.heap[blk]? = some (.cells c T fz) → Rigid ow' blk n ∧ ∃ c', w'.heap[blk]? = some (.cells c' T fz) ∧ c'.toList.take n = c.toList.take n
/-- From one world to a later one: what was read stays. -/
structure Keeps (ow : Nat → Owner) (bx : Bx) (w : World) (ow' : Nat → Owner) (bx' : Bx) (w' : World) : Prop where
  st : KeepSt ow w ow' w'
  tk : ∀ blk k fr, ow blk = .tok k fr → bx'.dead k = false → ow' blk = .tok k fr ∧ w'.heap[blk]? = w.heap[blk]?
  dd : ∀ k, bx'.dead k = false → bx.dead k = false
  bo : ∀ b, ow (bx b) = .box b → bx' b = bx b ∧ ow' (bx b) = .box b
theorem KeepSt.of {ow ow' : Nat → Owner} {w w' : World} (h : ∀ blk n, Rigid ow blk n → Rigid ow' blk n ∧ w'.heap[blk]? = w.heap[blk]?) : KeepSt ow w ow' w' :=
  fun blk n c T fz hr hb => ⟨(h blk n hr).1, c, by rw [(h blk n hr).2, hb], rfl⟩
theorem KeepSt.refl (ow : Nat → Owner) (w : World) : KeepSt ow w ow w := .of fun _ _ h => ⟨h, rfl⟩
theorem Keeps.refl (ow : Nat → Owner) (bx : Bx) (w : World) : Keeps ow bx w ow bx w :=
  ⟨.refl ow w, fun _ _ _ h _ => ⟨h, rfl⟩, fun _ h => h, fun _ h => ⟨rfl, h⟩⟩
section
variable {ow ow' ow'' : Nat → Owner} {bx bx' bx'' : Bx} {w w' w'' : World}
theorem Keeps.trans (h : Keeps ow bx w ow' bx' w') (k : Keeps ow' bx' w' ow'' bx'' w'') : Keeps ow bx w ow'' bx'' w'' := by
  refine ⟨fun blk n c T fz hs hb => ?_, fun blk t fr hs hd => ?_, fun t hd => h.dd t (k.dd t hd), fun b hs => ?_⟩
  · obtain ⟨h1, c1, h2, h3⟩ := h.st blk n c T fz hs hb
    obtain ⟨h4, c2, h5, h6⟩ := k.st blk n c1 T fz h1 h2
    exact ⟨h4, c2, h5, by rw [h6, h3]⟩
  · obtain ⟨h1, h2⟩ := h.tk blk t fr hs (k.dd t hd)
    obtain ⟨h3, h4⟩ := k.tk blk t fr h1 hd
    exact ⟨h3, by rw [h4, h2]⟩
  · obtain ⟨h1, h2⟩ := h.bo b hs
    obtain ⟨h3, h4⟩ := k.bo b (by rw [h1]; exact h2)
    exact ⟨by rw [h3, h1], by rw [← h1]; exact h4⟩
theorem take_part {α : Type} {c c' : List α} {n off len : Nat} (h : c'.take n = c.take n) (hl : off + len ≤ n) : (c'.drop off).take len = (c.drop off).take len := by
  have e : ∀ l : List α, (l.drop off).take len = ((l.take n).drop off).take len := by
    intro l
    rw [List.drop_take, List.take_take, Nat.min_eq_left (by omega)]
  rw [e c', e c, h]
theorem mul_part {i n s off : Nat} (h : i < n) : off + i * s + s ≤ off + n * s := by
  have : (i + 1) * s ≤ n * s := Nat.mul_le_mul_right s h
  rw [Nat.add_mul, Nat.one_mul] at this
  omega
theorem Rep.keep (hst : KeepSt ow w ow' w') : ∀ (t : Ty) (x : t.den) (cs : List Value), Rep ow w t x cs → Rep ow' w' t x cs := by
  intro t
  induction t with
  | int k => exact fun x cs h => h
  | bool => exact fun x cs h => h
  | str => exact fun x cs h => h
  | unit => exact fun x cs h => h
  | pair a b iha ihb =>
    rintro x cs ⟨c₁, c₂, rfl, h1, h2⟩
    exact ⟨c₁, c₂, rfl, iha _ _ h1, ihb _ _ h2⟩
  | slice a ih =>
    rintro x cs ⟨ad, cap, rfl, hl, h⟩
    refine ⟨ad, cap, rfl, hl, fun hne => ?_⟩
    obtain ⟨blk, off, c, T, fz, h1, h2, h3, h4⟩ := h hne
    obtain ⟨g1, c', g2, g3⟩ := hst blk _ c T fz h2 h3
    refine ⟨blk, off, c', T, fz, h1, g1, g2, fun i y hy => ?_⟩
    rw [take_part g3 (mul_part (List.getElem?_eq_some_iff.1 hy).1)]
    exact ih _ _ (h4 i y hy)
  | agg a ih => exact fun x cs h => ih x cs h
theorem RepV.keep (hst : KeepSt ow w ow' w') {t : Ty} {x : t.den} {v : Value} (h : RepV ow w t x v) : RepV ow' w' t x v := by
  cases t <;> simp only [RepV] at h ⊢
  case agg a => obtain ⟨cs, rfl, h⟩ := h; exact ⟨cs, rfl, Rep.keep hst _ _ _ h⟩
  all_goals exact Rep.keep hst _ _ _ h
theorem Own.keep {k : Nat} (htk : ∀ blk fr, ow blk = .tok k fr → ow' blk = .tok k fr ∧ w'.heap[blk]? = w.heap[blk]?) {t : Ty} {n : Nat} {v : Value}
    (h : Own ow w k t n v) : Own ow' w' k t n v := by
  rcases h with h | ⟨blk, cap, c, h1, h3, h4, h5, h6⟩
  · exact .inl h
  · obtain ⟨g1, g2⟩ := htk blk _ h3
    exact .inr ⟨blk, cap, c, h1, g1, by rw [g2, h4], h5, h6⟩
theorem take_get {a b : Array Value} {n i : Nat} (h : a.toList.take n = b.toList.take n) (hi : i < n) : a[i]? = b[i]? := by
  have := congrArg (·[i]?) h
  simpa [List.getElem?_take, hi] using this
theorem take_len {a b : Array Value} {n : Nat} (h : a.toList.take n = b.toList.take n) (hb : n ≤ b.size) : n ≤ a.size := by
  have := congrArg List.length h
  simp at this
  omega
theorem RepEV.keep (K : Keeps ow bx w ow' bx' w') {e : EV} {v : Value} (h : RepEV ow bx w e v) : RepEV ow' bx' w' e v := by
  induction h with
  | undef v => exact .undef v
  | dat h => exact .dat (h.keep K.st)
  | nil => exact .nil
  | own h h' => exact .own (h.keep K.st) fun hd => (h' (K.dd _ hd)).keep fun blk fr hs => K.tk blk _ fr hs hd
  | ptr h =>
    obtain ⟨h1, h2⟩ := K.bo _ h
    rw [← h1]
    exact .ptr (by rw [h1]; exact h2)
  | pix h h0 hn =>
    obtain ⟨h1, h2⟩ := K.bo _ h
    rw [← h1]
    exact .pix (by rw [h1]; exact h2) h0 hn
  | elt h0 h1 hs hb hc =>
    obtain ⟨g1, c', g2, g3⟩ := K.st _ _ _ _ _ hs hb
    refine .elt h0 h1 g1 g2 fun j x hx => ?_
    rw [take_part g3 (mul_part (List.getElem?_eq_some_iff.1 hx).1)]
    exact Rep.keep K.st _ _ _ (hc j x hx)
  | clo h1 h2 h3 h4 ih3 ih4 => exact .clo h1 h2 ih3 ih4
  | sl h0 h1 hs hb h2 h3 ih =>
    obtain ⟨g1, c', g2, g3⟩ := K.st _ _ _ _ _ hs hb
    have hl := take_len (a := c') (b := _) g3 h1
    exact .sl h0 hl g1 g2 (fun i e v he hv => ih i e v he (by rw [← hv]; exact (take_get g3 (List.getElem?_eq_some_iff.1 he).1).symm)) (fun i v hi hv => h3 i v hi (by rw [← hv]; exact (take_get g3 hi).symm))
  | cp hs hb hv h1 h ih =>
    obtain ⟨g1, c', g2, g3⟩ := K.st _ _ _ _ _ hs hb
    exact .cp g1 g2 (by rw [← hv]; exact take_get g3 (by omega)) h1 ih
  | tup h1 h2 ih => exact .tup h1 ih
  | row h1 h2 h3 ih => exact .row h1 ih h3
theorem RepCs.keep (K : Keeps ow bx w ow' bx' w') {es : List EV} {vs : List Value} (h : RepCs ow bx w es vs) : RepCs ow' bx' w' es vs :=
  ⟨h.1, fun i e v he hv => ⟨(h.2 i e v he hv).1.keep K, (h.2 i e v he hv).2⟩⟩
end
/-- How a call begins: the world, the blocks of it that the call may change, whose its blocks are. -/
structure Base where
  w : World
  M : Nat → Prop
  ow : Nat → Owner
  n : Nat
  bx : Bx
/-- The whole state between two operations. 'bg': the variables that there are. -/
structure Inv (B : Base) (ow : Nat → Owner) (bx : Bx) (nb : Nat) (bg : Nat → Option (List EV)) (w : World) : Prop where
  box : ∀ b cs, bg b = some cs → ow (bx b) = .box b ∧ ∃ c T, w.heap[bx b]? = some (.cells c T (0, 0)) ∧ RepCs ow bx w cs c.toList
  back : ∀ blk b, ow blk = .box b → blk = bx b ∧ (bg b).isSome = true ∧ b < nb
  here : ∀ blk, ow blk ≠ .junk → blk < w.heap.size
  old : ∀ blk, blk < B.w.heap.size → ¬ B.M blk → w.heap[blk]? = B.w.heap[blk]? ∧ ow blk = B.ow blk ∧ (∀ b, ow blk ≠ .box b) ∧ ∀ k fr, ow blk ≠ .tok k fr
  size : B.w.heap.size ≤ w.heap.size
  env : w.tape = B.w.tape ∧ w.os = B.w.os ∧ w.output = B.w.output
  kept : ∀ b, b < B.n → bx b = B.bx b ∧ (bg b).isSome = true
/-- Values in a row. -/
def RepL (ow : Nat → Owner) (bx : Bx) (w : World) (es : List EV) (vs : Array Value) : Prop :=
  es.length = vs.size ∧ ∀ (i : Nat) e v, es[i]? = some e → vs[i]? = some v → RepEV ow bx w e v
def Con.args0 (c : Con) (x : c.ins.den) : List EV := (fillP 200 c.ps (unpackL c.ins c.nin x)).1
def Con.boxes0 (c : Con) (x : c.ins.den) : List (Option (List EV)) := fillB c.boxes (fillP 200 c.ps (unpackL c.ins c.nin x)).2
def Con.res (c : Con) (y : c.outs.den) : EV := resEV ((unpackL c.outs c.nout y).take c.rs.length)
def Con.boxes1 (c : Con) (y : c.outs.den) : List (Option (List EV)) := fillB c.boxes ((unpackL c.outs c.nout y).drop c.rs.length)
/-- What is promised of a function holds. -/
structure ConOK (P : Program) (c : Con) : Prop where
  fn : ∃ fn, P.funcs[c.f]? = some fn ∧ fn.body.isSome = true ∧ (fn.name == "runtime.NumGoroutine") = false
  go : ∀ (x : c.ins.den) (y : c.outs.den), c.F x = some y → ∀ (w : World) (ow : Nat → Owner) (bx : Bx) (args : Array Value), (∀ k, bx.dead k = false) →
    Inv ⟨w, fun blk => ∃ b, ow blk = .box b, ow, c.boxes.length, bx⟩ ow bx c.boxes.length (boxGet (c.boxes0 x)) w → RepL ow bx w (c.args0 x) args →
    Calls P c.f args w fun e w' => ∃ v ow', e = .returned v ∧ Inv ⟨w, fun blk => ∃ b, ow blk = .box b, ow, c.boxes.length, bx⟩ ow' bx c.boxes.length (boxGet (c.boxes1 y)) w' ∧ RepEV ow' bx w' (c.res y) v
def NCon.args0 (c : NCon) (x : c.ins.den) : List EV := (fillP 200 c.ps (unpackL c.ins c.nin x)).1
/-- What is promised of a function that makes a variable holds. -/
structure NOK (P : Program) (c : NCon) : Prop where
  fn : ∃ fn, P.funcs[c.f]? = some fn ∧ fn.body.isSome = true ∧ (fn.name == "runtime.NumGoroutine") = false
  go : ∀ (x : c.ins.den) (y : c.outs.den), c.F x = some y → ∀ (w : World) (ow : Nat → Owner) (bx : Bx) (args : Array Value), (∀ k, bx.dead k = false) →
    Inv ⟨w, fun _ => False, ow, 0, bx⟩ ow bx 0 (boxGet []) w → RepL ow bx w (c.args0 x) args →
    Calls P c.f args w fun e w' => ∃ v ow' bx', e = .returned v ∧ (∀ k, bx'.dead k = false) ∧ Inv ⟨w, fun _ => False, ow, 0, bx⟩ ow' bx' 1 (boxGet [some (c.new1 y)]) w' ∧ RepEV ow' bx' w' (c.res y) v
end Go.Proofs.Ytbgdgpdfaebniaa
