/- From what a row's arguments read as to the reading's data: plain data of any shape. No program in sight. -/
import Derived.Test.YtckghclpdfbigaaEngRow
import Derived.Test.YtckghclpdfbigaaClaimKit
import Derived.ChangeArms
import Derived.OpenShut
import Derived.WideKeyArgs
import Derived.ChangeMaps5
import Derived.Deep.Slices
set_option linter.unusedSimpArgs false
set_option linter.unusedVariables false
namespace Go.Proofs.Ytckghclpdfbigaa
open Go.RowKit Go.WideShapes Go.ChangeShapes
/-- All numbers are within their kinds; what is told of lengths. -/
def Fits : (t : Ty) → t.den → Prop
  | .int k, n => fits k n = true
  | .bool, _ => True
  | .str, s => s.size ≤ 9223372036854775807
  | .unit, _ => True
  | .pair a b, x => Fits a x.1 ∧ Fits b x.2
  | .agg a, x => Fits a x
  | .slice a, l => l.length ≤ 9223372036854775807 ∧ ∀ x ∈ l, Fits a x
theorem rep_fits {ow : Nat → Owner} {w : World} : ∀ (t : Ty) (x : t.den) (cs : List Value), Rep ow w t x cs → Fits t x := by
  intro t
  induction t with
  | int k => exact fun x cs h => h.2
  | bool => exact fun _ _ _ => trivial
  | str => exact fun x cs h => h.2
  | unit => exact fun _ _ _ => trivial
  | pair a b iha ihb => rintro x cs ⟨c₁, c₂, _, h1, h2⟩; exact ⟨iha _ _ h1, ihb _ _ h2⟩
  | agg a ih => exact fun x cs h => ih x cs h
  | slice a ih =>
    rintro l cs ⟨ad, cap, _, ⟨hl, _⟩, h⟩
    refine ⟨hl, fun x hx => ?_⟩
    obtain ⟨_, _, _, _, _, _, _, _, hc⟩ := h (List.ne_nil_of_mem hx)
    obtain ⟨i, hi⟩ := List.getElem?_of_mem hx
    exact ih x _ (hc i x hi)
theorem fits_of_repV {ow : Nat → Owner} {w : World} {t : Ty} {x : t.den} {v : Value} (h : RepV ow w t x v) : Fits t x := rep_fits _ _ _ (repV_cells h)
def linkFs (P : Program) (ok : Nat → Ty → Bool) : List Field → Ty → Nat → Bool
  | [], .unit, _ => true
  | [f], t, off => Nat.beq f.offset off && Nat.beq (P.cellsOf f.type) t.size && ok f.type t
  | f :: g :: r, .pair a b, off => Nat.beq f.offset off && Nat.beq (P.cellsOf f.type) a.size && ok f.type a && linkFs P ok (g :: r) b (off + a.size)
  | _, _, _ => false
def linkIs (P : Program) (ok : Nat → Ty → Bool) (e s : Nat) : Nat → Ty → Bool
  | 0, .unit => true
  | 1, t => Nat.beq s t.size && ok e t
  | n + 2, .pair a b => Nat.beq s a.size && ok e a && linkIs P ok e s (n + 1) b
  | _, _ => false
def linkB (P : Program) : Nat → Nat → Ty → Bool
  | 0, _, _ => false
  | m + 1, t, ty => match P.underlying t, ty with
    | some .bool, .bool => true
    | some (.int k), .int k' => decide (k = k')
    | some .string, .str => true
    | some (.slice e), .slice a => Nat.beq (P.cellsOf e) a.size && Nat.ble 1 a.size && linkB P m e a
    | some (.struct fs), .agg r => Nat.beq (P.cellsOf t) r.size && linkFs P (linkB P m) fs.toList r 0
    | some (.array n e), .agg r => Nat.beq (P.cellsOf t) r.size && linkIs P (linkB P m) e (P.cellsOf e) n r
    | _, _ => false
section
variable {H : Type} {enc : TypeId × Value → H} {P : Program} {w : World} {base : Nat} {spare : Nat → Bool} {held : Bool}
theorem cells_at {a : Addr} {n : Nat} {cs : List Value} (h : w.cells? base a n = some cs) : cs.length = n ∧ ∀ i, i < n → w.cell? (a.add i) = cs[i]? := by
  unfold World.cells? at h
  split at h
  · have hl := mapM_some_length h
    refine ⟨by simpa using hl, fun i hi => mapM_some_get h i i (by simp [hi])⟩
  · cases h
theorem cell_block {a : Addr} {v : Value} (h : w.cell? a = some v) : a.spot = none ∧ ∃ c T fz, w.heap[a.block]? = some (.cells c T fz) ∧ c[a.off]? = some v := by
  unfold World.cell? at h
  split at h
  · rename_i c T fz hb
    split at h
    · cases h
    · rename_i hs
      exact ⟨by simpa using hs, c, T, fz, hb, h⟩
  · cases h
theorem linkFs_rep {ok : Nat → Ty → Bool} {n : Nat} (hok : ∀ t ty cs x, ok t ty = true → DataW.trod enc P w base spare held n t cs = some x → ∃ v : ty.den, Rep (owAll w) w ty v cs) :
    ∀ (fs : List Field) (r : Ty) (off : Nat) (cs : List Value), linkFs P ok fs r off = true → cs.length = off + r.size →
      (∀ f ∈ fs, ∃ x, DataW.trod enc P w base spare held n f.type ((cs.drop f.offset).take (P.cellsOf f.type)) = some x) → ∃ v : r.den, Rep (owAll w) w r v (cs.drop off)
  | [], r, off, cs, h, hl, hx => by
    cases r <;> simp only [linkFs] at h <;> first | cases h | skip
    refine ⟨(), ?_⟩
    simp only [Ty.size] at hl
    show cs.drop off = []
    exact List.drop_eq_nil_of_le (by omega)
  | [f], r, off, cs, h, hl, hx => by
    have h' : (Nat.beq f.offset off && Nat.beq (P.cellsOf f.type) r.size && ok f.type r) = true := by cases r <;> simpa only [linkFs] using h
    simp only [Bool.and_eq_true] at h'
    obtain ⟨⟨h1, h2⟩, h3⟩ := h'
    have h1 := Nat.eq_of_beq_eq_true h1
    have h2 := Nat.eq_of_beq_eq_true h2
    obtain ⟨x, hx⟩ := hx f (by simp)
    obtain ⟨v, hv⟩ := hok _ _ _ _ h3 hx
    refine ⟨v, ?_⟩
    rw [h1, h2, List.take_of_length_le (by simp; omega)] at hv
    exact hv
  | f :: g :: fs, r, off, cs, h, hl, hx => by
    cases r <;> simp only [linkFs] at h <;> first | cases h | skip
    rename_i a b
    simp only [Bool.and_eq_true] at h
    obtain ⟨⟨⟨h1, h2⟩, h3⟩, h4⟩ := h
    have h1 := Nat.eq_of_beq_eq_true h1
    have h2 := Nat.eq_of_beq_eq_true h2
    simp only [Ty.size] at hl
    obtain ⟨x, hx1⟩ := hx f (by simp)
    obtain ⟨v, hv⟩ := hok _ _ _ _ h3 hx1
    obtain ⟨u, hu⟩ := linkFs_rep hok (g :: fs) b (off + a.size) cs h4 (by omega) (fun f' hf => hx f' (by simp at hf ⊢; exact .inr hf))
    rw [h1, h2] at hv
    refine ⟨(v, u), _, _, ?_, hv, hu⟩
    rw [← List.drop_drop, List.take_append_drop]
theorem linkIs_rep {ok : Nat → Ty → Bool} {n e s : Nat} (hok : ∀ t ty cs x, ok t ty = true → DataW.trod enc P w base spare held n t cs = some x → ∃ v : ty.den, Rep (owAll w) w ty v cs) :
    ∀ (k : Nat) (r : Ty) (i0 : Nat) (cs : List Value), linkIs P ok e s k r = true → cs.length = i0 * s + r.size →
      (∀ i, i < k → ∃ x, DataW.trod enc P w base spare held n e ((cs.drop ((i0 + i) * s)).take s) = some x) → ∃ v : r.den, Rep (owAll w) w r v (cs.drop (i0 * s))
  | 0, r, i0, cs, h, hl, hx => by
    cases r <;> simp only [linkIs] at h <;> first | cases h | skip
    refine ⟨(), ?_⟩
    simp only [Ty.size] at hl
    show cs.drop (i0 * s) = []
    exact List.drop_eq_nil_of_le (by omega)
  | 1, r, i0, cs, h, hl, hx => by
    have h' : (Nat.beq s r.size && ok e r) = true := by cases r <;> simpa only [linkIs] using h
    simp only [Bool.and_eq_true] at h'
    have h1 := Nat.eq_of_beq_eq_true h'.1
    obtain ⟨x, hx⟩ := hx 0 (by omega)
    obtain ⟨v, hv⟩ := hok _ _ _ _ h'.2 hx
    refine ⟨v, ?_⟩
    rw [Nat.add_zero, List.take_of_length_le (by simp; omega)] at hv
    exact hv
  | k + 2, r, i0, cs, h, hl, hx => by
    cases r <;> simp only [linkIs] at h <;> first | cases h | skip
    rename_i a b
    simp only [Bool.and_eq_true] at h
    obtain ⟨⟨h1, h2⟩, h3⟩ := h
    have h1 := Nat.eq_of_beq_eq_true h1
    simp only [Ty.size] at hl
    obtain ⟨x, hx1⟩ := hx 0 (by omega)
    obtain ⟨v, hv⟩ := hok _ _ _ _ h2 hx1
    have hs : (i0 + 1) * s = i0 * s + s := by rw [Nat.add_mul, Nat.one_mul]
    obtain ⟨u, hu⟩ := linkIs_rep hok (k + 1) b (i0 + 1) cs h3 (by rw [hs]; omega) (fun i hi => by
      have := hx (i + 1) (by omega)
      rwa [show i0 + (i + 1) = i0 + 1 + i by omega] at this)
    rw [Nat.add_zero] at hv
    refine ⟨(v, u), _, _, ?_, hv, hu⟩
    rw [hs, ← List.drop_drop, List.take_append_drop]
instance denInh (t : Ty) : Inhabited t.den := ⟨t.dflt⟩
/-- What reads as data is data of the reading. -/
theorem link_rep : ∀ (n m t : Nat) (ty : Ty) (cs : List Value) (x : DataW H × List MemPlace), linkB P m t ty = true → DataW.trod enc P w base spare held n t cs = some x → ∃ v : ty.den, Rep (owAll w) w ty v cs := by
  intro n
  induction n with
  | zero => intro m t ty cs x _ h; simp [DataW.trod] at h
  | succ n ih =>
    intro m t ty cs x hB h
    cases m with
    | zero => cases hB
    | succ m =>
      simp only [linkB] at hB
      split at hB
      · rename_i hu
        obtain ⟨b, rfl, _⟩ := DataW.trod_bool hu h
        exact ⟨b, rfl⟩
      · rename_i k k' hu
        have hk := of_decide_eq_true hB
        subst hk
        obtain ⟨i, rfl, _, hw⟩ := DataW.trod_int hu h
        refine ⟨i, rfl, (fits_iff k i).2 ?_⟩
        simpa [Lit.wf] using hw
      · rename_i hu
        obtain ⟨s, rfl, _, hs⟩ := DataW.trod_string hu h
        refine ⟨s, rfl, ?_⟩
        unfold maxLen at hs
        omega
      · rename_i e a hu
        simp only [Bool.and_eq_true] at hB
        obtain ⟨⟨h1, h2⟩, h3⟩ := hB
        have h1 := Nat.eq_of_beq_eq_true h1
        have h2 := Nat.le_of_ble_eq_true h2
        rcases Go.Deep.open_slice hu h with ⟨rfl, _⟩ | ⟨ad, len, cap, k, n', D, Pl, rfl, hb, hl, hm, hk, _, hel⟩
        · exact ⟨[], none, 0, rfl, ⟨Nat.zero_le _, Nat.zero_le _⟩, fun h => absurd rfl h⟩
        · have hlk : len ≤ k := by rw [hk]; split <;> omega
          have hn' : n' ≤ n ∨ True := .inr trivial
          -- the fuel of the elements
          have hel' : ∀ i, i < len → ∃ (v : a.den) (cs' : List Value), w.cells? base (ad.add (i * a.size)) a.size = some cs' ∧ Rep (owAll w) w a v cs' := by
            intro i hi
            have hred : ((w.cells? base (ad.add (i * P.cellsOf e)) (P.cellsOf e)).bind (DataW.trod enc P w base spare held n e)) ≠ none := by
              intro hnone
              unfold DataW.trod at h
              rw [hu] at h
              simp only at h
              split at h
              · obtain ⟨xs, hxs, _⟩ := Option.bind_eq_some_iff.1 h
                have := mapM_some_get hxs i i (by simp [hi])
                have hlx := mapM_some_length hxs
                rw [hnone, List.getElem?_eq_getElem (by rw [hlx]; simpa using hi)] at this
                cases this
              · cases h
            cases hc : w.cells? base (ad.add (i * P.cellsOf e)) (P.cellsOf e) with
            | none => rw [hc] at hred; exact absurd rfl hred
            | some cs' =>
              rw [hc] at hred
              simp only [Option.bind_some] at hred
              cases ht : DataW.trod enc P w base spare held n e cs' with
              | none => exact absurd ht hred
              | some y =>
                obtain ⟨v, hv⟩ := ih m e a cs' y h3 ht
                exact ⟨v, cs', by rw [← h1]; exact hc, hv⟩
          obtain ⟨f, hf⟩ := Go.Deep.choose_lt hel'
          refine ⟨(List.range len).map f, some ad, cap, by simp, ⟨by simp; unfold maxLen at hm; omega, by simpa using hl⟩, fun hne => ?_⟩
          have hlen : 0 < len := by
            apply Nat.pos_of_ne_zero
            intro h0
            subst h0
            exact hne rfl
          obtain ⟨cs0, hc0, _⟩ := hf 0 hlen
          obtain ⟨l0, g0⟩ := cells_at hc0
          have hcell := g0 0 (by omega)
          rw [List.getElem?_eq_getElem (by omega)] at hcell
          simp only [Nat.zero_mul] at hcell
          have e0 : (ad.add 0).add 0 = ad := rfl
          rw [e0] at hcell
          obtain ⟨hsp, c, T, fz, hheap, _⟩ := cell_block hcell
          obtain ⟨blk, off, spot⟩ := ad
          simp only at hsp hheap
          subst hsp
          refine ⟨blk, off, c, T, fz, rfl, ?_, hheap, fun i y hy => ?_⟩
          · unfold owAll
            rw [if_pos]
            exact (Array.getElem?_eq_some_iff.1 hheap).1
          · have hi : i < len := by have := (List.getElem?_eq_some_iff.1 hy).1; simpa using this
            have hy' : f i = y := by
              rw [List.getElem?_map, List.getElem?_range hi] at hy
              simpa using hy
            subst hy'
            obtain ⟨cs', hc', hr⟩ := hf i hi
            obtain ⟨l', g'⟩ := cells_at hc'
            have : (c.toList.drop (off + i * a.size)).take a.size = cs' := by
              have hget : ∀ j, j < a.size → c[off + i * a.size + j]? = cs'[j]? := by
                intro j hj
                have := g' j hj
                rw [Go.Deep.add_add, add_at, cell_at hheap] at this
                rw [← this]
                congr 1
                omega
              apply List.ext_getElem?
              intro j
              by_cases hj : j < a.size
              · rw [List.getElem?_take, if_pos hj, List.getElem?_drop, ← hget j hj]
                simp
              · rw [List.getElem?_eq_none (by simp; omega), List.getElem?_eq_none (by omega)]
            rw [this]
            exact hr
      · rename_i fs r hu
        simp only [Bool.and_eq_true] at hB
        have hs := Nat.eq_of_beq_eq_true hB.1
        obtain ⟨xs, n', hn, _, hl, hxl, hf⟩ := DataW.trod_struct hu h
        have hn : n = n' := by omega
        subst hn
        have := linkFs_rep (ok := linkB P m) (fun t ty cs x h1 h2 => ih m t ty cs x h1 h2) fs.toList r 0 cs hB.2 (by omega) (fun f hfm => by
          obtain ⟨i, hi⟩ := List.getElem?_of_mem hfm
          have hfi : fs[i]? = some f := by simpa using hi
          have hlt : i < xs.length := by rw [hxl]; exact (Array.getElem?_eq_some_iff.1 hfi).1
          exact ⟨_, (hf i f hfi).trans (List.getElem?_eq_getElem hlt)⟩)
        obtain ⟨v, hv⟩ := this
        have hv' : Rep (owAll w) w r v cs := by simpa using hv
        exact ⟨v, hv'⟩
      · rename_i k e r hu
        simp only [Bool.and_eq_true] at hB
        have hs := Nat.eq_of_beq_eq_true hB.1
        obtain ⟨xs, n', hn, _, hl, hxl, hf⟩ := DataW.trod_array hu h
        have hn : n = n' := by omega
        subst hn
        have := linkIs_rep (ok := linkB P m) (fun t ty cs x h1 h2 => ih m t ty cs x h1 h2) k r 0 cs hB.2 (by omega) (fun i hi => by
          rw [Nat.zero_add]
          exact ⟨_, (hf i hi).trans (List.getElem?_eq_getElem (by omega))⟩)
        obtain ⟨v, hv⟩ := this
        have hv' : Rep (owAll w) w r v cs := by simpa using hv
        exact ⟨v, hv'⟩
      · cases hB
/-- An argument. -/
theorem link_val {m t : Nat} {ty : Ty} {v : Value} {d : DataW H} {p : List MemPlace} {r : Reach} {b0 : Nat} (hB : linkB P m t ty = true) (hv : Value.okWide P w r b0 t v) (h : DataW.Trod enc P w base spare held t v d p) :
    ∃ x : ty.den, RepV (owAll w) w ty x v := by
  obtain ⟨n, hn⟩ := id h
  obtain ⟨x, hx⟩ := link_rep n m t ty _ _ hB hn
  cases m with
  | zero => cases hB
  | succ m =>
    simp only [linkB] at hB
    split at hB
    · rename_i hu
      obtain ⟨b, rfl⟩ := okWide_bool hu hv
      exact ⟨x, hx⟩
    · rename_i k k' hu
      obtain ⟨b, rfl, _⟩ := open_int hu hv h
      exact ⟨x, hx⟩
    · rename_i hu
      obtain ⟨b, rfl⟩ := okWide_string hu hv
      exact ⟨x, hx⟩
    · rename_i hu
      obtain ⟨a, l, c, rfl⟩ := okWide_slice hu hv
      exact ⟨x, hx⟩
    · rename_i hu
      obtain ⟨cs, rfl, _⟩ := okWide_struct hu hv
      exact ⟨x, cs, rfl, hx⟩
    · rename_i k e r' hu
      have : ∃ cs, v = .agg cs := by
        unfold Value.okWide at hv
        rw [hu] at hv
        obtain ⟨cs, h, _⟩ := hv
        exact ⟨cs, h⟩
      obtain ⟨cs, rfl⟩ := this
      exact ⟨x, cs, rfl, hx⟩
    · cases hB
def linkPs (P : Program) : List TypeId → Ty → Bool
  | [], .unit => true
  | [t], ty => linkB P 40 t ty
  | t :: t' :: r, .pair a b => linkB P 40 t a && linkPs P (t' :: r) b
  | _, _ => false
/-- All arguments. -/
theorem link_row {r : Reach} {b0 : Nat} : ∀ (ts : List TypeId) (ins : Ty) (vs : List Value) (ds : List (DataW H)) (p : List MemPlace), linkPs P ts ins = true → DataW.TrodAll enc P w base spare held ts vs ds p →
    (∀ (j : Nat) t v, ts[j]? = some t → vs[j]? = some v → Value.okWide P w r b0 t v) → ∃ x : ins.den, RL (owAll w) w (unpackL ins ts.length x) vs ∧ Fits ins x
  | [], ins, vs, ds, p, hB, h, hv => by
    cases ins <;> simp only [linkPs] at hB <;> first | cases hB | skip
    cases vs with
    | nil => exact ⟨(), trivial, trivial⟩
    | cons v vs => cases ds <;> exact h.elim
  | [t], ins, vs, ds, p, hB, h, hv => by
    have hB' : linkB P 40 t ins = true := by cases ins <;> simpa only [linkPs] using hB
    cases vs with
    | nil => cases ds <;> exact h.elim
    | cons v vs =>
      cases ds with
      | nil => exact h.elim
      | cons d ds =>
        obtain ⟨p1, p2, h1, h2, _⟩ := h
        obtain ⟨x, hx⟩ := link_val hB' (hv 0 t v rfl rfl) h1
        cases vs with
        | nil =>
          refine ⟨x, ?_, fits_of_repV hx⟩
          have : unpackL ins 1 x = [.dat ins x] := by cases ins <;> rfl
          show RL _ _ (unpackL ins 1 x) _
          rw [this]
          exact ⟨.dat hx, trivial⟩
        | cons v' vs => cases ds <;> exact h2.elim
  | t :: t' :: ts, ins, vs, ds, p, hB, h, hv => by
    cases ins <;> simp only [linkPs] at hB <;> first | cases hB | skip
    rename_i a b
    simp only [Bool.and_eq_true] at hB
    cases vs with
    | nil => cases ds <;> exact h.elim
    | cons v vs =>
      cases ds with
      | nil => exact h.elim
      | cons d ds =>
        obtain ⟨p1, p2, h1, h2, _⟩ := h
        obtain ⟨x, hx⟩ := link_val hB.1 (hv 0 t v rfl rfl) h1
        obtain ⟨y, hy, hf⟩ := link_row (t' :: ts) b vs ds p2 hB.2 h2 (fun j t v h1 h2 => hv (j + 1) t v (by simpa using h1) (by simpa using h2))
        exact ⟨(x, y), ⟨.dat hx, hy⟩, fits_of_repV hx, hf⟩
theorem list_len1 {α : Type} {l : List α} (h : l.length = 1) : ∃ d0, l = [d0] := by
  match l, h with
  | [d0], _ => exact ⟨_, rfl⟩
theorem list_len2 {α : Type} {l : List α} (h : l.length = 2) : ∃ d0 d1, l = [d0, d1] := by
  match l, h with
  | [d0, d1], _ => exact ⟨_, _, rfl⟩
theorem list_len3 {α : Type} {l : List α} (h : l.length = 3) : ∃ d0 d1 d2, l = [d0, d1, d2] := by
  match l, h with
  | [d0, d1, d2], _ => exact ⟨_, _, _, rfl⟩
theorem list_len4 {α : Type} {l : List α} (h : l.length = 4) : ∃ d0 d1 d2 d3, l = [d0, d1, d2, d3] := by
  match l, h with
  | [d0, d1, d2, d3], _ => exact ⟨_, _, _, _, rfl⟩
theorem list_len5 {α : Type} {l : List α} (h : l.length = 5) : ∃ d0 d1 d2 d3 d4, l = [d0, d1, d2, d3, d4] := by
  match l, h with
  | [d0, d1, d2, d3, d4], _ => exact ⟨_, _, _, _, _, rfl⟩
theorem list_len6 {α : Type} {l : List α} (h : l.length = 6) : ∃ d0 d1 d2 d3 d4 d5, l = [d0, d1, d2, d3, d4, d5] := by
  match l, h with
  | [d0, d1, d2, d3, d4, d5], _ => exact ⟨_, _, _, _, _, _, rfl⟩
theorem list_len7 {α : Type} {l : List α} (h : l.length = 7) : ∃ d0 d1 d2 d3 d4 d5 d6, l = [d0, d1, d2, d3, d4, d5, d6] := by
  match l, h with
  | [d0, d1, d2, d3, d4, d5, d6], _ => exact ⟨_, _, _, _, _, _, _, rfl⟩
theorem list_len8 {α : Type} {l : List α} (h : l.length = 8) : ∃ d0 d1 d2 d3 d4 d5 d6 d7, l = [d0, d1, d2, d3, d4, d5, d6, d7] := by
  match l, h with
  | [d0, d1, d2, d3, d4, d5, d6, d7], _ => exact ⟨_, _, _, _, _, _, _, _, rfl⟩
theorem trod_len {sp : Nat → Bool} {hd : Bool} : ∀ {ts : List TypeId} {vs : List Value} {ds : List (DataW H)} {p : List MemPlace}, DataW.TrodAll enc P w base sp hd ts vs ds p → ds.length = ts.length
  | [], [], [], _, _ => rfl
  | t :: ts, v :: vs, d :: ds, p, h => by
    obtain ⟨p1, p2, h1, h2, _⟩ := h
    simp [trod_len h2]
  | [], [], _ :: _, _, h => h.elim
  | [], _ :: _, _, _, h => h.elim
  | _ :: _, [], _, _, h => h.elim
  | _ :: _, _ :: _, [], _, h => h.elim
theorem shape_1 {sp : Nat → Bool} {hd : Bool} {t0 : TypeId} {vs : List Value} {ds : List (DataW H)} {p : List MemPlace} (h : DataW.TrodAll enc P w base sp hd [t0] vs ds p) : ∃ d0, ds = [d0] := by
  have := trod_len h
  obtain ⟨d0, rfl⟩ := list_len1 this
  exact ⟨_, rfl⟩
theorem shape_2 {sp : Nat → Bool} {hd : Bool} {t0 t1 : TypeId} {vs : List Value} {ds : List (DataW H)} {p : List MemPlace} (h : DataW.TrodAll enc P w base sp hd [t0, t1] vs ds p) : ∃ d0 d1, ds = [d0, d1] := by
  have := trod_len h
  obtain ⟨d0, d1, rfl⟩ := list_len2 this
  exact ⟨_, _, rfl⟩
theorem shape_3 {sp : Nat → Bool} {hd : Bool} {t0 t1 t2 : TypeId} {vs : List Value} {ds : List (DataW H)} {p : List MemPlace} (h : DataW.TrodAll enc P w base sp hd [t0, t1, t2] vs ds p) : ∃ d0 d1 d2, ds = [d0, d1, d2] := by
  have := trod_len h
  obtain ⟨d0, d1, d2, rfl⟩ := list_len3 this
  exact ⟨_, _, _, rfl⟩
theorem shape_4 {sp : Nat → Bool} {hd : Bool} {t0 t1 t2 t3 : TypeId} {vs : List Value} {ds : List (DataW H)} {p : List MemPlace} (h : DataW.TrodAll enc P w base sp hd [t0, t1, t2, t3] vs ds p) : ∃ d0 d1 d2 d3, ds = [d0, d1, d2, d3] := by
  have := trod_len h
  obtain ⟨d0, d1, d2, d3, rfl⟩ := list_len4 this
  exact ⟨_, _, _, _, rfl⟩
theorem shape_5 {sp : Nat → Bool} {hd : Bool} {t0 t1 t2 t3 t4 : TypeId} {vs : List Value} {ds : List (DataW H)} {p : List MemPlace} (h : DataW.TrodAll enc P w base sp hd [t0, t1, t2, t3, t4] vs ds p) : ∃ d0 d1 d2 d3 d4, ds = [d0, d1, d2, d3, d4] := by
  have := trod_len h
  obtain ⟨d0, d1, d2, d3, d4, rfl⟩ := list_len5 this
  exact ⟨_, _, _, _, _, rfl⟩
theorem shape_6 {sp : Nat → Bool} {hd : Bool} {t0 t1 t2 t3 t4 t5 : TypeId} {vs : List Value} {ds : List (DataW H)} {p : List MemPlace} (h : DataW.TrodAll enc P w base sp hd [t0, t1, t2, t3, t4, t5] vs ds p) : ∃ d0 d1 d2 d3 d4 d5, ds = [d0, d1, d2, d3, d4, d5] := by
  have := trod_len h
  obtain ⟨d0, d1, d2, d3, d4, d5, rfl⟩ := list_len6 this
  exact ⟨_, _, _, _, _, _, rfl⟩
theorem shape_7 {sp : Nat → Bool} {hd : Bool} {t0 t1 t2 t3 t4 t5 t6 : TypeId} {vs : List Value} {ds : List (DataW H)} {p : List MemPlace} (h : DataW.TrodAll enc P w base sp hd [t0, t1, t2, t3, t4, t5, t6] vs ds p) : ∃ d0 d1 d2 d3 d4 d5 d6, ds = [d0, d1, d2, d3, d4, d5, d6] := by
  have := trod_len h
  obtain ⟨d0, d1, d2, d3, d4, d5, d6, rfl⟩ := list_len7 this
  exact ⟨_, _, _, _, _, _, _, rfl⟩
theorem shape_8 {sp : Nat → Bool} {hd : Bool} {t0 t1 t2 t3 t4 t5 t6 t7 : TypeId} {vs : List Value} {ds : List (DataW H)} {p : List MemPlace} (h : DataW.TrodAll enc P w base sp hd [t0, t1, t2, t3, t4, t5, t6, t7] vs ds p) : ∃ d0 d1 d2 d3 d4 d5 d6 d7, ds = [d0, d1, d2, d3, d4, d5, d6, d7] := by
  have := trod_len h
  obtain ⟨d0, d1, d2, d3, d4, d5, d6, d7, rfl⟩ := list_len8 this
  exact ⟨_, _, _, _, _, _, _, _, rfl⟩
def rowedB (P : Program) (ts : List TypeId) : Bool := ts.all fun t => P.readableRec t && Nat.blt t P.types.size
/-- The arguments read again behind the call. -/
theorem args_stay {W W' : World} (hl : laidOutB P = true) (hb : Below W.heap.size W W') {sp : Nat → Bool} : ∀ (ts : List TypeId) (vs : List Value) (ds : List (DataW H)) (p : List MemPlace), rowedB P ts = true →
    DataW.TrodAll enc P W 0 (fun _ => true) true ts vs ds p → (∀ x ∈ p, x.block < W.heap.size) → (∀ x ∈ p, sp x.block = true) → DataW.TrodAll enc P W' 0 sp true ts vs ds p
  | [], vs, ds, p, _, h, _, _ => by
    cases vs <;> cases ds <;> exact h
  | t :: ts, vs, ds, p, hB, h, hlt, hsp => by
    cases vs with
    | nil => cases ds <;> exact h.elim
    | cons v vs =>
      cases ds with
      | nil => exact h.elim
      | cons d ds =>
        obtain ⟨p1, p2, h1, h2, rfl⟩ := h
        simp only [rowedB, List.all_cons, Bool.and_eq_true] at hB
        exact ⟨p1, p2, Go.WideElems.Trod_stays hl hB.1.1 (Nat.lt_of_succ_le (Nat.le_of_ble_eq_true hB.1.2)) h1 (fun x hx => hb.same (hlt x (by simp [hx]))) (fun x hx => hsp x (by simp [hx])),
          args_stay hl hb ts vs ds p2 hB.2 h2 (fun x hx => hlt x (by simp [hx])) (fun x hx => hsp x (by simp [hx])), rfl⟩
end
end Go.Proofs.Ytckghclpdfbigaa
