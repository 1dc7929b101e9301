/- A region that draws its order and stores one row of the call's own. No program in sight. -/
import Derived.Test.YtbpadfmdjgjjlaaMore
import Derived.Laws.Tables
import Derived.Deep.WholeRow
set_option linter.unusedSimpArgs false
set_option linter.unusedVariables false
namespace Go.Proofs.Ytbpadfmdjgjjlaa
open Go.RowKit
section
variable {P : Program} {ops : Array Oper} {md : Region.Mode} {C : (Nat → Bool) → World → Prop}
/-- Which operations have come up. -/
def doneOf (listed : Array Bool) : Nat → Bool := fun j => listed.getD j false
/-- What is asked of an operation's outcome: it leaves v, and a world of the class that stands behind it. -/
def tameUpon (P : Program) (C' : World → Prop) (v : Value) : Result Next → Prop
  | .ok (.value u) w' => u = v ∧ C' w'
  | .ok .skip w' => v = undef ∧ C' w'
  | .ok (.enter f args) w' => Calls P f args w' (fun e w'' => e = .returned v ∧ C' w'')
  | _ => False
def tameAt (P : Program) (n : Nat) (C : (Nat → Bool) → World → Prop) (i : Nat) (o : Oper) (v : Value) (a : Act) : Prop :=
  ∀ (listed : Array Bool) (w : World), listed.size = n → listed.getD i true = false → C (doneOf listed) w → tameUpon P (C (doneOf (listed.setIfInBounds i true))) v ((execOp a.eval o).run P w)
def YieldsT (P : Program) (ops : Array Oper) (C : (Nat → Bool) → World → Prop) (i : Nat) (o : Oper) (v : Value) (a : Act) : Prop :=
  (Region.wanted o (yielded ops a.tmps) = true ∧ tameAt P ops.size C i o v a) ∨
  (Region.wanted o (yielded ops a.tmps) = false ∧ v = undef ∧ ∀ (listed : Array Bool) (w : World), listed.size = ops.size → listed.getD i true = false → C (doneOf listed) w → C (doneOf (listed.setIfInBounds i true)) w)
def tOp (P : Program) (ops : Array Oper) (C : (Nat → Bool) → World → Prop) (i : Nat) (K : Act → Prop) (a : Act) : Prop :=
  ∃ o v, ops[i]? = some o ∧ YieldsT P ops C i o v a ∧ K (a.put o.dst v)
theorem tOp_mono {i : Nat} {a : Act} {K K' : Act → Prop} (h : ∀ a, K a → K' a) (hh : tOp P ops C i K a) : tOp P ops C i K' a := by
  obtain ⟨o, v, h1, h2, h3⟩ := hh
  exact ⟨o, v, h1, h2, h _ h3⟩
/-- Whatever order is picked. -/
def anyT (P : Program) (md : Region.Mode) (ops : Array Oper) (C : (Nat → Bool) → World → Prop) (F : Array Bool → Act → Prop) : Nat → Array Bool → Act → Prop
  | 0, listed, a => Region.ready md ops listed = [] ∧ F listed a
  | fuel + 1, listed, a => Region.ready md ops listed ≠ [] ∧ ∀ i ∈ Region.ready md ops listed, tOp P ops C i (anyT P md ops C F fuel (listed.setIfInBounds i true)) a
theorem wp_of_tame {i : Nat} {o : Oper} {v : Value} {a : Act} {K' : Act → World → Prop} {Q' : Exit → Act → World → Prop} {listed : Array Bool} {w : World} (ho : ops[i]? = some o)
    (hy : YieldsT P ops C i o v a) (hsz : listed.size = ops.size) (hun : listed.getD i true = false) (hC : C (doneOf listed) w)
    (h : ∀ w', C (doneOf (listed.setIfInBounds i true)) w' → K' (a.put o.dst v) w') : wpOp P ops Q' i K' a w := by
  unfold wpOp
  simp only [ho]
  rcases hy with ⟨hw, ht⟩ | ⟨hw, rfl, ht⟩
  · simp only [hw, if_true]
    refine .inl ?_
    have h3 := ht listed w hsz hun hC
    unfold Oper.wp
    generalize (execOp a.eval o).run P w = r at *
    cases r with
    | ok n w' =>
      cases n <;> simp only [tameUpon] at h3 <;> simp only [Oper.upon]
      case value u => obtain ⟨rfl, e2⟩ := h3; exact h _ e2
      case skip => obtain ⟨rfl, e2⟩ := h3; exact h _ e2
      case enter f args => exact h3.mono fun e w'' ⟨he, hw''⟩ => by subst he; exact h _ hw''
    | halt x w' => simp only [tameUpon] at h3
  · simp only [hw, Bool.false_eq_true, if_false]
    exact h _ (ht listed w hsz hun hC)
theorem wpAny_of_anyT {F : Array Bool → Act → Prop} {Q' : Exit → Act → World → Prop} (hF : ∀ listed a w, C (doneOf listed) w → F listed a → Q' .normal a w) :
    ∀ (fuel : Nat) (listed : Array Bool) (a : Act) (w : World), listed.size = ops.size → C (doneOf listed) w → anyT P md ops C F fuel listed a → wpAny P md ops Q' fuel listed a w := by
  intro fuel
  induction fuel with
  | zero => intro listed a w _ hC h; exact ⟨h.1, hF _ _ _ hC h.2⟩
  | succ fuel ih =>
    intro listed a w hsz hC h
    refine ⟨fun h0 => absurd h0 h.1, fun i hi => ?_⟩
    obtain ⟨o, v, ho, hy, hK⟩ := h.2 i hi
    exact wp_of_tame ho hy hsz (mem_ready.1 hi).1 hC fun w' hw' => ih _ _ _ (by simp [hsz]) hw' hK
theorem YieldsT.of_same {i : Nat} {o : Oper} {v : Value} {a a' : Act} (hy : YieldsT P ops C i o v a) (he : execOp a'.eval o = execOp a.eval o)
    (hw : Region.wanted o (yielded ops a'.tmps) = Region.wanted o (yielded ops a.tmps)) : YieldsT P ops C i o v a' := by
  unfold YieldsT tameAt at *
  rw [he, hw]
  exact hy
theorem tOp_put {i j : Nat} {oi oj : Oper} {v : Value} (hj : ops[j]? = some oj) (hap : oi.apart ops oj = true)
    (hsi : ∀ cs b, oi.op ≠ .select cs b) (hsj : ∀ cs b, oj.op ≠ .select cs b) {K : Act → Prop} {a : Act}
    (hy : YieldsT P ops C i oi v a) (h : tOp P ops C j K (a.put oi.dst v)) :
    tOp P ops C j (fun a' => YieldsT P ops C i oi v a' ∧ K (a'.put oi.dst v)) a := by
  obtain ⟨h1, h2, h3⟩ := Oper.apart_spec hap
  obtain ⟨o, u, ho, hyj, hK⟩ := h
  have hoe : o = oj := Option.some.inj (ho.symm.trans hj)
  subst hoe
  refine ⟨o, u, ho, hyj.of_same (execOp_put o hsj a oi.dst v h1).symm (wanted_put o a oi.dst v h1).symm, ?_, by rw [← Act.put_comm a v u h2]; exact hK⟩
  exact hy.of_same (execOp_put oi hsi a o.dst u h3) (wanted_put oi a o.dst u h3)
theorem anyT_first {F : Array Bool → Act → Prop} {i : Nat} {oi : Oper} {v : Value} (hi : ops[i]? = some oi) (hsel : ∀ (j : Nat) (o : Oper) cs b, ops[j]? = some o → o.op ≠ .select cs b) :
    ∀ (fuel : Nat) (listed : Array Bool) (a : Act),
      (∀ j oj, ops[j]? = some oj → j ≠ i → listed.getD j true = false → (∀ e ∈ oj.after, Region.binds md e = true → e.on ≠ i) → oi.apart ops oj = true) →
      i ∈ Region.ready md ops listed → YieldsT P ops C i oi v a →
      anyT P md ops C F fuel (listed.setIfInBounds i true) (a.put oi.dst v) → anyT P md ops C F (fuel + 1) listed a := by
  intro fuel
  induction fuel with
  | zero =>
    intro listed a _ hr hy H
    refine ⟨fun h => (by rw [h] at hr; cases hr), fun j hj => ?_⟩
    by_cases hji : j = i
    · subst hji; exact ⟨oi, v, hi, hy, H⟩
    · have := ready_mono hj hji
      rw [H.1] at this
      cases this
  | succ fuel ih =>
    intro listed a hfree hr hy H
    refine ⟨fun h => (by rw [h] at hr; cases hr), fun j hj => ?_⟩
    by_cases hji : j = i
    · subst hji; exact ⟨oi, v, hi, hy, H⟩
    · have h1 := H.2 j (ready_mono hj hji)
      obtain ⟨hjun, oj, hoj, hall⟩ := mem_ready.1 hj
      have hnot : ∀ e ∈ oj.after, Region.binds md e = true → e.on ≠ i := fun e he hb heq => by
        have h1 := hall e he hb
        have h0 := (mem_ready.1 hr).1
        rw [heq, getD_both h0] at h1
        cases h1
      have h2 := tOp_put hoj (hfree j oj hoj hji hjun hnot) (fun cs b => hsel i oi cs b hi) (fun cs b => hsel j oj cs b hoj) hy h1
      have hfree' : ∀ k ok, ops[k]? = some ok → k ≠ i → (listed.setIfInBounds j true).getD k true = false →
          (∀ e ∈ ok.after, Region.binds md e = true → e.on ≠ i) → oi.apart ops ok = true := fun k ok hk hki hku hno => by
        refine hfree k ok hk hki ?_ hno
        by_cases hjk : j = k
        · subst hjk; exact hjun
        · rwa [getD_set_ne true hjk] at hku
      refine tOp_mono (fun a' h3 => ih (listed.setIfInBounds j true) a' hfree' (ready_mono hr (Ne.symm hji)) h3.1 ?_) h2
      rw [Array.setIfInBounds_comm _ _ hji]
      exact h3.2
/-- The walk in the order of the text. -/
def wpTame (P : Program) (ops : Array Oper) (C : (Nat → Bool) → World → Prop) (Q : Act → Prop) : Nat → List Oper → Act → Prop
  | _, [], a => Q a
  | k, o :: rest, a => ∃ v, YieldsT P ops C k o v a ∧ wpTame P ops C Q (k + 1) rest (a.put o.dst v)
def firstListed (n k : Nat) (listed : Array Bool) : Prop := listed.size = n ∧ ∀ j, j < n → listed.getD j false = decide (j < k)
theorem anyT_lex {Q : Act → Prop} (hs : Region.noSelect ops = true) : ∀ (l : List Oper) (k : Nat) (listed : Array Bool) (a : Act), (∀ j, l[j]? = ops[k + j]?) → k + l.length = ops.size → firstListed ops.size k listed →
    Region.lexFrom md ops l.length k listed = true → wpTame P ops C Q k l a → anyT P md ops C (fun listed' a' => firstListed ops.size ops.size listed' ∧ Q a') l.length listed a := by
  intro l
  induction l with
  | nil =>
    intro k listed a _ hk hf hB h
    have hk' : k = ops.size := by simpa using hk
    subst hk'
    exact ⟨by simpa [Region.lexFrom] using hB, hf, h⟩
  | cons o l ih =>
    intro k listed a hl hk hfl hB h
    have h0 : ops[k]? = some o := by simpa using (hl 0).symm
    simp only [List.length_cons, Region.lexFrom, Bool.and_eq_true] at hB
    obtain ⟨⟨hr, hf⟩, hB'⟩ := hB
    obtain ⟨v, hy, hK⟩ := h
    refine anyT_first h0 (Region.noSelect_spec hs) l.length listed a (Region.free_spec h0 hf) (by simpa using hr) hy ?_
    refine ih (k + 1) _ _ (fun j => by have := hl (j + 1); simpa [Nat.add_assoc, Nat.add_comm 1 j] using this) (by simp only [List.length_cons] at hk; omega) ?_ hB' hK
    refine ⟨by simp [hfl.1], fun j hj => ?_⟩
    by_cases hjk : k = j
    · subst hjk
      have : k < listed.size := by rw [hfl.1]; exact hj
      simp [Array.getD, this]
    · rw [getD_set_ne false hjk, hfl.2 j hj]
      congr 1
      exact propext ⟨fun _ => by omega, fun _ => by omega⟩
theorem wp_region_tame {id : Nat} {Q : Exit → Act → World → Prop} {a : Act} {w : World} {l : List Oper} (hm : P.follows .mixedOrders = true) (hB : Region.lexB .any l.toArray = true)
    (C : (Nat → Bool) → World → Prop) (hC : C (fun _ => false) w.drew)
    (h : wpTame P l.toArray C (fun a' => ∀ w' done, (∀ j, j < l.length → done j = true) → C done w' → Q .normal a' w') 0 l a) : (Code.region id l.toArray true).wp P Q a w := by
  simp only [Region.lexB, Bool.and_eq_true] at hB
  refine wp_region_any hm ?_
  have H := anyT_lex (P := P) (C := C) (md := .any) hB.1 l 0 (Array.replicate l.toArray.size false) a (by simp) (by simp) ⟨by simp, fun j _ => by rw [getD_replicate_false]; simp⟩ (by simpa using hB.2) h
  have hd : doneOf (Array.replicate l.toArray.size false) = fun _ => false := funext fun j => getD_replicate_false _ _
  refine wpAny_of_anyT (Q' := Q) (fun listed a' w' hC' hF => ?_) _ _ _ w.drew (by simp) (by rw [hd]; exact hC) (by simpa using H)
  exact hF.2 w' (doneOf listed) (fun j hj => by have := hF.1.2 j (by simpa using hj); simpa [doneOf, hj] using this) hC'
end

/-! ### One row of the call's own is stored somewhere in the region; all else is quiet -/
@[go_sem] theorem cell_setRow_ne (w : World) (g : Nat) (cs : Array Value) (n i : Nat) (h : neS n g) : (w.setRow g cs).cell? ⟨n, i, none⟩ = w.cell? ⟨n, i, none⟩ := cell_setRow_other w g cs _ h
@[go_sem] theorem frozen_setRow_any (w : World) (g : Nat) (cs : Array Value) (a : Addr) : (w.setRow g cs).frozen? a = w.frozen? a := by
  unfold World.frozen? World.setRow
  simp only [Array.getElem?_modify]
  by_cases h : g = a.block
  · rw [if_pos h]
    cases w.heap[a.block]? with
    | none => rfl
    | some o => cases o <;> rfl
  · rw [if_neg h]
attribute [go_sem] setRow_size
@[go_sem] theorem setRow_alloc_at (w : World) (c c' : Array Value) (t : TypeId) (n : Nat) (hn : n = w.heap.size) : (w.alloc (.cells c t)).setRow n c' = w.alloc (.cells c' t) := by
  subst hn; exact World.setRow_alloc_new w c c' t
@[go_sem] theorem setRow_alloc_past (w : World) (o : Obj) (c : Array Value) (n : Nat) (hn0 : ltS n w.heap.size) : (w.alloc o).setRow n c = (w.setRow n c).alloc o := by
  have hn : n < w.heap.size := hn0
  unfold World.setRow World.alloc
  simp only [World.mk.injEq, and_true]
  apply Array.ext_getElem?
  intro j
  rw [Array.getElem?_modify, Array.getElem?_push, Array.getElem?_push, Array.size_modify, Array.getElem?_modify]
  by_cases hj : n = j
  · subst hj
    rw [if_pos rfl, if_neg (by omega), if_neg (by omega), if_pos rfl]
  · rw [if_neg hj, if_neg hj]
@[go_sem] theorem setRow_more (w : World) (x : More) (c : Array Value) (n : Nat) (hn : ltS n w.heap.size) : (more w x).setRow n c = more (w.setRow n c) x := by
  unfold World.setRow more
  simp only
  rw [Array.modify_append_left _ _ _ _ hn]
@[go_sem] theorem setRow_drew (w : World) (c : Array Value) (n : Nat) : w.drew.setRow n c = (w.setRow n c).drew := rfl
/-- A block that is known whole. -/
def Blk (w : World) (b : Nat) (c : Array Value) (t : TypeId) : Prop := w.heap[b]? = some (.cells c t (0, 0))
theorem heap_alloc_at (w : World) (o : Obj) (n : Nat) (hn : n = w.heap.size) : (w.alloc o).heap[n]? = some o := by subst hn; exact heap_alloc_new w o
theorem heap_alloc_past (w : World) (o : Obj) (n : Nat) (hn : n < w.heap.size) : (w.alloc o).heap[n]? = w.heap[n]? := Below.heap_alloc w o n hn
theorem blk_at (w : World) (c : Array Value) (t : TypeId) (n : Nat) (hn : n = w.heap.size) : Blk (w.alloc (.cells c t)) n c t := heap_alloc_at w _ n hn
theorem blk_past (w : World) (o : Obj) (c : Array Value) (t : TypeId) (n : Nat) (hn : ltS n w.heap.size) : Blk (w.alloc o) n c t = Blk w n c t := by unfold Blk; rw [heap_alloc_past w o n hn]
theorem blk_more (w : World) (x : More) (c : Array Value) (t : TypeId) (n : Nat) (hn : ltS n w.heap.size) : Blk (more w x) n c t = Blk w n c t := by unfold Blk; rw [heap_more hn]
theorem blk_drew (w : World) (c : Array Value) (t : TypeId) (n : Nat) : Blk w.drew n c t = Blk w n c t := rfl
theorem below_row {B g : Nat} {w0 w : World} (h : Below B w0 w) (hg : B ≤ g) (cs : Array Value) : Below B w0 (w.setRow g cs) :=
  h.trans ⟨rfl, rfl, rfl, by simp, fun k hk => setRow_other w g k cs (by omega)⟩
section
variable {P : Program} {ops : Array Oper}
def lateUpon (P : Program) (v : Value) (w' : World) : Result Next → Prop
  | .ok (.value u) w'' => w'' = w' ∧ u = v
  | .ok .skip w'' => w'' = w' ∧ v = undef
  | .ok (.enter f args) w'' => w'' = w' ∧ Calls P f args w' (fun e w3 => e = .returned v ∧ Later w' w3)
  | _ => False
attribute [go_sem] lateUpon
/-- The walk in the order of the text, all of it quiet while blocks may come. -/
def wpCalm (P : Program) (ops : Array Oper) (w : World) (Q : Act → Prop) : List Oper → Act → Prop
  | [], a => Q a
  | o :: rest, a => if Region.wanted o (yielded ops a.tmps) = true then ∃ v, (∀ x, lateUpon P v (more w x) ((execOp a.eval o).run P (more w x))) ∧ wpCalm P ops w Q rest (a.put o.dst v) else wpCalm P ops w Q rest (a.put o.dst undef)
theorem wpCalm_nil {w : World} {Q : Act → Prop} {a : Act} (h : Q a) : wpCalm P ops w Q [] a := h
theorem wpCalm_step {w : World} {Q : Act → Prop} {o : Oper} {rest : List Oper} {a : Act}
    (h : ∀ K : Act → Prop, (∀ a, wpCalm P ops w Q rest a → K a) → if Region.wanted o (yielded ops a.tmps) = true then ∃ v, (∀ x, lateUpon P v (more w x) ((execOp a.eval o).run P (more w x))) ∧ K (a.put o.dst v) else K (a.put o.dst undef)) :
    wpCalm P ops w Q (o :: rest) a := h _ (fun _ h => h)
theorem quiet_of_calm {w : World} {Q : Act → Prop} : ∀ (l : List Oper) (a : Act), wpCalm P ops w Q l a → wpQuiet P ops (Later w) Q l a := by
  intro l
  induction l with
  | nil => intro a h; exact h
  | cons o l ih =>
    intro a h
    unfold wpCalm at h
    unfold wpQuiet
    split at h
    · rename_i hw
      rw [if_pos hw]
      obtain ⟨v, hq, hK⟩ := h
      refine ⟨v, ?_, ih _ hK⟩
      rintro w' ⟨x, rfl⟩
      have h3 := hq x
      unfold Oper.quietAt
      generalize (execOp a.eval o).run P (more w x) = r at *
      cases r with
      | ok nx w'' =>
        cases nx <;> simp only [lateUpon] at h3 <;> simp only [Oper.quietUpon]
        case value u => exact h3
        case skip => exact h3
        case enter f args => exact ⟨h3.1, h3.2.mono fun e w3 ⟨he, hl⟩ => ⟨he, Later.trans ⟨x, rfl⟩ hl⟩⟩
      | halt hh w'' => simp only [lateUpon] at h3
    · rename_i hw
      rw [if_neg hw]
      exact ih _ h
/-- A region that draws its order, all of it quiet while blocks may come. -/
theorem region_all {id : Nat} {Q : Exit → Act → World → Prop} {a : Act} {w : World} {l : List Oper} (hm : P.follows .mixedOrders = true) (hB : Region.lexB .any l.toArray = true)
    (h : wpCalm P l.toArray w (fun a' => ∀ x, Q .normal a' (more w x)) l a) : (Code.region id l.toArray true).wp P Q a w :=
  wp_region_quiet_all hm hB (Later w) (later_refl w).drew
    (quiet_of_calm _ _ (by
      have key : ∀ (l' : List Oper) (a : Act) (Q1 Q2 : Act → Prop), (∀ a, Q1 a → Q2 a) → wpCalm P l.toArray w Q1 l' a → wpCalm P l.toArray w Q2 l' a := by
        intro l'
        induction l' with
        | nil => intro a Q1 Q2 hq h; exact hq _ h
        | cons o l' ih =>
          intro a Q1 Q2 hq h
          unfold wpCalm at h ⊢
          split at h
          · rename_i hw; rw [if_pos hw]; obtain ⟨v, h1, h2⟩ := h; exact ⟨v, h1, ih _ _ _ hq h2⟩
          · rename_i hw; rw [if_neg hw]; exact ih _ _ _ hq h
      refine key l a _ _ (fun a' hq w' hl => ?_) h
      obtain ⟨x, rfl⟩ := hl
      exact hq x))
/-- A region whose first n operations are quiet while blocks may come; the others follow in one order alone. -/
theorem region_tail {id : Nat} {Q : Exit → Act → World → Prop} {a : Act} {w : World} {l : List Oper} (n : Nat) (hm : P.follows .mixedOrders = true) (hB : Region.lexTailB .any l.toArray n = true)
    (h : wpCalm P l.toArray w (fun a' => ∀ x, wpList P l.toArray Q (l.drop n) a' (more w x)) (l.take n) a) : (Code.region id l.toArray true).wp P Q a w :=
  wp_region_quiet_tail n hm hB (Later w) (later_refl w).drew
    (quiet_of_calm _ _ (by
      have key : ∀ (l' : List Oper) (a : Act) (Q1 Q2 : Act → Prop), (∀ a, Q1 a → Q2 a) → wpCalm P l.toArray w Q1 l' a → wpCalm P l.toArray w Q2 l' a := by
        intro l'
        induction l' with
        | nil => intro a Q1 Q2 hq h; exact hq _ h
        | cons o l' ih =>
          intro a Q1 Q2 hq h
          unfold wpCalm at h ⊢
          split at h
          · rename_i hw; rw [if_pos hw]; obtain ⟨v, h1, h2⟩ := h; exact ⟨v, h1, ih _ _ _ hq h2⟩
          · rename_i hw; rw [if_neg hw]; exact ih _ _ _ hq h
      refine key (l.take n) a _ _ (fun a' hq w' hl => ?_) h
      obtain ⟨x, rfl⟩ := hl
      exact hq x))
def wpLate (P : Program) (ops : Array Oper) (w : World) (b i n : Nat) (Q : Array Value → Act → Prop) : Option (Array Value) → Nat → List Oper → Act → Prop
  | none, _, [], _ => False
  | some V, _, [], a => Q V a
  | ov, k, o :: rest, a =>
    if k = i then
      o.guard = none ∧ o.dst = none ∧ ov = none ∧ ∃ ty x y V, o.op = .store ty x y ∧ a.eval x = .pointer (some ⟨b, 0, none⟩) ∧ a.eval y = .agg V ∧ V.size = n ∧ V.all (·.oneCell') = true ∧ (P.info? ty).map (·.size) = some n ∧
        wpLate P ops w b i n Q (some V) (k + 1) rest a
    else if Region.wanted o (yielded ops a.tmps) = true then ∃ v, (∀ x c, lateUpon P v (more (w.setRow b c) x) ((execOp a.eval o).run P (more (w.setRow b c) x))) ∧ wpLate P ops w b i n Q ov (k + 1) rest (a.put o.dst v)
    else wpLate P ops w b i n Q ov (k + 1) rest (a.put o.dst undef)
theorem wpLate_nil {w : World} {b i n k : Nat} {Q : Array Value → Act → Prop} {V : Array Value} {a : Act} (h : Q V a) : wpLate P ops w b i n Q (some V) k [] a := h
theorem wpLate_step {w : World} {b i n : Nat} {Q : Array Value → Act → Prop} {ov : Option (Array Value)} {k : Nat} {o : Oper} {rest : List Oper} {a : Act} (hk : (k == i) = false)
    (h : ∀ K : Act → Prop, (∀ a, wpLate P ops w b i n Q ov (k + 1) rest a → K a) → if Region.wanted o (yielded ops a.tmps) = true then ∃ v, (∀ x c, lateUpon P v (more (w.setRow b c) x) ((execOp a.eval o).run P (more (w.setRow b c) x))) ∧ K (a.put o.dst v) else K (a.put o.dst undef)) :
    wpLate P ops w b i n Q ov k (o :: rest) a := by
  have hki : ¬ k = i := by simpa using hk
  cases ov <;> (unfold wpLate; rw [if_neg hki]; exact h _ (fun _ h => h))
theorem wpLate_store {w : World} {b i n : Nat} {Q : Array Value → Act → Prop} {k : Nat} {o : Oper} {rest : List Oper} {a : Act} {V : Array Value} {ty : TypeId} {x y : Operand} (hk : (k == i) = true) (hg : o.guard = none) (hd : o.dst = none) (ho : o.op = .store ty x y)
    (hx : a.eval x = .pointer (some ⟨b, 0, none⟩)) (hy : a.eval y = .agg V) (hn : V.size = n) (h1 : V.all (·.oneCell') = true) (hi : (P.info? ty).map (·.size) = some n)
    (h : wpLate P ops w b i n Q (some V) (k + 1) rest a) : wpLate P ops w b i n Q none k (o :: rest) a := by
  have hki : k = i := by simpa using hk
  unfold wpLate
  rw [if_pos hki]
  exact ⟨hg, hd, rfl, ty, x, y, V, ho, hx, hy, hn, h1, hi, h⟩
def lateC (w : World) (b i n : Nat) (V : Array Value) (done : Nat → Bool) (w' : World) : Prop := ∃ x c, w' = more (w.setRow b c) x ∧ c.size = n ∧ (done i = true → c = V)
theorem doneOf_ne {listed : Array Bool} {i k : Nat} (h : k ≠ i) : doneOf (listed.setIfInBounds k true) i = doneOf listed i := getD_set_ne false h
theorem tame_of_late {w : World} {b i n : Nat} {V : Array Value} {k : Nat} {o : Oper} {v : Value} {a : Act} (hki : k ≠ i)
    (h : ∀ x c, lateUpon P v (more (w.setRow b c) x) ((execOp a.eval o).run P (more (w.setRow b c) x))) : tameAt P ops.size (lateC w b i n V) k o v a := by
  rintro listed w' hsz hun ⟨x, c, rfl, hc, hV⟩
  have h3 := h x c
  generalize (execOp a.eval o).run P (more (w.setRow b c) x) = r at *
  cases r with
  | ok nx w'' =>
    cases nx <;> simp only [lateUpon] at h3 <;> simp only [tameUpon]
    case value u => obtain ⟨rfl, rfl⟩ := h3; exact ⟨rfl, x, c, rfl, hc, by rw [doneOf_ne hki]; exact hV⟩
    case skip => obtain ⟨rfl, rfl⟩ := h3; exact ⟨rfl, x, c, rfl, hc, by rw [doneOf_ne hki]; exact hV⟩
    case enter f args =>
      obtain ⟨rfl, h3⟩ := h3
      exact h3.mono fun e w3 ⟨he, y, hw3⟩ => ⟨he, x.add y, c, by rw [hw3, more_more], hc, by rw [doneOf_ne hki]; exact hV⟩
  | halt hh w'' => simp only [lateUpon] at h3
/-- Behind the store. -/
theorem tame_behind {w : World} {b i n : Nat} {Q : Array Value → Act → Prop} {V : Array Value} : ∀ (l : List Oper) (k : Nat) (a : Act), i < k → wpLate P ops w b i n Q (some V) k l a → wpTame P ops (lateC w b i n V) (fun a' => Q V a') k l a := by
  intro l
  induction l with
  | nil => intro k a _ h; exact h
  | cons o l ih =>
    intro k a hik h
    have hki : ¬ k = i := by omega
    unfold wpLate at h
    rw [if_neg hki] at h
    split at h
    · rename_i hw
      obtain ⟨v, hq, hK⟩ := h
      exact ⟨v, .inl ⟨hw, tame_of_late hki hq⟩, ih _ _ (by omega) hK⟩
    · rename_i hw
      refine ⟨undef, .inr ⟨by simpa using hw, rfl, ?_⟩, ih _ _ (by omega) h⟩
      rintro listed w' _ _ ⟨x, c, e, hc, hV⟩
      exact ⟨x, c, e, hc, by rw [doneOf_ne hki]; exact hV⟩
theorem tame_ahead {w : World} {b i n : Nat} {Q : Array Value → Act → Prop} {c0 : Array Value} {t : TypeId} (hblk : w.heap[b]? = some (.cells c0 t (0, 0))) : ∀ (l : List Oper) (k : Nat) (a : Act), k + l.length = ops.size → k ≤ i → i < ops.size →
    wpLate P ops w b i n Q none k l a → ∃ V, V.size = n ∧ wpTame P ops (lateC w b i n V) (fun a' => Q V a') k l a := by
  intro l
  induction l with
  | nil => intro k a _ _ _ h; exact h.elim
  | cons o l ih =>
    intro k a hlen hik hi h
    unfold wpLate at h
    split at h
    · rename_i hki
      subst hki
      obtain ⟨hg, hd, _, ty, x, y, V, ho, hx, hy, hn, h1, hinf, hK⟩ := h
      refine ⟨V, hn, undef, .inl ⟨by simp [Region.wanted, hg], ?_⟩, ?_⟩
      · rintro listed w' hsz hun ⟨z, c, rfl, hc, hV⟩
        have hb : b < w.heap.size := by
          rcases Nat.lt_or_ge b w.heap.size with h | h
          · exact h
          · rw [Array.getElem?_eq_none h] at hblk; cases hblk
        have hcell : (more (w.setRow b c) z).heap[b]? = some (.cells c t (0, 0)) := by
          rw [heap_more (by rw [setRow_size]; exact hb)]
          exact setRow_heap w b c0 c t _ hblk
        have hrun := run_storeVar_row (P := P) (more (w.setRow b c) z) b t ty c V hcell (by rw [hinf, hn]) (by rw [hc, hn]) h1
        unfold execOp
        simp only [ho, hx, hy, Instr.storeAt, Instr.sureAddr, Sem.run_bind, Sem.run_pure, Result.andThen_ok, hrun, tameUpon]
        refine ⟨trivial, z, V, ?_, hn, fun _ => rfl⟩
        rw [setRow_more _ _ _ _ (by unfold ltS; rw [setRow_size]; exact hb), setRow_setRow]
      · have hp : a.put o.dst undef = a := by rw [hd]; rfl
        rw [hp]
        exact tame_behind l _ a (by omega) hK
    · rename_i hki
      have hki' : k < i := by omega
      simp only [List.length_cons] at hlen
      split at h
      · rename_i hw
        obtain ⟨v, hq, hK⟩ := h
        obtain ⟨V, hn, hT⟩ := ih (k + 1) _ (by omega) (by omega) hi hK
        exact ⟨V, hn, v, .inl ⟨hw, tame_of_late hki hq⟩, hT⟩
      · rename_i hw
        obtain ⟨V, hn, hT⟩ := ih (k + 1) _ (by omega) (by omega) hi h
        refine ⟨V, hn, undef, .inr ⟨by simpa using hw, rfl, ?_⟩, hT⟩
        rintro listed w' _ _ ⟨x, c, e, hc, hV⟩
        exact ⟨x, c, e, hc, by rw [doneOf_ne hki]; exact hV⟩
/-- A region in which operation i stores a whole row of the call's own (a result's variable, as a rule), wherever it comes up. -/
theorem region_late {id : Nat} {Q : Exit → Act → World → Prop} {a : Act} {w : World} {l : List Oper} (b i n : Nat) (hm : P.follows .mixedOrders = true) (hB : (decide (i < l.length) && Region.lexB .any l.toArray) = true)
    {c0 : Array Value} {t : TypeId} (hblk0 : Blk w b c0 t) (hn : c0.size = n)
    (h : wpLate P l.toArray w b i n (fun V a' => ∀ x, Q .normal a' (more (w.setRow b V) x)) none 0 l a) : (Code.region id l.toArray true).wp P Q a w := by
  have hblk : w.heap[b]? = some (.cells c0 t (0, 0)) := hblk0
  simp only [Bool.and_eq_true, decide_eq_true_eq] at hB
  obtain ⟨V, hV, hT⟩ := tame_ahead (ops := l.toArray) hblk l 0 a (by simp) (by omega) (by simpa using hB.1) h
  refine wp_region_tame hm hB.2 (lateC w b i n V) ⟨⟨#[], w.drawn + 1⟩, c0, ?_, hn, fun h => by cases h⟩ ?_
  · rw [setRow_self w b c0 t _ hblk]; simp [more]
  · have key : ∀ (l' : List Oper) (k : Nat) (a : Act) (Q1 Q2 : Act → Prop), (∀ a, Q1 a → Q2 a) → wpTame P l.toArray (lateC w b i n V) Q1 k l' a → wpTame P l.toArray (lateC w b i n V) Q2 k l' a := by
      intro l'
      induction l' with
      | nil => intro k a Q1 Q2 hq h; exact hq _ h
      | cons o l' ih => intro k a Q1 Q2 hq h; obtain ⟨v, h1, h2⟩ := h; exact ⟨v, h1, ih _ _ _ _ hq h2⟩
    refine key l 0 a _ _ (fun a' hq w' done hd hC => ?_) hT
    obtain ⟨x, c, rfl, _, hcV⟩ := hC
    rw [hcV (hd i hB.1)]
    exact hq x
end
attribute [irreducible] wpCalm wpLate
end Go.Proofs.Ytbpadfmdjgjjlaa
