/- Each operation does what the reading says: variables. No program in sight. -/
import Derived.Test.YtbgdgpdfaebniaaEngD
set_option linter.unusedSimpArgs false
set_option linter.unusedVariables false
namespace Go.Proofs.Ytbgdgpdfaebniaa
def updW (bg : Nat → Option (List EV)) (x : Wr) : Nat → Option (List EV) := fun b => if b = x.b then (bg b).map (splice · x.off x.new) else bg b
def updN (bg : Nat → Option (List EV)) (nb : Nat) (n : Option (List EV)) : Nat → Option (List EV) := match n with
  | some cs => fun b => if b = nb then some cs else bg b
  | none => bg
def upd (bg : Nat → Option (List EV)) (nb : Nat) (n : Option (List EV)) (ws : List Wr) : Nat → Option (List EV) := updN (ws.foldl updW bg) nb n
section
variable {P : Program} {B : Base} {ow : Nat → Owner} {bx : Bx} {nb : Nat} {bg : Nat → Option (List EV)} {w : World}
/-- Only one block has changed, and it is a variable's. -/
theorem keeps_row (g : Nat) (b : Nat) (c : Array Value) (hg : ow g = .box b) : Keeps ow bx w ow bx (w.setRow g c) := by
  have hne : ∀ blk, ow blk ≠ .box b → (w.setRow g c).heap[blk]? = w.heap[blk]? := fun blk h => setRow_other w g blk c (fun e => h (by rw [e]; exact hg))
  exact ⟨.of fun blk n h => ⟨h, hne blk (rigid_box h b)⟩, fun blk k fr h _ => ⟨h, hne blk (by rw [h]; intro e; cases e)⟩, fun _ h => h, fun b h => ⟨rfl, h⟩⟩
theorem Inv.write (hi : Inv B ow bx nb bg w) {b : Nat} {cs new : List EV} {off : Nat} {nvs : List Value} (hb : bg b = some cs) (hn : RepCs ow bx w new nvs) (hle : off + new.length ≤ cs.length) :
    ∃ c T, w.heap[bx b]? = some (.cells c T (0, 0)) ∧ c.size = cs.length ∧ RepCs ow bx w cs c.toList ∧
      Keeps ow bx w ow bx (w.setRow (bx b) (c.toList.take off ++ nvs ++ c.toList.drop (off + nvs.length)).toArray) ∧
      Inv B ow bx nb (updW bg ⟨b, off, new⟩) (w.setRow (bx b) (c.toList.take off ++ nvs ++ c.toList.drop (off + nvs.length)).toArray) := by
  obtain ⟨ho, c, T, hc, hr⟩ := hi.box b cs hb
  have hk := keeps_row (bx := bx) (w := w) (bx b) b (c.toList.take off ++ nvs ++ c.toList.drop (off + nvs.length)).toArray ho
  refine ⟨c, T, hc, by have := hr.1; simpa using this.symm, hr, hk, ?_⟩
  have hne : ∀ blk, ow blk ≠ .box b → (w.setRow (bx b) (c.toList.take off ++ nvs ++ c.toList.drop (off + nvs.length)).toArray).heap[blk]? = w.heap[blk]? :=
    fun blk h => setRow_other w (bx b) blk _ (fun e => h (by rw [e]; exact ho))
  constructor
  · intro b' cs' hb'
    unfold updW at hb'
    simp only at hb'
    split at hb'
    · rename_i e
      subst e
      rw [hb] at hb'
      simp only [Option.map_some, Option.some.injEq] at hb'
      subst hb'
      exact ⟨ho, _, T, setRow_heap w (bx b') c _ T (0, 0) hc, by simpa using (hr.splice hn off).keep hk⟩
    · rename_i e
      obtain ⟨ho', c', T', hc', hr'⟩ := hi.box b' cs' hb'
      refine ⟨ho', c', T', ?_, hr'.keep hk⟩
      rw [hne _ (by rw [ho']; intro h; cases h; exact e rfl)]
      exact hc'
  · intro blk b' h
    obtain ⟨h1, h2, h3⟩ := hi.back blk b' h
    refine ⟨h1, ?_, h3⟩
    unfold updW
    simp only
    split
    · rename_i e; subst e; rw [hb]; rfl
    · exact h2
  · intro blk h; rw [setRow_size]; exact hi.here blk h
  · intro blk h1 h2
    obtain ⟨g1, g3, g2⟩ := hi.old blk h1 h2
    refine ⟨?_, g3, g2⟩
    rw [hne blk (g2.1 b)]
    exact g1
  · rw [setRow_size]; exact hi.size
  · exact hi.env
  · intro b' hb'
    obtain ⟨h1, h2⟩ := hi.kept b' hb'
    refine ⟨h1, ?_⟩
    unfold updW
    simp only
    split
    · rename_i e; subst e; rw [hb]; rfl
    · exact h2
/-- A new block behind all others. -/
theorem keeps_push (x : Obj) (own : Owner) (b : Nat) (hh : ∀ blk, ow blk ≠ .junk → blk < w.heap.size) (hb : ∀ b', ow (bx b') = .box b' → b' ≠ b) :
    Keeps ow bx w (fun blk => if blk = w.heap.size then own else ow blk) ⟨fun b' => if b' = b then w.heap.size else bx b', bx.dead⟩ { w with heap := w.heap.push x } := by
  have hne : ∀ blk, ow blk ≠ .junk → blk ≠ w.heap.size := fun blk h e => by have := hh blk h; omega
  have hget : ∀ blk, ow blk ≠ .junk → (w.heap.push x)[blk]? = w.heap[blk]? := fun blk h => by
    have := hh blk h
    rw [Array.getElem?_push]; simp [show blk ≠ w.heap.size by omega]
  refine ⟨.of fun blk n h => ?_, fun blk k fr h _ => ?_, fun _ h => h, fun b' h => ?_⟩
  · have hj := rigid_live h
    exact ⟨rigid_eq h (by simp only [if_neg (hne blk hj)]), hget blk hj⟩
  · have hj : ow blk ≠ .junk := by rw [h]; intro e; cases e
    exact ⟨by simp only [if_neg (hne blk hj)]; exact h, hget blk hj⟩
  · have hj : ow (bx b') ≠ .junk := by rw [h]; intro e; cases e
    exact ⟨by simp only [if_neg (hb b' h)], by simp only [if_neg (hne _ hj)]; exact h⟩
theorem Inv.push (hi : Inv B ow bx nb bg w) {b : Nat} {cs : List EV} {c : Array Value} (T : TypeId) (hb : bg b = none) (hlt : b < nb) (hc : RepCs ow bx w cs c.toList) :
    Keeps ow bx w (fun blk => if blk = w.heap.size then .box b else ow blk) ⟨fun b' => if b' = b then w.heap.size else bx b', bx.dead⟩ { w with heap := w.heap.push (.cells c T) } ∧
    Inv B (fun blk => if blk = w.heap.size then .box b else ow blk) ⟨fun b' => if b' = b then w.heap.size else bx b', bx.dead⟩ nb (updN bg b (some cs)) { w with heap := w.heap.push (.cells c T) } := by
  have hbne : ∀ b', ow (bx b') = .box b' → b' ≠ b := fun b' h e => by
    subst e
    have := (hi.back _ _ h).2.1
    rw [hb] at this
    cases this
  have hk := keeps_push (bx := bx) (.cells c T) (.box b) b hi.here hbne
  refine ⟨hk, ?_⟩
  have hne : ∀ blk, ow blk ≠ .junk → blk ≠ w.heap.size := fun blk h e => by have := hi.here blk h; omega
  constructor
  · intro b' cs' hb'
    simp only [updN] at hb'
    split at hb'
    · rename_i e
      subst e
      cases hb'
      refine ⟨by simp, c, T, by simp, hc.keep hk⟩
    · rename_i e
      obtain ⟨ho', c', T', hc', hr'⟩ := hi.box b' cs' hb'
      have hj : ow (bx b') ≠ .junk := by rw [ho']; intro e; cases e
      refine ⟨?_, c', T', ?_, hr'.keep hk⟩
      · simp only [if_neg e, if_neg (hne _ hj)]; exact ho'
      · simp only [if_neg e]
        rw [Array.getElem?_push]
        simp only [if_neg (hne _ hj)]
        exact hc'
  · intro blk b' h
    split at h
    · rename_i e
      cases h
      exact ⟨by simp [e], by simp [updN], hlt⟩
    · obtain ⟨h1, h2, h3⟩ := hi.back blk b' h
      have : b' ≠ b := hbne b' (by rw [← h1]; exact h)
      exact ⟨by simp only [if_neg this]; exact h1, by simp only [updN, if_neg this]; exact h2, h3⟩
  · intro blk h
    split at h
    · rename_i e; simp [e]
    · have := hi.here blk h; simp; omega
  · intro blk h1 h2
    obtain ⟨g1, g3, g2⟩ := hi.old blk h1 h2
    have hs := hi.size
    have : blk ≠ w.heap.size := by omega
    refine ⟨?_, by simp only [if_neg this]; exact g3, by simp only [if_neg this]; exact g2⟩
    rw [Array.getElem?_push]
    simp only [if_neg this]
    exact g1
  · have := hi.size; simp; omega
  · exact hi.env
  · intro b' hb'
    obtain ⟨h1, h2⟩ := hi.kept b' hb'
    have : b' ≠ b := fun e => by subst e; rw [hb] at h2; cases h2
    exact ⟨by simp only [if_neg this]; exact h1, by simp only [updN, if_neg this]; exact h2⟩
/-- A new block of data that is never written again. -/
theorem Inv.pushStable (hi : Inv B ow bx nb bg w) (own : Owner) (x : Obj) (hown : own = .stable ∨ own = .junk ∨ ∃ k fr, own = .tok k fr) :
    Keeps ow bx w (fun blk => if blk = w.heap.size then own else ow blk) bx { w with heap := w.heap.push x } ∧
    Inv B (fun blk => if blk = w.heap.size then own else ow blk) bx nb bg { w with heap := w.heap.push x } := by
  have hne : ∀ blk, ow blk ≠ .junk → blk ≠ w.heap.size := fun blk h e => by have := hi.here blk h; omega
  have hget : ∀ blk, ow blk ≠ .junk → (w.heap.push x)[blk]? = w.heap[blk]? := fun blk h => by
    have := hi.here blk h
    rw [Array.getElem?_push]; simp [show blk ≠ w.heap.size by omega]
  have hk : Keeps ow bx w (fun blk => if blk = w.heap.size then own else ow blk) bx { w with heap := w.heap.push x } := by
    refine ⟨.of fun blk n h => ?_, fun blk k fr h _ => ?_, fun _ h => h, fun b' h => ?_⟩
    · have hj := rigid_live h
      exact ⟨rigid_eq h (by simp only [if_neg (hne blk hj)]), hget blk hj⟩
    · have hj : ow blk ≠ .junk := by rw [h]; intro e; cases e
      exact ⟨by simp only [if_neg (hne blk hj)]; exact h, hget blk hj⟩
    · have hj : ow (bx b') ≠ .junk := by rw [h]; intro e; cases e
      exact ⟨rfl, by simp only [if_neg (hne _ hj)]; exact h⟩
  refine ⟨hk, ?_⟩
  constructor
  · intro b' cs' hb'
    obtain ⟨ho', c', T', hc', hr'⟩ := hi.box b' cs' hb'
    have hj : ow (bx b') ≠ .junk := by rw [ho']; intro e; cases e
    exact ⟨by simp only [if_neg (hne _ hj)]; exact ho', c', T', by rw [hget _ hj]; exact hc', hr'.keep hk⟩
  · intro blk b' h
    split at h
    · rcases hown with e | e | ⟨k, fr, e⟩ <;> rw [e] at h <;> cases h
    · exact hi.back blk b' h
  · intro blk h
    split at h
    · rename_i e; simp [e]
    · have := hi.here blk h; simp; omega
  · intro blk h1 h2
    obtain ⟨g1, g3, g2⟩ := hi.old blk h1 h2
    have hs := hi.size
    have : blk ≠ w.heap.size := by omega
    refine ⟨?_, by simp only [if_neg this]; exact g3, by simp only [if_neg this]; exact g2⟩
    rw [Array.getElem?_push]
    simp only [if_neg this]
    exact g1
  · have := hi.size; simp; omega
  · exact hi.env
  · exact hi.kept
end
end Go.Proofs.Ytbgdgpdfaebniaa
