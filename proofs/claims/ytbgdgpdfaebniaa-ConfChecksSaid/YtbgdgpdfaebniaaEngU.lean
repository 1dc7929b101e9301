/- A region does what the reading says, in any order. No program in sight. -/
import Derived.Test.YtbgdgpdfaebniaaEngT
set_option linter.unusedSimpArgs false
set_option linter.unusedVariables false
namespace Go.Proofs.Ytbgdgpdfaebniaa
/-- With an operation all have come that must come ahead of it. -/
def Closed (ops : Array Oper) (D : Nat → Bool) : Prop := ∀ (k : Nat) o, ops[k]? = some o → D k = true → ∀ e ∈ o.after, Region.binds .any e = true → D e.on = true
theorem fold_bits {acc : Array Nat} {i : Nat} : ∀ (l : List Edge) (s : Nat), (l.foldl (fun s e => if Region.binds .any e then s ||| 2 ^ e.on ||| acc.getD e.on 0 else s) s).testBit i = true →
    s.testBit i = true ∨ ∃ e ∈ l, Region.binds .any e = true ∧ (e.on = i ∨ (acc.getD e.on 0).testBit i = true)
  | [], s, h => .inl h
  | e :: r, s, h => by
    simp only [List.foldl_cons] at h
    rcases fold_bits r _ h with h | ⟨e', h1, h2, h3⟩
    · split at h
      · rename_i hb
        rw [Nat.testBit_or, Nat.testBit_or] at h
        simp only [Bool.or_eq_true] at h
        rcases h with (h | h) | h
        · exact .inl h
        · refine .inr ⟨e, by simp, hb, .inl ?_⟩
          rw [Nat.testBit_two_pow] at h
          simpa using h
        · exact .inr ⟨e, by simp, hb, .inr h⟩
      · exact .inl h
    · exact .inr ⟨e', by simp [h1], h2, h3⟩
theorem before_closed {ops : Array Oper} {D : Nat → Bool} (hC : Closed ops D) : ∀ (k i : Nat), ((Region.before ops).getD k 0).testBit i = true → D k = true → D i = true := by
  have key : ∀ (l : List Oper) (acc : Array Nat) (pre : Nat), acc.size = pre → (∀ (j : Nat) o, l[j]? = some o → ops[pre + j]? = some o) →
      (∀ k i, (acc.getD k 0).testBit i = true → D k = true → D i = true) →
      ∀ k i, ((l.foldl (fun acc o => acc.push (o.after.foldl (fun s e => if Region.binds .any e then s ||| 2 ^ e.on ||| acc.getD e.on 0 else s) 0)) acc).getD k 0).testBit i = true → D k = true → D i = true := by
    intro l
    induction l with
    | nil => intro acc pre _ _ h k i; exact h k i
    | cons o r ih =>
      intro acc pre hs hl h k i
      simp only [List.foldl_cons]
      refine ih _ (pre + 1) (by simp [hs]) (fun j o' hj => by have := hl (j + 1) o' (by simpa using hj); rwa [show pre + (j + 1) = pre + 1 + j by omega] at this) (fun k i hb hd => ?_) k i
      by_cases hk : k = pre
      · subst hk
        have hg : (acc.push (o.after.foldl (fun s e => if Region.binds .any e then s ||| 2 ^ e.on ||| acc.getD e.on 0 else s) 0)).getD k 0 = o.after.foldl (fun s e => if Region.binds .any e then s ||| 2 ^ e.on ||| acc.getD e.on 0 else s) 0 := by
          simp [Array.getD, ← hs]
        rw [hg, ← Array.foldl_toList] at hb
        rcases fold_bits _ _ hb with hb | ⟨e, he, hbind, hb⟩
        · simp at hb
        · have hde := hC k o (by have := hl 0 o rfl; simpa using this) hd e (by simpa using he) hbind
          rcases hb with hb | hb
          · rw [← hb]; exact hde
          · exact h e.on i hb hde
      · have hg : (acc.push (o.after.foldl (fun s e => if Region.binds .any e then s ||| 2 ^ e.on ||| acc.getD e.on 0 else s) 0)).getD k 0 = acc.getD k 0 := by
          rw [Array.getD_eq_getD_getElem?, Array.getD_eq_getD_getElem?, Array.getElem?_push]
          rw [if_neg (by omega)]
        rw [hg] at hb
        exact h k i hb hd
  intro k i h hd
  unfold Region.before at h
  rw [← Array.foldl_toList] at h
  exact key ops.toList #[] 0 rfl (fun j o hj => by simpa using hj) (fun k i h => by simp at h) k i h hd
theorem meets_spec : ∀ (a b : List Nat), meets a b = false → ∀ x ∈ a, x ∉ b
  | [], _, _, x, h => by simp at h
  | y :: r, b, h, x, hx => by
    simp only [meets, Bool.or_eq_false_iff] at h
    rcases List.mem_cons.1 hx with rfl | hx
    · intro hb
      have := h.1
      rw [List.any_eq_false] at this
      exact this x hb (by rw [Nat.beq_refl])
    · exact meets_spec r b h.2 x hx
theorem drawRow_spec {ops : Array Oper} {i : Nat} {x : Oper} {tx : List Nat × List Nat} : ∀ (ys : List Oper) (tys : List (List Nat × List Nat)) (ms : List Nat) (j : Nat), drawRow ops i x tx j ys tys ms = true →
    ∀ (k : Nat) y, ys[k]? = some y → ∃ ty m, tys[k]? = some ty ∧ ms[k]? = some m ∧ (m.testBit i = true ∨ apartE ops x y tx ty = true)
  | [], tys, ms, j, h, k, y, hy => by simp at hy
  | y :: ys, [], ms, j, h, k, y', hy => by simp [drawRow] at h
  | y :: ys, ty :: tys, [], j, h, k, y', hy => by simp [drawRow] at h
  | y :: ys, ty :: tys, m :: ms, j, h, k, y', hy => by
    simp only [drawRow, Bool.and_eq_true, Bool.or_eq_true] at h
    cases k with
    | zero => simp at hy; subst hy; exact ⟨ty, m, rfl, rfl, h.1⟩
    | succ k =>
      obtain ⟨ty', m', h1, h2, h3⟩ := drawRow_spec ys tys ms (j + 1) h.2 k y' (by simpa using hy)
      exact ⟨ty', m', by simpa using h1, by simpa using h2, h3⟩
theorem drawOK_spec {ops : Array Oper} : ∀ (xs : List Oper) (txs : List (List Nat × List Nat)) (ms : List Nat) (i : Nat), drawOK ops i xs txs ms = true →
    ∀ (j k : Nat) x y, j < k → xs[j]? = some x → xs[k]? = some y → ∃ tx ty m, txs[j]? = some tx ∧ txs[k]? = some ty ∧ ms[k]? = some m ∧ (m.testBit (i + j) = true ∨ apartE ops x y tx ty = true)
  | [], txs, ms, i, h, j, k, x, y, hjk, hx, hy => by simp at hx
  | x :: xs, [], ms, i, h, j, k, x', y, hjk, hx, hy => by simp [drawOK] at h
  | x :: xs, tx :: txs, [], i, h, j, k, x', y, hjk, hx, hy => by simp [drawOK] at h
  | x :: xs, tx :: txs, m :: ms, i, h, j, k, x', y, hjk, hx, hy => by
    simp only [drawOK, Bool.and_eq_true] at h
    cases k with
    | zero => omega
    | succ k =>
      cases j with
      | zero =>
        simp at hx
        subst hx
        obtain ⟨ty, m', h1, h2, h3⟩ := drawRow_spec xs txs ms (i + 1) h.1 k y (by simpa using hy)
        exact ⟨tx, ty, m', rfl, by simpa using h1, by simpa using h2, by simpa using h3⟩
      | succ j =>
        obtain ⟨tx', ty, m', h1, h2, h3, h4⟩ := drawOK_spec xs txs ms (i + 1) h.2 j k x' y (by omega) (by simpa using hx) (by simpa using hy)
        exact ⟨tx', ty, m', by simpa using h1, by simpa using h2, by simpa using h3, by rw [show i + (j + 1) = i + 1 + j by omega]; exact h4⟩
theorem backEdges_spec : ∀ (l : List Oper) (i : Nat), backEdges l i = true → ∀ (k : Nat) o, l[k]? = some o → ∀ e ∈ o.after, Region.binds .any e = true → e.on < i + k
  | [], i, _, k, o, ho => by simp at ho
  | o0 :: r, i, h, k, o, ho => by
    simp only [backEdges, Bool.and_eq_true] at h
    cases k with
    | zero =>
      simp at ho
      subst ho
      intro e he hb
      have := (Array.all_eq_true_iff_forall_mem.1 h.1) e he
      simp [hb] at this
      simpa using this
    | succ k =>
      intro e he hb
      have := backEdges_spec r (i + 1) h.2 k o (by simpa using ho) e he hb
      omega
section
variable {P : Program} {base : List EV} {ops : Array Oper} {s₀ s' : Rg} {ts : List TI} {B : Base}
theorem StD.congr {D D' : Nat → Bool} {a : Act} {w : World} {bg₀ : Nat → Option (List EV)} (h : ∀ k, k < ts.length → D k = D' k) (hst : StD B base ts s' bg₀ D a w) : StD B base ts s' bg₀ D' a w := by
  obtain ⟨ow, bx, h1, h2, h3, h4, h5⟩ := hst
  refine ⟨ow, bx, ?_, fun u hu => ?_, h3, h4, fun j => (h5 j).trans ⟨fun ⟨i, t, q1, q2, q3⟩ => ⟨i, t, q1, by rw [← h i (List.getElem?_eq_some_iff.1 q1).1]; exact q2, q3⟩, fun ⟨i, t, q1, q2, q3⟩ => ⟨i, t, q1, by rw [h i (List.getElem?_eq_some_iff.1 q1).1]; exact q2, q3⟩⟩⟩
  · have : (fun b => foldI D' ts 0 b (bg₀ b)) = fun b => foldI D ts 0 b (bg₀ b) := by
      funext b
      exact foldI_congr ts 0 _ fun j t ht _ => by rw [Nat.zero_add]; exact (h j (List.getElem?_eq_some_iff.1 ht).1).symm
    rw [this]
    exact h1
  · rcases h2 u hu with ⟨m, r, ⟨q1, q2, q3, q4⟩, q5⟩ | ⟨q1, q2⟩
    · exact .inl ⟨m, r, ⟨q1, by rw [← h m q1]; exact q2, q3, fun k k1 k2 k3 => q4 k k1 k2 (by rw [h k k2]; exact k3)⟩, q5⟩
    · exact .inr ⟨fun k k1 k2 => q1 k k1 (by rw [h k k1]; exact k2), q2⟩
/-- In any order. -/
theorem region_any (hL : Linked P base ops.toList s₀ ts s') (h0 : s₀.rs = []) (h1 : s₀.tw = []) (hB : backEdges ops.toList 0 = true) (hd : drawOK ops 0 ops.toList s'.tw (Region.before ops).toList = true) {Q : Exit → Act → World → Prop}
    (hQ : ∀ a w, StD B base ts s' (boxGet s₀.bx) (fun k => decide (k < ts.length)) a w → Q .normal a w) :
    ∀ (fuel : Nat) (listed : Array Bool) (a : Act) (w : World), listed.size = ops.size → ((List.range ops.size).filter fun k => !listed.getD k true).length = fuel → Closed ops (fun k => listed.getD k false) →
      StD B base ts s' (boxGet s₀.bx) (fun k => listed.getD k false) a w → wpAny P .any ops Q fuel listed a w := by
  have hlen := hL.length
  have hn : ts.length = ops.size := by simpa using hlen
  have hge : ∀ (listed : Array Bool) (k : Nat), listed.size = ops.size → k < ops.size → listed.getD k false = listed.getD k true := by
    intro listed k hs hk
    have : k < listed.size := by omega
    simp [Array.getD, this]
  -- nothing is ready: all have come
  have hall : ∀ (listed : Array Bool), listed.size = ops.size → Region.ready .any ops listed = [] → ∀ k, k < ops.size → listed.getD k false = true := by
    intro listed hs hr k
    induction k using Nat.strongRecOn with
    | _ k ih =>
      intro hk
      apply Classical.byContradiction
      intro hn
      have hf : listed.getD k true = false := by
        rw [← hge listed k hs hk]
        simpa using hn
      have : k ∈ Region.ready .any ops listed := by
        rw [mem_ready]
        refine ⟨hf, ops[k], by simp [hk], fun e he hb => ?_⟩
        have hlt := backEdges_spec ops.toList 0 hB k ops[k] (by simp [hk]) e he hb
        exact ih e.on (by omega) (by omega)
      rw [hr] at this
      simp at this
  intro fuel
  induction fuel with
  | zero =>
    intro listed a w hs hc hC hst
    have hno : ∀ k, k < ops.size → listed.getD k true = true := by
      intro k hk
      apply Classical.byContradiction
      intro hne
      have : k ∈ (List.range ops.size).filter fun k => !listed.getD k true := by
        rw [List.mem_filter]
        exact ⟨List.mem_range.2 hk, by simpa using hne⟩
      rw [List.eq_nil_of_length_eq_zero hc] at this
      simp at this
    have hready : Region.ready .any ops listed = [] := by
      apply List.eq_nil_iff_forall_not_mem.2
      intro k hk
      have := (mem_ready.1 hk)
      obtain ⟨q1, o, q2, _⟩ := this
      have hk' : k < ops.size := (Array.getElem?_eq_some_iff.1 q2).1
      rw [hno k hk'] at q1
      cases q1
    refine ⟨hready, hQ a w (hst.congr fun k hk => ?_)⟩
    rw [hall listed hs hready k (by omega)]
    exact (decide_eq_true hk).symm
  | succ fuel ih =>
    intro listed a w hs hc hC hst
    refine ⟨fun hready => hQ a w (hst.congr fun k hk => ?_), fun i hi => ?_⟩
    · rw [hall listed hs hready k (by omega)]
      exact (decide_eq_true hk).symm
    · obtain ⟨hun, o, ho, hedges⟩ := mem_ready.1 hi
      have hin : i < ops.size := (Array.getElem?_eq_some_iff.1 ho).1
      obtain ⟨t, ht⟩ : ∃ t, ts[i]? = some t := ⟨_, List.getElem?_eq_getElem (by omega)⟩
      have hDi : listed.getD i false = false := by rw [hge listed i hs hin]; exact hun
      have hget : ∀ k, (listed.setIfInBounds i true).getD k false = addD (fun k => listed.getD k false) i k := by
        intro k
        unfold addD
        by_cases hk : k = i
        · subst hk
          have : k < listed.size := by omega
          simp [Array.getD, this]
        · rw [if_neg hk, getD_set_ne false (fun e => hk e.symm)]
      have hC' : Closed ops (fun k => (listed.setIfInBounds i true).getD k false) := by
        intro k ok hok hk e he hb
        simp only [hget] at hk ⊢
        unfold addD at hk ⊢
        split
        · rfl
        · split at hk
          · rename_i hki
            subst hki
            rw [ho] at hok
            cases hok
            exact hedges e he hb
          · exact hC k ok hok hk e he hb
      have hbefore : ∀ k, ((Region.before ops).getD k 0).testBit i = true → listed.getD k false = false := by
        intro k hb
        cases hk : listed.getD k false with
        | false => rfl
        | true =>
          have := before_closed hC k i hb hk
          rw [hDi] at this
          cases this
      have hafter : ∀ k, k < i → ((Region.before ops).getD i 0).testBit k = true → listed.getD k false = true := by
        intro k hk hb
        have := before_closed hC' i k hb (by simp only [hget, addD]; simp)
        simp only [hget, addD] at this
        rw [if_neg (by omega)] at this
        exact this
      have hpair : ∀ j k x y, j < k → ops[j]? = some x → ops[k]? = some y → ((Region.before ops).getD k 0).testBit j = true ∨ ∃ tj tk, ts[j]? = some tj ∧ ts[k]? = some tk ∧ apartE ops x y (tj.tr, tj.wrs) (tk.tr, tk.wrs) = true := by
        intro j k x y hjk hx hy
        obtain ⟨tx, ty, m, d1, d2, d3, d4⟩ := drawOK_spec _ _ _ _ hd j k x y hjk (by simpa using hx) (by simpa using hy)
        rcases d4 with d4 | d4
        · refine .inl ?_
          have : (Region.before ops).getD k 0 = m := by
            have d3' : (Region.before ops)[k]? = some m := by simpa using d3
            rw [Array.getD_eq_getD_getElem?, d3']
            rfl
          rw [this]
          simpa using d4
        · have hjn : j < ts.length := by have := (Array.getElem?_eq_some_iff.1 hx).1; omega
          have hkn : k < ts.length := by have := (Array.getElem?_eq_some_iff.1 hy).1; omega
          have tw : ∀ (q : Nat) (oq : Oper) (tq : List Nat × List Nat) (hq : q < ts.length), ops[q]? = some oq → s'.tw[q]? = some tq → tq = ((ts[q]'hq).tr, (ts[q]'hq).wrs) := by
            intro q oq tq hq hoq htq
            obtain ⟨_, _, _, ⟨more, hm⟩, hl, _⟩ := hL.at q oq (ts[q]'hq) (by simpa using hoq) (List.getElem?_eq_getElem hq)
            rw [h1] at hl
            simp at hl
            rw [hm, List.getElem?_append_right (by omega), hl] at htq
            simp at htq
            exact htq.symm
          refine .inr ⟨_, _, List.getElem?_eq_getElem hjn, List.getElem?_eq_getElem hkn, ?_⟩
          rw [← tw j x tx hjn hx d1, ← tw k y ty hkn hy d2]
          exact d4
      have hwr : ∀ (k : Nat) u, ts[k]? = some u → ∀ b ∈ u.tr, b ∈ u.tr := fun _ _ _ b h => h
      refine region_step hL h0 ho ht (D := fun k => listed.getD k false) hDi ?_ ?_ ?_ ?_ hst fun a' w' hst' => ?_
      · -- the slots that it looks at
        intro u hu k hk hdk
        obtain ⟨ok, hok⟩ : ∃ ok, ops[k]? = some ok := ⟨_, Array.getElem?_eq_getElem (by omega)⟩
        obtain ⟨tk, htk⟩ : ∃ tk, ts[k]? = some tk := ⟨_, List.getElem?_eq_getElem hk⟩
        obtain ⟨hrk, _⟩ := rec_at hL h0 hok htk
        have hdst : ok.dst = some u := by unfold dstAt at hdk; rw [hrk] at hdk; exact hdk
        rcases Nat.lt_trichotomy k i with hlt | heq | hgt
        · refine ⟨fun _ => hlt, fun _ => ?_⟩
          rcases hpair k i ok o hlt hok ho with hb | ⟨tj, tk', _, _, hap⟩
          · exact hafter k hlt hb
          · simp only [apartE, Bool.and_eq_true] at hap
            exact absurd hu ((Oper.apart_spec hap.1.1.1).1 u hdst)
        · subst heq
          rw [ho] at hok
          cases hok
          exact ⟨fun h => (by rw [hDi] at h; cases h), fun h => by omega⟩
        · refine ⟨fun h => ?_, fun h => by omega⟩
          rcases hpair i k o ok hgt ho hok with hb | ⟨tj, tk', _, _, hap⟩
          · have := hbefore k hb
            rw [this] at h
            cases h
          · simp only [apartE, Bool.and_eq_true] at hap
            exact absurd hu ((Oper.apart_spec hap.1.1.1).2.2 u hdst)
      · intro b hb k u hu hbu
        have hk : k < ts.length := (List.getElem?_eq_some_iff.1 hu).1
        obtain ⟨ok, hok⟩ : ∃ ok, ops[k]? = some ok := ⟨_, Array.getElem?_eq_getElem (by omega)⟩
        rcases Nat.lt_trichotomy k i with hlt | heq | hgt
        · refine ⟨fun _ => hlt, fun _ => ?_⟩
          rcases hpair k i ok o hlt hok ho with hbb | ⟨tj, tk', e1, e2, hap⟩
          · exact hafter k hlt hbb
          · rw [hu] at e1; cases e1
            rw [ht] at e2; cases e2
            simp only [apartE, Bool.and_eq_true, Bool.not_eq_true'] at hap
            exact absurd hb (meets_spec _ _ hap.1.1.2 b hbu)
        · subst heq
          exact ⟨fun h => (by rw [hDi] at h; cases h), fun h => by omega⟩
        · refine ⟨fun h => ?_, fun h => by omega⟩
          rcases hpair i k o ok hgt ho hok with hbb | ⟨tj, tk', e1, e2, hap⟩
          · have := hbefore k hbb
            rw [this] at h
            cases h
          · rw [ht] at e1; cases e1
            rw [hu] at e2; cases e2
            simp only [apartE, Bool.and_eq_true, Bool.not_eq_true'] at hap
            exact absurd hbu (meets_spec _ _ hap.2 b hb)
      · intro k hgt hk hDk u hdk hou
        obtain ⟨ok, hok⟩ : ∃ ok, ops[k]? = some ok := ⟨_, Array.getElem?_eq_getElem (by omega)⟩
        obtain ⟨tk, htk⟩ : ∃ tk, ts[k]? = some tk := ⟨_, List.getElem?_eq_getElem hk⟩
        obtain ⟨hrk, _⟩ := rec_at hL h0 hok htk
        have hdst : ok.dst = some u := by unfold dstAt at hdk; rw [hrk] at hdk; exact hdk
        rcases hpair i k o ok hgt ho hok with hbb | ⟨tj, tk', _, _, hap⟩
        · have := hbefore k hbb
          rw [this] at hDk
          cases hDk
        · simp only [apartE, Bool.and_eq_true] at hap
          exact (Oper.apart_spec hap.1.1.1).2.1 u hou hdst
      · intro k u hgt hu hDk b hbu hbt
        have hk : k < ts.length := (List.getElem?_eq_some_iff.1 hu).1
        obtain ⟨ok, hok⟩ : ∃ ok, ops[k]? = some ok := ⟨_, Array.getElem?_eq_getElem (by omega)⟩
        rcases hpair i k o ok hgt ho hok with hbb | ⟨tj, tk', e1, e2, hap⟩
        · have := hbefore k hbb
          rw [this] at hDk
          cases hDk
        · rw [ht] at e1; cases e1
          rw [hu] at e2; cases e2
          simp only [apartE, Bool.and_eq_true, Bool.not_eq_true'] at hap
          exact meets_spec _ _ hap.1.2 b hbt hbu
      · refine ih _ a' w' (by simp [hs]) ?_ hC' (hst'.congr fun k hk => (hget k).symm)
        -- one fewer is left
        have hcnt : ∀ (l : List Nat), l.Nodup → i ∈ l → (l.filter fun k => !(listed.setIfInBounds i true).getD k true).length + 1 = (l.filter fun k => !listed.getD k true).length := by
          intro l
          induction l with
          | nil => intro _ h; simp at h
          | cons x r ihl =>
            intro hnd hmem
            rw [List.nodup_cons] at hnd
            have hsame : ∀ (r : List Nat), i ∉ r → (r.filter fun k => !(listed.setIfInBounds i true).getD k true) = r.filter fun k => !listed.getD k true := by
              intro r hr
              apply List.filter_congr
              intro k hk
              rw [getD_set_ne true (fun e => hr (by rw [e]; exact hk))]
            by_cases hx : x = i
            · subst hx
              have e1 : (listed.setIfInBounds x true).getD x true = true := by
                have : x < listed.size := by omega
                simp [Array.getD, this]
              rw [List.filter_cons, List.filter_cons, e1, hun, hsame r hnd.1]
              simp
            · have hmem' : i ∈ r := by
                rcases List.mem_cons.1 hmem with h | h
                · exact absurd h.symm hx
                · exact h
              have := ihl hnd.2 hmem'
              rw [List.filter_cons, List.filter_cons, getD_set_ne true (fun e => hx e.symm)]
              split
              · simp only [List.length_cons]; omega
              · exact this
        have := hcnt (List.range ops.size) List.nodup_range (List.mem_range.2 hin)
        omega
end
end Go.Proofs.Ytbgdgpdfaebniaa
