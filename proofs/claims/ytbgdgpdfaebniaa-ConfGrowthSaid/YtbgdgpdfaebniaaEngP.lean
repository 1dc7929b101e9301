/- A call does what is promised of the function: all together. No program in sight. -/
import Derived.Test.YtbgdgpdfaebniaaEngO
set_option linter.unusedSimpArgs false
set_option linter.unusedVariables false
namespace Go.Proofs.Ytbgdgpdfaebniaa
theorem setEnv_call {P : Program} {c : Con} (hc : ConOK P c) {es l l' : List EV} {a a' : List (Nat × Nat)} {rd : Nat → Option (List EV)} {x : c.ins.den} {y : c.outs.den} {ws : List Wr}
    (h1 : matchP 200 c.ps es [] = some (l, a)) (h2 : matchB rd 0 c.boxes a = some (l', a')) (hp : conPlain c (l ++ l').length a' = true) (h3 : packL c.ins (l ++ l') = some x) (h4 : c.F x = some y)
    (h5 : refillB rd a' 0 c.boxes ((unpackL c.outs c.nout y).drop c.rs.length) = some ws)
    {B : Base} {ow : Nat → Owner} {bx : Bx} {nb : Nat} {bg : Nat → Option (List EV)} {w : World} {args : Array Value} (id : Nat) (hi : Inv B ow bx nb bg w) (hargs : RepL ow bx w es args)
    (hrd : ∀ b ∈ a'.map (·.2), bg b = rd b) :
    Calls P c.f args w fun e w' => ∃ v ow', e = .returned v ∧ Keeps ow bx w ow' bx w' ∧ RepEV ow' bx w' (resEV ((unpackL c.outs c.nout y).take c.rs.length)) v ∧ Inv B ow' bx nb (upd bg id none ws) w' := by
  simp only [conPlain, Bool.and_eq_true] at hp
  obtain ⟨⟨⟨⟨⟨⟨hps, hbs⟩, hbl⟩, hrs⟩, hnin⟩, hbel⟩, hnout⟩ := hp
  have hnin := Nat.eq_of_beq_eq_true hnin
  obtain ⟨m1, m2, m3⟩ := match_fill (ow := ow) (ow' := owCall a' ow) (bx := bx) (bx' := bxCall a' bx) (w := w) 200 true c.ps es [] l a h1 hps
  obtain ⟨b1, b2, b3, b4⟩ := matchB_fill c.boxes 0 a l' a' h2 hbs
  have hok : AsgOK a' := b1 (m1 .nil)
  have htr := trCall hok ow bx
  obtain ⟨es', f1, f2, f3⟩ := m3 l'
  have hun : unpackL c.ins c.nin x = l ++ l' := by
    have := packL_unpackL c.ins (l ++ l') x h3 (fun e he => by
      rcases List.mem_append.1 he with he | he
      · exact matchP_dat _ _ _ _ _ _ h1 e he
      · have : ∀ (bs : List (List PT)) (i : Nat) (a : List (Nat × Nat)) (l : List EV) (a' : List (Nat × Nat)), matchB rd i bs a = some (l, a') → ∀ e ∈ l, ∃ t v, e = EV.dat t v := by
          intro bs
          induction bs with
          | nil => intro i a l a' h; simp only [matchB] at h; cases h; simp
          | cons pts r ih =>
            intro i a l a' h
            simp only [matchB] at h
            split at h
            · split at h
              · split at h
                · rename_i hm
                  split at h
                  · rename_i hr
                    cases h
                    intro e he
                    rcases List.mem_append.1 he with he | he
                    · exact matchP_dat _ _ _ _ _ _ hm e he
                    · exact ih _ _ _ _ hr e he
                  · cases h
                · cases h
              · cases h
            · cases h
        exact this _ _ _ _ _ h2 e he)
    rw [hnin] at this
    exact this
  have hargs0 : c.args0 x = es' := by unfold Con.args0; rw [hun, f1]
  have hboxes0 : c.boxes0 x = fillB c.boxes l' := by unfold Con.boxes0; rw [hun, f1]
  have hbelow := asgBelow_spec _ _ hbel
  -- what each box is
  have hbox : ∀ i, i < c.boxes.length → ∃ b cs cs', (i, b) ∈ a' ∧ bg b = some cs ∧ (fillB c.boxes l')[i]? = some (some cs') ∧ cs'.length = cs.length ∧
      (∀ (k : Nat) e e' v, cs[k]? = some e → cs'[k]? = some e' → RepEV ow bx w e v → RepEV (owCall a' ow) (bxCall a' bx) w e' v) ∧
      ∀ (k i' off : Nat) pts, c.boxes[i]? = some pts → pts[k]? = some (.ref i' off) → ∃ b', cs[k]? = some (.ptr b' off) ∧ (i', b') ∈ a' := by
    intro i hlt
    obtain ⟨b, cs, cs', k1, k2, k3, k4, k5, k6⟩ := b4 i hlt
    rw [Nat.zero_add] at k1
    refine ⟨b, cs, cs', k1, ?_, k3, k4, k5 ow _ bx _ w htr, k6⟩
    rw [hrd b (List.mem_map.2 ⟨(i, b), k1, rfl⟩)]
    exact k2
  have hcall : ∀ blk i, owCall a' ow blk = .box i → ∃ b, (i, b) ∈ a' ∧ ow blk = .box b ∧ blk = bx b := by
    intro blk i h
    unfold owCall at h
    split at h
    · cases h
    · rename_i b hb
      split at h
      · rename_i j hj
        cases h
        exact ⟨b, asgInv_mem _ _ _ hj, hb, (hi.back blk b hb).1⟩
      · cases h
    · cases h
    · cases h
    · cases h
  have hnotok : ∀ blk k fr, owCall a' ow blk ≠ .tok k fr := by
    intro blk k fr h
    unfold owCall at h
    split at h
    · cases h
    · split at h <;> cases h
    · cases h
    · cases h
    · cases h
  have hinv : Inv ⟨w, fun blk => ∃ b, owCall a' ow blk = .box b, owCall a' ow, c.boxes.length, bxCall a' bx⟩ (owCall a' ow) (bxCall a' bx) c.boxes.length (boxGet (c.boxes0 x)) w := by
    rw [hboxes0]
    constructor
    · intro i cs' hcs'
      rw [boxGet_spec] at hcs'
      have hlt : i < c.boxes.length := by rw [← b3]; exact (List.getElem?_eq_some_iff.1 hcs').1
      obtain ⟨b, cs, cs'', k1, k2, k3, k4, k5, _⟩ := hbox i hlt
      rw [hcs'] at k3
      cases k3
      obtain ⟨g1, c0, T, g2, g3⟩ := hi.box b cs k2
      obtain ⟨t1, t2⟩ := htr.bo i b k1 g1
      refine ⟨by rw [t1]; exact t2, c0, T, by rw [t1]; exact g2, by rw [k4, g3.1], fun k e v he hv => ?_⟩
      have hklt : k < cs.length := by rw [← k4]; exact (List.getElem?_eq_some_iff.1 he).1
      exact ⟨k5 k _ e v (List.getElem?_eq_getElem hklt) he (g3.2 k _ v (List.getElem?_eq_getElem hklt) hv).1, (g3.2 k _ v (List.getElem?_eq_getElem hklt) hv).2⟩
    · intro blk i h
      obtain ⟨b, k1, k2, k3⟩ := hcall blk i h
      have hlt := hbelow i b k1
      obtain ⟨t1, t2⟩ := htr.bo i b k1 (by rw [← k3]; exact k2)
      refine ⟨by rw [t1]; exact k3, ?_, hlt⟩
      obtain ⟨_, _, cs'', _, _, j3, _⟩ := hbox i hlt
      rw [boxGet_spec.2 j3]
      rfl
    · intro blk h
      refine hi.here blk fun e => h ?_
      simp [owCall, e]
    · intro blk _ h
      exact ⟨rfl, rfl, fun b hb => h ⟨b, hb⟩, hnotok blk⟩
    · exact Nat.le_refl _
    · exact ⟨rfl, rfl, rfl⟩
    · intro i hlt
      obtain ⟨_, _, cs'', _, _, j3, _⟩ := hbox i hlt
      exact ⟨rfl, by rw [boxGet_spec.2 j3]; rfl⟩
  have hrepl : RepL (owCall a' ow) (bxCall a' bx) w (c.args0 x) args := by
    rw [hargs0]
    refine ⟨by rw [f2]; exact hargs.1, fun i e v he hv => ?_⟩
    have hlt : i < es.length := by rw [← f2]; exact (List.getElem?_eq_some_iff.1 he).1
    exact f3 a' b2 htr i _ e v (List.getElem?_eq_getElem hlt) he (hargs.2 i _ v (List.getElem?_eq_getElem hlt) hv)
  refine (hc.go x y h4 w (owCall a' ow) (bxCall a' bx) args (fun _ => rfl) hinv hrepl).mono fun e w' ⟨v, ow', he, hinv', hv⟩ => ?_
  subst he
  -- the caller's view of the new world
  have hsz := hinv'.size
  simp only at hsz
  let ow2 : Nat → Owner := fun blk => if blk < w.heap.size then ow blk else match ow' blk with | .stable => .stable | .tok _ _ => .stable | .part _ => .stable | _ => .junk
  have hM : ∀ blk b, ow blk = .box b → (∀ i, (i, b) ∉ a') → owCall a' ow blk = .junk := by
    intro blk b hb hn
    unfold owCall
    rw [hb]
    simp only
    split
    · rename_i j hj; exact absurd (asgInv_mem _ _ _ hj) (hn j)
    · rfl
  have hold : ∀ blk, blk < w.heap.size → (∀ b, owCall a' ow blk ≠ .box b) → w'.heap[blk]? = w.heap[blk]? ∧ ow' blk = owCall a' ow blk := by
    intro blk hlt h
    obtain ⟨g1, g2, _⟩ := hinv'.old blk hlt (fun ⟨b, hb⟩ => h b hb)
    exact ⟨g1, g2⟩
  have hback : ∀ blk n, Rigid (owCall a' ow) blk n → Rigid ow blk n := by
    intro blk n h
    cases hb : ow blk with
    | stable => exact rigid_stable hb
    | tok k fr => rcases rigid_cases h with h | ⟨_, _, h, _⟩ | ⟨fr', h, hn⟩ <;> simp [owCall, hb] at h; subst h; exact rigid_tok hb hn
    | part fr => rcases rigid_cases h with h | ⟨_, _, h, _⟩ | ⟨fr', h, hn⟩ <;> simp [owCall, hb] at h; subst h; exact rigid_part hb hn
    | junk => rcases rigid_cases h with h | ⟨_, _, h, _⟩ | ⟨fr', h, hn⟩ <;> simp [owCall, hb] at h
    | box b =>
      rcases rigid_cases h with h | ⟨_, _, h, _⟩ | ⟨fr', h, hn⟩ <;> (simp only [owCall, hb] at h; split at h <;> cases h)
  have hst2 : ∀ blk n, Rigid ow' blk n → Rigid ow2 blk n := by
    intro blk n h
    by_cases hlt : blk < w.heap.size
    · refine rigid_eq (ow := ow) (hback blk n ?_) (by simp only [ow2, if_pos hlt])
      by_cases hm : ∀ b, owCall a' ow blk ≠ .box b
      · exact rigid_eq h (hold blk hlt hm).2.symm
      · exfalso
        obtain ⟨i, hcb⟩ : ∃ i, owCall a' ow blk = .box i := Classical.byContradiction fun hn => hm fun b hb => hn ⟨b, hb⟩
        obtain ⟨b, k1, k2, k3⟩ := hcall blk i hcb
        have hlt' := hbelow i b k1
        obtain ⟨t1, t2⟩ := htr.bo i b k1 (by rw [← k3]; exact k2)
        obtain ⟨k1', k2', k3'⟩ := refillB_spec c.boxes 0 _ ws h5 hbs (fun p hp => Nat.le_of_ble_eq_true (List.all_eq_true.1 hbl p hp))
        obtain ⟨b', cs', out', es'', q1, q2, q3, q4, _⟩ := k3' i hlt'
        have := (hinv'.box i es'' (boxGet_spec.2 q4)).1
        rw [t1, ← k3] at this
        exact rigid_box h i this
    · refine rigid_stable ?_
      simp only [ow2, if_neg hlt]
      rcases rigid_cases h with h | ⟨_, _, h, _⟩ | ⟨fr', h, hn⟩ <;> rw [h]
  have hkeep : Keeps ow bx w ow2 bx w' := by
    refine ⟨.of fun blk n h => ?_, fun blk k fr h _ => ?_, fun _ h => h, fun b h => ?_⟩
    · have hlt := hi.here blk (rigid_live h)
      exact ⟨rigid_eq h (by simp only [ow2, if_pos hlt]), (hold blk hlt (rigid_box (owCall_rigid h))).1⟩
    · have hlt := hi.here blk (by rw [h]; intro e; cases e)
      exact ⟨by simp only [ow2, if_pos hlt]; exact h, (hold blk hlt (by simp [owCall, h])).1⟩
    · have hlt := hi.here (bx b) (by rw [h]; intro e; cases e)
      exact ⟨rfl, by simp only [ow2, if_pos hlt]; exact h⟩
  have hdat : ∀ e ∈ unpackL c.outs c.nout y, ∃ t v, e = EV.dat t v := unpack_dat _ _ _
  have hv2 : RepEV ow2 bx w' (resEV ((unpackL c.outs c.nout y).take c.rs.length)) v := by
    unfold Con.res at hv
    exact res_dat _ (fun e he => hdat e (List.mem_of_mem_take he)) hst2 hv
  refine ⟨v, ow2, rfl, hkeep, hv2, ?_⟩
  obtain ⟨k1, k2, k3⟩ := refillB_spec c.boxes 0 _ ws h5 hbs (fun p hp => Nat.le_of_ble_eq_true (List.all_eq_true.1 hbl p hp))
  have hws : ∀ j, j < c.boxes.length → ∃ b out, (j, b) ∈ a' ∧ ws[j]? = some ⟨b, 0, out⟩ := by
    intro j hj
    obtain ⟨b, cs, out, es'', q1, q2, q3, _⟩ := k3 j hj
    rw [Nat.zero_add] at q1
    exact ⟨b, out, asgGet_mem _ _ _ q1, q3⟩
  have hwsb : ∀ (k : Nat) x, ws[k]? = some x → (k, x.b) ∈ a' := by
    intro k x hx
    have hk : k < c.boxes.length := by rw [← k1]; exact (List.getElem?_eq_some_iff.1 hx).1
    obtain ⟨b, out, g1, g2⟩ := hws k hk
    rw [hx] at g2
    cases g2
    exact g1
  constructor
  · intro b cs2 hb2
    simp only [upd, updN] at hb2
    by_cases hin : ∃ i, (i, b) ∈ a'
    · obtain ⟨i, hi'⟩ := hin
      have hlt := hbelow i b hi'
      obtain ⟨b', cs, out, es'', q1, q2, q3, q4, q5, q6, q7⟩ := k3 i hlt
      rw [Nat.zero_add, hok.key i b hi'] at q1
      cases q1
      obtain ⟨b0, cs0, cs0', p1, p2, p3, p4, p5, p6⟩ := hbox i hlt
      have : b0 = b := by have := hok.key i b0 p1; rw [hok.key i b hi'] at this; cases this; rfl
      subst this
      have hrdb : rd b0 = bg b0 := (hrd b0 (List.mem_map.2 ⟨(i, b0), hi', rfl⟩)).symm
      have hcs : cs = cs0 := by rw [hrdb, p2] at q2; cases q2; rfl
      subst hcs
      rw [foldl_updW_at ws bg b0 out cs i q3 p2 q6 (fun k x hx he => by
        have := hwsb k x hx
        rw [he] at this
        exact hok.inj k i b0 this hi')] at hb2
      cases hb2
      obtain ⟨g1, c0, T, g2, g3⟩ := hi.box b0 cs p2
      obtain ⟨t1, t2⟩ := htr.bo i b0 hi' g1
      obtain ⟨r1, c1, T1, r2, r3⟩ := hinv'.box i es'' (boxGet_spec.2 q4)
      rw [t1] at r1 r2
      have hltb := hi.here (bx b0) (by rw [g1]; intro e; cases e)
      refine ⟨by simp only [ow2, if_pos hltb]; exact g1, c1, T1, r2, by rw [← q5, r3.1], fun k e v' he hv' => ?_⟩
      have hklt : k < es''.length := by rw [q5]; exact (List.getElem?_eq_some_iff.1 he).1
      obtain ⟨r4, r5⟩ := r3.2 k _ v' (List.getElem?_eq_getElem hklt) hv'
      refine ⟨?_, r5⟩
      rcases q7 k e _ he (List.getElem?_eq_getElem hklt) with ⟨heq, hnew⟩ | ⟨i', off, pts, z1, z2, z3, z4⟩
      · rw [← heq] at r4 hnew
        obtain ⟨t, x, hx⟩ := hdat e (List.mem_of_mem_drop hnew)
        subst hx
        cases r4 with
        | dat r4 => exact .dat (r4.keep (KeepSt.of fun blk n hs => ⟨hst2 blk n hs, rfl⟩))
      · obtain ⟨b', y1, y2⟩ := p6 k i' off pts z1 z2
        rw [z4] at y1
        cases y1
        rw [z3] at r4
        have hklt' : k < c0.toList.length := by rw [← g3.1]; exact (List.getElem?_eq_some_iff.1 z4).1
        have hold' := (g3.2 k _ _ z4 (List.getElem?_eq_getElem hklt')).1
        generalize c0.toList[k]'hklt' = u at hold'
        cases hold' with
        | ptr hq =>
          obtain ⟨t3, _⟩ := htr.bo i' b' y2 hq
          have hltb' := hi.here (bx b') (by rw [hq]; intro e; cases e)
          cases r4 with
          | ptr _ =>
            rw [t3]
            exact .ptr (by simp only [ow2, if_pos hltb']; exact hq)
    · have hne : ∀ x ∈ ws, x.b ≠ b := fun x hx e => by
        obtain ⟨k, hk⟩ := List.getElem?_of_mem hx
        exact hin ⟨k, e ▸ hwsb k x hk⟩
      rw [foldl_updW_other ws bg b hne] at hb2
      obtain ⟨g1, c0, T, g2, g3⟩ := hi.box b cs2 hb2
      have hltb := hi.here (bx b) (by rw [g1]; intro e; cases e)
      have hj := hM (bx b) b g1 (fun i h => hin ⟨i, h⟩)
      exact ⟨by simp only [ow2, if_pos hltb]; exact g1, c0, T, by rw [(hold (bx b) hltb (by rw [hj]; intro b h; cases h)).1]; exact g2, g3.keep hkeep⟩
  · intro blk b h
    simp only [ow2] at h
    split at h
    · obtain ⟨g1, g2, g3⟩ := hi.back blk b h
      exact ⟨g1, by simp only [upd, updN]; rw [foldl_updW_isSome]; exact g2, g3⟩
    · split at h <;> cases h
  · intro blk h
    simp only [ow2] at h
    split at h
    · rename_i hlt; omega
    · split at h
      · rename_i hs; exact hinv'.here blk (by rw [hs]; intro e; cases e)
      · rename_i hs; exact hinv'.here blk (by rw [hs]; intro e; cases e)
      · rename_i hs; exact hinv'.here blk (by rw [hs]; intro e; cases e)
      · exact absurd rfl h
  · intro blk hlt hnm
    obtain ⟨g1, g2, g3⟩ := hi.old blk hlt hnm
    have hs := hi.size
    have hlt2 : blk < w.heap.size := by omega
    have hc' : ∀ b, owCall a' ow blk ≠ .box b := by
      intro b hb
      obtain ⟨b', _, k2, _⟩ := hcall blk b hb
      exact g3.1 b' k2
    refine ⟨by rw [(hold blk hlt2 hc').1]; exact g1, ?_, ?_⟩
    · simp only [ow2, if_pos hlt2]; exact g2
    · simp only [ow2, if_pos hlt2]; exact g3
  · have := hi.size; omega
  · obtain ⟨e1, e2, e3⟩ := hinv'.env
    obtain ⟨e4, e5, e6⟩ := hi.env
    exact ⟨by rw [e1]; exact e4, by rw [e2]; exact e5, by rw [e3]; exact e6⟩
  · intro b hb
    obtain ⟨h1, h2⟩ := hi.kept b hb
    exact ⟨h1, by simp only [upd, updN]; rw [foldl_updW_isSome]; exact h2⟩
end Go.Proofs.Ytbgdgpdfaebniaa
