/- The maker of scripts: what is made is admitted. -/
import Derived.Test.YtlkcanjbgaeceaaGreatMakeH
import Derived.Test.YtlkcanjbgaeceaaGreatLaw28F
set_option linter.unusedSimpArgs false
set_option linter.unusedVariables false
namespace Go.Proofs.YtlkcanjbgaeceaaGreat
open Go.RowKit
def s0f (t : Tick) : Int := t.2.1.1
def s1f (t : Tick) : Int := t.2.1.2
def Good (c : Cf) (L st v0 c0 c1 p0 p1 : Int) (tk : List Tick) (k : Nat) : Prop :=
  ∃ ca ca' : Int, StepOK c c0 c1 (turnI c.1 p0 s0f tk k) (turnI c.1 p1 s1f tk k) ca k (tk.getD k tk0) ca' ∧ (0 < k → lostAny (tk.getD (k - 1) tk0) = true → 1 ≤ ca) ∧
    (0 ≤ posI st tk (k + 1) ∧ posI st tk (k + 1) ≤ L) ∧ (-c.2.2.2.2.2.2.1 ≤ (tk.getD k tk0).1 ∧ (tk.getD k tk0).1 ≤ c.2.2.2.2.2.2.1) ∧
    (-c.2.2.2.2.2.2.2.1 ≤ (tk.getD k tk0).1 - prevI v0 tk k ∧ (tk.getD k tk0).1 - prevI v0 tk k ≤ c.2.2.2.2.2.2.2.1)
theorem tk_append {tk l : List Tick} : ∀ i, i < tk.length → (tk ++ l).getD i tk0 = tk.getD i tk0 := fun i hi => getD_append_left hi
theorem good_append {c : Cf} {L st v0 c0 c1 p0 p1 : Int} {tk l : List Tick} {k : Nat} (hk : k < tk.length) (h : Good c L st v0 c0 c1 p0 p1 tk k) : Good c L st v0 c0 c1 p0 p1 (tk ++ l) k := by
  obtain ⟨ca, ca', h1, h2, h3, h4, h5⟩ := h
  have hp := pos_same (st := st) (a := tk ++ l) (b := tk) (n := tk.length) (fun i hi => by rw [tk_append i hi]) (k + 1) (by omega)
  have ht0 := turn_same (p := c.1) (ph := p0) (slip := s0f) (a := tk ++ l) (b := tk) (n := tk.length) tk_append k (by omega)
  have ht1 := turn_same (p := c.1) (ph := p1) (slip := s1f) (a := tk ++ l) (b := tk) (n := tk.length) tk_append k (by omega)
  have hv : prevI v0 (tk ++ l) k = prevI v0 tk k := by
    unfold prevI
    rw [tk_append (k - 1) (by omega)]
  refine ⟨ca, ca', ?_, ?_, ?_, ?_, ?_⟩
  · rw [ht0, ht1, tk_append k hk]; exact h1
  · rw [tk_append (k - 1) (by omega)]; exact h2
  · rw [hp]; exact h3
  · rw [tk_append k hk]; exact h4
  · rw [tk_append k hk, hv]; exact h5
def RdOK (t : Tk) (rt : List Int) (st : Int) (tk : List Tick) (rd : List Rd) (j : Nat) : Prop :=
  ∃ k : Nat, k < tk.length ∧ PassOK t rt (k : Int) (posI st tk k) (posI st tk (k + 1)) (rd.getD j rd0) ∧ prevC rd j < (rd.getD j rd0).1
theorem rd_append {t : Tk} {rt : List Int} {st : Int} {tk l : List Tick} {rd m : List Rd} {j : Nat} (hj : j < rd.length) (h : RdOK t rt st tk rd j) : RdOK t rt st (tk ++ l) (rd ++ m) j := by
  obtain ⟨k, hk, h1, h2⟩ := h
  have e : (rd ++ m).getD j rd0 = rd.getD j rd0 := getD_append_left hj
  have e2 : prevC (rd ++ m) j = prevC rd j := by
    unfold prevC
    rw [getD_append_left (show j - 1 < rd.length by omega)]
  refine ⟨k, by simp; omega, ?_, ?_⟩
  · rw [e, pos_same (st := st) (a := tk ++ l) (b := tk) (n := tk.length) (fun i hi => by rw [tk_append i hi]) k (by omega), pos_same (st := st) (a := tk ++ l) (b := tk) (n := tk.length) (fun i hi => by rw [tk_append i hi]) (k + 1) (by omega)]
    exact h1
  · rw [e, e2]; exact h2
structure MInv (c : Cf) (t : Tk) (rt : List Int) (L st v0 c0 c1 p0 p1 : Int) (k : Nat) (tk : List Tick) (rd : List Rd) (po ve t0 t1 ca : Int) : Prop where
  len : tk.length = k
  pos : po = posI st tk k
  vel : ve = prevI v0 tk k
  can : Can c.2.2.2.2.2.2.2.1 L po ve
  spd : -c.2.2.2.2.2.2.1 ≤ ve ∧ ve ≤ c.2.2.2.2.2.2.1
  tn0 : t0 = turnI c.1 p0 s0f tk k
  tn1 : t1 = turnI c.1 p1 s1f tk k
  in0 : I64 t0
  in1 : I64 t1
  calm : 0 ≤ ca ∧ ca ≤ 1000000
  lost : 0 < k → lostAny (tk.getD (k - 1) tk0) = true → 1 ≤ ca
  good : ∀ i, i < k → Good c L st v0 c0 c1 p0 p1 tk i
  rlen : rd.length ≤ k
  rcyc : ∀ j, j < rd.length → (rd.getD j rd0).1 < k
  rord : ∀ j, j < rd.length → RdOK t rt st tk rd j
theorem minv_step {c : Cf} {t : Tk} {rt : List Int} {L st v0 c0 c1 p0 p1 : Int} {k : Nat} {tk : List Tick} {rd : List Rd} {po ve t0 t1 ca : Int} (h : MInv c t rt L st v0 c0 c1 p0 p1 k tk rd po ve t0 t1 ca) {y : Tick} {rd' : List Rd} {ca' : Int}
    (hs : StepOK c c0 c1 t0 t1 ca k y ca') (hc : Can c.2.2.2.2.2.2.2.1 L (po + y.1) y.1) (hv : -c.2.2.2.2.2.2.1 ≤ y.1 ∧ y.1 ≤ c.2.2.2.2.2.2.1) (ha : -c.2.2.2.2.2.2.2.1 ≤ y.1 - ve ∧ y.1 - ve ≤ c.2.2.2.2.2.2.2.1)
    (hp : rd' = rd ∨ ∃ r, rd' = rd ++ [r] ∧ PassOK t rt (k : Int) po (po + y.1) r) :
    MInv c t rt L st v0 c0 c1 p0 p1 (k + 1) (tk ++ [y]) rd' (po + y.1) y.1 (IntKind.i64.wrap (t0 + moreI c.1 y.1 y.2.1.1)) (IntKind.i64.wrap (t1 + moreI c.1 y.1 y.2.1.2)) ca' := by
  obtain ⟨h1, h2, h3, h4, h5, h6, h7, h8, h9, h10, h11, h12, h13, h14, h15⟩ := h
  have hpk := pos_same (st := st) (a := tk ++ [y]) (b := tk) (n := tk.length) (fun i hi => by rw [tk_append i hi])
  have ht0 := turn_same (p := c.1) (ph := p0) (slip := s0f) (a := tk ++ [y]) (b := tk) (n := tk.length) tk_append k (by omega)
  have ht1 := turn_same (p := c.1) (ph := p1) (slip := s1f) (a := tk ++ [y]) (b := tk) (n := tk.length) tk_append k (by omega)
  have hy : (tk ++ [y]).getD k tk0 = y := by rw [← h1]; exact getD_append_end
  have hpos : posI st (tk ++ [y]) (k + 1) = po + y.1 := by
    simp only [posI]
    rw [hpk k (by omega), hy, h2]
  refine ⟨by simp [h1], hpos.symm, ?_, hc, hv, ?_, ?_, wrap_i64 _, wrap_i64 _, hs.calm, ?_, ?_, ?_, ?_, ?_⟩
  · unfold prevI
    rw [if_neg (by omega), Nat.add_sub_cancel, hy]
  · simp only [turnI]
    rw [ht0, hy, ← h6]
    rfl
  · simp only [turnI]
    rw [ht1, hy, ← h7]
    rfl
  · intro _ hl
    rw [Nat.add_sub_cancel, hy] at hl
    rcases hs.right with ⟨_, _, q⟩ | ⟨_, _, q, _⟩
    · exact q hl
    · rw [q] at hl; cases hl
  · intro i hi
    by_cases hik : i < k
    · exact good_append (by omega) (h12 i hik)
    · have : i = k := by omega
      subst this
      refine ⟨ca, ca', ?_, ?_, ?_, ?_, ?_⟩
      · rw [ht0, ht1, hy, ← h6, ← h7]; exact hs
      · intro h0
        rw [tk_append (i - 1) (by omega)]
        exact h11 h0
      · rw [hpos]; exact ⟨hc.1, hc.2.1⟩
      · rw [hy]; exact hv
      · rw [hy]
        have : prevI v0 (tk ++ [y]) i = ve := by
          rw [h3]
          unfold prevI
          by_cases h0 : i = 0
          · rw [if_pos h0, if_pos h0]
          · rw [if_neg h0, if_neg h0, tk_append (i - 1) (by omega)]
        rw [this]; exact ha
  · rcases hp with rfl | ⟨r, rfl, _⟩
    · omega
    · simp; omega
  · rcases hp with rfl | ⟨r, rfl, hp⟩
    · intro j hj; have := h14 j hj; omega
    · intro j hj
      by_cases hjr : j < rd.length
      · rw [getD_append_left hjr]; have := h14 j hjr; omega
      · have : j = rd.length := by simp at hj; omega
        subst this
        rw [getD_append_end, hp.1]
        omega
  · rcases hp with rfl | ⟨r, rfl, hp⟩
    · intro j hj
      have := rd_append (l := [y]) (m := []) hj (h15 j hj)
      rwa [List.append_nil] at this
    · intro j hj
      by_cases hjr : j < rd.length
      · exact rd_append hjr (h15 j hjr)
      · have : j = rd.length := by simp at hj; omega
        subst this
        refine ⟨k, by simp; omega, ?_, ?_⟩
        · rw [getD_append_end, hpos, hpk k (by omega), ← h2]; exact hp
        · rw [getD_append_end, hp.1]
          unfold prevC
          by_cases h0 : rd.length = 0
          · rw [if_pos h0]; omega
          · rw [if_neg h0, getD_append_left (by omega)]
            exact h14 _ (by omega)
theorem sens_good {c : Cf} {L st v0 c0 c1 p0 p1 : Int} {tk : List Tick} {k : Nat} (hw : wrongC c = 0) (hk : k < tk.length) (h : Good c L st v0 c0 c1 p0 p1 tk k) :
    sensK c tk (countsL c.1 c0 p0 (fun t => t.2.1.1) tk) (countsL c.1 c1 p1 (fun t => t.2.1.2) tk) k = true := by
  obtain ⟨ca, ca', hs, hl, _, hv, _⟩ := h
  obtain ⟨cp, lo, hi, rb, rp, ae, ms, ma, an, sl, ss, ro, ti, br⟩ := c
  have R := right_iff.1 hw
  have hms := R.hms
  simp only [] at hs hv ⊢
  have hwr : (-rb ≤ (tk.getD k tk0).2.2.1 ∧ (tk.getD k tk0).2.2.1 ≤ rb) → wrongR (cp, lo, hi, rb, rp, ae, ms, ma, an, sl, ss, ro, ti, br) (tk.getD k tk0) = false := by
    intro hr
    have hrb := R.hrb
    unfold wrongR
    rw [wrap_ok (n := (tk.getD k tk0).1 + (tk.getD k tk0).2.2.1) (by omega), f_confError _ _ _ _ _ _ _ _ _ _ _ _ _ _ _ (by omega) R.hrb R.hrp]
    obtain ⟨e0, e1, e2⟩ := err_bound (r := (tk.getD k tk0).1 + (tk.getD k tk0).2.2.1) (by omega) R.hrb R.hrp
    simp only [Option.getD_some]
    rw [f_within28 _ _ (by omega)]
    have hE : rb ≤ errI rb rp ((tk.getD k tk0).1 + (tk.getD k tk0).2.2.1) := by
      have := Int.ediv_nonneg e0.1 (show (0 : Int) ≤ 1048576 by decide)
      unfold errI
      omega
    have : withB (tk.getD k tk0).2.2.1 (errI rb rp ((tk.getD k tk0).1 + (tk.getD k tk0).2.2.1)) = true := with_iff.2 ⟨by omega, by omega⟩
    rw [this]
    rfl
  rcases hs.right with ⟨q1, q2, _⟩ | ⟨q0, q1, q2, q3, q4⟩
  · unfold sensK
    rw [hwr q2, show ((tk.getD k tk0).2.1.1 != 0) = false by rw [q1]; rfl, show ((tk.getD k tk0).2.1.2 != 0) = false by rw [q1]; rfl]
    unfold sensB wrongN
    cases fitB 0 tk k <;> cases fitB 1 tk k <;> cases fitB 2 tk k <;> rfl
  · have hpl : lostAny (tk.getD (k - 1) tk0) = false := by
      cases hh : lostAny (tk.getD (k - 1) tk0) with
      | false => rfl
      | true => have := hl q0 hh; omega
    have l0 : ∀ t : Tick, lostAny t = false → lostI 0 t = false ∧ lostI 1 t = false ∧ lostI 2 t = false := by
      intro t ht
      unfold lostAny at ht
      rw [Bool.or_eq_false_iff, Bool.or_eq_false_iff] at ht
      exact ⟨ht.1.1, ht.1.2, ht.2⟩
    obtain ⟨a0, a1, a2⟩ := l0 _ q2
    obtain ⟨b0, b1, _⟩ := l0 _ hpl
    have f0 : fitB 0 tk k = true := by unfold fitB; rw [if_neg (by decide), a0, b0, decide_eq_true q0]; rfl
    have f1 : fitB 1 tk k = true := by unfold fitB; rw [if_neg (by decide), a1, b1, decide_eq_true q0]; rfl
    have f2 : fitB 2 tk k = true := by unfold fitB; rw [if_pos rfl, a2]; rfl
    obtain ⟨m, rfl⟩ : ∃ m, k = m + 1 := ⟨k - 1, by omega⟩
    have hco : ∀ (ci ph : Int) (slip : Tick → Int), tachoV lo hi cp ((countsL cp ci ph slip tk).getD (m + 1 - 1) 0) ((countsL cp ci ph slip tk).getD (m + 1) 0) =
        toldT lo hi cp ci (turnI cp ph slip tk (m + 1)) (moreI cp (tk.getD (m + 1) tk0).1 (slip (tk.getD (m + 1) tk0))) := by
      intro ci ph slip
      unfold countsL toldT
      rw [Nat.add_sub_cancel, map_getD (by omega), map_getD (by omega)]
      rfl
    unfold sensK
    rw [f0, f1, f2]
    simp only []
    rw [hco, hco]
    unfold showB s0f s1f at q3
    generalize toldT lo hi cp c0 (turnI cp p0 (fun t => t.2.1.1) tk (m + 1)) (moreI cp (tk.getD (m + 1) tk0).1 (tk.getD (m + 1) tk0).2.1.1) = x0 at *
    generalize toldT lo hi cp c1 (turnI cp p1 (fun t => t.2.1.2) tk (m + 1)) (moreI cp (tk.getD (m + 1) tk0).1 (tk.getD (m + 1) tk0).2.1.2) = x1 at *
    have done : ∀ w0 w1 w2 : Bool, ((w1 = false ∧ w2 = false) ∨ (w0 = false ∧ w2 = false) ∨ (w0 = false ∧ w1 = false)) → sensB true w0 true w1 true w2 x0 x1 (radarV (cp, lo, hi, rb, rp, ae, ms, ma, an, sl, ss, ro, ti, br) (tk.getD (m + 1) tk0)) = true := by
      intro w0 w1 w2 hw'
      unfold sensB
      rw [show saidL true true true x0 x1 (radarV (cp, lo, hi, rb, rp, ae, ms, ma, an, sl, ss, ro, ti, br) (tk.getD (m + 1) tk0)) = [x0, x1, radarV (cp, lo, hi, rb, rp, ae, ms, ma, an, sl, ss, ro, ti, br) (tk.getD (m + 1) tk0)] from rfl, q3]
      rcases hw' with ⟨rfl, rfl⟩ | ⟨rfl, rfl⟩ | ⟨rfl, rfl⟩
      · cases w0 <;> rfl
      · cases w1 <;> rfl
      · cases w2 <;> rfl
    apply done
    rcases q4 with ⟨u1, u2⟩ | ⟨u1, u2⟩ | u
    · exact .inl ⟨by rw [u1]; rfl, hwr u2⟩
    · exact .inr (.inl ⟨by rw [u1]; rfl, hwr u2⟩)
    · exact .inr (.inr ⟨by rw [u]; rfl, by rw [u]; rfl⟩)
end Go.Proofs.YtlkcanjbgaeceaaGreat
