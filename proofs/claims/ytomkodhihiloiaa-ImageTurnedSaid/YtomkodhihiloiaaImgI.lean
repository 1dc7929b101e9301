/- Images: what is opened, on both sides. -/
import Derived.Test.YtomkodhihiloiaaImgH
set_option linter.unusedSimpArgs false
set_option linter.unusedVariables false
namespace Go.Proofs.Ytomkodhihiloiaa
open Go.RowKit
theorem toList_loop (b : ByteArray) : ∀ (k i : Nat) (r : List UInt8), b.size - i = k → ByteArray.toList.loop b i r = r.reverse ++ b.data.toList.drop i := by
  intro k
  induction k with
  | zero =>
    intro i r h
    rw [ByteArray.toList.loop, if_neg (by omega), List.drop_eq_nil_of_le (by rw [Array.length_toList]; exact Nat.le_of_sub_eq_zero h), List.append_nil]
  | succ k ih =>
    intro i r h
    have hi : i < b.size := by omega
    rw [ByteArray.toList.loop, if_pos hi, ih (i + 1) _ (by omega), List.reverse_cons, List.append_assoc]
    congr 1
    have hi' : i < b.data.toList.length := by rw [Array.length_toList]; exact hi
    rw [List.drop_eq_getElem_cons hi']
    simp only [List.singleton_append, List.cons.injEq, and_true]
    have hd : i < b.data.size := hi
    show b.data[i]! = _
    rw [getElem!_pos b.data i hd, Array.getElem_toList]
theorem bytesOf_toList (l : List Int) : (bytesOf l).toList = l.map fun n => UInt8.ofNat n.toNat := by
  show ByteArray.toList.loop (bytesOf l) 0 [] = _
  rw [toList_loop _ _ _ _ rfl]
  simp [bytesOf]
theorem byte_inj {a b : Int} (ha : 0 ≤ a ∧ a ≤ 255) (hb : 0 ≤ b ∧ b ≤ 255) (h : UInt8.ofNat a.toNat = UInt8.ofNat b.toNat) : a = b := by
  have := congrArg UInt8.toNat h
  simp only [UInt8.toNat_ofNat'] at this
  omega
theorem map_byte_inj : ∀ {l m : List Int}, ByL l → ByL m → (l.map fun n => UInt8.ofNat n.toNat) = (m.map fun n => UInt8.ofNat n.toNat) → l = m
  | [], [], _, _, _ => rfl
  | [], _ :: _, _, _, h => by simp at h
  | _ :: _, [], _, _, h => by simp at h
  | a :: l, b :: m, ha, hb, h => by
    simp only [List.map_cons, List.cons.injEq] at h
    rw [byte_inj (ha a (by simp)) (hb b (by simp)) h.1, map_byte_inj (fun c hc => ha c (by simp [hc])) (fun c hc => hb c (by simp [hc])) h.2]
theorem str_eq {l m : List Int} (hl : ByL l) (hm : ByL m) : ((bytesOf l).toList == (bytesOf m).toList) = decide (l = m) := by
  rw [bytesOf_toList, bytesOf_toList]
  by_cases h : l = m
  · rw [h, decide_eq_true rfl, beq_self_eq_true]
  · rw [decide_eq_false h]
    exact beq_false_of_ne fun h' => h (map_byte_inj hl hm h')
theorem manyR_all {α : Type} (P : α → Prop) (f : Rs → α × Rs) (hf : ∀ x, (f x).2.1 <:+ x.1) (hP : ∀ x, ByL x.1 → P (f x).1) (x : Rs) (hb : ByL x.1) : ∀ n, ∀ a ∈ (manyR f n x).1, P a
  | 0, a, ha => by cases ha
  | n + 1, a, ha => by
    rcases List.mem_append.1 ha with ha | ha
    · exact manyR_all P f hf hP x hb n a ha
    · rw [List.mem_singleton.1 ha]
      exact hP _ (byL_suf hb (manyR_suf f hf x n))
theorem segR_few (x : Rs) (hb : ByL x.1) : (segR x).1.2.1.length ≤ 64 ∧ (segR x).1.2.2.length ≤ 2 := by
  have s1 := numR_suf 8 true x
  have h1 := countR_range 1 64 (by decide) (numR 8 true x).2 (byL_suf hb s1)
  have s2 := countR_suf 1 64 (numR 8 true x).2
  have s3 := manyR_suf pieceR pieceR_suf (countR 1 64 (numR 8 true x).2).2 (countR 1 64 (numR 8 true x).2).1.toNat
  have h2 := countR_range 1 2 (by decide) (manyR pieceR (countR 1 64 (numR 8 true x).2).1.toNat (countR 1 64 (numR 8 true x).2).2).2 (byL_suf hb (s3.trans (s2.trans s1)))
  constructor
  · show (manyR pieceR _ _).1.length ≤ 64
    rw [manyR_length]; omega
  · show (manyR nextR _ _).1.length ≤ 2
    rw [manyR_length]; omega
theorem magic_by : ByL magicL := by unfold magicL; intro c hc; simp at hc; omega
theorem magic_str : (⟨#[79, 68, 79, 49]⟩ : ByteArray) = bytesOf magicL := rfl
theorem f_openI (b : List Int) (hb : ByL b) : F_image_Open b = some (openI b) := by
  unfold F_image_Open openI
  by_cases h1 : 1048576 < b.length
  · rw [if_pos h1, decide_eq_true (show (1048576 : Int) < (b.length : Int) by omega)]
    rfl
  rw [if_neg h1, decide_eq_false (show ¬ (1048576 : Int) < (b.length : Int) by omega)]
  simp only [cond_false]
  by_cases h2 : b.length < 6
  · rw [if_pos (.inl h2), decide_eq_true (show (b.length : Int) < 6 by omega)]
    simp only [Bool.not_true, Bool.not_false, Bool.or_true, chk_yes, cond_true]
  rw [decide_eq_false (show ¬ (b.length : Int) < 6 by omega), decide_eq_true (show (4 : Int) ≤ (b.length : Int) by omega)]
  simp only [Bool.not_false, Bool.not_true, Bool.or_false, Bool.and_self, chk_yes, cond_false]
  rw [show (4 : Int).toNat = 4 from rfl, show (0 : Int).toNat = 0 from rfl, List.drop_zero, magic_str, str_eq (byL_take hb 4) magic_by]
  by_cases h3 : b.take 4 = magicL
  · rw [if_neg (by rintro (h | h); · exact h2 h
                   · exact h h3), decide_eq_true h3]
    simp only [Bool.not_true, cond_false]
    rw [f_Sum b (byL_bytes hb) (by omega), Option.bind_some]
    by_cases h4 : crcI b = 0
    · have e : (crcI b != 0) = false := by simp [h4]
      rw [if_neg (not_not_intro h4), e]
      simp only [cond_false]
      rw [wrap_ok (n := (b.length : Int) - 2) (by omega), decide_eq_true (show (4 : Int) ≤ (b.length : Int) - 2 by omega), decide_eq_true (show (b.length : Int) - 2 ≤ (b.length : Int) by omega)]
      simp only [Bool.and_self, chk_yes]
      rw [show ((b.length : Int) - 2).toNat = b.length - 2 by omega]
      have hby := byL_drop (byL_take hb (b.length - 2)) 4
      have hln : ((b.take (b.length - 2)).drop 4).length ≤ 140737488355328 := by
        rw [List.length_drop, List.length_take]; omega
      generalize (b.take (b.length - 2)).drop 4 = y at *
      rw [f_c2 200 (y, false) hby hln, Option.bind_some]
      have hs := countR_suf 2 200 (y, false)
      have hr := countR_range 2 200 (by decide) (y, false) hby
      unfold bodyR
      generalize countR 2 200 (y, false) = c at *
      have hby := byL_suf hby hs
      have hln := Nat.le_trans hs.length_le hln
      obtain ⟨k, hk⟩ : ∃ k : Nat, c.1 = k := ⟨c.1.toNat, by omega⟩
      simp only []
      rw [hk, f_manyS k (by omega) c.2 hby hln, Option.bind_some, Int.toNat_natCast]
      have hs := manyR_suf segR segR_suf c.2 k
      have hfew : ∀ s ∈ (manyR segR k c.2).1, s.2.1.length ≤ big ∧ s.2.2.length ≤ big := manyR_all _ segR segR_suf (fun x hx => by
        have := segR_few x hx
        unfold big
        omega) c.2 hby k
      generalize manyR segR k c.2 = p at *
      have hby := byL_suf hby hs
      have hln := Nat.le_trans hs.length_le hln
      rw [f_c2 400 p.2 hby hln, Option.bind_some]
      have hs := countR_suf 2 400 p.2
      have hr := countR_range 2 400 (by decide) p.2 hby
      generalize countR 2 400 p.2 = d at *
      have hby := byL_suf hby hs
      have hln := Nat.le_trans hs.length_le hln
      obtain ⟨m, hm⟩ : ∃ m : Nat, d.1 = m := ⟨d.1.toNat, by omega⟩
      rw [hm, f_manyG m (by omega) d.2 hby hln, Option.bind_some, Int.toNat_natCast]
      have hs := manyR_suf grpR grpR_suf d.2 m
      generalize manyR grpR m d.2 = g at *
      by_cases h5 : g.2.2 = true ∨ g.2.1 ≠ []
      · rw [if_pos h5]
        have e : (bif g.2.2 then true else decide ((0 : Int) < (g.2.1.length : Int))) = true := by
          rcases h5 with h5 | h5
          · rw [h5]; rfl
          · have := List.length_pos_iff.2 h5
            rw [decide_eq_true (by omega)]; cases g.2.2 <;> rfl
        rw [e]
        rfl
      · rw [if_neg h5]
        have e : (bif g.2.2 then true else decide ((0 : Int) < (g.2.1.length : Int))) = false := by
          have h6 : ¬ g.2.2 = true := fun h => h5 (.inl h)
          have h7 : g.2.1 = [] := Classical.byContradiction fun h => h5 (.inr h)
          rw [h7, show g.2.2 = false by simpa using h6]
          rfl
        rw [e]
        simp only [cond_false]
        rw [f_Check (p.1, g.1) (fun _ s hs => hfew s hs), Option.bind_some]
        by_cases h8 : (checkI (p.1, g.1)).1 = 0
        · have e : ((checkI (p.1, g.1)).1 != 0) = false := by simp [h8]
          rw [if_neg (not_not_intro h8), e]
          rfl
        · have e : ((checkI (p.1, g.1)).1 != 0) = true := by simp [h8]
          rw [if_pos h8, e]
          rfl
    · have e : (crcI b != 0) = true := by simp [h4]
      rw [if_pos h4, e]
      rfl
  · rw [if_pos (.inr h3), decide_eq_false h3]
    rfl
end Go.Proofs.Ytomkodhihiloiaa
