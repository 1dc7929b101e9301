/- Images: what is put together is opened, and what is opened is put together. -/
import Derived.Test.YtomkodhihiloiaaImgM
set_option linter.unusedSimpArgs false
set_option linter.unusedVariables false
namespace Go.Proofs.Ytomkodhihiloiaa
open Go.RowKit
theorem p1 : (256 : Int) ^ 1 = 256 := by decide
theorem p2 : (256 : Int) ^ 2 = 65536 := by decide
theorem p4 : (256 : Int) ^ 4 = 4294967296 := by decide
theorem p3' : 128 * (256 : Int) ^ (4 - 1) = 2147483648 := by decide
theorem p7' : 128 * (256 : Int) ^ (8 - 1) = 9223372036854775808 := by decide
theorem num8_put (v : Int) (l : List Int) (h : I64 v) : numR 8 true (putL v 8 ++ l, false) = (v, l, false) := by
  obtain ⟨h1, h2⟩ := h
  exact numR_puts 8 (by decide) v l (by rw [p7']; omega) (by rw [p7']; omega)
theorem num4s_put (v : Int) (l : List Int) (h : -2147483648 ≤ v ∧ v ≤ 2147483647) : numR 4 true (putL v 4 ++ l, false) = (v, l, false) :=
  numR_puts 4 (by decide) v l (by rw [p3']; omega) (by rw [p3']; omega)
theorem count_put (n : Nat) (most v : Int) (l : List Int) (h : 0 ≤ v ∧ v < 256 ^ n) (hm : v ≤ most) : countR n most (putL v n ++ l, false) = (v, l, false) := by
  unfold countR
  rw [numR_put n v l h, if_neg (by simp only []; omega)]
theorem many_put {α : Type} (f : Rs → α × Rs) (P : α → List Int) (l : List α) (h : ∀ a ∈ l, ∀ r, f (P a ++ r, false) = (a, r, false)) (r : List Int) :
    ∀ k, k ≤ l.length → manyR f k (l.flatMap P ++ r, false) = (l.take k, (l.drop k).flatMap P ++ r, false)
  | 0, _ => by simp [manyR]
  | k + 1, hk => by
    have hk' : k < l.length := hk
    have e : l.drop k = l[k] :: l.drop (k + 1) := List.drop_eq_getElem_cons hk'
    rw [manyR, many_put f P l h r k (by omega), e, List.flatMap_cons, List.append_assoc]
    simp only []
    rw [h l[k] (List.getElem_mem hk')]
    simp only []
    rw [List.take_add_one, List.getElem?_eq_getElem hk']
    rfl
theorem many_put_all {α : Type} (f : Rs → α × Rs) (P : α → List Int) (l : List α) (h : ∀ a ∈ l, ∀ r, f (P a ++ r, false) = (a, r, false)) (r : List Int) :
    manyR f l.length (l.flatMap P ++ r, false) = (l, r, false) := by
  rw [many_put f P l h r l.length (Nat.le_refl _)]
  simp
theorem piece_put (p : Int × Int) (h1 : I64 p.1) (h2 : -1048576 ≤ p.2 ∧ p.2 ≤ 1048576) (r : List Int) : pieceR (pieceP p ++ r, false) = (p, r, false) := by
  unfold pieceR pieceP
  rw [List.append_assoc, num8_put _ _ h1]
  simp only []
  rw [num4s_put _ _ (by omega)]
theorem seg_put (n : Nat) (hn : n ≤ 200) (s : Sg) (hs : segB n s = true) (hN : I64 s.1 ∧ ∀ p ∈ s.2.1, I64 p.1 ∧ I64 p.2) (r : List Int) : segR (segP s ++ r, false) = (s, r, false) := by
  obtain ⟨a, ps, ws⟩ := s
  unfold segB gradeB at hs
  simp only [Bool.and_eq_true, decide_eq_true_eq] at hs
  obtain ⟨⟨⟨⟨_, _⟩, ⟨⟨⟨h1, h2⟩, _⟩, hp⟩⟩, h3⟩, hw⟩ := hs
  simp only [] at hN h1 h2 hp h3 hw
  have hP : ∀ p ∈ ps, ∀ r, pieceR (pieceP p ++ r, false) = (p, r, false) := by
    intro p hpm r
    obtain ⟨i, hi, rfl⟩ := List.mem_iff_getElem.1 hpm
    have hh := List.all_eq_true.1 hp i (List.mem_range.2 hi)
    unfold pieceB at hh
    rw [getD_lt hi] at hh
    simp only [Bool.and_eq_true, decide_eq_true_eq] at hh
    exact piece_put _ (hN.2 _ hpm).1 (by omega) r
  have hW : ∀ v ∈ ws, ∀ r, nextR (putL v 1 ++ r, false) = (v, r, false) := by
    intro v hvm r
    obtain ⟨i, hi, rfl⟩ := List.mem_iff_getElem.1 hvm
    have hh := List.all_eq_true.1 hw i (List.mem_range.2 hi)
    unfold wayB at hh
    rw [getD_lt hi] at hh
    simp only [Bool.and_eq_true, decide_eq_true_eq] at hh
    exact numR_put 1 _ r (by rw [p1]; omega)
  unfold segR segP
  simp only [List.append_assoc]
  rw [num8_put _ _ hN.1]
  simp only []
  rw [count_put 1 64 _ _ (by rw [p1]; omega) (by omega)]
  simp only [Int.toNat_natCast]
  rw [many_put_all pieceR pieceP ps hP]
  simp only []
  rw [count_put 1 2 _ _ (by rw [p1]; omega) (by omega)]
  simp only [Int.toNat_natCast]
  rw [many_put_all nextR (putL · 1) ws hW]
theorem grp_put (t : Tk) (ht : t.1.length ≤ 200) (i : Nat) (g : Gp) (hg : grpB t i g = true) (hN : I64 g.2.2.1) (r : List Int) : grpR (grpP g ++ r, false) = (g, r, false) := by
  unfold grpB at hg
  simp only [Bool.and_eq_true, decide_eq_true_eq] at hg
  unfold grpR grpP
  simp only [List.append_assoc]
  rw [numR_put 2 _ _ (by rw [p2]; omega)]
  simp only []
  rw [numR_put 1 _ _ (by rw [p1]; omega)]
  simp only []
  rw [num8_put _ _ hN]
  simp only []
  rw [numR_put 4 _ _ (by rw [p4]; omega)]
  simp only []
  rw [numR_put 4 _ _ (by rw [p4]; omega)]
theorem body_put (t : Tk) (h : (checkI t).1 = 0) (hN : Nums t) : bodyR (bodyP t, false) = (t, [], false) := by
  obtain ⟨c1, c2, c3, _, _⟩ := check_ok12 h
  have hs := check_segs h
  have hg := check_grps h
  have e : bodyP t = putL (t.1.length : Int) 2 ++ (t.1.flatMap segP ++ (putL (t.2.length : Int) 2 ++ (t.2.flatMap grpP ++ []))) := by
    unfold bodyP
    simp only [List.append_assoc, List.append_nil]
  unfold bodyR
  rw [e, count_put 2 200 _ _ (by rw [p2]; omega) (by omega)]
  simp only [Int.toNat_natCast]
  rw [many_put_all segR segP t.1 fun s hm r => seg_put _ c2 s (hs s hm) (hN.1 s hm) r]
  simp only []
  rw [count_put 2 400 _ _ (by rw [p2]; omega) (by omega)]
  simp only [Int.toNat_natCast]
  rw [many_put_all grpR grpP t.2 fun g hm r => by
    obtain ⟨i, hi⟩ := hg g hm
    exact grp_put t c2 i g hi (hN.2 g hm).2.1 r]
/-- Back. -/
theorem count_back (n : Nat) (most : Int) (x : Rs) (hb : ByL x.1) (h : (countR n most x).2.2 = false) : x.2 = false ∧ x.1 = putL (countR n most x).1 n ++ (countR n most x).2.1 := by
  unfold countR at h ⊢
  by_cases hc : most < (numR n false x).1
  · rw [if_pos hc] at h; cases h
  · rw [if_neg hc] at h ⊢
    exact numR_back n false x hb h
theorem many_back {α : Type} (f : Rs → α × Rs) (hf : ∀ x, (f x).2.1 <:+ x.1) (P : α → List Int) (h : ∀ x, ByL x.1 → (f x).2.2 = false → x.2 = false ∧ x.1 = P (f x).1 ++ (f x).2.1) (x : Rs) (hb : ByL x.1) :
    ∀ n, (manyR f n x).2.2 = false → x.2 = false ∧ x.1 = (manyR f n x).1.flatMap P ++ (manyR f n x).2.1
  | 0, h0 => ⟨h0, rfl⟩
  | n + 1, h0 => by
    obtain ⟨h1, h2⟩ := h (manyR f n x).2 (byL_suf hb (manyR_suf f hf x n)) h0
    obtain ⟨h3, h4⟩ := many_back f hf P h x hb n h1
    refine ⟨h3, ?_⟩
    show x.1 = ((manyR f n x).1 ++ [(f (manyR f n x).2).1]).flatMap P ++ (f (manyR f n x).2).2.1
    rw [List.flatMap_append, List.flatMap_singleton, List.append_assoc, ← h2]
    exact h4
theorem piece_back (x : Rs) (hb : ByL x.1) (h : (pieceR x).2.2 = false) : x.2 = false ∧ x.1 = pieceP (pieceR x).1 ++ (pieceR x).2.1 := by
  obtain ⟨h1, h2⟩ := numR_back 4 true (numR 8 true x).2 (byL_suf hb (numR_suf 8 true x)) h
  obtain ⟨h3, h4⟩ := numR_back 8 true x hb h1
  refine ⟨h3, ?_⟩
  show x.1 = putL (numR 8 true x).1 8 ++ putL (numR 4 true (numR 8 true x).2).1 4 ++ (numR 4 true (numR 8 true x).2).2.1
  rw [List.append_assoc, ← h2]
  exact h4
theorem next_back (x : Rs) (hb : ByL x.1) (h : (nextR x).2.2 = false) : x.2 = false ∧ x.1 = putL (nextR x).1 1 ++ (nextR x).2.1 := numR_back 1 false x hb h
theorem seg_back (x : Rs) (hb : ByL x.1) (h : (segR x).2.2 = false) : x.2 = false ∧ x.1 = segP (segR x).1 ++ (segR x).2.1 := by
  unfold segR at h ⊢
  simp only [] at h ⊢
  have s1 := numR_suf 8 true x
  have b1 := byL_suf hb s1
  have k1 := numR_back 8 true x hb
  generalize numR 8 true x = a at *
  have s2 := countR_suf 1 64 a.2
  have b2 := byL_suf b1 s2
  have k2 := count_back 1 64 a.2 b1
  have r2 := countR_range 1 64 (by decide) a.2 b1
  generalize countR 1 64 a.2 = c at *
  have s3 := manyR_suf pieceR pieceR_suf c.2 c.1.toNat
  have b3 := byL_suf b2 s3
  have k3 := many_back pieceR pieceR_suf pieceP piece_back c.2 b2 c.1.toNat
  have l3 := manyR_length pieceR c.2 c.1.toNat
  generalize manyR pieceR c.1.toNat c.2 = p at *
  have s4 := countR_suf 1 2 p.2
  have b4 := byL_suf b3 s4
  have k4 := count_back 1 2 p.2 b3
  have r4 := countR_range 1 2 (by decide) p.2 b3
  generalize countR 1 2 p.2 = d at *
  have k5 := many_back nextR nextR_suf (putL · 1) next_back d.2 b4 d.1.toNat
  have l5 := manyR_length nextR d.2 d.1.toNat
  generalize manyR nextR d.1.toNat d.2 = w at *
  obtain ⟨f5, e5⟩ := k5 h
  obtain ⟨f4, e4⟩ := k4 f5
  obtain ⟨f3, e3⟩ := k3 f4
  obtain ⟨f2, e2⟩ := k2 f3
  obtain ⟨f1, e1⟩ := k1 f2
  refine ⟨f1, ?_⟩
  unfold segP
  simp only [List.append_assoc]
  rw [l3, l5, show ((c.1.toNat : Nat) : Int) = c.1 by omega, show ((d.1.toNat : Nat) : Int) = d.1 by omega, ← e5, ← e4, ← e3, ← e2]
  exact e1
theorem grp_back (x : Rs) (hb : ByL x.1) (h : (grpR x).2.2 = false) : x.2 = false ∧ x.1 = grpP (grpR x).1 ++ (grpR x).2.1 := by
  unfold grpR at h ⊢
  simp only [] at h ⊢
  have b1 := byL_suf hb (numR_suf 2 false x)
  have k1 := numR_back 2 false x hb
  generalize numR 2 false x = a at *
  have b2 := byL_suf b1 (numR_suf 1 false a.2)
  have k2 := numR_back 1 false a.2 b1
  generalize numR 1 false a.2 = b at *
  have b3 := byL_suf b2 (numR_suf 8 true b.2)
  have k3 := numR_back 8 true b.2 b2
  generalize numR 8 true b.2 = c at *
  have b4 := byL_suf b3 (numR_suf 4 false c.2)
  have k4 := numR_back 4 false c.2 b3
  generalize numR 4 false c.2 = d at *
  have k5 := numR_back 4 false d.2 b4
  generalize numR 4 false d.2 = e at *
  obtain ⟨f5, e5⟩ := k5 h
  obtain ⟨f4, e4⟩ := k4 f5
  obtain ⟨f3, e3⟩ := k3 f4
  obtain ⟨f2, e2⟩ := k2 f3
  obtain ⟨f1, e1⟩ := k1 f2
  refine ⟨f1, ?_⟩
  unfold grpP
  simp only [List.append_assoc]
  rw [← e5, ← e4, ← e3, ← e2]
  exact e1
theorem body_back (x : Rs) (hb : ByL x.1) (h : (bodyR x).2.2 = false) : x.1 = bodyP (bodyR x).1 ++ (bodyR x).2.1 := by
  unfold bodyR at h ⊢
  simp only [] at h ⊢
  have b2 := byL_suf hb (countR_suf 2 200 x)
  have k2 := count_back 2 200 x hb
  have r2 := countR_range 2 200 (by decide) x hb
  generalize countR 2 200 x = c at *
  have b3 := byL_suf b2 (manyR_suf segR segR_suf c.2 c.1.toNat)
  have k3 := many_back segR segR_suf segP seg_back c.2 b2 c.1.toNat
  have l3 := manyR_length segR c.2 c.1.toNat
  generalize manyR segR c.1.toNat c.2 = p at *
  have b4 := byL_suf b3 (countR_suf 2 400 p.2)
  have k4 := count_back 2 400 p.2 b3
  have r4 := countR_range 2 400 (by decide) p.2 b3
  generalize countR 2 400 p.2 = d at *
  have k5 := many_back grpR grpR_suf grpP grp_back d.2 b4 d.1.toNat
  have l5 := manyR_length grpR d.2 d.1.toNat
  generalize manyR grpR d.1.toNat d.2 = w at *
  obtain ⟨f5, e5⟩ := k5 h
  obtain ⟨f4, e4⟩ := k4 f5
  obtain ⟨f3, e3⟩ := k3 f4
  obtain ⟨f2, e2⟩ := k2 f3
  unfold bodyP
  simp only [List.append_assoc]
  rw [l3, l5, show ((c.1.toNat : Nat) : Int) = c.1 by omega, show ((d.1.toNat : Nat) : Int) = d.1 by omega, ← e5, ← e4, ← e3]
  exact e2
theorem sealP_len (b : List Int) : (sealP b).length = b.length + 2 := by simp [sealP]
theorem sealP_take (b : List Int) : (sealP b).take b.length = b := List.take_left' rfl
theorem sealP_crc {b : List Int} (hb : ByL b) : crcI (sealP b) = 0 := by
  rw [crc_check (byL_bytes (sealP_by hb)) (n := b.length) (sealP_len b), sealP_take]
  have h1 : (sealP b).getD b.length 0 = crcI b / 256 := by
    unfold sealP
    rw [List.getD_eq_getElem?_getD, List.getElem?_append_right (Nat.le_refl _), Nat.sub_self]; rfl
  have h2 : (sealP b).getD (b.length + 1) 0 = crcI b % 256 := by
    unfold sealP
    rw [List.getD_eq_getElem?_getD, List.getElem?_append_right (by omega), Nat.add_sub_cancel_left]; rfl
  rw [h1, h2]
  omega
theorem open_pack (t : Tk) (h : (checkI t).1 = 0) (hN : Nums t) : openI (sealP (imgP t)) = (t, 0) := by
  have hf := check_few h
  have hl := imgP_len hf
  have hl6 : 4 ≤ (imgP t).length := by unfold imgP magicL; simp
  unfold openI
  rw [sealP_len, if_neg (by omega), if_neg ?_, if_neg (not_not_intro (sealP_crc (imgP_by t))), Nat.add_sub_cancel, sealP_take]
  · have e : (imgP t).drop 4 = bodyP t := List.drop_left' rfl
    rw [e, body_put t h hN]
    simp only [ne_eq, not_true_eq_false, or_self, Bool.false_eq_true, if_false, h]
  · rintro (h' | h')
    · omega
    · refine h' ?_
      have : (sealP (imgP t)).take 4 = magicL := by
        unfold sealP imgP
        rw [List.append_assoc]
        exact List.take_left' (show magicL.length = 4 from rfl)
      exact this
theorem open_back (b : List Int) (hb : ByL b) (h : (openI b).2 = 0) : sealP (imgP (openI b).1) = b ∧ (checkI (openI b).1).1 = 0 := by
  unfold openI at h ⊢
  by_cases h1 : 1048576 < b.length
  · rw [if_pos h1] at h; cases h
  rw [if_neg h1] at h ⊢
  by_cases h2 : b.length < 6 ∨ b.take 4 ≠ magicL
  · rw [if_pos h2] at h; cases h
  rw [if_neg h2] at h ⊢
  by_cases h3 : crcI b ≠ 0
  · rw [if_pos h3] at h; cases h
  rw [if_neg h3] at h ⊢
  have hl6 : 6 ≤ b.length := Nat.le_of_not_lt fun h => h2 (.inl h)
  have hm : b.take 4 = magicL := Classical.byContradiction fun h => h2 (.inr h)
  have hc : crcI b = 0 := Classical.byContradiction h3
  obtain ⟨n, hn⟩ : ∃ n, b.length = n + 2 := ⟨b.length - 2, by omega⟩
  rw [hn, Nat.add_sub_cancel] at h ⊢
  have hby : ByL ((b.take n).drop 4) := byL_drop (byL_take hb n) 4
  have hbk := body_back ((b.take n).drop 4, false) hby
  generalize hr : bodyR ((b.take n).drop 4, false) = r at *
  by_cases h4 : r.2.2 = true ∨ r.2.1 ≠ []
  · rw [if_pos h4] at h; cases h
  rw [if_neg h4] at h ⊢
  by_cases h5 : (checkI r.1).1 ≠ 0
  · rw [if_pos h5] at h; cases h
  rw [if_neg h5]
  have h6 : r.2.2 = false := by
    have : ¬ r.2.2 = true := fun h => h4 (.inl h)
    simpa using this
  have h7 : r.2.1 = [] := Classical.byContradiction fun h => h4 (.inr h)
  have h8 := hbk h6
  rw [h7, List.append_nil] at h8
  refine ⟨?_, Classical.byContradiction h5⟩
  have h9 : imgP r.1 = b.take n := by
    unfold imgP
    rw [← h8, ← hm]
    show b.take 4 ++ (b.take n).drop 4 = b.take n
    have : (b.take n).take 4 = b.take 4 := by rw [List.take_take, Nat.min_eq_left (by omega)]
    rw [← this, List.take_append_drop]
  show sealP (imgP r.1) = b
  rw [h9]
  have hck := (crc_check (byL_bytes hb) hn).1 hc
  have c1 := byL_bytes hb n
  have c2 := byL_bytes hb (n + 1)
  unfold sealP
  rw [hck, show (b.getD n 0 * 256 + b.getD (n + 1) 0) / 256 = b.getD n 0 by omega, show (b.getD n 0 * 256 + b.getD (n + 1) 0) % 256 = b.getD (n + 1) 0 by omega]
  have e : b.drop n = [b.getD n 0, b.getD (n + 1) 0] := by
    rw [List.drop_eq_getElem_cons (by omega), List.drop_eq_getElem_cons (by omega), List.drop_eq_nil_of_le (by omega), getD_lt (by omega), getD_lt (by omega)]
  rw [← e, List.take_append_drop]
theorem open_fail (b : List Int) (h : (openI b).2 ≠ 0) : (openI b).1 = ([], []) := by
  unfold openI at h ⊢
  split
  · rfl
  · rename_i h1
    rw [if_neg h1] at h
    split
    · rfl
    · rename_i h2
      rw [if_neg h2] at h
      split
      · rfl
      · rename_i h3
        rw [if_neg h3] at h
        split
        · rfl
        · rename_i h4
          rw [if_neg h4] at h
          split
          · rfl
          · rename_i h5
            rw [if_neg h5] at h
            exact absurd rfl h
/-- What is opened has numbers of the machine. -/
theorem num8_range (x : Rs) (hb : ByL x.1) : I64 (numR 8 true x).1 := by
  have h := numR_range 8 x hb
  rw [show (256 : Int) ^ 8 = 18446744073709551616 by decide] at h
  rw [numR_sgn 8 (by decide)]
  unfold sgn
  rw [p7', show (256 : Int) ^ 8 = 18446744073709551616 by decide]
  constructor <;> split <;> omega
theorem num4s_range (x : Rs) (hb : ByL x.1) : I64 (numR 4 true x).1 := by
  have h := numR_range 4 x hb
  rw [p4] at h
  rw [numR_sgn 4 (by decide)]
  unfold sgn
  rw [p3', p4]
  constructor <;> split <;> omega
theorem num_range (n : Nat) (hn : n ≤ 4) (x : Rs) (hb : ByL x.1) : I64 (numR n false x).1 := by
  have h := numR_range n x hb
  have hp := pow_le_256 hn
  rw [p4] at hp
  constructor <;> omega
theorem piece_nums (x : Rs) (hb : ByL x.1) : I64 (pieceR x).1.1 ∧ I64 (pieceR x).1.2 :=
  ⟨num8_range x hb, num4s_range _ (byL_suf hb (numR_suf 8 true x))⟩
theorem seg_nums (x : Rs) (hb : ByL x.1) : I64 (segR x).1.1 ∧ ∀ p ∈ (segR x).1.2.1, I64 p.1 ∧ I64 p.2 :=
  ⟨num8_range x hb, manyR_all (fun p : Int × Int => I64 p.1 ∧ I64 p.2) pieceR pieceR_suf piece_nums _ (byL_suf hb ((countR_suf 1 64 _).trans (numR_suf 8 true x))) _⟩
theorem grp_nums (x : Rs) (hb : ByL x.1) : I64 (grpR x).1.1 ∧ I64 (grpR x).1.2.2.1 ∧ I64 (grpR x).1.2.2.2.1 ∧ I64 (grpR x).1.2.2.2.2 := by
  have b1 := byL_suf hb (numR_suf 2 false x)
  have b2 := byL_suf b1 (numR_suf 1 false _)
  have b3 := byL_suf b2 (numR_suf 8 true _)
  have b4 := byL_suf b3 (numR_suf 4 false _)
  exact ⟨num_range 2 (by decide) x hb, num8_range _ b2, num_range 4 (by decide) _ b3, num_range 4 (by decide) _ b4⟩
theorem body_nums (x : Rs) (hb : ByL x.1) : Nums (bodyR x).1 := by
  have b2 := byL_suf hb (countR_suf 2 200 x)
  have b3 := byL_suf b2 (manyR_suf segR segR_suf (countR 2 200 x).2 (countR 2 200 x).1.toNat)
  have b4 := byL_suf b3 (countR_suf 2 400 _)
  exact ⟨manyR_all _ segR segR_suf seg_nums _ b2 _, manyR_all _ grpR grpR_suf grp_nums _ b4 _⟩
theorem open_nums (b : List Int) (hb : ByL b) : Nums (openI b).1 := by
  have h0 : Nums (([], []) : Tk) := ⟨fun s hs => (by cases hs), fun g hg => (by cases hg)⟩
  have h1 := body_nums ((b.take (b.length - 2)).drop 4, false) (byL_drop (byL_take hb _) 4)
  unfold openI
  split
  · exact h0
  · split
    · exact h0
    · split
      · exact h0
      · split
        · exact h0
        · split
          · exact h0
          · exact h1
end Go.Proofs.Ytomkodhihiloiaa
