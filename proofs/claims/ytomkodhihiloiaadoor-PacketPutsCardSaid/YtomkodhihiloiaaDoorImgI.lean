/- Images: what is opened, on both sides. -/
import Derived.Test.YtomkodhihiloiaaDoorImgH
set_option linter.unusedSimpArgs false
set_option linter.unusedVariables false
namespace Go.Proofs.YtomkodhihiloiaaDoor
open Go.RowKit
theorem toList_loop (b : ByteArray) : ∀ (k i : Nat) (r : List UInt8), b.size - i = k → ByteArray.toList.loop b i r = r.reverse ++ b.data.toList.drop i := by
  intro k
  induction k with
  | zero =>
    intro i r h
    rw [ByteArray.toList.loop, if_neg (by omega), List.drop_eq_nil_of_le (by rw [Array.length_toList]; exact Nat.le_of_sub_eq_zero h), List.append_nil]
  | succ k ih =>
    intro i r h
    have hi : i < b.size := by omega
    rw [ByteArray.toList.loop, if_pos hi, ih (i + 1) _ (by omega), List.reverse_cons, List.append_assoc]
    congr 1
    have hi' : i < b.data.toList.length := by rw [Array.length_toList]; exact hi
    rw [List.drop_eq_getElem_cons hi']
    simp only [List.singleton_append, List.cons.injEq, and_true]
    have hd : i < b.data.size := hi
    show b.data[i]! = _
    rw [getElem!_pos b.data i hd, Array.getElem_toList]
theorem bytesOf_toList (l : List Int) : (bytesOf l).toList = l.map fun n => UInt8.ofNat n.toNat := by
  show ByteArray.toList.loop (bytesOf l) 0 [] = _
  rw [toList_loop _ _ _ _ rfl]
  simp [bytesOf]
theorem byte_inj {a b : Int} (ha : 0 ≤ a ∧ a ≤ 255) (hb : 0 ≤ b ∧ b ≤ 255) (h : UInt8.ofNat a.toNat = UInt8.ofNat b.toNat) : a = b := by
  have := congrArg UInt8.toNat h
  simp only [UInt8.toNat_ofNat'] at this
  omega
theorem map_byte_inj : ∀ {l m : List Int}, ByL l → ByL m → (l.map fun n => UInt8.ofNat n.toNat) = (m.map fun n => UInt8.ofNat n.toNat) → l = m
  | [], [], _, _, _ => rfl
  | [], _ :: _, _, _, h => by simp at h
  | _ :: _, [], _, _, h => by simp at h
  | a :: l, b :: m, ha, hb, h => by
    simp only [List.map_cons, List.cons.injEq] at h
    rw [byte_inj (ha a (by simp)) (hb b (by simp)) h.1, map_byte_inj (fun c hc => ha c (by simp [hc])) (fun c hc => hb c (by simp [hc])) h.2]
theorem str_eq {l m : List Int} (hl : ByL l) (hm : ByL m) : ((bytesOf l).toList == (bytesOf m).toList) = decide (l = m) := by
  rw [bytesOf_toList, bytesOf_toList]
  by_cases h : l = m
  · rw [h, decide_eq_true rfl, beq_self_eq_true]
  · rw [decide_eq_false h]
    exact beq_false_of_ne fun h' => h (map_byte_inj hl hm h')
theorem manyR_all {α : Type} (P : α → Prop) (f : Rs → α × Rs) (hf : ∀ x, (f x).2.1 <:+ x.1) (hP : ∀ x, ByL x.1 → P (f x).1) (x : Rs) (hb : ByL x.1) : ∀ n, ∀ a ∈ (manyR f n x).1, P a
  | 0, a, ha => by cases ha
  | n + 1, a, ha => by
    rcases List.mem_append.1 ha with ha | ha
    · exact manyR_all P f hf hP x hb n a ha
    · rw [List.mem_singleton.1 ha]
      exact hP _ (byL_suf hb (manyR_suf f hf x n))
theorem segR_few (x : Rs) (hb : ByL x.1) : (segR x).1.2.1.length ≤ 64 ∧ (segR x).1.2.2.length ≤ 2 := by
  have s1 := numR_suf 8 true x
  have h1 := countR_range 1 64 (by decide) (numR 8 true x).2 (byL_suf hb s1)
  have s2 := countR_suf 1 64 (numR 8 true x).2
  have s3 := manyR_suf pieceR pieceR_suf (countR 1 64 (numR 8 true x).2).2 (countR 1 64 (numR 8 true x).2).1.toNat
  have h2 := countR_range 1 2 (by decide) (manyR pieceR (countR 1 64 (numR 8 true x).2).1.toNat (countR 1 64 (numR 8 true x).2).2).2 (byL_suf hb (s3.trans (s2.trans s1)))
  constructor
  · show (manyR pieceR _ _).1.length ≤ 64
    rw [manyR_length]; omega
  · show (manyR nextR _ _).1.length ≤ 2
    rw [manyR_length]; omega
theorem magic_by : ByL magicL := by unfold magicL; intro c hc; simp at hc; omega
theorem magic_str : (⟨#[79, 68, 79, 49]⟩ : ByteArray) = bytesOf magicL := rfl
end Go.Proofs.YtomkodhihiloiaaDoor
