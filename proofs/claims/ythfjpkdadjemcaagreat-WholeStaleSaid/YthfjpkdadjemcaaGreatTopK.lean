/- What is read with so many rounds of each loop at most is what is read: so a run can be looked at. -/
import Derived.Test.YthfjpkdadjemcaaGreatFnsF3
import Derived.Test.YthfjpkdadjemcaaGreatLoopF
set_option linter.unusedSimpArgs false
set_option linter.unusedVariables false
namespace Go.Proofs.YthfjpkdadjemcaaGreat
open Go Go.RowKit
@[reducible] def lpK : LP := ⟨fun f s => G3 f 3000 s⟩
structure Le {α:Type}(a b:Option α):Prop where
 go:∀y,a=some y→b=some y
section
variable {α β S X:Type}
theorem Le.same (a:Option α):Le a a:=⟨fun _ h=>h⟩
theorem Le.bnd {a b:Option α}{f g:α→Option β}(h:Le a b)(h2:∀x,Le (f x) (g x)):Le (Option.bind a f) (Option.bind b g):=by
 refine⟨fun y hy=> ?_⟩
 cases ha:a with
 |none=>rw [ha] at hy;cases hy
 |some x=>
  rw[ha] at hy;rw[h.go x ha];exact (h2 x).go y hy
theorem Le.chk {c:Bool}{a b:Option α}(h:Le a b):Le (chk none c a) (chk none c b):=by
 cases c
 ·exact Le.same _
 ·exact h
theorem Le.cnd {c:Bool}{a b a' b':Option α}(h:Le a a')(h2:Le b b'):Le (cond c a b) (cond c a' b'):=by
 cases c
 ·exact h2
 ·exact h
theorem Le.G3 {f g:S→Option (S ⊕ X)}(h:∀s,Le (f s) (g s)):∀n s,Le (G3 f n s) (G3 g n s)
 |0,s=>⟨fun y hy=>by cases hy⟩
 |n+1,s=>by
  refine⟨fun y hy=> ?_⟩
  simp only[Go.Proofs.YthfjpkdadjemcaaGreat.G3] at hy ⊢;cases hf:f s with
  |none=>rw [hf] at hy;cases hy
  |some z=>
   rw[hf] at hy;rw[(h s).go z hf];cases z with
   |inl s'=>exact (Le.G3 h n s').go y hy
   |inr x=>exact hy
theorem Le.lp {f g:S→Option (S ⊕ X)}{s:S}(h:∀s,Le (f s) (g s)):Le (@LP.lp lpK S X f s) (@LP.lp lpO S X g s):=by exact⟨fun y hy=>Ad2 (n:=3000) ((Le.G3 h 3000 s).go y hy)⟩
theorem Le.fold {γ:Type}{f g:β→γ→Option β}(h:∀b c,Le (f b c) (g b c)):∀(l:List γ) (b:β),Le (l.foldlM f b) (l.foldlM g b)
 | [],b=>Le.same _
 |c::l,b=>by simp only[List.foldlM_cons];exact Le.bnd (h b c) fun b'=>Le.fold h l b'
end
theorem BU8 (s_1:X7)(t_2:E6)(r_3:E2):Le (@S3 lpK s_1 t_2 r_3) (@S3 lpO s_1 t_2 r_3):=by
 unfold S3
 repeat' (first | (intro _) | (with_reducible (first | exact Le.same _ | refine Le.bnd ?_ ?_ | refine Le.chk ?_ | refine Le.cnd ?_ ?_ | refine Le.lp ?_)) | (cases ‹_ ⊕ _›) | exact Le.same _)
theorem EX4 (a_1 b_2:Int):Le (@AQ2 lpK a_1 b_2) (@AQ2 lpO a_1 b_2):=by
 unfold AQ2
 repeat' (first | (intro _) | (with_reducible (first | exact Le.same _ | refine Le.bnd ?_ ?_ | refine Le.chk ?_ | refine Le.cnd ?_ ?_ | refine Le.lp ?_)) | (cases ‹_ ⊕ _›) | exact Le.same _)
theorem CH7 (b_1:(List Int)):Le (@AF8 lpK b_1) (@AF8 lpO b_1):=by
 unfold AF8
 repeat' (first | (intro _) | (with_reducible (first | exact Le.same _ | exact EX4 .. | refine Le.bnd ?_ ?_ | refine Le.chk ?_ | refine Le.cnd ?_ ?_ | refine Le.lp ?_)) | (cases ‹_ ⊕ _›) | exact Le.same _)
theorem EX5 (f_1:(Int×(Int×Int))):Le (@P5 lpK f_1) (@P5 lpO f_1):=by
 unfold P5
 repeat' (first | (intro _) | (with_reducible (first | exact Le.same _ | exact CH7 .. | refine Le.bnd ?_ ?_ | refine Le.chk ?_ | refine Le.cnd ?_ ?_ | refine Le.lp ?_)) | (cases ‹_ ⊕ _›) | exact Le.same _)
theorem EX6 (l_1:(List S1)):Le (@AF9 lpK l_1) (@AF9 lpO l_1):=by
 unfold AF9
 repeat' (first | (intro _) | (with_reducible (first | exact Le.same _ | exact EX5 .. | refine Le.bnd ?_ ?_ | refine Le.chk ?_ | refine Le.cnd ?_ ?_ | refine Le.lp ?_)) | (cases ‹_ ⊕ _›) | exact Le.same _)
theorem EX7 (l_1:(List (Int×Int)))(length_2:Int):Le (@AQ3 lpK l_1 length_2) (@AQ3 lpO l_1 length_2):=by
 unfold AQ3
 repeat' (first | (intro _) | (with_reducible (first | exact Le.same _ | refine Le.bnd ?_ ?_ | refine Le.chk ?_ | refine Le.cnd ?_ ?_ | refine Le.lp ?_)) | (cases ‹_ ⊕ _›) | exact Le.same _)
theorem EX8 (s_1:Yd1)(many_2:Int):Le (@AQ4 lpK s_1 many_2) (@AQ4 lpO s_1 many_2):=by
 unfold AQ4
 repeat' (first | (intro _) | (with_reducible (first | exact Le.same _ | exact EX7 .. | refine Le.bnd ?_ ?_ | refine Le.chk ?_ | refine Le.cnd ?_ ?_ | refine Le.lp ?_)) | (cases ‹_ ⊕ _›) | exact Le.same _)
theorem EX9 (t_1:E6):Le (@AQ5 lpK t_1) (@AQ5 lpO t_1):=by
 unfold AQ5
 repeat' (first | (intro _) | (with_reducible (first | exact Le.same _ | exact EX8 .. | refine Le.bnd ?_ ?_ | refine Le.chk ?_ | refine Le.cnd ?_ ?_ | refine Le.lp ?_)) | (cases ‹_ ⊕ _›) | exact Le.same _)
theorem EY0 (c_1:C8)(t_2:E6):Le (@AK3 lpK c_1 t_2) (@AK3 lpO c_1 t_2):=by
 unfold AK3
 repeat' (first | (intro _) | (with_reducible (first | exact Le.same _ | exact EX9 .. | refine Le.bnd ?_ ?_ | refine Le.chk ?_ | refine Le.cnd ?_ ?_ | refine Le.lp ?_)) | (cases ‹_ ⊕ _›) | exact Le.same _)
theorem EY1 (v_1 n_2:Int):Le (@T9 lpK v_1 n_2) (@T9 lpO v_1 n_2):=by
 unfold T9
 repeat' (first | (intro _) | (with_reducible (first | exact Le.same _ | refine Le.bnd ?_ ?_ | refine Le.chk ?_ | refine Le.cnd ?_ ?_ | refine Le.lp ?_)) | (cases ‹_ ⊕ _›) | exact Le.same _)
theorem EY2 (t_1:E6):Le (@AK4 lpK t_1) (@AK4 lpO t_1):=by
 unfold AK4
 repeat' (first | (intro _) | (with_reducible (first | exact Le.same _ | exact EY1 .. | exact CH7 .. | refine Le.bnd ?_ ?_ | refine Le.chk ?_ | refine Le.cnd ?_ ?_ | refine Le.lp ?_)) | (cases ‹_ ⊕ _›) | exact Le.same _)
theorem EY3 (sum_1 b_2:Int):Le (@AQ6 lpK sum_1 b_2) (@AQ6 lpO sum_1 b_2):=by
 unfold AQ6
 repeat' (first | (intro _) | (with_reducible (first | exact Le.same _ | refine Le.bnd ?_ ?_ | refine Le.chk ?_ | refine Le.cnd ?_ ?_ | refine Le.lp ?_)) | (cases ‹_ ⊕ _›) | exact Le.same _)
theorem EY4 (sum_1:Int)(b_2:(List Int)):Le (@AQ7 lpK sum_1 b_2) (@AQ7 lpO sum_1 b_2):=by
 unfold AQ7
 repeat' (first | (intro _) | (with_reducible (first | exact Le.same _ | exact EY3 .. | refine Le.bnd ?_ ?_ | refine Le.chk ?_ | refine Le.cnd ?_ ?_ | refine Le.lp ?_)) | (cases ‹_ ⊕ _›) | exact Le.same _)
theorem CH8 (b_1:(List Int)):Le (@AK5 lpK b_1) (@AK5 lpO b_1):=by
 unfold AK5
 repeat' (first | (intro _) | (with_reducible (first | exact Le.same _ | exact EY4 .. | refine Le.bnd ?_ ?_ | refine Le.chk ?_ | refine Le.cnd ?_ ?_ | refine Le.lp ?_)) | (cases ‹_ ⊕ _›) | exact Le.same _)
theorem An5 (n_1:Int)(x_2:(List Int))(x_3:Bool):Le (@M5 lpK n_1 x_2 x_3) (@M5 lpO n_1 x_2 x_3):=by
 unfold M5
 repeat' (first | (intro _) | (with_reducible (first | exact Le.same _ | refine Le.bnd ?_ ?_ | refine Le.chk ?_ | refine Le.cnd ?_ ?_ | refine Le.lp ?_)) | (cases ‹_ ⊕ _›) | exact Le.same _)
theorem CH9 (n_1 most_2:Int)(x_3:(List Int))(x_4:Bool):Le (@l8 lpK n_1 most_2 x_3 x_4) (@l8 lpO n_1 most_2 x_3 x_4):=by
 unfold l8
 repeat' (first | (intro _) | (with_reducible (first | exact Le.same _ | exact An5 .. | refine Le.bnd ?_ ?_ | refine Le.chk ?_ | refine Le.cnd ?_ ?_ | refine Le.lp ?_)) | (cases ‹_ ⊕ _›) | exact Le.same _)
theorem EY5 (x_1:(List Int))(x_2:Bool):Le (@AQ8 lpK x_1 x_2) (@AQ8 lpO x_1 x_2):=by
 unfold AQ8
 repeat' (first | (intro _) | (with_reducible (first | exact Le.same _ | exact An5 .. | refine Le.bnd ?_ ?_ | refine Le.chk ?_ | refine Le.cnd ?_ ?_ | refine Le.lp ?_)) | (cases ‹_ ⊕ _›) | exact Le.same _)
theorem EY6 (n_1:Int)(x_2:(List Int))(x_3:Bool):Le (@AQ9 lpK n_1 x_2 x_3) (@AQ9 lpO n_1 x_2 x_3):=by
 unfold AQ9
 repeat' (first | (intro _) | (with_reducible (first | exact Le.same _ | exact EY5 .. | refine Le.bnd ?_ ?_ | refine Le.chk ?_ | refine Le.cnd ?_ ?_ | refine Le.lp ?_)) | (cases ‹_ ⊕ _›) | exact Le.same _)
theorem EY7 (x_1:(List Int))(x_2:Bool):Le (@AR0 lpK x_1 x_2) (@AR0 lpO x_1 x_2):=by
 unfold AR0
 repeat' (first | (intro _) | (with_reducible (first | exact Le.same _ | exact An5 .. | refine Le.bnd ?_ ?_ | refine Le.chk ?_ | refine Le.cnd ?_ ?_ | refine Le.lp ?_)) | (cases ‹_ ⊕ _›) | exact Le.same _)
theorem EY8 (n_1:Int)(x_2:(List Int))(x_3:Bool):Le (@AR1 lpK n_1 x_2 x_3) (@AR1 lpO n_1 x_2 x_3):=by
 unfold AR1
 repeat' (first | (intro _) | (with_reducible (first | exact Le.same _ | exact EY7 .. | refine Le.bnd ?_ ?_ | refine Le.chk ?_ | refine Le.cnd ?_ ?_ | refine Le.lp ?_)) | (cases ‹_ ⊕ _›) | exact Le.same _)
theorem EY9 (x_1:(List Int))(x_2:Bool):Le (@AR2 lpK x_1 x_2) (@AR2 lpO x_1 x_2):=by
 unfold AR2
 repeat' (first | (intro _) | (with_reducible (first | exact Le.same _ | exact An5 .. | exact CH9 .. | exact EY6 .. | exact EY8 .. | refine Le.bnd ?_ ?_ | refine Le.chk ?_ | refine Le.cnd ?_ ?_ | refine Le.lp ?_)) | (cases ‹_ ⊕ _›) | exact Le.same _)
theorem EZ0 (n_1:Int)(x_2:(List Int))(x_3:Bool):Le (@AR3 lpK n_1 x_2 x_3) (@AR3 lpO n_1 x_2 x_3):=by
 unfold AR3
 repeat' (first | (intro _) | (with_reducible (first | exact Le.same _ | exact EY9 .. | refine Le.bnd ?_ ?_ | refine Le.chk ?_ | refine Le.cnd ?_ ?_ | refine Le.lp ?_)) | (cases ‹_ ⊕ _›) | exact Le.same _)
theorem EZ1 (x_1:(List Int))(x_2:Bool):Le (@AR4 lpK x_1 x_2) (@AR4 lpO x_1 x_2):=by
 unfold AR4
 repeat' (first | (intro _) | (with_reducible (first | exact Le.same _ | exact An5 .. | refine Le.bnd ?_ ?_ | refine Le.chk ?_ | refine Le.cnd ?_ ?_ | refine Le.lp ?_)) | (cases ‹_ ⊕ _›) | exact Le.same _)
theorem EZ2 (n_1:Int)(x_2:(List Int))(x_3:Bool):Le (@AR5 lpK n_1 x_2 x_3) (@AR5 lpO n_1 x_2 x_3):=by
 unfold AR5
 repeat' (first | (intro _) | (with_reducible (first | exact Le.same _ | exact EZ1 .. | refine Le.bnd ?_ ?_ | refine Le.chk ?_ | refine Le.cnd ?_ ?_ | refine Le.lp ?_)) | (cases ‹_ ⊕ _›) | exact Le.same _)
theorem EZ3 (l_1:(List (Int×Int)))(length_2:Int):Le (@AR6 lpK l_1 length_2) (@AR6 lpO l_1 length_2):=by
 unfold AR6
 repeat' (first | (intro _) | (with_reducible (first | exact Le.same _ | refine Le.bnd ?_ ?_ | refine Le.chk ?_ | refine Le.cnd ?_ ?_ | refine Le.lp ?_)) | (cases ‹_ ⊕ _›) | exact Le.same _)
theorem EZ4 (t_1:E6)(s_2:Yd1):Le (@AR7 lpK t_1 s_2) (@AR7 lpO t_1 s_2):=by
 unfold AR7
 repeat' (first | (intro _) | (with_reducible (first | exact Le.same _ | exact EZ3 .. | refine Le.bnd ?_ ?_ | refine Le.chk ?_ | refine Le.cnd ?_ ?_ | refine Le.lp ?_)) | (cases ‹_ ⊕ _›) | exact Le.same _)
theorem CI0 (t_1:E6):Le (@AK6 lpK t_1) (@AK6 lpO t_1):=by
 unfold AK6
 repeat' (first | (intro _) | (with_reducible (first | exact Le.same _ | exact EZ4 .. | refine Le.bnd ?_ ?_ | refine Le.chk ?_ | refine Le.cnd ?_ ?_ | refine Le.lp ?_)) | (cases ‹_ ⊕ _›) | exact Le.same _)
theorem EZ5 (b_1:(List Int)):Le (@AK7 lpK b_1) (@AK7 lpO b_1):=by
 unfold AK7
 repeat' (first | (intro _) | (with_reducible (first | exact Le.same _ | exact CH8 .. | exact CH9 .. | exact EZ0 .. | exact EZ2 .. | exact CI0 .. | refine Le.bnd ?_ ?_ | refine Le.chk ?_ | refine Le.cnd ?_ ?_ | refine Le.lp ?_)) | (cases ‹_ ⊕ _›) | exact Le.same _)
theorem EZ6 (x_1:(Int×Int))(d_2:Int):Le (@AR9 lpK x_1 d_2) (@AR9 lpO x_1 d_2):=by
 unfold AR9
 repeat' (first | (intro _) | (with_reducible (first | exact Le.same _ | refine Le.bnd ?_ ?_ | refine Le.chk ?_ | refine Le.cnd ?_ ?_ | refine Le.lp ?_)) | (cases ‹_ ⊕ _›) | exact Le.same _)
theorem CI1 (a_1 b_2 c_3:Int)(up_4:Bool):Le (@AK8 lpK a_1 b_2 c_3 up_4) (@AK8 lpO a_1 b_2 c_3 up_4):=by
 unfold AK8
 repeat' (first | (intro _) | (with_reducible (first | exact Le.same _ | exact EZ6 .. | refine Le.bnd ?_ ?_ | refine Le.chk ?_ | refine Le.cnd ?_ ?_ | refine Le.lp ?_)) | (cases ‹_ ⊕ _›) | exact Le.same _)
theorem BU9 (a_1 b_2 c_3:Int):Le (@AG0 lpK a_1 b_2 c_3) (@AG0 lpO a_1 b_2 c_3):=by
 unfold AG0
 repeat' (first | (intro _) | (with_reducible (first | exact Le.same _ | exact CI1 .. | refine Le.bnd ?_ ?_ | refine Le.chk ?_ | refine Le.cnd ?_ ?_ | refine Le.lp ?_)) | (cases ‹_ ⊕ _›) | exact Le.same _)
theorem EZ7 (c_1:C8):Le (@AS0 lpK c_1) (@AS0 lpO c_1):=by
 unfold AS0
 repeat' (first | (intro _) | (with_reducible (first | exact Le.same _ | exact BU9 .. | refine Le.bnd ?_ ?_ | refine Le.chk ?_ | refine Le.cnd ?_ ?_ | refine Le.lp ?_)) | (cases ‹_ ⊕ _›) | exact Le.same _)
theorem EZ8 (x_1 x_2 x_3 x_4 x_5 x_6 x_7 x_8 x_9 x_10 x_11 x_12 x_13 x_14:Int):Le (@AS1 lpK x_1 x_2 x_3 x_4 x_5 x_6 x_7 x_8 x_9 x_10 x_11 x_12 x_13 x_14) (@AS1 lpO x_1 x_2 x_3 x_4 x_5 x_6 x_7 x_8 x_9 x_10 x_11 x_12 x_13 x_14):=by
 unfold AS1
 repeat' (first | (intro _) | (with_reducible (first | exact Le.same _ | exact EZ7 .. | refine Le.bnd ?_ ?_ | refine Le.chk ?_ | refine Le.cnd ?_ ?_ | refine Le.lp ?_)) | (cases ‹_ ⊕ _›) | exact Le.same _)
theorem EZ9 (c_1:C8):Le (@AS2 lpK c_1) (@AS2 lpO c_1):=by
 unfold AS2
 repeat' (first | (intro _) | (with_reducible (first | exact Le.same _ | exact EZ8 .. | refine Le.bnd ?_ ?_ | refine Le.chk ?_ | refine Le.cnd ?_ ?_ | refine Le.lp ?_)) | (cases ‹_ ⊕ _›) | exact Le.same _)
theorem Ea0 (c_1:C8)(t_2:E6):Le (@AK9 lpK c_1 t_2) (@AK9 lpO c_1 t_2):=by
 unfold AK9
 repeat' (first | (intro _) | (with_reducible (first | exact Le.same _ | exact EZ9 .. | exact CI0 .. | refine Le.bnd ?_ ?_ | refine Le.chk ?_ | refine Le.cnd ?_ ?_ | refine Le.lp ?_)) | (cases ‹_ ⊕ _›) | exact Le.same _)
theorem CI2 (l_1:(List (Int×Int)))(s_2:(Int×Int)):Le (@AL1 lpK l_1 s_2) (@AL1 lpO l_1 s_2):=by
 unfold AL1
 repeat' (first | (intro _) | (with_reducible (first | exact Le.same _ | refine Le.bnd ?_ ?_ | refine Le.chk ?_ | refine Le.cnd ?_ ?_ | refine Le.lp ?_)) | (cases ‹_ ⊕ _›) | exact Le.same _)
theorem Ea1 (t_1:E6):Le (@AL2 lpK t_1) (@AL2 lpO t_1):=by
 unfold AL2
 repeat' (first | (intro _) | (with_reducible (first | exact Le.same _ | exact CI2 .. | refine Le.bnd ?_ ?_ | refine Le.chk ?_ | refine Le.cnd ?_ ?_ | refine Le.lp ?_)) | (cases ‹_ ⊕ _›) | exact Le.same _)
theorem Ea2 (t_1:E6):Le (@AL3 lpK t_1) (@AL3 lpO t_1):=by
 unfold AL3
 repeat' (first | (intro _) | (with_reducible (first | exact Le.same _ | refine Le.bnd ?_ ?_ | refine Le.chk ?_ | refine Le.cnd ?_ ?_ | refine Le.lp ?_)) | (cases ‹_ ⊕ _›) | exact Le.same _)
theorem Ea3 (c_1:C8)(img_2:(List Int)):Le (@AS4 lpK c_1 img_2) (@AS4 lpO c_1 img_2):=by
 unfold AS4
 repeat' (first | (intro _) | (with_reducible (first | exact Le.same _ | exact EZ5 .. | exact Ea0 .. | exact Ea1 .. | exact Ea2 .. | refine Le.bnd ?_ ?_ | refine Le.chk ?_ | refine Le.cnd ?_ ?_ | refine Le.lp ?_)) | (cases ‹_ ⊕ _›) | exact Le.same _)
theorem Ea4 (b_1:(List Int)):Le (@AS5 lpK b_1) (@AS5 lpO b_1):=by
 unfold AS5
 repeat' (first | (intro _) | (with_reducible (first | exact Le.same _ | exact CH8 .. | refine Le.bnd ?_ ?_ | refine Le.chk ?_ | refine Le.cnd ?_ ?_ | refine Le.lp ?_)) | (cases ‹_ ⊕ _›) | exact Le.same _)
theorem Ea5 (s:L3)(t:TkD)(p:Int×Int):Le (@AG5 lpK s t p) (@AG5 lpO s t p):=by
 unfold AG5;split
 ·split
  ·exact Le.same _
  ·split
   ·exact Le.bnd (Le.fold (fun b c=>Le.bnd (BU8 _ _ _) fun _=>Le.same _) _ _) fun _=>Le.same _
   ·exact Le.same _
 ·exact Le.same _
theorem Ea6 (seq_1:Int)(b_2:(List Int))(x_3 x_4 x_5 x_6 x_7 x_8:Bool)(x_9 x_10 x_11 x_12 x_13 x_14 x_15 x_16 x_17 x_18:Int):Le (@AT2 lpK seq_1 b_2 x_3 x_4 x_5 x_6 x_7 x_8 x_9 x_10 x_11 x_12 x_13 x_14 x_15 x_16 x_17 x_18) (@AT2 lpO seq_1 b_2 x_3 x_4 x_5 x_6 x_7 x_8 x_9 x_10 x_11 x_12 x_13 x_14 x_15 x_16 x_17 x_18):=by
 unfold AT2
 repeat' (first | (intro _) | (with_reducible (first | exact Le.same _ | exact Ea4 .. | refine Le.bnd ?_ ?_ | refine Le.chk ?_ | refine Le.cnd ?_ ?_ | refine Le.lp ?_)) | (cases ‹_ ⊕ _›) | exact Le.same _)
theorem Ea7 (cycle_1:Int)(list_2:(List (List Int))):Le (@AM3 lpK cycle_1 list_2) (@AM3 lpO cycle_1 list_2):=by
 unfold AM3
 repeat' (first | (intro _) | (with_reducible (first | exact Le.same _ | exact Ea6 .. | refine Le.bnd ?_ ?_ | refine Le.chk ?_ | refine Le.cnd ?_ ?_ | refine Le.lp ?_)) | (cases ‹_ ⊕ _›) | exact Le.same _)
theorem BV0 (a_1 b_2 c_3:Int):Le (@AG8 lpK a_1 b_2 c_3) (@AG8 lpO a_1 b_2 c_3):=by
 unfold AG8
 repeat' (first | (intro _) | (with_reducible (first | exact Le.same _ | exact CI1 .. | refine Le.bnd ?_ ?_ | refine Le.chk ?_ | refine Le.cnd ?_ ?_ | refine Le.lp ?_)) | (cases ‹_ ⊕ _›) | exact Le.same _)
theorem Ea8 (s_1:(Int×Int))(k_2 by_3:Int):Le (@AM5 lpK s_1 k_2 by_3) (@AM5 lpO s_1 k_2 by_3):=by
 unfold AM5
 repeat' (first | (intro _) | (with_reducible (first | exact Le.same _ | exact BV0 .. | exact BU9 .. | refine Le.bnd ?_ ?_ | refine Le.chk ?_ | refine Le.cnd ?_ ?_ | refine Le.lp ?_)) | (cases ‹_ ⊕ _›) | exact Le.same _)
theorem Ea9 (d_1:Int)(circ_2:(Int×Int))(pulses_3:Int):Le (@AG9 lpK d_1 circ_2 pulses_3) (@AG9 lpO d_1 circ_2 pulses_3):=by
 unfold AG9
 repeat' (first | (intro _) | (with_reducible (first | exact Le.same _ | exact Ea8 .. | refine Le.bnd ?_ ?_ | refine Le.chk ?_ | refine Le.cnd ?_ ?_ | refine Le.lp ?_)) | (cases ‹_ ⊕ _›) | exact Le.same _)
theorem Eb0 (i_1:Int)(m_2:V7)(x_3 x_4 x_5 x_6 x_7 x_8 x_9 x_10 x_11 x_12 x_13 x_14 x_15 x_16:Int)(x_17:(List Yd1))(x_18:(List Yd3))(x_19:Bool)(x_20 x_21 x_22:Int)(x_23:(List Int))(x_24:Bool)(x_25 x_26:Int)(x_27:Bool)(x_28 x_29 x_30 x_31 x_32 x_33 x_34 x_35 x_36:Int)(x_37:Bool)(x_38 x_39 x_40 x_41 x_42:Int)(x_43:(List E2))(x_44:Bool)(x_45 x_46 x_47 x_48 x_49:Int)(x_50 x_51 x_52:Bool)(x_53 x_54 x_55 x_56:Int)(x_57:Bool):Le (@AD4 lpK i_1 m_2 x_3 x_4 x_5 x_6 x_7 x_8 x_9 x_10 x_11 x_12 x_13 x_14 x_15 x_16 x_17 x_18 x_19 x_20 x_21 x_22 x_23 x_24 x_25 x_26 x_27 x_28 x_29 x_30 x_31 x_32 x_33 x_34 x_35 x_36 x_37 x_38 x_39 x_40 x_41 x_42 x_43 x_44 x_45 x_46 x_47 x_48 x_49 x_50 x_51 x_52 x_53 x_54 x_55 x_56 x_57) (@AD4 lpO i_1 m_2 x_3 x_4 x_5 x_6 x_7 x_8 x_9 x_10 x_11 x_12 x_13 x_14 x_15 x_16 x_17 x_18 x_19 x_20 x_21 x_22 x_23 x_24 x_25 x_26 x_27 x_28 x_29 x_30 x_31 x_32 x_33 x_34 x_35 x_36 x_37 x_38 x_39 x_40 x_41 x_42 x_43 x_44 x_45 x_46 x_47 x_48 x_49 x_50 x_51 x_52 x_53 x_54 x_55 x_56 x_57):=by
 unfold AD4
 repeat' (first | (intro _) | (with_reducible (first | exact Le.same _ | exact Ea9 .. | refine Le.bnd ?_ ?_ | refine Le.chk ?_ | refine Le.cnd ?_ ?_ | refine Le.lp ?_)) | (cases ‹_ ⊕ _›) | exact Le.same _)
theorem Eb1 (c_1:C8)(r_2:Int):Le (@AT3 lpK c_1 r_2) (@AT3 lpO c_1 r_2):=by
 unfold AT3
 repeat' (first | (intro _) | (with_reducible (first | exact Le.same _ | exact BV0 .. | refine Le.bnd ?_ ?_ | refine Le.chk ?_ | refine Le.cnd ?_ ?_ | refine Le.lp ?_)) | (cases ‹_ ⊕ _›) | exact Le.same _)
theorem Eb2 (c_1:C8)(r_2:Int):Le (@AM7 lpK c_1 r_2) (@AM7 lpO c_1 r_2):=by
 unfold AM7
 repeat' (first | (intro _) | (with_reducible (first | exact Le.same _ | exact Eb1 .. | refine Le.bnd ?_ ?_ | refine Le.chk ?_ | refine Le.cnd ?_ ?_ | refine Le.lp ?_)) | (cases ‹_ ⊕ _›) | exact Le.same _)
theorem Eb3 (x_1 x_2 x_3 x_4 x_5 x_6 x_7 x_8 x_9 x_10 x_11 x_12 x_13 x_14:Int)(x_15:(List Yd1))(x_16:(List Yd3))(x_17:Bool)(x_18 x_19 x_20:Int)(x_21:(List Int))(x_22:Bool)(x_23 x_24:Int)(x_25:Bool)(x_26 x_27 x_28 x_29 x_30 x_31 x_32 x_33 x_34:Int)(x_35:Bool)(x_36 x_37 x_38 x_39 x_40:Int)(x_41:(List E2))(x_42:Bool)(x_43 x_44 x_45 x_46 x_47:Int)(x_48 x_49 x_50:Bool)(x_51 x_52 x_53 x_54:Int)(x_55:Bool)(m_56:V7):Le (@AT5 lpK x_1 x_2 x_3 x_4 x_5 x_6 x_7 x_8 x_9 x_10 x_11 x_12 x_13 x_14 x_15 x_16 x_17 x_18 x_19 x_20 x_21 x_22 x_23 x_24 x_25 x_26 x_27 x_28 x_29 x_30 x_31 x_32 x_33 x_34 x_35 x_36 x_37 x_38 x_39 x_40 x_41 x_42 x_43 x_44 x_45 x_46 x_47 x_48 x_49 x_50 x_51 x_52 x_53 x_54 x_55 m_56) (@AT5 lpO x_1 x_2 x_3 x_4 x_5 x_6 x_7 x_8 x_9 x_10 x_11 x_12 x_13 x_14 x_15 x_16 x_17 x_18 x_19 x_20 x_21 x_22 x_23 x_24 x_25 x_26 x_27 x_28 x_29 x_30 x_31 x_32 x_33 x_34 x_35 x_36 x_37 x_38 x_39 x_40 x_41 x_42 x_43 x_44 x_45 x_46 x_47 x_48 x_49 x_50 x_51 x_52 x_53 x_54 x_55 m_56):=by
 unfold AT5
 repeat' (first | (intro _) | (with_reducible (first | exact Le.same _ | exact Eb2 .. | refine Le.bnd ?_ ?_ | refine Le.chk ?_ | refine Le.cnd ?_ ?_ | refine Le.lp ?_)) | (cases ‹_ ⊕ _›) | exact Le.same _)
theorem Eb4 (segment_1 start_2 x_3 x_4:Int)(x_5:(List Yd1))(x_6:(List Yd3))(x_7:Bool)(x_8 x_9:Int):Le (@AT6 lpK segment_1 start_2 x_3 x_4 x_5 x_6 x_7 x_8 x_9) (@AT6 lpO segment_1 start_2 x_3 x_4 x_5 x_6 x_7 x_8 x_9):=by
 unfold AT6
 repeat' (first | (intro _) | (with_reducible (first | exact Le.same _ | exact CI2 .. | refine Le.bnd ?_ ?_ | refine Le.chk ?_ | refine Le.cnd ?_ ?_ | refine Le.lp ?_)) | (cases ‹_ ⊕ _›) | exact Le.same _)
theorem Eb5 (s_1:X7)(t_2:E6)(x_3 x_4:Int)(x_5:(List Yd1))(x_6:(List Yd3))(x_7:Bool)(x_8 x_9:Int):Le (@AT7 lpK s_1 t_2 x_3 x_4 x_5 x_6 x_7 x_8 x_9) (@AT7 lpO s_1 t_2 x_3 x_4 x_5 x_6 x_7 x_8 x_9):=by
 unfold AT7
 repeat' (first | (intro _) | (with_reducible (first | exact Le.same _ | exact Eb4 .. | refine Le.bnd ?_ ?_ | refine Le.chk ?_ | refine Le.cnd ?_ ?_ | refine Le.lp ?_)) | (cases ‹_ ⊕ _›) | exact Le.same _)
theorem Eb6 (s_1:X7)(t_2:E6)(p_3:(Int×Int)):Le (@AT8 lpK s_1 t_2 p_3) (@AT8 lpO s_1 t_2 p_3):=by
 unfold AT8
 repeat' (first | (intro _) | (with_reducible (first | exact Le.same _ | exact Eb5 .. | refine Le.bnd ?_ ?_ | refine Le.chk ?_ | refine Le.cnd ?_ ?_ | refine Le.lp ?_)) | (cases ‹_ ⊕ _›) | exact Le.same _)
theorem Eb7 (x_1 x_2 x_3 x_4 x_5 x_6 x_7 x_8 x_9 x_10 x_11 x_12 x_13 x_14:Int)(x_15:(List Yd1))(x_16:(List Yd3))(x_17:Bool)(x_18 x_19 x_20:Int)(x_21:(List Int))(x_22:Bool)(x_23 x_24:Int)(x_25:Bool)(x_26 x_27 x_28 x_29 x_30 x_31 x_32 x_33 x_34:Int)(x_35:Bool)(x_36 x_37 x_38 x_39 x_40:Int)(x_41:(List E2))(x_42:Bool)(x_43 x_44 x_45 x_46 x_47:Int)(x_48 x_49 x_50:Bool)(x_51 x_52 x_53 x_54:Int)(x_55:Bool):Le (@AT9 lpK x_1 x_2 x_3 x_4 x_5 x_6 x_7 x_8 x_9 x_10 x_11 x_12 x_13 x_14 x_15 x_16 x_17 x_18 x_19 x_20 x_21 x_22 x_23 x_24 x_25 x_26 x_27 x_28 x_29 x_30 x_31 x_32 x_33 x_34 x_35 x_36 x_37 x_38 x_39 x_40 x_41 x_42 x_43 x_44 x_45 x_46 x_47 x_48 x_49 x_50 x_51 x_52 x_53 x_54 x_55) (@AT9 lpO x_1 x_2 x_3 x_4 x_5 x_6 x_7 x_8 x_9 x_10 x_11 x_12 x_13 x_14 x_15 x_16 x_17 x_18 x_19 x_20 x_21 x_22 x_23 x_24 x_25 x_26 x_27 x_28 x_29 x_30 x_31 x_32 x_33 x_34 x_35 x_36 x_37 x_38 x_39 x_40 x_41 x_42 x_43 x_44 x_45 x_46 x_47 x_48 x_49 x_50 x_51 x_52 x_53 x_54 x_55):=by
 unfold AT9
 repeat' (first | (intro _) | (with_reducible (first | exact Le.same _ | exact BU8 .. | exact Eb6 .. | refine Le.bnd ?_ ?_ | refine Le.chk ?_ | refine Le.cnd ?_ ?_ | refine Le.lp ?_)) | (cases ‹_ ⊕ _›) | exact Le.same _)
theorem Eb8 (x_1 x_2 x_3 x_4 x_5 x_6 x_7 x_8 x_9 x_10 x_11 x_12 x_13 x_14:Int)(x_15:(List Yd1))(x_16:(List Yd3))(x_17:Bool)(x_18 x_19 x_20:Int)(x_21:(List Int))(x_22:Bool)(x_23 x_24:Int)(x_25:Bool)(x_26 x_27 x_28 x_29 x_30 x_31 x_32 x_33 x_34:Int)(x_35:Bool)(x_36 x_37 x_38 x_39 x_40:Int)(x_41:(List E2))(x_42:Bool)(x_43 x_44 x_45 x_46 x_47:Int)(x_48 x_49 x_50:Bool)(x_51 x_52 x_53 x_54:Int)(x_55:Bool)(m_56:V7):Le (@AU1 lpK x_1 x_2 x_3 x_4 x_5 x_6 x_7 x_8 x_9 x_10 x_11 x_12 x_13 x_14 x_15 x_16 x_17 x_18 x_19 x_20 x_21 x_22 x_23 x_24 x_25 x_26 x_27 x_28 x_29 x_30 x_31 x_32 x_33 x_34 x_35 x_36 x_37 x_38 x_39 x_40 x_41 x_42 x_43 x_44 x_45 x_46 x_47 x_48 x_49 x_50 x_51 x_52 x_53 x_54 x_55 m_56) (@AU1 lpO x_1 x_2 x_3 x_4 x_5 x_6 x_7 x_8 x_9 x_10 x_11 x_12 x_13 x_14 x_15 x_16 x_17 x_18 x_19 x_20 x_21 x_22 x_23 x_24 x_25 x_26 x_27 x_28 x_29 x_30 x_31 x_32 x_33 x_34 x_35 x_36 x_37 x_38 x_39 x_40 x_41 x_42 x_43 x_44 x_45 x_46 x_47 x_48 x_49 x_50 x_51 x_52 x_53 x_54 x_55 m_56):=by
 unfold AU1
 repeat' (first | (intro _) | (with_reducible (first | exact Le.same _ | exact Eb7 .. | refine Le.bnd ?_ ?_ | refine Le.chk ?_ | refine Le.cnd ?_ ?_ | refine Le.lp ?_)) | (cases ‹_ ⊕ _›) | exact Le.same _)
theorem Eb9 (l_1:(List (Int×Int))):Le (@AU2 lpK l_1) (@AU2 lpO l_1):=by
 unfold AU2
 repeat' (first | (intro _) | (with_reducible (first | exact Le.same _ | refine Le.bnd ?_ ?_ | refine Le.chk ?_ | refine Le.cnd ?_ ?_ | refine Le.lp ?_)) | (cases ‹_ ⊕ _›) | exact Le.same _)
theorem Ec0 (l_1:(List (Int×Int))):Le (@AU3 lpK l_1) (@AU3 lpO l_1):=by
 unfold AU3
 repeat' (first | (intro _) | (with_reducible (first | exact Le.same _ | refine Le.bnd ?_ ?_ | refine Le.chk ?_ | refine Le.cnd ?_ ?_ | refine Le.lp ?_)) | (cases ‹_ ⊕ _›) | exact Le.same _)
theorem Ec1 (l_1:(List (Int×Int))):Le (@AU4 lpK l_1) (@AU4 lpO l_1):=by
 unfold AU4
 repeat' (first | (intro _) | (with_reducible (first | exact Le.same _ | exact Eb9 .. | exact Ec0 .. | refine Le.bnd ?_ ?_ | refine Le.chk ?_ | refine Le.cnd ?_ ?_ | refine Le.lp ?_)) | (cases ‹_ ⊕ _›) | exact Le.same _)
theorem Ec2 (f_1:(Int×Int))(l_2:(List (Int×Int))):Le (@AU5 lpK f_1 l_2) (@AU5 lpO f_1 l_2):=by
 unfold AU5
 repeat' (first | (intro _) | (with_reducible (first | exact Le.same _ | refine Le.bnd ?_ ?_ | refine Le.chk ?_ | refine Le.cnd ?_ ?_ | refine Le.lp ?_)) | (cases ‹_ ⊕ _›) | exact Le.same _)
theorem Ec3 (prior_1:(Int×Int))(three_2:Au4)(accel_3:(Bool×(Int×Int))):Le (@AH2 lpK prior_1 three_2 accel_3) (@AH2 lpO prior_1 three_2 accel_3):=by
 unfold AH2
 repeat' (first | (intro _) | (with_reducible (first | exact Le.same _ | exact Ec1 .. | exact Ec2 .. | refine Le.bnd ?_ ?_ | refine Le.chk ?_ | refine Le.cnd ?_ ?_ | refine Le.lp ?_)) | (cases ‹_ ⊕ _›) | exact Le.same _)
theorem Ec4 (m_1:V7)(x_2 x_3 x_4 x_5 x_6 x_7 x_8 x_9 x_10 x_11 x_12 x_13 x_14 x_15:Int)(x_16:(List Yd1))(x_17:(List Yd3))(x_18:Bool)(x_19 x_20 x_21:Int)(x_22:(List Int))(x_23:Bool)(x_24 x_25:Int)(x_26:Bool)(x_27 x_28 x_29 x_30 x_31 x_32 x_33 x_34 x_35:Int)(x_36:Bool)(x_37 x_38 x_39 x_40 x_41:Int)(x_42:(List E2))(x_43:Bool)(x_44 x_45 x_46 x_47 x_48:Int)(x_49 x_50 x_51:Bool)(x_52 x_53 x_54 x_55:Int)(x_56:Bool):Le (@AU7 lpK m_1 x_2 x_3 x_4 x_5 x_6 x_7 x_8 x_9 x_10 x_11 x_12 x_13 x_14 x_15 x_16 x_17 x_18 x_19 x_20 x_21 x_22 x_23 x_24 x_25 x_26 x_27 x_28 x_29 x_30 x_31 x_32 x_33 x_34 x_35 x_36 x_37 x_38 x_39 x_40 x_41 x_42 x_43 x_44 x_45 x_46 x_47 x_48 x_49 x_50 x_51 x_52 x_53 x_54 x_55 x_56) (@AU7 lpO m_1 x_2 x_3 x_4 x_5 x_6 x_7 x_8 x_9 x_10 x_11 x_12 x_13 x_14 x_15 x_16 x_17 x_18 x_19 x_20 x_21 x_22 x_23 x_24 x_25 x_26 x_27 x_28 x_29 x_30 x_31 x_32 x_33 x_34 x_35 x_36 x_37 x_38 x_39 x_40 x_41 x_42 x_43 x_44 x_45 x_46 x_47 x_48 x_49 x_50 x_51 x_52 x_53 x_54 x_55 x_56):=by
 unfold AU7
 repeat' (first | (intro _) | (with_reducible (first | exact Le.same _ | exact Eb0 .. | exact Eb3 .. | exact Eb8 .. | exact Ec3 .. | refine Le.bnd ?_ ?_ | refine Le.chk ?_ | refine Le.cnd ?_ ?_ | refine Le.lp ?_)) | (cases ‹_ ⊕ _›) | exact Le.same _)
theorem Ec5 (p_1:l6)(t_2:E6)(speed_3:(Int×Int)):Le (@AH3 lpK p_1 t_2 speed_3) (@AH3 lpO p_1 t_2 speed_3):=by
 unfold AH3
 repeat' (first | (intro _) | (with_reducible (first | exact Le.same _ | exact Ea5 .. | refine Le.bnd ?_ ?_ | refine Le.chk ?_ | refine Le.cnd ?_ ?_ | refine Le.lp ?_)) | (cases ‹_ ⊕ _›) | exact Le.same _)
theorem Ec6 (speed_1:(Int×Int))(x_2 x_3 x_4 x_5 x_6 x_7 x_8 x_9 x_10 x_11 x_12 x_13 x_14 x_15:Int)(x_16:(List Yd1))(x_17:(List Yd3))(x_18:Bool)(x_19 x_20 x_21:Int)(x_22:(List Int))(x_23:Bool)(x_24 x_25:Int)(x_26:Bool)(x_27 x_28 x_29 x_30 x_31 x_32 x_33 x_34 x_35:Int)(x_36:Bool)(x_37 x_38 x_39 x_40 x_41:Int)(x_42:(List E2))(x_43:Bool)(x_44 x_45 x_46 x_47 x_48:Int)(x_49 x_50 x_51:Bool)(x_52 x_53 x_54 x_55:Int)(x_56:Bool):Le (@AU8 lpK speed_1 x_2 x_3 x_4 x_5 x_6 x_7 x_8 x_9 x_10 x_11 x_12 x_13 x_14 x_15 x_16 x_17 x_18 x_19 x_20 x_21 x_22 x_23 x_24 x_25 x_26 x_27 x_28 x_29 x_30 x_31 x_32 x_33 x_34 x_35 x_36 x_37 x_38 x_39 x_40 x_41 x_42 x_43 x_44 x_45 x_46 x_47 x_48 x_49 x_50 x_51 x_52 x_53 x_54 x_55 x_56) (@AU8 lpO speed_1 x_2 x_3 x_4 x_5 x_6 x_7 x_8 x_9 x_10 x_11 x_12 x_13 x_14 x_15 x_16 x_17 x_18 x_19 x_20 x_21 x_22 x_23 x_24 x_25 x_26 x_27 x_28 x_29 x_30 x_31 x_32 x_33 x_34 x_35 x_36 x_37 x_38 x_39 x_40 x_41 x_42 x_43 x_44 x_45 x_46 x_47 x_48 x_49 x_50 x_51 x_52 x_53 x_54 x_55 x_56):=by
 unfold AU8
 repeat' (first | (intro _) | (with_reducible (first | exact Le.same _ | exact Ec5 .. | refine Le.bnd ?_ ?_ | refine Le.chk ?_ | refine Le.cnd ?_ ?_ | refine Le.lp ?_)) | (cases ‹_ ⊕ _›) | exact Le.same _)
theorem Ec7 (x_1:(List Yd3))(target_2:Int):Le (@Ac7 lpK x_1 target_2) (@Ac7 lpO x_1 target_2):=by
 unfold Ac7
 repeat' (first | (intro _) | (with_reducible (first | exact Le.same _ | refine Le.bnd ?_ ?_ | refine Le.chk ?_ | refine Le.cnd ?_ ?_ | refine Le.lp ?_)) | (cases ‹_ ⊕ _›) | exact Le.same _)
theorem Ec8 (t_1:E6)(id_2:Int):Le (@AM9 lpK t_1 id_2) (@AM9 lpO t_1 id_2):=by
 unfold AM9
 repeat' (first | (intro _) | (with_reducible (first | exact Le.same _ | exact Ec7 .. | refine Le.bnd ?_ ?_ | refine Le.chk ?_ | refine Le.cnd ?_ ?_ | refine Le.lp ?_)) | (cases ‹_ ⊕ _›) | exact Le.same _)
theorem Ec9 (c_1:C8)(t_2:E6)(s_3:X7)(passage_4:(Int×Int))(group_5:Int):Le (@AN0 lpK c_1 t_2 s_3 passage_4 group_5) (@AN0 lpO c_1 t_2 s_3 passage_4 group_5):=by
 unfold AN0
 repeat' (first | (intro _) | (with_reducible (first | exact Le.same _ | refine Le.bnd ?_ ?_ | refine Le.chk ?_ | refine Le.cnd ?_ ?_ | refine Le.lp ?_)) | (cases ‹_ ⊕ _›) | exact Le.same _)
theorem Ed0 (was_1:l6)(speed_2:(Int×Int))(group_3 x_4 x_5 x_6 x_7 x_8 x_9 x_10 x_11 x_12 x_13 x_14 x_15 x_16 x_17:Int)(x_18:(List Yd1))(x_19:(List Yd3))(x_20:Bool)(x_21 x_22 x_23:Int)(x_24:(List Int))(x_25:Bool)(x_26 x_27:Int)(x_28:Bool)(x_29 x_30 x_31 x_32 x_33 x_34 x_35 x_36 x_37:Int)(x_38:Bool)(x_39 x_40 x_41 x_42 x_43:Int)(x_44:(List E2))(x_45:Bool)(x_46 x_47 x_48 x_49 x_50:Int)(x_51 x_52 x_53:Bool)(x_54 x_55 x_56 x_57:Int)(x_58:Bool):Le (@AN1 lpK was_1 speed_2 group_3 x_4 x_5 x_6 x_7 x_8 x_9 x_10 x_11 x_12 x_13 x_14 x_15 x_16 x_17 x_18 x_19 x_20 x_21 x_22 x_23 x_24 x_25 x_26 x_27 x_28 x_29 x_30 x_31 x_32 x_33 x_34 x_35 x_36 x_37 x_38 x_39 x_40 x_41 x_42 x_43 x_44 x_45 x_46 x_47 x_48 x_49 x_50 x_51 x_52 x_53 x_54 x_55 x_56 x_57 x_58) (@AN1 lpO was_1 speed_2 group_3 x_4 x_5 x_6 x_7 x_8 x_9 x_10 x_11 x_12 x_13 x_14 x_15 x_16 x_17 x_18 x_19 x_20 x_21 x_22 x_23 x_24 x_25 x_26 x_27 x_28 x_29 x_30 x_31 x_32 x_33 x_34 x_35 x_36 x_37 x_38 x_39 x_40 x_41 x_42 x_43 x_44 x_45 x_46 x_47 x_48 x_49 x_50 x_51 x_52 x_53 x_54 x_55 x_56 x_57 x_58):=by
 unfold AN1
 repeat' (first | (intro _) | (with_reducible (first | exact Le.same _ | exact Ec9 .. | refine Le.bnd ?_ ?_ | refine Le.chk ?_ | refine Le.cnd ?_ ?_ | refine Le.lp ?_)) | (cases ‹_ ⊕ _›) | exact Le.same _)
theorem Ed1 (m_1:V7)(was_2:l6)(speed_3:(Int×Int))(x_4 x_5 x_6 x_7 x_8 x_9 x_10 x_11 x_12 x_13 x_14 x_15 x_16 x_17:Int)(x_18:(List Yd1))(x_19:(List Yd3))(x_20:Bool)(x_21 x_22 x_23:Int)(x_24:(List Int))(x_25:Bool)(x_26 x_27:Int)(x_28:Bool)(x_29 x_30 x_31 x_32 x_33 x_34 x_35 x_36 x_37:Int)(x_38:Bool)(x_39 x_40 x_41 x_42 x_43:Int)(x_44:(List E2))(x_45:Bool)(x_46 x_47 x_48 x_49 x_50:Int)(x_51 x_52 x_53:Bool)(x_54 x_55 x_56 x_57:Int)(x_58:Bool):Le (@AU9 lpK m_1 was_2 speed_3 x_4 x_5 x_6 x_7 x_8 x_9 x_10 x_11 x_12 x_13 x_14 x_15 x_16 x_17 x_18 x_19 x_20 x_21 x_22 x_23 x_24 x_25 x_26 x_27 x_28 x_29 x_30 x_31 x_32 x_33 x_34 x_35 x_36 x_37 x_38 x_39 x_40 x_41 x_42 x_43 x_44 x_45 x_46 x_47 x_48 x_49 x_50 x_51 x_52 x_53 x_54 x_55 x_56 x_57 x_58) (@AU9 lpO m_1 was_2 speed_3 x_4 x_5 x_6 x_7 x_8 x_9 x_10 x_11 x_12 x_13 x_14 x_15 x_16 x_17 x_18 x_19 x_20 x_21 x_22 x_23 x_24 x_25 x_26 x_27 x_28 x_29 x_30 x_31 x_32 x_33 x_34 x_35 x_36 x_37 x_38 x_39 x_40 x_41 x_42 x_43 x_44 x_45 x_46 x_47 x_48 x_49 x_50 x_51 x_52 x_53 x_54 x_55 x_56 x_57 x_58):=by
 unfold AU9
 repeat' (first | (intro _) | (with_reducible (first | exact Le.same _ | exact Ec8 .. | exact Ed0 .. | refine Le.bnd ?_ ?_ | refine Le.chk ?_ | refine Le.cnd ?_ ?_ | refine Le.lp ?_)) | (cases ‹_ ⊕ _›) | exact Le.same _)
theorem Ed2 (way_1:(Int×Int))(pulses_2 n_3:Int):Le (@AV0 lpK way_1 pulses_2 n_3) (@AV0 lpO way_1 pulses_2 n_3):=by
 unfold AV0
 repeat' (first | (intro _) | (with_reducible (first | exact Le.same _ | exact BV0 .. | exact BU9 .. | refine Le.bnd ?_ ?_ | refine Le.chk ?_ | refine Le.cnd ?_ ?_ | refine Le.lp ?_)) | (cases ‹_ ⊕ _›) | exact Le.same _)
theorem Ed3 (circ_1 way_2:(Int×Int))(pulses_3 n_4:Int):Le (@AD6 lpK circ_1 way_2 pulses_3 n_4) (@AD6 lpO circ_1 way_2 pulses_3 n_4):=by
 unfold AD6
 repeat' (first | (intro _) | (with_reducible (first | exact Le.same _ | exact Ed2 .. | refine Le.bnd ?_ ?_ | refine Le.chk ?_ | refine Le.cnd ?_ ?_ | refine Le.lp ?_)) | (cases ‹_ ⊕ _›) | exact Le.same _)
theorem Ed4 (at_1 x_2 x_3 x_4 x_5 x_6 x_7 x_8 x_9 x_10 x_11 x_12 x_13 x_14 x_15:Int)(x_16:(List Yd1))(x_17:(List Yd3))(x_18:Bool)(x_19 x_20 x_21:Int)(x_22:(List Int))(x_23:Bool)(x_24 x_25:Int)(x_26:Bool)(x_27 x_28 x_29 x_30 x_31 x_32 x_33 x_34 x_35:Int)(x_36:Bool)(x_37 x_38 x_39 x_40 x_41:Int)(x_42:(List E2))(x_43:Bool)(x_44 x_45 x_46 x_47 x_48:Int)(x_49 x_50 x_51:Bool)(x_52 x_53 x_54 x_55:Int)(x_56:Bool):Le (@AV1 lpK at_1 x_2 x_3 x_4 x_5 x_6 x_7 x_8 x_9 x_10 x_11 x_12 x_13 x_14 x_15 x_16 x_17 x_18 x_19 x_20 x_21 x_22 x_23 x_24 x_25 x_26 x_27 x_28 x_29 x_30 x_31 x_32 x_33 x_34 x_35 x_36 x_37 x_38 x_39 x_40 x_41 x_42 x_43 x_44 x_45 x_46 x_47 x_48 x_49 x_50 x_51 x_52 x_53 x_54 x_55 x_56) (@AV1 lpO at_1 x_2 x_3 x_4 x_5 x_6 x_7 x_8 x_9 x_10 x_11 x_12 x_13 x_14 x_15 x_16 x_17 x_18 x_19 x_20 x_21 x_22 x_23 x_24 x_25 x_26 x_27 x_28 x_29 x_30 x_31 x_32 x_33 x_34 x_35 x_36 x_37 x_38 x_39 x_40 x_41 x_42 x_43 x_44 x_45 x_46 x_47 x_48 x_49 x_50 x_51 x_52 x_53 x_54 x_55 x_56):=by
 unfold AV1
 repeat' (first | (intro _) | (with_reducible (first | exact Le.same _ | exact Ed3 .. | refine Le.bnd ?_ ?_ | refine Le.chk ?_ | refine Le.cnd ?_ ?_ | refine Le.lp ?_)) | (cases ‹_ ⊕ _›) | exact Le.same _)
theorem Ed5 (x_1:Au5)(speed_2:(Int×Int))(x_3 x_4 x_5 x_6 x_7 x_8 x_9 x_10 x_11 x_12 x_13 x_14 x_15 x_16:Int)(x_17:(List Yd1))(x_18:(List Yd3))(x_19:Bool)(x_20 x_21 x_22:Int)(x_23:(List Int))(x_24:Bool)(x_25 x_26:Int)(x_27:Bool)(x_28 x_29 x_30 x_31 x_32 x_33 x_34 x_35 x_36:Int)(x_37:Bool)(x_38 x_39 x_40 x_41 x_42:Int)(x_43:(List E2))(x_44:Bool)(x_45 x_46 x_47 x_48 x_49:Int)(x_50 x_51 x_52:Bool)(x_53 x_54 x_55 x_56:Int)(x_57:Bool):Le (@AV2 lpK x_1 speed_2 x_3 x_4 x_5 x_6 x_7 x_8 x_9 x_10 x_11 x_12 x_13 x_14 x_15 x_16 x_17 x_18 x_19 x_20 x_21 x_22 x_23 x_24 x_25 x_26 x_27 x_28 x_29 x_30 x_31 x_32 x_33 x_34 x_35 x_36 x_37 x_38 x_39 x_40 x_41 x_42 x_43 x_44 x_45 x_46 x_47 x_48 x_49 x_50 x_51 x_52 x_53 x_54 x_55 x_56 x_57) (@AV2 lpO x_1 speed_2 x_3 x_4 x_5 x_6 x_7 x_8 x_9 x_10 x_11 x_12 x_13 x_14 x_15 x_16 x_17 x_18 x_19 x_20 x_21 x_22 x_23 x_24 x_25 x_26 x_27 x_28 x_29 x_30 x_31 x_32 x_33 x_34 x_35 x_36 x_37 x_38 x_39 x_40 x_41 x_42 x_43 x_44 x_45 x_46 x_47 x_48 x_49 x_50 x_51 x_52 x_53 x_54 x_55 x_56 x_57):=by
 unfold AV2
 repeat' (first | (intro _) | (with_reducible (first | exact Le.same _ | exact Ed4 .. | refine Le.bnd ?_ ?_ | refine Le.chk ?_ | refine Le.cnd ?_ ?_ | refine Le.lp ?_)) | (cases ‹_ ⊕ _›) | exact Le.same _)
theorem Ed6 (t_1:E6)(ends_2:(List Int))(s_3:X7)(at_4:Int):Le (@AN2 lpK t_1 ends_2 s_3 at_4) (@AN2 lpO t_1 ends_2 s_3 at_4):=by
 unfold AN2
 repeat' (first | (intro _) | (with_reducible (first | exact Le.same _ | exact BU8 .. | refine Le.bnd ?_ ?_ | refine Le.chk ?_ | refine Le.cnd ?_ ?_ | refine Le.lp ?_)) | (cases ‹_ ⊕ _›) | exact Le.same _)
theorem Ed7 (x_1:(Int×Int)):Le (@AV3 lpK x_1) (@AV3 lpO x_1):=by
 unfold AV3
 repeat' (first | (intro _) | (with_reducible (first | exact Le.same _ | refine Le.bnd ?_ ?_ | refine Le.chk ?_ | refine Le.cnd ?_ ?_ | refine Le.lp ?_)) | (cases ‹_ ⊕ _›) | exact Le.same _)
theorem Ed8 (a_1 b_2:Int):Le (@Ad1 lpK a_1 b_2) (@Ad1 lpO a_1 b_2):=by
 unfold Ad1
 repeat' (first | (intro _) | (with_reducible (first | exact Le.same _ | exact Ed7 .. | refine Le.bnd ?_ ?_ | refine Le.chk ?_ | refine Le.cnd ?_ ?_ | refine Le.lp ?_)) | (cases ‹_ ⊕ _›) | exact Le.same _)
theorem Ed9 (c_1:C8)(free_2:Int):Le (@AN3 lpK c_1 free_2) (@AN3 lpO c_1 free_2):=by
 unfold AN3
 repeat' (first | (intro _) | (with_reducible (first | exact Le.same _ | exact Ed8 .. | refine Le.bnd ?_ ?_ | refine Le.chk ?_ | refine Le.cnd ?_ ?_ | refine Le.lp ?_)) | (cases ‹_ ⊕ _›) | exact Le.same _)
theorem Ee0 (f_1:Aa6)(x_2 x_3 x_4 x_5 x_6 x_7 x_8 x_9 x_10 x_11 x_12 x_13 x_14 x_15:Int)(x_16:(List Yd1))(x_17:(List Yd3))(x_18:Bool)(x_19 x_20 x_21:Int)(x_22:(List Int))(x_23:Bool)(x_24 x_25:Int)(x_26:Bool)(x_27 x_28 x_29 x_30 x_31 x_32 x_33 x_34 x_35:Int)(x_36:Bool)(x_37 x_38 x_39 x_40 x_41:Int)(x_42:(List E2))(x_43:Bool)(x_44 x_45 x_46 x_47 x_48:Int)(x_49 x_50 x_51:Bool)(x_52 x_53 x_54 x_55:Int)(x_56:Bool)(x_57 x_58 x_59 x_60 x_61 x_62 x_63 x_64 x_65 x_66:Int)(x_67:(List (List Int)))(x_68:Int)(x_69 x_70:Bool)(x_71 x_72:Int)(x_73 x_74 x_75 x_76 x_77:Bool)(x_78 x_79 x_80 x_81 x_82 x_83 x_84 x_85 x_86 x_87 x_88:Int):Le (@AV4 lpK f_1 x_2 x_3 x_4 x_5 x_6 x_7 x_8 x_9 x_10 x_11 x_12 x_13 x_14 x_15 x_16 x_17 x_18 x_19 x_20 x_21 x_22 x_23 x_24 x_25 x_26 x_27 x_28 x_29 x_30 x_31 x_32 x_33 x_34 x_35 x_36 x_37 x_38 x_39 x_40 x_41 x_42 x_43 x_44 x_45 x_46 x_47 x_48 x_49 x_50 x_51 x_52 x_53 x_54 x_55 x_56 x_57 x_58 x_59 x_60 x_61 x_62 x_63 x_64 x_65 x_66 x_67 x_68 x_69 x_70 x_71 x_72 x_73 x_74 x_75 x_76 x_77 x_78 x_79 x_80 x_81 x_82 x_83 x_84 x_85 x_86 x_87 x_88) (@AV4 lpO f_1 x_2 x_3 x_4 x_5 x_6 x_7 x_8 x_9 x_10 x_11 x_12 x_13 x_14 x_15 x_16 x_17 x_18 x_19 x_20 x_21 x_22 x_23 x_24 x_25 x_26 x_27 x_28 x_29 x_30 x_31 x_32 x_33 x_34 x_35 x_36 x_37 x_38 x_39 x_40 x_41 x_42 x_43 x_44 x_45 x_46 x_47 x_48 x_49 x_50 x_51 x_52 x_53 x_54 x_55 x_56 x_57 x_58 x_59 x_60 x_61 x_62 x_63 x_64 x_65 x_66 x_67 x_68 x_69 x_70 x_71 x_72 x_73 x_74 x_75 x_76 x_77 x_78 x_79 x_80 x_81 x_82 x_83 x_84 x_85 x_86 x_87 x_88):=by
 unfold AV4
 repeat' (first | (intro _) | (with_reducible (first | exact Le.same _ | exact Ed6 .. | exact Ed9 .. | refine Le.bnd ?_ ?_ | refine Le.chk ?_ | refine Le.cnd ?_ ?_ | refine Le.lp ?_)) | (cases ‹_ ⊕ _›) | exact Le.same _)
theorem Ee1 (list_1:(List (List Int)))(command_2:Bool)(x_3 x_4 x_5 x_6 x_7 x_8 x_9 x_10 x_11 x_12 x_13 x_14 x_15 x_16:Int)(x_17:(List Yd1))(x_18:(List Yd3))(x_19:Bool)(x_20 x_21 x_22:Int)(x_23:(List Int))(x_24:Bool)(x_25 x_26:Int)(x_27:Bool)(x_28 x_29 x_30 x_31 x_32 x_33 x_34 x_35 x_36:Int)(x_37:Bool)(x_38 x_39 x_40 x_41 x_42:Int)(x_43:(List E2))(x_44:Bool)(x_45 x_46 x_47 x_48 x_49:Int)(x_50 x_51 x_52:Bool)(x_53 x_54 x_55 x_56:Int)(x_57:Bool):Le (@AV5 lpK list_1 command_2 x_3 x_4 x_5 x_6 x_7 x_8 x_9 x_10 x_11 x_12 x_13 x_14 x_15 x_16 x_17 x_18 x_19 x_20 x_21 x_22 x_23 x_24 x_25 x_26 x_27 x_28 x_29 x_30 x_31 x_32 x_33 x_34 x_35 x_36 x_37 x_38 x_39 x_40 x_41 x_42 x_43 x_44 x_45 x_46 x_47 x_48 x_49 x_50 x_51 x_52 x_53 x_54 x_55 x_56 x_57) (@AV5 lpO list_1 command_2 x_3 x_4 x_5 x_6 x_7 x_8 x_9 x_10 x_11 x_12 x_13 x_14 x_15 x_16 x_17 x_18 x_19 x_20 x_21 x_22 x_23 x_24 x_25 x_26 x_27 x_28 x_29 x_30 x_31 x_32 x_33 x_34 x_35 x_36 x_37 x_38 x_39 x_40 x_41 x_42 x_43 x_44 x_45 x_46 x_47 x_48 x_49 x_50 x_51 x_52 x_53 x_54 x_55 x_56 x_57):=by
 unfold AV5
 repeat' (first | (intro _) | (with_reducible (first | exact Le.same _ | exact Ea7 .. | exact Ec4 .. | exact Ec6 .. | exact Ed1 .. | exact Ed5 .. | exact Ee0 .. | refine Le.bnd ?_ ?_ | refine Le.chk ?_ | refine Le.cnd ?_ ?_ | refine Le.lp ?_)) | (cases ‹_ ⊕ _›) | exact Le.same _)
theorem Ee2 (c_1:C8)(t_2:E6)(l_3:(List ((List (List Int))×Bool))):Le (@S9 lpK c_1 t_2 l_3) (@S9 lpO c_1 t_2 l_3):=by
 unfold S9
 repeat' (first | (intro _) | (with_reducible (first | exact Le.same _ | exact EY0 .. | exact EY2 .. | exact Ea3 .. | exact Ee1 .. | refine Le.bnd ?_ ?_ | refine Le.chk ?_ | refine Le.cnd ?_ ?_ | refine Le.lp ?_)) | (cases ‹_ ⊕ _›) | exact Le.same _)
theorem Ee3 : Le (@W0 lpK ()) (@W0 lpO ()):=by
 unfold W0
 repeat' (first | (intro _) | (with_reducible (first | exact Le.same _ | exact EX6 .. | exact Ee2 .. | refine Le.bnd ?_ ?_ | refine Le.chk ?_ | refine Le.cnd ?_ ?_ | refine Le.lp ?_)) | (cases ‹_ ⊕ _›) | exact Le.same _)
theorem Ee4:@W0 lpK ()=some true:=by kernel_rfl
theorem BV1:W0 ()=some true:=(Ee3).go _ Ee4
end Go.Proofs.YthfjpkdadjemcaaGreat
