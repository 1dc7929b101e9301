/- What is read with so many rounds of each loop at most is what is read: so a run can be looked at. -/
import Derived.Test.YthfjpkdadjemcaaGreatFnsF3
import Derived.Test.YthfjpkdadjemcaaGreatLoopF
set_option linter.unusedSimpArgs false
set_option linter.unusedVariables false
namespace Go.Proofs.YthfjpkdadjemcaaGreat
open Go Go.RowKit
@[reducible] def lpK : LP := ⟨fun f s => G3 f 3000 s⟩
structure Le {α:Type}(a b:Option α):Prop where
 go:∀y,a=some y→b=some y
section
variable {α β S X:Type}
theorem Le.same (a:Option α):Le a a:=⟨fun _ h=>h⟩
theorem Le.bnd {a b:Option α}{f g:α→Option β}(h:Le a b)(h2:∀x,Le (f x) (g x)):Le (Option.bind a f) (Option.bind b g):=by
 refine⟨fun y hy=> ?_⟩
 cases ha:a with
 |none=>rw [ha] at hy;cases hy
 |some x=>
  rw[ha] at hy;rw[h.go x ha];exact (h2 x).go y hy
theorem Le.chk {c:Bool}{a b:Option α}(h:Le a b):Le (chk none c a) (chk none c b):=by
 cases c
 ·exact Le.same _
 ·exact h
theorem Le.cnd {c:Bool}{a b a' b':Option α}(h:Le a a')(h2:Le b b'):Le (cond c a b) (cond c a' b'):=by
 cases c
 ·exact h2
 ·exact h
theorem Le.G3 {f g:S→Option (S ⊕ X)}(h:∀s,Le (f s) (g s)):∀n s,Le (G3 f n s) (G3 g n s)
 |0,s=>⟨fun y hy=>by cases hy⟩
 |n+1,s=>by
  refine⟨fun y hy=> ?_⟩
  simp only[Go.Proofs.YthfjpkdadjemcaaGreat.G3] at hy ⊢;cases hf:f s with
  |none=>rw [hf] at hy;cases hy
  |some z=>
   rw[hf] at hy;rw[(h s).go z hf];cases z with
   |inl s'=>exact (Le.G3 h n s').go y hy
   |inr x=>exact hy
theorem Le.lp {f g:S→Option (S ⊕ X)}{s:S}(h:∀s,Le (f s) (g s)):Le (@LP.lp lpK S X f s) (@LP.lp lpO S X g s):=by exact⟨fun y hy=>AY0 (n:=3000) ((Le.G3 h 3000 s).go y hy)⟩
theorem Le.fold {γ:Type}{f g:β→γ→Option β}(h:∀b c,Le (f b c) (g b c)):∀(l:List γ) (b:β),Le (l.foldlM f b) (l.foldlM g b)
 | [],b=>Le.same _
 |c::l,b=>by simp only[List.foldlM_cons];exact Le.bnd (h b c) fun b'=>Le.fold h l b'
end
theorem BN0 (s_1:V5)(t_2:F0)(r_3:E3):Le (@R1 lpK s_1 t_2 r_3) (@R1 lpO s_1 t_2 r_3):=by
 unfold R1
 repeat' (first | (intro _) | (with_reducible (first | exact Le.same _ | refine Le.bnd ?_ ?_ | refine Le.chk ?_ | refine Le.cnd ?_ ?_ | refine Le.lp ?_)) | (cases ‹_ ⊕ _›) | exact Le.same _)
theorem EM2 (a_1 b_2:Int):Le (@AL6 lpK a_1 b_2) (@AL6 lpO a_1 b_2):=by
 unfold AL6
 repeat' (first | (intro _) | (with_reducible (first | exact Le.same _ | refine Le.bnd ?_ ?_ | refine Le.chk ?_ | refine Le.cnd ?_ ?_ | refine Le.lp ?_)) | (cases ‹_ ⊕ _›) | exact Le.same _)
theorem Bz6 (b_1:(List Int)):Le (@AF7 lpK b_1) (@AF7 lpO b_1):=by
 unfold AF7
 repeat' (first | (intro _) | (with_reducible (first | exact Le.same _ | exact EM2 .. | refine Le.bnd ?_ ?_ | refine Le.chk ?_ | refine Le.cnd ?_ ?_ | refine Le.lp ?_)) | (cases ‹_ ⊕ _›) | exact Le.same _)
theorem EM3 (f_1:(Int×(Int×Int))):Le (@AC1 lpK f_1) (@AC1 lpO f_1):=by
 unfold AC1
 repeat' (first | (intro _) | (with_reducible (first | exact Le.same _ | exact Bz6 .. | refine Le.bnd ?_ ?_ | refine Le.chk ?_ | refine Le.cnd ?_ ?_ | refine Le.lp ?_)) | (cases ‹_ ⊕ _›) | exact Le.same _)
theorem EM4 (l_1:(List AL4)):Le (@Ac6 lpK l_1) (@Ac6 lpO l_1):=by
 unfold Ac6
 repeat' (first | (intro _) | (with_reducible (first | exact Le.same _ | exact EM3 .. | refine Le.bnd ?_ ?_ | refine Le.chk ?_ | refine Le.cnd ?_ ?_ | refine Le.lp ?_)) | (cases ‹_ ⊕ _›) | exact Le.same _)
theorem EM5 (l_1:(List (Int×Int)))(length_2:Int):Le (@AL7 lpK l_1 length_2) (@AL7 lpO l_1 length_2):=by
 unfold AL7
 repeat' (first | (intro _) | (with_reducible (first | exact Le.same _ | refine Le.bnd ?_ ?_ | refine Le.chk ?_ | refine Le.cnd ?_ ?_ | refine Le.lp ?_)) | (cases ‹_ ⊕ _›) | exact Le.same _)
theorem EM6 (s_1:Yd1)(many_2:Int):Le (@AL8 lpK s_1 many_2) (@AL8 lpO s_1 many_2):=by
 unfold AL8
 repeat' (first | (intro _) | (with_reducible (first | exact Le.same _ | exact EM5 .. | refine Le.bnd ?_ ?_ | refine Le.chk ?_ | refine Le.cnd ?_ ?_ | refine Le.lp ?_)) | (cases ‹_ ⊕ _›) | exact Le.same _)
theorem EM7 (t_1:F0):Le (@AL9 lpK t_1) (@AL9 lpO t_1):=by
 unfold AL9
 repeat' (first | (intro _) | (with_reducible (first | exact Le.same _ | exact EM6 .. | refine Le.bnd ?_ ?_ | refine Le.chk ?_ | refine Le.cnd ?_ ?_ | refine Le.lp ?_)) | (cases ‹_ ⊕ _›) | exact Le.same _)
theorem EM8 (c_1:C8)(t_2:F0):Le (@AF8 lpK c_1 t_2) (@AF8 lpO c_1 t_2):=by
 unfold AF8
 repeat' (first | (intro _) | (with_reducible (first | exact Le.same _ | exact EM7 .. | refine Le.bnd ?_ ?_ | refine Le.chk ?_ | refine Le.cnd ?_ ?_ | refine Le.lp ?_)) | (cases ‹_ ⊕ _›) | exact Le.same _)
theorem EM9 (v_1 n_2:Int):Le (@S1 lpK v_1 n_2) (@S1 lpO v_1 n_2):=by
 unfold S1
 repeat' (first | (intro _) | (with_reducible (first | exact Le.same _ | refine Le.bnd ?_ ?_ | refine Le.chk ?_ | refine Le.cnd ?_ ?_ | refine Le.lp ?_)) | (cases ‹_ ⊕ _›) | exact Le.same _)
theorem EN0 (t_1:F0):Le (@AF9 lpK t_1) (@AF9 lpO t_1):=by
 unfold AF9
 repeat' (first | (intro _) | (with_reducible (first | exact Le.same _ | exact EM9 .. | exact Bz6 .. | refine Le.bnd ?_ ?_ | refine Le.chk ?_ | refine Le.cnd ?_ ?_ | refine Le.lp ?_)) | (cases ‹_ ⊕ _›) | exact Le.same _)
theorem EN1 (sum_1 b_2:Int):Le (@AM0 lpK sum_1 b_2) (@AM0 lpO sum_1 b_2):=by
 unfold AM0
 repeat' (first | (intro _) | (with_reducible (first | exact Le.same _ | refine Le.bnd ?_ ?_ | refine Le.chk ?_ | refine Le.cnd ?_ ?_ | refine Le.lp ?_)) | (cases ‹_ ⊕ _›) | exact Le.same _)
theorem EN2 (sum_1:Int)(b_2:(List Int)):Le (@AM1 lpK sum_1 b_2) (@AM1 lpO sum_1 b_2):=by
 unfold AM1
 repeat' (first | (intro _) | (with_reducible (first | exact Le.same _ | exact EN1 .. | refine Le.bnd ?_ ?_ | refine Le.chk ?_ | refine Le.cnd ?_ ?_ | refine Le.lp ?_)) | (cases ‹_ ⊕ _›) | exact Le.same _)
theorem Bz7 (b_1:(List Int)):Le (@AG0 lpK b_1) (@AG0 lpO b_1):=by
 unfold AG0
 repeat' (first | (intro _) | (with_reducible (first | exact Le.same _ | exact EN2 .. | refine Le.bnd ?_ ?_ | refine Le.chk ?_ | refine Le.cnd ?_ ?_ | refine Le.lp ?_)) | (cases ‹_ ⊕ _›) | exact Le.same _)
theorem Ai6 (n_1:Int)(x_2:(List Int))(x_3:Bool):Le (@L9 lpK n_1 x_2 x_3) (@L9 lpO n_1 x_2 x_3):=by
 unfold L9
 repeat' (first | (intro _) | (with_reducible (first | exact Le.same _ | refine Le.bnd ?_ ?_ | refine Le.chk ?_ | refine Le.cnd ?_ ?_ | refine Le.lp ?_)) | (cases ‹_ ⊕ _›) | exact Le.same _)
theorem Bz8 (n_1 most_2:Int)(x_3:(List Int))(x_4:Bool):Le (@X4 lpK n_1 most_2 x_3 x_4) (@X4 lpO n_1 most_2 x_3 x_4):=by
 unfold X4
 repeat' (first | (intro _) | (with_reducible (first | exact Le.same _ | exact Ai6 .. | refine Le.bnd ?_ ?_ | refine Le.chk ?_ | refine Le.cnd ?_ ?_ | refine Le.lp ?_)) | (cases ‹_ ⊕ _›) | exact Le.same _)
theorem EN3 (x_1:(List Int))(x_2:Bool):Le (@AM2 lpK x_1 x_2) (@AM2 lpO x_1 x_2):=by
 unfold AM2
 repeat' (first | (intro _) | (with_reducible (first | exact Le.same _ | exact Ai6 .. | refine Le.bnd ?_ ?_ | refine Le.chk ?_ | refine Le.cnd ?_ ?_ | refine Le.lp ?_)) | (cases ‹_ ⊕ _›) | exact Le.same _)
theorem EN4 (n_1:Int)(x_2:(List Int))(x_3:Bool):Le (@AM3 lpK n_1 x_2 x_3) (@AM3 lpO n_1 x_2 x_3):=by
 unfold AM3
 repeat' (first | (intro _) | (with_reducible (first | exact Le.same _ | exact EN3 .. | refine Le.bnd ?_ ?_ | refine Le.chk ?_ | refine Le.cnd ?_ ?_ | refine Le.lp ?_)) | (cases ‹_ ⊕ _›) | exact Le.same _)
theorem EN5 (x_1:(List Int))(x_2:Bool):Le (@AM4 lpK x_1 x_2) (@AM4 lpO x_1 x_2):=by
 unfold AM4
 repeat' (first | (intro _) | (with_reducible (first | exact Le.same _ | exact Ai6 .. | refine Le.bnd ?_ ?_ | refine Le.chk ?_ | refine Le.cnd ?_ ?_ | refine Le.lp ?_)) | (cases ‹_ ⊕ _›) | exact Le.same _)
theorem EN6 (n_1:Int)(x_2:(List Int))(x_3:Bool):Le (@AM5 lpK n_1 x_2 x_3) (@AM5 lpO n_1 x_2 x_3):=by
 unfold AM5
 repeat' (first | (intro _) | (with_reducible (first | exact Le.same _ | exact EN5 .. | refine Le.bnd ?_ ?_ | refine Le.chk ?_ | refine Le.cnd ?_ ?_ | refine Le.lp ?_)) | (cases ‹_ ⊕ _›) | exact Le.same _)
theorem EN7 (x_1:(List Int))(x_2:Bool):Le (@AM6 lpK x_1 x_2) (@AM6 lpO x_1 x_2):=by
 unfold AM6
 repeat' (first | (intro _) | (with_reducible (first | exact Le.same _ | exact Ai6 .. | exact Bz8 .. | exact EN4 .. | exact EN6 .. | refine Le.bnd ?_ ?_ | refine Le.chk ?_ | refine Le.cnd ?_ ?_ | refine Le.lp ?_)) | (cases ‹_ ⊕ _›) | exact Le.same _)
theorem EN8 (n_1:Int)(x_2:(List Int))(x_3:Bool):Le (@AM7 lpK n_1 x_2 x_3) (@AM7 lpO n_1 x_2 x_3):=by
 unfold AM7
 repeat' (first | (intro _) | (with_reducible (first | exact Le.same _ | exact EN7 .. | refine Le.bnd ?_ ?_ | refine Le.chk ?_ | refine Le.cnd ?_ ?_ | refine Le.lp ?_)) | (cases ‹_ ⊕ _›) | exact Le.same _)
theorem EN9 (x_1:(List Int))(x_2:Bool):Le (@AM8 lpK x_1 x_2) (@AM8 lpO x_1 x_2):=by
 unfold AM8
 repeat' (first | (intro _) | (with_reducible (first | exact Le.same _ | exact Ai6 .. | refine Le.bnd ?_ ?_ | refine Le.chk ?_ | refine Le.cnd ?_ ?_ | refine Le.lp ?_)) | (cases ‹_ ⊕ _›) | exact Le.same _)
theorem EO0 (n_1:Int)(x_2:(List Int))(x_3:Bool):Le (@AM9 lpK n_1 x_2 x_3) (@AM9 lpO n_1 x_2 x_3):=by
 unfold AM9
 repeat' (first | (intro _) | (with_reducible (first | exact Le.same _ | exact EN9 .. | refine Le.bnd ?_ ?_ | refine Le.chk ?_ | refine Le.cnd ?_ ?_ | refine Le.lp ?_)) | (cases ‹_ ⊕ _›) | exact Le.same _)
theorem EO1 (l_1:(List (Int×Int)))(length_2:Int):Le (@AN0 lpK l_1 length_2) (@AN0 lpO l_1 length_2):=by
 unfold AN0
 repeat' (first | (intro _) | (with_reducible (first | exact Le.same _ | refine Le.bnd ?_ ?_ | refine Le.chk ?_ | refine Le.cnd ?_ ?_ | refine Le.lp ?_)) | (cases ‹_ ⊕ _›) | exact Le.same _)
theorem EO2 (t_1:F0)(s_2:Yd1):Le (@AN1 lpK t_1 s_2) (@AN1 lpO t_1 s_2):=by
 unfold AN1
 repeat' (first | (intro _) | (with_reducible (first | exact Le.same _ | exact EO1 .. | refine Le.bnd ?_ ?_ | refine Le.chk ?_ | refine Le.cnd ?_ ?_ | refine Le.lp ?_)) | (cases ‹_ ⊕ _›) | exact Le.same _)
theorem Bz9 (t_1:F0):Le (@AG1 lpK t_1) (@AG1 lpO t_1):=by
 unfold AG1
 repeat' (first | (intro _) | (with_reducible (first | exact Le.same _ | exact EO2 .. | refine Le.bnd ?_ ?_ | refine Le.chk ?_ | refine Le.cnd ?_ ?_ | refine Le.lp ?_)) | (cases ‹_ ⊕ _›) | exact Le.same _)
theorem EO3 (b_1:(List Int)):Le (@AG2 lpK b_1) (@AG2 lpO b_1):=by
 unfold AG2
 repeat' (first | (intro _) | (with_reducible (first | exact Le.same _ | exact Bz7 .. | exact Bz8 .. | exact EN8 .. | exact EO0 .. | exact Bz9 .. | refine Le.bnd ?_ ?_ | refine Le.chk ?_ | refine Le.cnd ?_ ?_ | refine Le.lp ?_)) | (cases ‹_ ⊕ _›) | exact Le.same _)
theorem EO4 (x_1:(Int×Int))(d_2:Int):Le (@AN3 lpK x_1 d_2) (@AN3 lpO x_1 d_2):=by
 unfold AN3
 repeat' (first | (intro _) | (with_reducible (first | exact Le.same _ | refine Le.bnd ?_ ?_ | refine Le.chk ?_ | refine Le.cnd ?_ ?_ | refine Le.lp ?_)) | (cases ‹_ ⊕ _›) | exact Le.same _)
theorem CA0 (a_1 b_2 c_3:Int)(up_4:Bool):Le (@AG3 lpK a_1 b_2 c_3 up_4) (@AG3 lpO a_1 b_2 c_3 up_4):=by
 unfold AG3
 repeat' (first | (intro _) | (with_reducible (first | exact Le.same _ | exact EO4 .. | refine Le.bnd ?_ ?_ | refine Le.chk ?_ | refine Le.cnd ?_ ?_ | refine Le.lp ?_)) | (cases ‹_ ⊕ _›) | exact Le.same _)
theorem BN1 (a_1 b_2 c_3:Int):Le (@AC2 lpK a_1 b_2 c_3) (@AC2 lpO a_1 b_2 c_3):=by
 unfold AC2
 repeat' (first | (intro _) | (with_reducible (first | exact Le.same _ | exact CA0 .. | refine Le.bnd ?_ ?_ | refine Le.chk ?_ | refine Le.cnd ?_ ?_ | refine Le.lp ?_)) | (cases ‹_ ⊕ _›) | exact Le.same _)
theorem EO5 (c_1:C8):Le (@AN4 lpK c_1) (@AN4 lpO c_1):=by
 unfold AN4
 repeat' (first | (intro _) | (with_reducible (first | exact Le.same _ | exact BN1 .. | refine Le.bnd ?_ ?_ | refine Le.chk ?_ | refine Le.cnd ?_ ?_ | refine Le.lp ?_)) | (cases ‹_ ⊕ _›) | exact Le.same _)
theorem EO6 (x_1 x_2 x_3 x_4 x_5 x_6 x_7 x_8 x_9 x_10 x_11 x_12 x_13 x_14:Int):Le (@AN5 lpK x_1 x_2 x_3 x_4 x_5 x_6 x_7 x_8 x_9 x_10 x_11 x_12 x_13 x_14) (@AN5 lpO x_1 x_2 x_3 x_4 x_5 x_6 x_7 x_8 x_9 x_10 x_11 x_12 x_13 x_14):=by
 unfold AN5
 repeat' (first | (intro _) | (with_reducible (first | exact Le.same _ | exact EO5 .. | refine Le.bnd ?_ ?_ | refine Le.chk ?_ | refine Le.cnd ?_ ?_ | refine Le.lp ?_)) | (cases ‹_ ⊕ _›) | exact Le.same _)
theorem EO7 (c_1:C8):Le (@AN6 lpK c_1) (@AN6 lpO c_1):=by
 unfold AN6
 repeat' (first | (intro _) | (with_reducible (first | exact Le.same _ | exact EO6 .. | refine Le.bnd ?_ ?_ | refine Le.chk ?_ | refine Le.cnd ?_ ?_ | refine Le.lp ?_)) | (cases ‹_ ⊕ _›) | exact Le.same _)
theorem EO8 (c_1:C8)(t_2:F0):Le (@AG4 lpK c_1 t_2) (@AG4 lpO c_1 t_2):=by
 unfold AG4
 repeat' (first | (intro _) | (with_reducible (first | exact Le.same _ | exact EO7 .. | exact Bz9 .. | refine Le.bnd ?_ ?_ | refine Le.chk ?_ | refine Le.cnd ?_ ?_ | refine Le.lp ?_)) | (cases ‹_ ⊕ _›) | exact Le.same _)
theorem CA1 (l_1:(List (Int×Int)))(s_2:(Int×Int)):Le (@AG6 lpK l_1 s_2) (@AG6 lpO l_1 s_2):=by
 unfold AG6
 repeat' (first | (intro _) | (with_reducible (first | exact Le.same _ | refine Le.bnd ?_ ?_ | refine Le.chk ?_ | refine Le.cnd ?_ ?_ | refine Le.lp ?_)) | (cases ‹_ ⊕ _›) | exact Le.same _)
theorem EO9 (t_1:F0):Le (@AG7 lpK t_1) (@AG7 lpO t_1):=by
 unfold AG7
 repeat' (first | (intro _) | (with_reducible (first | exact Le.same _ | exact CA1 .. | refine Le.bnd ?_ ?_ | refine Le.chk ?_ | refine Le.cnd ?_ ?_ | refine Le.lp ?_)) | (cases ‹_ ⊕ _›) | exact Le.same _)
theorem EP0 (t_1:F0):Le (@AG8 lpK t_1) (@AG8 lpO t_1):=by
 unfold AG8
 repeat' (first | (intro _) | (with_reducible (first | exact Le.same _ | refine Le.bnd ?_ ?_ | refine Le.chk ?_ | refine Le.cnd ?_ ?_ | refine Le.lp ?_)) | (cases ‹_ ⊕ _›) | exact Le.same _)
theorem EP1 (c_1:C8)(img_2:(List Int)):Le (@AN8 lpK c_1 img_2) (@AN8 lpO c_1 img_2):=by
 unfold AN8
 repeat' (first | (intro _) | (with_reducible (first | exact Le.same _ | exact EO3 .. | exact EO8 .. | exact EO9 .. | exact EP0 .. | refine Le.bnd ?_ ?_ | refine Le.chk ?_ | refine Le.cnd ?_ ?_ | refine Le.lp ?_)) | (cases ‹_ ⊕ _›) | exact Le.same _)
theorem EP2 (b_1:(List Int)):Le (@AN9 lpK b_1) (@AN9 lpO b_1):=by
 unfold AN9
 repeat' (first | (intro _) | (with_reducible (first | exact Le.same _ | exact Bz7 .. | refine Le.bnd ?_ ?_ | refine Le.chk ?_ | refine Le.cnd ?_ ?_ | refine Le.lp ?_)) | (cases ‹_ ⊕ _›) | exact Le.same _)
theorem EP3 (s:K9)(t:TkD)(p:Int×Int):Le (@AC5 lpK s t p) (@AC5 lpO s t p):=by
 unfold AC5;split
 ·split
  ·exact Le.same _
  ·split
   ·exact Le.bnd (Le.fold (fun b c=>Le.bnd (BN0 _ _ _) fun _=>Le.same _) _ _) fun _=>Le.same _
   ·exact Le.same _
 ·exact Le.same _
theorem EP4 (seq_1:Int)(b_2:(List Int))(x_3 x_4 x_5 x_6 x_7 x_8:Bool)(x_9 x_10 x_11 x_12 x_13 x_14 x_15 x_16 x_17 x_18:Int):Le (@AO6 lpK seq_1 b_2 x_3 x_4 x_5 x_6 x_7 x_8 x_9 x_10 x_11 x_12 x_13 x_14 x_15 x_16 x_17 x_18) (@AO6 lpO seq_1 b_2 x_3 x_4 x_5 x_6 x_7 x_8 x_9 x_10 x_11 x_12 x_13 x_14 x_15 x_16 x_17 x_18):=by
 unfold AO6
 repeat' (first | (intro _) | (with_reducible (first | exact Le.same _ | exact EP2 .. | refine Le.bnd ?_ ?_ | refine Le.chk ?_ | refine Le.cnd ?_ ?_ | refine Le.lp ?_)) | (cases ‹_ ⊕ _›) | exact Le.same _)
theorem EP5 (cycle_1:Int)(list_2:(List (List Int))):Le (@AH8 lpK cycle_1 list_2) (@AH8 lpO cycle_1 list_2):=by
 unfold AH8
 repeat' (first | (intro _) | (with_reducible (first | exact Le.same _ | exact EP4 .. | refine Le.bnd ?_ ?_ | refine Le.chk ?_ | refine Le.cnd ?_ ?_ | refine Le.lp ?_)) | (cases ‹_ ⊕ _›) | exact Le.same _)
theorem BN2 (a_1 b_2 c_3:Int):Le (@AC7 lpK a_1 b_2 c_3) (@AC7 lpO a_1 b_2 c_3):=by
 unfold AC7
 repeat' (first | (intro _) | (with_reducible (first | exact Le.same _ | exact CA0 .. | refine Le.bnd ?_ ?_ | refine Le.chk ?_ | refine Le.cnd ?_ ?_ | refine Le.lp ?_)) | (cases ‹_ ⊕ _›) | exact Le.same _)
theorem EP6 (s_1:(Int×Int))(k_2 by_3:Int):Le (@AH9 lpK s_1 k_2 by_3) (@AH9 lpO s_1 k_2 by_3):=by
 unfold AH9
 repeat' (first | (intro _) | (with_reducible (first | exact Le.same _ | exact BN2 .. | exact BN1 .. | refine Le.bnd ?_ ?_ | refine Le.chk ?_ | refine Le.cnd ?_ ?_ | refine Le.lp ?_)) | (cases ‹_ ⊕ _›) | exact Le.same _)
theorem EP7 (d_1:Int)(circ_2:(Int×Int))(pulses_3:Int):Le (@AI0 lpK d_1 circ_2 pulses_3) (@AI0 lpO d_1 circ_2 pulses_3):=by
 unfold AI0
 repeat' (first | (intro _) | (with_reducible (first | exact Le.same _ | exact EP6 .. | refine Le.bnd ?_ ?_ | refine Le.chk ?_ | refine Le.cnd ?_ ?_ | refine Le.lp ?_)) | (cases ‹_ ⊕ _›) | exact Le.same _)
theorem EP8 (i_1:Int)(m_2:T7)(x_3 x_4 x_5 x_6 x_7 x_8 x_9 x_10 x_11 x_12 x_13 x_14 x_15 x_16:Int)(x_17:(List Yd1))(x_18:(List Yd3))(x_19:Bool)(x_20 x_21 x_22:Int)(x_23:(List Int))(x_24:Bool)(x_25 x_26:Int)(x_27:Bool)(x_28 x_29 x_30 x_31 x_32 x_33 x_34 x_35 x_36:Int)(x_37:Bool)(x_38 x_39 x_40 x_41 x_42:Int)(x_43:(List E3))(x_44:Bool)(x_45 x_46 x_47 x_48 x_49:Int)(x_50 x_51 x_52:Bool)(x_53 x_54 x_55 x_56:Int)(x_57:Bool):Le (@z8 lpK i_1 m_2 x_3 x_4 x_5 x_6 x_7 x_8 x_9 x_10 x_11 x_12 x_13 x_14 x_15 x_16 x_17 x_18 x_19 x_20 x_21 x_22 x_23 x_24 x_25 x_26 x_27 x_28 x_29 x_30 x_31 x_32 x_33 x_34 x_35 x_36 x_37 x_38 x_39 x_40 x_41 x_42 x_43 x_44 x_45 x_46 x_47 x_48 x_49 x_50 x_51 x_52 x_53 x_54 x_55 x_56 x_57) (@z8 lpO i_1 m_2 x_3 x_4 x_5 x_6 x_7 x_8 x_9 x_10 x_11 x_12 x_13 x_14 x_15 x_16 x_17 x_18 x_19 x_20 x_21 x_22 x_23 x_24 x_25 x_26 x_27 x_28 x_29 x_30 x_31 x_32 x_33 x_34 x_35 x_36 x_37 x_38 x_39 x_40 x_41 x_42 x_43 x_44 x_45 x_46 x_47 x_48 x_49 x_50 x_51 x_52 x_53 x_54 x_55 x_56 x_57):=by
 unfold z8
 repeat' (first | (intro _) | (with_reducible (first | exact Le.same _ | exact EP7 .. | refine Le.bnd ?_ ?_ | refine Le.chk ?_ | refine Le.cnd ?_ ?_ | refine Le.lp ?_)) | (cases ‹_ ⊕ _›) | exact Le.same _)
theorem EP9 (c_1:C8)(r_2:Int):Le (@AO7 lpK c_1 r_2) (@AO7 lpO c_1 r_2):=by
 unfold AO7
 repeat' (first | (intro _) | (with_reducible (first | exact Le.same _ | exact BN2 .. | refine Le.bnd ?_ ?_ | refine Le.chk ?_ | refine Le.cnd ?_ ?_ | refine Le.lp ?_)) | (cases ‹_ ⊕ _›) | exact Le.same _)
theorem EQ0 (c_1:C8)(r_2:Int):Le (@AI2 lpK c_1 r_2) (@AI2 lpO c_1 r_2):=by
 unfold AI2
 repeat' (first | (intro _) | (with_reducible (first | exact Le.same _ | exact EP9 .. | refine Le.bnd ?_ ?_ | refine Le.chk ?_ | refine Le.cnd ?_ ?_ | refine Le.lp ?_)) | (cases ‹_ ⊕ _›) | exact Le.same _)
theorem EQ1 (x_1 x_2 x_3 x_4 x_5 x_6 x_7 x_8 x_9 x_10 x_11 x_12 x_13 x_14:Int)(x_15:(List Yd1))(x_16:(List Yd3))(x_17:Bool)(x_18 x_19 x_20:Int)(x_21:(List Int))(x_22:Bool)(x_23 x_24:Int)(x_25:Bool)(x_26 x_27 x_28 x_29 x_30 x_31 x_32 x_33 x_34:Int)(x_35:Bool)(x_36 x_37 x_38 x_39 x_40:Int)(x_41:(List E3))(x_42:Bool)(x_43 x_44 x_45 x_46 x_47:Int)(x_48 x_49 x_50:Bool)(x_51 x_52 x_53 x_54:Int)(x_55:Bool)(m_56:T7):Le (@AO9 lpK x_1 x_2 x_3 x_4 x_5 x_6 x_7 x_8 x_9 x_10 x_11 x_12 x_13 x_14 x_15 x_16 x_17 x_18 x_19 x_20 x_21 x_22 x_23 x_24 x_25 x_26 x_27 x_28 x_29 x_30 x_31 x_32 x_33 x_34 x_35 x_36 x_37 x_38 x_39 x_40 x_41 x_42 x_43 x_44 x_45 x_46 x_47 x_48 x_49 x_50 x_51 x_52 x_53 x_54 x_55 m_56) (@AO9 lpO x_1 x_2 x_3 x_4 x_5 x_6 x_7 x_8 x_9 x_10 x_11 x_12 x_13 x_14 x_15 x_16 x_17 x_18 x_19 x_20 x_21 x_22 x_23 x_24 x_25 x_26 x_27 x_28 x_29 x_30 x_31 x_32 x_33 x_34 x_35 x_36 x_37 x_38 x_39 x_40 x_41 x_42 x_43 x_44 x_45 x_46 x_47 x_48 x_49 x_50 x_51 x_52 x_53 x_54 x_55 m_56):=by
 unfold AO9
 repeat' (first | (intro _) | (with_reducible (first | exact Le.same _ | exact EQ0 .. | refine Le.bnd ?_ ?_ | refine Le.chk ?_ | refine Le.cnd ?_ ?_ | refine Le.lp ?_)) | (cases ‹_ ⊕ _›) | exact Le.same _)
theorem EQ2 (segment_1 start_2 x_3 x_4:Int)(x_5:(List Yd1))(x_6:(List Yd3))(x_7:Bool)(x_8 x_9:Int):Le (@AP0 lpK segment_1 start_2 x_3 x_4 x_5 x_6 x_7 x_8 x_9) (@AP0 lpO segment_1 start_2 x_3 x_4 x_5 x_6 x_7 x_8 x_9):=by
 unfold AP0
 repeat' (first | (intro _) | (with_reducible (first | exact Le.same _ | exact CA1 .. | refine Le.bnd ?_ ?_ | refine Le.chk ?_ | refine Le.cnd ?_ ?_ | refine Le.lp ?_)) | (cases ‹_ ⊕ _›) | exact Le.same _)
theorem EQ3 (s_1:V5)(t_2:F0)(x_3 x_4:Int)(x_5:(List Yd1))(x_6:(List Yd3))(x_7:Bool)(x_8 x_9:Int):Le (@AP1 lpK s_1 t_2 x_3 x_4 x_5 x_6 x_7 x_8 x_9) (@AP1 lpO s_1 t_2 x_3 x_4 x_5 x_6 x_7 x_8 x_9):=by
 unfold AP1
 repeat' (first | (intro _) | (with_reducible (first | exact Le.same _ | exact EQ2 .. | refine Le.bnd ?_ ?_ | refine Le.chk ?_ | refine Le.cnd ?_ ?_ | refine Le.lp ?_)) | (cases ‹_ ⊕ _›) | exact Le.same _)
theorem EQ4 (s_1:V5)(t_2:F0)(p_3:(Int×Int)):Le (@AP2 lpK s_1 t_2 p_3) (@AP2 lpO s_1 t_2 p_3):=by
 unfold AP2
 repeat' (first | (intro _) | (with_reducible (first | exact Le.same _ | exact EQ3 .. | refine Le.bnd ?_ ?_ | refine Le.chk ?_ | refine Le.cnd ?_ ?_ | refine Le.lp ?_)) | (cases ‹_ ⊕ _›) | exact Le.same _)
theorem EQ5 (x_1 x_2 x_3 x_4 x_5 x_6 x_7 x_8 x_9 x_10 x_11 x_12 x_13 x_14:Int)(x_15:(List Yd1))(x_16:(List Yd3))(x_17:Bool)(x_18 x_19 x_20:Int)(x_21:(List Int))(x_22:Bool)(x_23 x_24:Int)(x_25:Bool)(x_26 x_27 x_28 x_29 x_30 x_31 x_32 x_33 x_34:Int)(x_35:Bool)(x_36 x_37 x_38 x_39 x_40:Int)(x_41:(List E3))(x_42:Bool)(x_43 x_44 x_45 x_46 x_47:Int)(x_48 x_49 x_50:Bool)(x_51 x_52 x_53 x_54:Int)(x_55:Bool):Le (@AP3 lpK x_1 x_2 x_3 x_4 x_5 x_6 x_7 x_8 x_9 x_10 x_11 x_12 x_13 x_14 x_15 x_16 x_17 x_18 x_19 x_20 x_21 x_22 x_23 x_24 x_25 x_26 x_27 x_28 x_29 x_30 x_31 x_32 x_33 x_34 x_35 x_36 x_37 x_38 x_39 x_40 x_41 x_42 x_43 x_44 x_45 x_46 x_47 x_48 x_49 x_50 x_51 x_52 x_53 x_54 x_55) (@AP3 lpO x_1 x_2 x_3 x_4 x_5 x_6 x_7 x_8 x_9 x_10 x_11 x_12 x_13 x_14 x_15 x_16 x_17 x_18 x_19 x_20 x_21 x_22 x_23 x_24 x_25 x_26 x_27 x_28 x_29 x_30 x_31 x_32 x_33 x_34 x_35 x_36 x_37 x_38 x_39 x_40 x_41 x_42 x_43 x_44 x_45 x_46 x_47 x_48 x_49 x_50 x_51 x_52 x_53 x_54 x_55):=by
 unfold AP3
 repeat' (first | (intro _) | (with_reducible (first | exact Le.same _ | exact BN0 .. | exact EQ4 .. | refine Le.bnd ?_ ?_ | refine Le.chk ?_ | refine Le.cnd ?_ ?_ | refine Le.lp ?_)) | (cases ‹_ ⊕ _›) | exact Le.same _)
theorem EQ6 (x_1 x_2 x_3 x_4 x_5 x_6 x_7 x_8 x_9 x_10 x_11 x_12 x_13 x_14:Int)(x_15:(List Yd1))(x_16:(List Yd3))(x_17:Bool)(x_18 x_19 x_20:Int)(x_21:(List Int))(x_22:Bool)(x_23 x_24:Int)(x_25:Bool)(x_26 x_27 x_28 x_29 x_30 x_31 x_32 x_33 x_34:Int)(x_35:Bool)(x_36 x_37 x_38 x_39 x_40:Int)(x_41:(List E3))(x_42:Bool)(x_43 x_44 x_45 x_46 x_47:Int)(x_48 x_49 x_50:Bool)(x_51 x_52 x_53 x_54:Int)(x_55:Bool)(m_56:T7):Le (@AP5 lpK x_1 x_2 x_3 x_4 x_5 x_6 x_7 x_8 x_9 x_10 x_11 x_12 x_13 x_14 x_15 x_16 x_17 x_18 x_19 x_20 x_21 x_22 x_23 x_24 x_25 x_26 x_27 x_28 x_29 x_30 x_31 x_32 x_33 x_34 x_35 x_36 x_37 x_38 x_39 x_40 x_41 x_42 x_43 x_44 x_45 x_46 x_47 x_48 x_49 x_50 x_51 x_52 x_53 x_54 x_55 m_56) (@AP5 lpO x_1 x_2 x_3 x_4 x_5 x_6 x_7 x_8 x_9 x_10 x_11 x_12 x_13 x_14 x_15 x_16 x_17 x_18 x_19 x_20 x_21 x_22 x_23 x_24 x_25 x_26 x_27 x_28 x_29 x_30 x_31 x_32 x_33 x_34 x_35 x_36 x_37 x_38 x_39 x_40 x_41 x_42 x_43 x_44 x_45 x_46 x_47 x_48 x_49 x_50 x_51 x_52 x_53 x_54 x_55 m_56):=by
 unfold AP5
 repeat' (first | (intro _) | (with_reducible (first | exact Le.same _ | exact EQ5 .. | refine Le.bnd ?_ ?_ | refine Le.chk ?_ | refine Le.cnd ?_ ?_ | refine Le.lp ?_)) | (cases ‹_ ⊕ _›) | exact Le.same _)
theorem EQ7 (l_1:(List (Int×Int))):Le (@AP6 lpK l_1) (@AP6 lpO l_1):=by
 unfold AP6
 repeat' (first | (intro _) | (with_reducible (first | exact Le.same _ | refine Le.bnd ?_ ?_ | refine Le.chk ?_ | refine Le.cnd ?_ ?_ | refine Le.lp ?_)) | (cases ‹_ ⊕ _›) | exact Le.same _)
theorem EQ8 (l_1:(List (Int×Int))):Le (@AP7 lpK l_1) (@AP7 lpO l_1):=by
 unfold AP7
 repeat' (first | (intro _) | (with_reducible (first | exact Le.same _ | refine Le.bnd ?_ ?_ | refine Le.chk ?_ | refine Le.cnd ?_ ?_ | refine Le.lp ?_)) | (cases ‹_ ⊕ _›) | exact Le.same _)
theorem EQ9 (l_1:(List (Int×Int))):Le (@AP8 lpK l_1) (@AP8 lpO l_1):=by
 unfold AP8
 repeat' (first | (intro _) | (with_reducible (first | exact Le.same _ | exact EQ7 .. | exact EQ8 .. | refine Le.bnd ?_ ?_ | refine Le.chk ?_ | refine Le.cnd ?_ ?_ | refine Le.lp ?_)) | (cases ‹_ ⊕ _›) | exact Le.same _)
theorem ER0 (f_1:(Int×Int))(l_2:(List (Int×Int))):Le (@AP9 lpK f_1 l_2) (@AP9 lpO f_1 l_2):=by
 unfold AP9
 repeat' (first | (intro _) | (with_reducible (first | exact Le.same _ | refine Le.bnd ?_ ?_ | refine Le.chk ?_ | refine Le.cnd ?_ ?_ | refine Le.lp ?_)) | (cases ‹_ ⊕ _›) | exact Le.same _)
theorem ER1 (prior_1:(Int×Int))(three_2:Ao9)(accel_3:(Bool×(Int×Int))):Le (@AI4 lpK prior_1 three_2 accel_3) (@AI4 lpO prior_1 three_2 accel_3):=by
 unfold AI4
 repeat' (first | (intro _) | (with_reducible (first | exact Le.same _ | exact EQ9 .. | exact ER0 .. | refine Le.bnd ?_ ?_ | refine Le.chk ?_ | refine Le.cnd ?_ ?_ | refine Le.lp ?_)) | (cases ‹_ ⊕ _›) | exact Le.same _)
theorem ER2 (m_1:T7)(x_2 x_3 x_4 x_5 x_6 x_7 x_8 x_9 x_10 x_11 x_12 x_13 x_14 x_15:Int)(x_16:(List Yd1))(x_17:(List Yd3))(x_18:Bool)(x_19 x_20 x_21:Int)(x_22:(List Int))(x_23:Bool)(x_24 x_25:Int)(x_26:Bool)(x_27 x_28 x_29 x_30 x_31 x_32 x_33 x_34 x_35:Int)(x_36:Bool)(x_37 x_38 x_39 x_40 x_41:Int)(x_42:(List E3))(x_43:Bool)(x_44 x_45 x_46 x_47 x_48:Int)(x_49 x_50 x_51:Bool)(x_52 x_53 x_54 x_55:Int)(x_56:Bool):Le (@AQ1 lpK m_1 x_2 x_3 x_4 x_5 x_6 x_7 x_8 x_9 x_10 x_11 x_12 x_13 x_14 x_15 x_16 x_17 x_18 x_19 x_20 x_21 x_22 x_23 x_24 x_25 x_26 x_27 x_28 x_29 x_30 x_31 x_32 x_33 x_34 x_35 x_36 x_37 x_38 x_39 x_40 x_41 x_42 x_43 x_44 x_45 x_46 x_47 x_48 x_49 x_50 x_51 x_52 x_53 x_54 x_55 x_56) (@AQ1 lpO m_1 x_2 x_3 x_4 x_5 x_6 x_7 x_8 x_9 x_10 x_11 x_12 x_13 x_14 x_15 x_16 x_17 x_18 x_19 x_20 x_21 x_22 x_23 x_24 x_25 x_26 x_27 x_28 x_29 x_30 x_31 x_32 x_33 x_34 x_35 x_36 x_37 x_38 x_39 x_40 x_41 x_42 x_43 x_44 x_45 x_46 x_47 x_48 x_49 x_50 x_51 x_52 x_53 x_54 x_55 x_56):=by
 unfold AQ1
 repeat' (first | (intro _) | (with_reducible (first | exact Le.same _ | exact EP8 .. | exact EQ1 .. | exact EQ6 .. | exact ER1 .. | refine Le.bnd ?_ ?_ | refine Le.chk ?_ | refine Le.cnd ?_ ?_ | refine Le.lp ?_)) | (cases ‹_ ⊕ _›) | exact Le.same _)
theorem ER3 (p_1:X2)(t_2:F0)(speed_3:(Int×Int)):Le (@AD0 lpK p_1 t_2 speed_3) (@AD0 lpO p_1 t_2 speed_3):=by
 unfold AD0
 repeat' (first | (intro _) | (with_reducible (first | exact Le.same _ | exact EP3 .. | refine Le.bnd ?_ ?_ | refine Le.chk ?_ | refine Le.cnd ?_ ?_ | refine Le.lp ?_)) | (cases ‹_ ⊕ _›) | exact Le.same _)
theorem ER4 (speed_1:(Int×Int))(x_2 x_3 x_4 x_5 x_6 x_7 x_8 x_9 x_10 x_11 x_12 x_13 x_14 x_15:Int)(x_16:(List Yd1))(x_17:(List Yd3))(x_18:Bool)(x_19 x_20 x_21:Int)(x_22:(List Int))(x_23:Bool)(x_24 x_25:Int)(x_26:Bool)(x_27 x_28 x_29 x_30 x_31 x_32 x_33 x_34 x_35:Int)(x_36:Bool)(x_37 x_38 x_39 x_40 x_41:Int)(x_42:(List E3))(x_43:Bool)(x_44 x_45 x_46 x_47 x_48:Int)(x_49 x_50 x_51:Bool)(x_52 x_53 x_54 x_55:Int)(x_56:Bool):Le (@AQ2 lpK speed_1 x_2 x_3 x_4 x_5 x_6 x_7 x_8 x_9 x_10 x_11 x_12 x_13 x_14 x_15 x_16 x_17 x_18 x_19 x_20 x_21 x_22 x_23 x_24 x_25 x_26 x_27 x_28 x_29 x_30 x_31 x_32 x_33 x_34 x_35 x_36 x_37 x_38 x_39 x_40 x_41 x_42 x_43 x_44 x_45 x_46 x_47 x_48 x_49 x_50 x_51 x_52 x_53 x_54 x_55 x_56) (@AQ2 lpO speed_1 x_2 x_3 x_4 x_5 x_6 x_7 x_8 x_9 x_10 x_11 x_12 x_13 x_14 x_15 x_16 x_17 x_18 x_19 x_20 x_21 x_22 x_23 x_24 x_25 x_26 x_27 x_28 x_29 x_30 x_31 x_32 x_33 x_34 x_35 x_36 x_37 x_38 x_39 x_40 x_41 x_42 x_43 x_44 x_45 x_46 x_47 x_48 x_49 x_50 x_51 x_52 x_53 x_54 x_55 x_56):=by
 unfold AQ2
 repeat' (first | (intro _) | (with_reducible (first | exact Le.same _ | exact ER3 .. | refine Le.bnd ?_ ?_ | refine Le.chk ?_ | refine Le.cnd ?_ ?_ | refine Le.lp ?_)) | (cases ‹_ ⊕ _›) | exact Le.same _)
theorem ER5 (x_1:(List Yd3))(target_2:Int):Le (@AX8 lpK x_1 target_2) (@AX8 lpO x_1 target_2):=by
 unfold AX8
 repeat' (first | (intro _) | (with_reducible (first | exact Le.same _ | refine Le.bnd ?_ ?_ | refine Le.chk ?_ | refine Le.cnd ?_ ?_ | refine Le.lp ?_)) | (cases ‹_ ⊕ _›) | exact Le.same _)
theorem ER6 (t_1:F0)(id_2:Int):Le (@AI5 lpK t_1 id_2) (@AI5 lpO t_1 id_2):=by
 unfold AI5
 repeat' (first | (intro _) | (with_reducible (first | exact Le.same _ | exact ER5 .. | refine Le.bnd ?_ ?_ | refine Le.chk ?_ | refine Le.cnd ?_ ?_ | refine Le.lp ?_)) | (cases ‹_ ⊕ _›) | exact Le.same _)
theorem ER7 (c_1:C8)(t_2:F0)(s_3:V5)(passage_4:(Int×Int))(group_5:Int):Le (@AI6 lpK c_1 t_2 s_3 passage_4 group_5) (@AI6 lpO c_1 t_2 s_3 passage_4 group_5):=by
 unfold AI6
 repeat' (first | (intro _) | (with_reducible (first | exact Le.same _ | refine Le.bnd ?_ ?_ | refine Le.chk ?_ | refine Le.cnd ?_ ?_ | refine Le.lp ?_)) | (cases ‹_ ⊕ _›) | exact Le.same _)
theorem ER8 (was_1:X2)(speed_2:(Int×Int))(group_3 x_4 x_5 x_6 x_7 x_8 x_9 x_10 x_11 x_12 x_13 x_14 x_15 x_16 x_17:Int)(x_18:(List Yd1))(x_19:(List Yd3))(x_20:Bool)(x_21 x_22 x_23:Int)(x_24:(List Int))(x_25:Bool)(x_26 x_27:Int)(x_28:Bool)(x_29 x_30 x_31 x_32 x_33 x_34 x_35 x_36 x_37:Int)(x_38:Bool)(x_39 x_40 x_41 x_42 x_43:Int)(x_44:(List E3))(x_45:Bool)(x_46 x_47 x_48 x_49 x_50:Int)(x_51 x_52 x_53:Bool)(x_54 x_55 x_56 x_57:Int)(x_58:Bool):Le (@AQ3 lpK was_1 speed_2 group_3 x_4 x_5 x_6 x_7 x_8 x_9 x_10 x_11 x_12 x_13 x_14 x_15 x_16 x_17 x_18 x_19 x_20 x_21 x_22 x_23 x_24 x_25 x_26 x_27 x_28 x_29 x_30 x_31 x_32 x_33 x_34 x_35 x_36 x_37 x_38 x_39 x_40 x_41 x_42 x_43 x_44 x_45 x_46 x_47 x_48 x_49 x_50 x_51 x_52 x_53 x_54 x_55 x_56 x_57 x_58) (@AQ3 lpO was_1 speed_2 group_3 x_4 x_5 x_6 x_7 x_8 x_9 x_10 x_11 x_12 x_13 x_14 x_15 x_16 x_17 x_18 x_19 x_20 x_21 x_22 x_23 x_24 x_25 x_26 x_27 x_28 x_29 x_30 x_31 x_32 x_33 x_34 x_35 x_36 x_37 x_38 x_39 x_40 x_41 x_42 x_43 x_44 x_45 x_46 x_47 x_48 x_49 x_50 x_51 x_52 x_53 x_54 x_55 x_56 x_57 x_58):=by
 unfold AQ3
 repeat' (first | (intro _) | (with_reducible (first | exact Le.same _ | exact ER7 .. | refine Le.bnd ?_ ?_ | refine Le.chk ?_ | refine Le.cnd ?_ ?_ | refine Le.lp ?_)) | (cases ‹_ ⊕ _›) | exact Le.same _)
theorem ER9 (m_1:T7)(was_2:X2)(speed_3:(Int×Int))(x_4 x_5 x_6 x_7 x_8 x_9 x_10 x_11 x_12 x_13 x_14 x_15 x_16 x_17:Int)(x_18:(List Yd1))(x_19:(List Yd3))(x_20:Bool)(x_21 x_22 x_23:Int)(x_24:(List Int))(x_25:Bool)(x_26 x_27:Int)(x_28:Bool)(x_29 x_30 x_31 x_32 x_33 x_34 x_35 x_36 x_37:Int)(x_38:Bool)(x_39 x_40 x_41 x_42 x_43:Int)(x_44:(List E3))(x_45:Bool)(x_46 x_47 x_48 x_49 x_50:Int)(x_51 x_52 x_53:Bool)(x_54 x_55 x_56 x_57:Int)(x_58:Bool):Le (@AQ4 lpK m_1 was_2 speed_3 x_4 x_5 x_6 x_7 x_8 x_9 x_10 x_11 x_12 x_13 x_14 x_15 x_16 x_17 x_18 x_19 x_20 x_21 x_22 x_23 x_24 x_25 x_26 x_27 x_28 x_29 x_30 x_31 x_32 x_33 x_34 x_35 x_36 x_37 x_38 x_39 x_40 x_41 x_42 x_43 x_44 x_45 x_46 x_47 x_48 x_49 x_50 x_51 x_52 x_53 x_54 x_55 x_56 x_57 x_58) (@AQ4 lpO m_1 was_2 speed_3 x_4 x_5 x_6 x_7 x_8 x_9 x_10 x_11 x_12 x_13 x_14 x_15 x_16 x_17 x_18 x_19 x_20 x_21 x_22 x_23 x_24 x_25 x_26 x_27 x_28 x_29 x_30 x_31 x_32 x_33 x_34 x_35 x_36 x_37 x_38 x_39 x_40 x_41 x_42 x_43 x_44 x_45 x_46 x_47 x_48 x_49 x_50 x_51 x_52 x_53 x_54 x_55 x_56 x_57 x_58):=by
 unfold AQ4
 repeat' (first | (intro _) | (with_reducible (first | exact Le.same _ | exact ER6 .. | exact ER8 .. | refine Le.bnd ?_ ?_ | refine Le.chk ?_ | refine Le.cnd ?_ ?_ | refine Le.lp ?_)) | (cases ‹_ ⊕ _›) | exact Le.same _)
theorem ES0 (way_1:(Int×Int))(pulses_2 n_3:Int):Le (@AQ5 lpK way_1 pulses_2 n_3) (@AQ5 lpO way_1 pulses_2 n_3):=by
 unfold AQ5
 repeat' (first | (intro _) | (with_reducible (first | exact Le.same _ | exact BN2 .. | exact BN1 .. | refine Le.bnd ?_ ?_ | refine Le.chk ?_ | refine Le.cnd ?_ ?_ | refine Le.lp ?_)) | (cases ‹_ ⊕ _›) | exact Le.same _)
theorem ES1 (circ_1 way_2:(Int×Int))(pulses_3 n_4:Int):Le (@AA1 lpK circ_1 way_2 pulses_3 n_4) (@AA1 lpO circ_1 way_2 pulses_3 n_4):=by
 unfold AA1
 repeat' (first | (intro _) | (with_reducible (first | exact Le.same _ | exact ES0 .. | refine Le.bnd ?_ ?_ | refine Le.chk ?_ | refine Le.cnd ?_ ?_ | refine Le.lp ?_)) | (cases ‹_ ⊕ _›) | exact Le.same _)
theorem ES2 (at_1 x_2 x_3 x_4 x_5 x_6 x_7 x_8 x_9 x_10 x_11 x_12 x_13 x_14 x_15:Int)(x_16:(List Yd1))(x_17:(List Yd3))(x_18:Bool)(x_19 x_20 x_21:Int)(x_22:(List Int))(x_23:Bool)(x_24 x_25:Int)(x_26:Bool)(x_27 x_28 x_29 x_30 x_31 x_32 x_33 x_34 x_35:Int)(x_36:Bool)(x_37 x_38 x_39 x_40 x_41:Int)(x_42:(List E3))(x_43:Bool)(x_44 x_45 x_46 x_47 x_48:Int)(x_49 x_50 x_51:Bool)(x_52 x_53 x_54 x_55:Int)(x_56:Bool):Le (@AQ6 lpK at_1 x_2 x_3 x_4 x_5 x_6 x_7 x_8 x_9 x_10 x_11 x_12 x_13 x_14 x_15 x_16 x_17 x_18 x_19 x_20 x_21 x_22 x_23 x_24 x_25 x_26 x_27 x_28 x_29 x_30 x_31 x_32 x_33 x_34 x_35 x_36 x_37 x_38 x_39 x_40 x_41 x_42 x_43 x_44 x_45 x_46 x_47 x_48 x_49 x_50 x_51 x_52 x_53 x_54 x_55 x_56) (@AQ6 lpO at_1 x_2 x_3 x_4 x_5 x_6 x_7 x_8 x_9 x_10 x_11 x_12 x_13 x_14 x_15 x_16 x_17 x_18 x_19 x_20 x_21 x_22 x_23 x_24 x_25 x_26 x_27 x_28 x_29 x_30 x_31 x_32 x_33 x_34 x_35 x_36 x_37 x_38 x_39 x_40 x_41 x_42 x_43 x_44 x_45 x_46 x_47 x_48 x_49 x_50 x_51 x_52 x_53 x_54 x_55 x_56):=by
 unfold AQ6
 repeat' (first | (intro _) | (with_reducible (first | exact Le.same _ | exact ES1 .. | refine Le.bnd ?_ ?_ | refine Le.chk ?_ | refine Le.cnd ?_ ?_ | refine Le.lp ?_)) | (cases ‹_ ⊕ _›) | exact Le.same _)
theorem ES3 (x_1:Ap0)(speed_2:(Int×Int))(x_3 x_4 x_5 x_6 x_7 x_8 x_9 x_10 x_11 x_12 x_13 x_14 x_15 x_16:Int)(x_17:(List Yd1))(x_18:(List Yd3))(x_19:Bool)(x_20 x_21 x_22:Int)(x_23:(List Int))(x_24:Bool)(x_25 x_26:Int)(x_27:Bool)(x_28 x_29 x_30 x_31 x_32 x_33 x_34 x_35 x_36:Int)(x_37:Bool)(x_38 x_39 x_40 x_41 x_42:Int)(x_43:(List E3))(x_44:Bool)(x_45 x_46 x_47 x_48 x_49:Int)(x_50 x_51 x_52:Bool)(x_53 x_54 x_55 x_56:Int)(x_57:Bool):Le (@AQ7 lpK x_1 speed_2 x_3 x_4 x_5 x_6 x_7 x_8 x_9 x_10 x_11 x_12 x_13 x_14 x_15 x_16 x_17 x_18 x_19 x_20 x_21 x_22 x_23 x_24 x_25 x_26 x_27 x_28 x_29 x_30 x_31 x_32 x_33 x_34 x_35 x_36 x_37 x_38 x_39 x_40 x_41 x_42 x_43 x_44 x_45 x_46 x_47 x_48 x_49 x_50 x_51 x_52 x_53 x_54 x_55 x_56 x_57) (@AQ7 lpO x_1 speed_2 x_3 x_4 x_5 x_6 x_7 x_8 x_9 x_10 x_11 x_12 x_13 x_14 x_15 x_16 x_17 x_18 x_19 x_20 x_21 x_22 x_23 x_24 x_25 x_26 x_27 x_28 x_29 x_30 x_31 x_32 x_33 x_34 x_35 x_36 x_37 x_38 x_39 x_40 x_41 x_42 x_43 x_44 x_45 x_46 x_47 x_48 x_49 x_50 x_51 x_52 x_53 x_54 x_55 x_56 x_57):=by
 unfold AQ7
 repeat' (first | (intro _) | (with_reducible (first | exact Le.same _ | exact ES2 .. | refine Le.bnd ?_ ?_ | refine Le.chk ?_ | refine Le.cnd ?_ ?_ | refine Le.lp ?_)) | (cases ‹_ ⊕ _›) | exact Le.same _)
theorem ES4 (t_1:F0)(ends_2:(List Int))(s_3:V5)(at_4:Int):Le (@AI7 lpK t_1 ends_2 s_3 at_4) (@AI7 lpO t_1 ends_2 s_3 at_4):=by
 unfold AI7
 repeat' (first | (intro _) | (with_reducible (first | exact Le.same _ | exact BN0 .. | refine Le.bnd ?_ ?_ | refine Le.chk ?_ | refine Le.cnd ?_ ?_ | refine Le.lp ?_)) | (cases ‹_ ⊕ _›) | exact Le.same _)
theorem ES5 (x_1:(Int×Int)):Le (@AQ8 lpK x_1) (@AQ8 lpO x_1):=by
 unfold AQ8
 repeat' (first | (intro _) | (with_reducible (first | exact Le.same _ | refine Le.bnd ?_ ?_ | refine Le.chk ?_ | refine Le.cnd ?_ ?_ | refine Le.lp ?_)) | (cases ‹_ ⊕ _›) | exact Le.same _)
theorem ES6 (a_1 b_2:Int):Le (@AX9 lpK a_1 b_2) (@AX9 lpO a_1 b_2):=by
 unfold AX9
 repeat' (first | (intro _) | (with_reducible (first | exact Le.same _ | exact ES5 .. | refine Le.bnd ?_ ?_ | refine Le.chk ?_ | refine Le.cnd ?_ ?_ | refine Le.lp ?_)) | (cases ‹_ ⊕ _›) | exact Le.same _)
theorem ES7 (c_1:C8)(free_2:Int):Le (@AI8 lpK c_1 free_2) (@AI8 lpO c_1 free_2):=by
 unfold AI8
 repeat' (first | (intro _) | (with_reducible (first | exact Le.same _ | exact ES6 .. | refine Le.bnd ?_ ?_ | refine Le.chk ?_ | refine Le.cnd ?_ ?_ | refine Le.lp ?_)) | (cases ‹_ ⊕ _›) | exact Le.same _)
theorem ES8 (f_1:AV9)(x_2 x_3 x_4 x_5 x_6 x_7 x_8 x_9 x_10 x_11 x_12 x_13 x_14 x_15:Int)(x_16:(List Yd1))(x_17:(List Yd3))(x_18:Bool)(x_19 x_20 x_21:Int)(x_22:(List Int))(x_23:Bool)(x_24 x_25:Int)(x_26:Bool)(x_27 x_28 x_29 x_30 x_31 x_32 x_33 x_34 x_35:Int)(x_36:Bool)(x_37 x_38 x_39 x_40 x_41:Int)(x_42:(List E3))(x_43:Bool)(x_44 x_45 x_46 x_47 x_48:Int)(x_49 x_50 x_51:Bool)(x_52 x_53 x_54 x_55:Int)(x_56:Bool)(x_57 x_58 x_59 x_60 x_61 x_62 x_63 x_64 x_65 x_66:Int)(x_67:(List (List Int)))(x_68:Int)(x_69 x_70:Bool)(x_71 x_72:Int)(x_73 x_74 x_75 x_76 x_77:Bool)(x_78 x_79 x_80 x_81 x_82 x_83 x_84 x_85 x_86 x_87 x_88:Int):Le (@AQ9 lpK f_1 x_2 x_3 x_4 x_5 x_6 x_7 x_8 x_9 x_10 x_11 x_12 x_13 x_14 x_15 x_16 x_17 x_18 x_19 x_20 x_21 x_22 x_23 x_24 x_25 x_26 x_27 x_28 x_29 x_30 x_31 x_32 x_33 x_34 x_35 x_36 x_37 x_38 x_39 x_40 x_41 x_42 x_43 x_44 x_45 x_46 x_47 x_48 x_49 x_50 x_51 x_52 x_53 x_54 x_55 x_56 x_57 x_58 x_59 x_60 x_61 x_62 x_63 x_64 x_65 x_66 x_67 x_68 x_69 x_70 x_71 x_72 x_73 x_74 x_75 x_76 x_77 x_78 x_79 x_80 x_81 x_82 x_83 x_84 x_85 x_86 x_87 x_88) (@AQ9 lpO f_1 x_2 x_3 x_4 x_5 x_6 x_7 x_8 x_9 x_10 x_11 x_12 x_13 x_14 x_15 x_16 x_17 x_18 x_19 x_20 x_21 x_22 x_23 x_24 x_25 x_26 x_27 x_28 x_29 x_30 x_31 x_32 x_33 x_34 x_35 x_36 x_37 x_38 x_39 x_40 x_41 x_42 x_43 x_44 x_45 x_46 x_47 x_48 x_49 x_50 x_51 x_52 x_53 x_54 x_55 x_56 x_57 x_58 x_59 x_60 x_61 x_62 x_63 x_64 x_65 x_66 x_67 x_68 x_69 x_70 x_71 x_72 x_73 x_74 x_75 x_76 x_77 x_78 x_79 x_80 x_81 x_82 x_83 x_84 x_85 x_86 x_87 x_88):=by
 unfold AQ9
 repeat' (first | (intro _) | (with_reducible (first | exact Le.same _ | exact ES4 .. | exact ES7 .. | refine Le.bnd ?_ ?_ | refine Le.chk ?_ | refine Le.cnd ?_ ?_ | refine Le.lp ?_)) | (cases ‹_ ⊕ _›) | exact Le.same _)
theorem ES9 (list_1:(List (List Int)))(command_2:Bool)(x_3 x_4 x_5 x_6 x_7 x_8 x_9 x_10 x_11 x_12 x_13 x_14 x_15 x_16:Int)(x_17:(List Yd1))(x_18:(List Yd3))(x_19:Bool)(x_20 x_21 x_22:Int)(x_23:(List Int))(x_24:Bool)(x_25 x_26:Int)(x_27:Bool)(x_28 x_29 x_30 x_31 x_32 x_33 x_34 x_35 x_36:Int)(x_37:Bool)(x_38 x_39 x_40 x_41 x_42:Int)(x_43:(List E3))(x_44:Bool)(x_45 x_46 x_47 x_48 x_49:Int)(x_50 x_51 x_52:Bool)(x_53 x_54 x_55 x_56:Int)(x_57:Bool):Le (@AR0 lpK list_1 command_2 x_3 x_4 x_5 x_6 x_7 x_8 x_9 x_10 x_11 x_12 x_13 x_14 x_15 x_16 x_17 x_18 x_19 x_20 x_21 x_22 x_23 x_24 x_25 x_26 x_27 x_28 x_29 x_30 x_31 x_32 x_33 x_34 x_35 x_36 x_37 x_38 x_39 x_40 x_41 x_42 x_43 x_44 x_45 x_46 x_47 x_48 x_49 x_50 x_51 x_52 x_53 x_54 x_55 x_56 x_57) (@AR0 lpO list_1 command_2 x_3 x_4 x_5 x_6 x_7 x_8 x_9 x_10 x_11 x_12 x_13 x_14 x_15 x_16 x_17 x_18 x_19 x_20 x_21 x_22 x_23 x_24 x_25 x_26 x_27 x_28 x_29 x_30 x_31 x_32 x_33 x_34 x_35 x_36 x_37 x_38 x_39 x_40 x_41 x_42 x_43 x_44 x_45 x_46 x_47 x_48 x_49 x_50 x_51 x_52 x_53 x_54 x_55 x_56 x_57):=by
 unfold AR0
 repeat' (first | (intro _) | (with_reducible (first | exact Le.same _ | exact EP5 .. | exact ER2 .. | exact ER4 .. | exact ER9 .. | exact ES3 .. | exact ES8 .. | refine Le.bnd ?_ ?_ | refine Le.chk ?_ | refine Le.cnd ?_ ?_ | refine Le.lp ?_)) | (cases ‹_ ⊕ _›) | exact Le.same _)
theorem ET0 (c_1:C8)(t_2:F0)(l_3:(List ((List (List Int))×Bool))):Le (@X7 lpK c_1 t_2 l_3) (@X7 lpO c_1 t_2 l_3):=by
 unfold X7
 repeat' (first | (intro _) | (with_reducible (first | exact Le.same _ | exact EM8 .. | exact EN0 .. | exact EP1 .. | exact ES9 .. | refine Le.bnd ?_ ?_ | refine Le.chk ?_ | refine Le.cnd ?_ ?_ | refine Le.lp ?_)) | (cases ‹_ ⊕ _›) | exact Le.same _)
theorem ET1 : Le (@AI9 lpK ()) (@AI9 lpO ()):=by
 unfold AI9
 repeat' (first | (intro _) | (with_reducible (first | exact Le.same _ | exact EM4 .. | exact ET0 .. | refine Le.bnd ?_ ?_ | refine Le.chk ?_ | refine Le.cnd ?_ ?_ | refine Le.lp ?_)) | (cases ‹_ ⊕ _›) | exact Le.same _)
theorem ET2:@AI9 lpK ()=some true:=by kernel_rfl
theorem ET3:AI9 ()=some true:=(ET1).go _ ET2
end Go.Proofs.YthfjpkdadjemcaaGreat
