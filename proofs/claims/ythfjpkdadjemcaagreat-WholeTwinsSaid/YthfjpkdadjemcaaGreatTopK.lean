/- What is read with so many rounds of each loop at most is what is read: so a run can be looked at. -/
import Derived.Test.YthfjpkdadjemcaaGreatFnsF3
import Derived.Test.YthfjpkdadjemcaaGreatLoopF
set_option linter.unusedSimpArgs false
set_option linter.unusedVariables false
namespace Go.Proofs.YthfjpkdadjemcaaGreat
open Go Go.RowKit
@[reducible] def lpK : LP := ⟨fun f s => D2 f 3000 s⟩
class Le {α:Type} (a b:Option α):Prop where
 go:∀y,a=some y→b=some y
section
variable {α β S X:Type}
theorem Le.same (a:Option α):Le a a:=⟨fun _ h=>h⟩
theorem Le.bnd {a b:Option α}{f g:α→Option β}(h:Le a b)(h2:∀x,Le (f x) (g x)):Le (Option.bind a f) (Option.bind b g):=by
 refine⟨fun y hy=> ?_⟩
 cases ha:a with
 |none=>rw [ha] at hy;cases hy
 |some x=>
  rw[ha] at hy;rw[h.go x ha];exact (h2 x).go y hy
theorem Le.chk {c:Bool}{a b:Option α}(h:Le a b):Le (chk none c a) (chk none c b):=by
 cases c
 ·exact Le.same _
 ·exact h
theorem Le.cnd {c:Bool}{a b a' b':Option α}(h:Le a a')(h2:Le b b'):Le (cond c a b) (cond c a' b'):=by
 cases c
 ·exact h2
 ·exact h
theorem Le.D2 {f g:S→Option (S ⊕ X)}(h:∀s,Le (f s) (g s)):∀n s,Le (D2 f n s) (D2 g n s)
 |0,s=>⟨fun y hy=>by cases hy⟩
 |n+1,s=>by
  refine⟨fun y hy=> ?_⟩
  simp only[Go.Proofs.YthfjpkdadjemcaaGreat.D2] at hy ⊢;cases hf:f s with
  |none=>rw [hf] at hy;cases hy
  |some z=>
   rw[hf] at hy;rw[(h s).go z hf];cases z with
   |inl s'=>exact (Le.D2 h n s').go y hy
   |inr x=>exact hy
theorem Le.lp {f g:S→Option (S ⊕ X)}{s:S}(h:∀s,Le (f s) (g s)):Le (@LP.lp lpK S X f s) (@LP.lp lpO S X g s):=by exact⟨fun y hy=>p0 (n:=3000) ((Le.D2 h 3000 s).go y hy)⟩
theorem Le.fold {γ:Type}{f g:β→γ→Option β}(h:∀b c,Le (f b c) (g b c)):∀(l:List γ) (b:β),Le (l.foldlM f b) (l.foldlM g b)
 | [],b=>Le.same _
 |c::l,b=>by simp only[List.foldlM_cons];exact Le.bnd (h b c) fun b'=>Le.fold h l b'
end
theorem Le.auto {α:Type}{a b:Option α}(h:Le a b:=by repeat' (first | (intro _) | (with_reducible (first | exact Le.same _ | infer_instance | refine Le.bnd ?_ ?_ | refine Le.chk ?_ | refine Le.cnd ?_ ?_ | refine Le.lp ?_)) | (cases ‹_ ⊕ _›) | exact Le.same _)):Le a b:=h
instance:∀a0 a1 a2,Le (@S5 lpK a0 a1 a2) (@S5 lpO a0 a1 a2):=by
 intros
 unfold S5;exact Le.auto
instance:∀a0 a1,Le (@AR6 lpK a0 a1) (@AR6 lpO a0 a1):=by
 intros
 unfold AR6;exact Le.auto
instance:∀a0,Le (@AF9 lpK a0) (@AF9 lpO a0):=by
 intros
 unfold AF9;exact Le.auto
instance:∀a0,Le (@Q8 lpK a0) (@Q8 lpO a0):=by
 intros
 unfold Q8;exact Le.auto
instance:∀a0,Le (@AG0 lpK a0) (@AG0 lpO a0):=by
 intros
 unfold AG0;exact Le.auto
instance:∀a0 a1,Le (@AR7 lpK a0 a1) (@AR7 lpO a0 a1):=by
 intros
 unfold AR7;exact Le.auto
instance:∀a0 a1,Le (@AR8 lpK a0 a1) (@AR8 lpO a0 a1):=by
 intros
 unfold AR8;exact Le.auto
instance:∀a0,Le (@AR9 lpK a0) (@AR9 lpO a0):=by
 intros
 unfold AR9;exact Le.auto
instance:∀a0 a1,Le (@AG1 lpK a0 a1) (@AG1 lpO a0 a1):=by
 intros
 unfold AG1;exact Le.auto
instance:∀a0 a1,Le (@T8 lpK a0 a1) (@T8 lpO a0 a1):=by
 intros
 unfold T8;exact Le.auto
instance:∀a0,Le (@AG2 lpK a0) (@AG2 lpO a0):=by
 intros
 unfold AG2;exact Le.auto
instance:∀a0 a1,Le (@AS0 lpK a0 a1) (@AS0 lpO a0 a1):=by
 intros
 unfold AS0;exact Le.auto
instance:∀a0 a1,Le (@AS1 lpK a0 a1) (@AS1 lpO a0 a1):=by
 intros
 unfold AS1;exact Le.auto
instance:∀a0,Le (@AL3 lpK a0) (@AL3 lpO a0):=by
 intros
 unfold AL3;exact Le.auto
instance:∀a0 a1 a2,Le (@M9 lpK a0 a1 a2) (@M9 lpO a0 a1 a2):=by
 intros
 unfold M9;exact Le.auto
instance:∀a0 a1 a2 a3,Le (@Z8 lpK a0 a1 a2 a3) (@Z8 lpO a0 a1 a2 a3):=by
 intros
 unfold Z8;exact Le.auto
instance:∀a0 a1,Le (@AS2 lpK a0 a1) (@AS2 lpO a0 a1):=by
 intros
 unfold AS2;exact Le.auto
instance:∀a0 a1 a2,Le (@AS3 lpK a0 a1 a2) (@AS3 lpO a0 a1 a2):=by
 intros
 unfold AS3;exact Le.auto
instance:∀a0 a1,Le (@AS4 lpK a0 a1) (@AS4 lpO a0 a1):=by
 intros
 unfold AS4;exact Le.auto
instance:∀a0 a1 a2,Le (@AS5 lpK a0 a1 a2) (@AS5 lpO a0 a1 a2):=by
 intros
 unfold AS5;exact Le.auto
instance:∀a0 a1,Le (@AS6 lpK a0 a1) (@AS6 lpO a0 a1):=by
 intros
 unfold AS6;exact Le.auto
instance:∀a0 a1 a2,Le (@AS7 lpK a0 a1 a2) (@AS7 lpO a0 a1 a2):=by
 intros
 unfold AS7;exact Le.auto
instance:∀a0 a1,Le (@AS8 lpK a0 a1) (@AS8 lpO a0 a1):=by
 intros
 unfold AS8;exact Le.auto
instance:∀a0 a1 a2,Le (@AS9 lpK a0 a1 a2) (@AS9 lpO a0 a1 a2):=by
 intros
 unfold AS9;exact Le.auto
instance:∀a0 a1,Le (@AT0 lpK a0 a1) (@AT0 lpO a0 a1):=by
 intros
 unfold AT0;exact Le.auto
instance:∀a0 a1,Le (@AT1 lpK a0 a1) (@AT1 lpO a0 a1):=by
 intros
 unfold AT1;exact Le.auto
instance:∀a0,Le (@AL4 lpK a0) (@AL4 lpO a0):=by
 intros
 unfold AL4;exact Le.auto
instance:∀a0,Le (@AL5 lpK a0) (@AL5 lpO a0):=by
 intros
 unfold AL5;exact Le.auto
instance:∀a0 a1,Le (@AL7 lpK a0 a1) (@AL7 lpO a0 a1):=by
 intros
 unfold AL7;exact Le.auto
instance:∀a0 a1 a2 a3,Le (@AG3 lpK a0 a1 a2 a3) (@AG3 lpO a0 a1 a2 a3):=by
 intros
 unfold AG3;exact Le.auto
instance:∀a0 a1 a2,Le (@AC8 lpK a0 a1 a2) (@AC8 lpO a0 a1 a2):=by
 intros
 unfold AC8;exact Le.auto
instance:∀a0,Le (@AL8 lpK a0) (@AL8 lpO a0):=by
 intros
 unfold AL8;exact Le.auto
instance:∀a0 a1 a2 a3 a4 a5 a6 a7 a8 a9 a10 a11 a12 a13,Le (@AL9 lpK a0 a1 a2 a3 a4 a5 a6 a7 a8 a9 a10 a11 a12 a13) (@AL9 lpO a0 a1 a2 a3 a4 a5 a6 a7 a8 a9 a10 a11 a12 a13):=by
 intros
 unfold AL9;exact Le.auto
instance:∀a0,Le (@AT4 lpK a0) (@AT4 lpO a0):=by
 intros
 unfold AT4;exact Le.auto
instance:∀a0 a1,Le (@AM0 lpK a0 a1) (@AM0 lpO a0 a1):=by
 intros
 unfold AM0;exact Le.auto
instance:∀a0 a1,Le (@AM1 lpK a0 a1) (@AM1 lpO a0 a1):=by
 intros
 unfold AM1;exact Le.auto
instance:∀a0,Le (@AM2 lpK a0) (@AM2 lpO a0):=by
 intros
 unfold AM2;exact Le.auto
instance:∀a0,Le (@AM3 lpK a0) (@AM3 lpO a0):=by
 intros
 unfold AM3;exact Le.auto
instance:∀a0 a1,Le (@AM5 lpK a0 a1) (@AM5 lpO a0 a1):=by
 intros
 unfold AM5;exact Le.auto
instance:∀a0,Le (@AT7 lpK a0) (@AT7 lpO a0):=by
 intros
 unfold AT7;exact Le.auto
instance:∀s t p,Le (@AG8 lpK s t p) (@AG8 lpO s t p):=by
 intro s t p;unfold AG8;split
 ·split
  ·exact Le.same _
  ·split
   ·exact Le.bnd (Le.fold (fun b c=>Le.bnd inferInstance fun _=>Le.same _) _ _) fun _=>Le.same _
   ·exact Le.same _
 ·exact Le.same _
instance:∀a0 a1 a2 a3 a4 a5 a6 a7 a8 a9 a10 a11 a12 a13 a14 a15 a16 a17,Le (@AU4 lpK a0 a1 a2 a3 a4 a5 a6 a7 a8 a9 a10 a11 a12 a13 a14 a15 a16 a17) (@AU4 lpO a0 a1 a2 a3 a4 a5 a6 a7 a8 a9 a10 a11 a12 a13 a14 a15 a16 a17):=by
 intros
 unfold AU4;exact Le.auto
instance:∀a0 a1,Le (@AN5 lpK a0 a1) (@AN5 lpO a0 a1):=by
 intros
 unfold AN5;exact Le.auto
instance:∀a0 a1 a2,Le (@AD3 lpK a0 a1 a2) (@AD3 lpO a0 a1 a2):=by
 intros
 unfold AD3;exact Le.auto
instance:∀a0 a1 a2,Le (@AG9 lpK a0 a1 a2) (@AG9 lpO a0 a1 a2):=by
 intros
 unfold AG9;exact Le.auto
instance:∀a0 a1 a2,Le (@AH0 lpK a0 a1 a2) (@AH0 lpO a0 a1 a2):=by
 intros
 unfold AH0;exact Le.auto
instance:∀a0 a1 a2 a3 a4 a5 a6 a7 a8 a9 a10 a11 a12 a13 a14 a15 a16 a17 a18 a19 a20 a21 a22 a23 a24 a25 a26 a27 a28 a29 a30 a31 a32 a33 a34 a35 a36 a37 a38 a39 a40 a41 a42 a43 a44 a45 a46 a47 a48 a49 a50 a51 a52 a53 a54 a55 a56,Le (@AD4 lpK a0 a1 a2 a3 a4 a5 a6 a7 a8 a9 a10 a11 a12 a13 a14 a15 a16 a17 a18 a19 a20 a21 a22 a23 a24 a25 a26 a27 a28 a29 a30 a31 a32 a33 a34 a35 a36 a37 a38 a39 a40 a41 a42 a43 a44 a45 a46 a47 a48 a49 a50 a51 a52 a53 a54 a55 a56) (@AD4 lpO a0 a1 a2 a3 a4 a5 a6 a7 a8 a9 a10 a11 a12 a13 a14 a15 a16 a17 a18 a19 a20 a21 a22 a23 a24 a25 a26 a27 a28 a29 a30 a31 a32 a33 a34 a35 a36 a37 a38 a39 a40 a41 a42 a43 a44 a45 a46 a47 a48 a49 a50 a51 a52 a53 a54 a55 a56):=by
 intros
 unfold AD4;exact Le.auto
instance:∀a0 a1,Le (@AN6 lpK a0 a1) (@AN6 lpO a0 a1):=by
 intros
 unfold AN6;exact Le.auto
instance:∀a0 a1,Le (@AH3 lpK a0 a1) (@AH3 lpO a0 a1):=by
 intros
 unfold AH3;exact Le.auto
instance:∀a0 a1 a2 a3 a4 a5 a6 a7 a8 a9 a10 a11 a12 a13 a14 a15 a16 a17 a18 a19 a20 a21 a22 a23 a24 a25 a26 a27 a28 a29 a30 a31 a32 a33 a34 a35 a36 a37 a38 a39 a40 a41 a42 a43 a44 a45 a46 a47 a48 a49 a50 a51 a52 a53 a54 a55,Le (@AU6 lpK a0 a1 a2 a3 a4 a5 a6 a7 a8 a9 a10 a11 a12 a13 a14 a15 a16 a17 a18 a19 a20 a21 a22 a23 a24 a25 a26 a27 a28 a29 a30 a31 a32 a33 a34 a35 a36 a37 a38 a39 a40 a41 a42 a43 a44 a45 a46 a47 a48 a49 a50 a51 a52 a53 a54 a55) (@AU6 lpO a0 a1 a2 a3 a4 a5 a6 a7 a8 a9 a10 a11 a12 a13 a14 a15 a16 a17 a18 a19 a20 a21 a22 a23 a24 a25 a26 a27 a28 a29 a30 a31 a32 a33 a34 a35 a36 a37 a38 a39 a40 a41 a42 a43 a44 a45 a46 a47 a48 a49 a50 a51 a52 a53 a54 a55):=by
 intros
 unfold AU6;exact Le.auto
instance:∀a0 a1 a2 a3 a4 a5 a6 a7 a8,Le (@AU7 lpK a0 a1 a2 a3 a4 a5 a6 a7 a8) (@AU7 lpO a0 a1 a2 a3 a4 a5 a6 a7 a8):=by
 intros
 unfold AU7;exact Le.auto
instance:∀a0 a1 a2 a3 a4 a5 a6 a7 a8,Le (@AU8 lpK a0 a1 a2 a3 a4 a5 a6 a7 a8) (@AU8 lpO a0 a1 a2 a3 a4 a5 a6 a7 a8):=by
 intros
 unfold AU8;exact Le.auto
instance:∀a0 a1 a2,Le (@AU9 lpK a0 a1 a2) (@AU9 lpO a0 a1 a2):=by
 intros
 unfold AU9;exact Le.auto
instance:∀a0 a1 a2 a3 a4 a5 a6 a7 a8 a9 a10 a11 a12 a13 a14 a15 a16 a17 a18 a19 a20 a21 a22 a23 a24 a25 a26 a27 a28 a29 a30 a31 a32 a33 a34 a35 a36 a37 a38 a39 a40 a41 a42 a43 a44 a45 a46 a47 a48 a49 a50 a51 a52 a53 a54,Le (@AV0 lpK a0 a1 a2 a3 a4 a5 a6 a7 a8 a9 a10 a11 a12 a13 a14 a15 a16 a17 a18 a19 a20 a21 a22 a23 a24 a25 a26 a27 a28 a29 a30 a31 a32 a33 a34 a35 a36 a37 a38 a39 a40 a41 a42 a43 a44 a45 a46 a47 a48 a49 a50 a51 a52 a53 a54) (@AV0 lpO a0 a1 a2 a3 a4 a5 a6 a7 a8 a9 a10 a11 a12 a13 a14 a15 a16 a17 a18 a19 a20 a21 a22 a23 a24 a25 a26 a27 a28 a29 a30 a31 a32 a33 a34 a35 a36 a37 a38 a39 a40 a41 a42 a43 a44 a45 a46 a47 a48 a49 a50 a51 a52 a53 a54):=by
 intros
 unfold AV0;exact Le.auto
instance:∀a0 a1 a2 a3 a4 a5 a6 a7 a8 a9 a10 a11 a12 a13 a14 a15 a16 a17 a18 a19 a20 a21 a22 a23 a24 a25 a26 a27 a28 a29 a30 a31 a32 a33 a34 a35 a36 a37 a38 a39 a40 a41 a42 a43 a44 a45 a46 a47 a48 a49 a50 a51 a52 a53 a54 a55,Le (@AV1 lpK a0 a1 a2 a3 a4 a5 a6 a7 a8 a9 a10 a11 a12 a13 a14 a15 a16 a17 a18 a19 a20 a21 a22 a23 a24 a25 a26 a27 a28 a29 a30 a31 a32 a33 a34 a35 a36 a37 a38 a39 a40 a41 a42 a43 a44 a45 a46 a47 a48 a49 a50 a51 a52 a53 a54 a55) (@AV1 lpO a0 a1 a2 a3 a4 a5 a6 a7 a8 a9 a10 a11 a12 a13 a14 a15 a16 a17 a18 a19 a20 a21 a22 a23 a24 a25 a26 a27 a28 a29 a30 a31 a32 a33 a34 a35 a36 a37 a38 a39 a40 a41 a42 a43 a44 a45 a46 a47 a48 a49 a50 a51 a52 a53 a54 a55):=by
 intros
 unfold AV1;exact Le.auto
instance:∀a0,Le (@AH5 lpK a0) (@AH5 lpO a0):=by
 intros
 unfold AH5;exact Le.auto
instance:∀a0,Le (@AH6 lpK a0) (@AH6 lpO a0):=by
 intros
 unfold AH6;exact Le.auto
instance:∀a0,Le (@AH7 lpK a0) (@AH7 lpO a0):=by
 intros
 unfold AH7;exact Le.auto
instance:∀a0 a1,Le (@AH8 lpK a0 a1) (@AH8 lpO a0 a1):=by
 intros
 unfold AH8;exact Le.auto
instance:∀a0 a1 a2,Le (@AA8 lpK a0 a1 a2) (@AA8 lpO a0 a1 a2):=by
 intros
 unfold AA8;exact Le.auto
instance:∀a0 a1 a2 a3 a4 a5 a6 a7 a8 a9 a10 a11 a12 a13 a14 a15 a16 a17 a18 a19 a20 a21 a22 a23 a24 a25 a26 a27 a28 a29 a30 a31 a32 a33 a34 a35 a36 a37 a38 a39 a40 a41 a42 a43 a44 a45 a46 a47 a48 a49 a50 a51 a52 a53 a54 a55,Le (@AV3 lpK a0 a1 a2 a3 a4 a5 a6 a7 a8 a9 a10 a11 a12 a13 a14 a15 a16 a17 a18 a19 a20 a21 a22 a23 a24 a25 a26 a27 a28 a29 a30 a31 a32 a33 a34 a35 a36 a37 a38 a39 a40 a41 a42 a43 a44 a45 a46 a47 a48 a49 a50 a51 a52 a53 a54 a55) (@AV3 lpO a0 a1 a2 a3 a4 a5 a6 a7 a8 a9 a10 a11 a12 a13 a14 a15 a16 a17 a18 a19 a20 a21 a22 a23 a24 a25 a26 a27 a28 a29 a30 a31 a32 a33 a34 a35 a36 a37 a38 a39 a40 a41 a42 a43 a44 a45 a46 a47 a48 a49 a50 a51 a52 a53 a54 a55):=by
 intros
 unfold AV3;exact Le.auto
instance:∀a0 a1 a2,Le (@AH9 lpK a0 a1 a2) (@AH9 lpO a0 a1 a2):=by
 intros
 unfold AH9;exact Le.auto
instance:∀a0 a1 a2 a3 a4 a5 a6 a7 a8 a9 a10 a11 a12 a13 a14 a15 a16 a17 a18 a19 a20 a21 a22 a23 a24 a25 a26 a27 a28 a29 a30 a31 a32 a33 a34 a35 a36 a37 a38 a39 a40 a41 a42 a43 a44 a45 a46 a47 a48 a49 a50 a51 a52 a53 a54 a55,Le (@AV4 lpK a0 a1 a2 a3 a4 a5 a6 a7 a8 a9 a10 a11 a12 a13 a14 a15 a16 a17 a18 a19 a20 a21 a22 a23 a24 a25 a26 a27 a28 a29 a30 a31 a32 a33 a34 a35 a36 a37 a38 a39 a40 a41 a42 a43 a44 a45 a46 a47 a48 a49 a50 a51 a52 a53 a54 a55) (@AV4 lpO a0 a1 a2 a3 a4 a5 a6 a7 a8 a9 a10 a11 a12 a13 a14 a15 a16 a17 a18 a19 a20 a21 a22 a23 a24 a25 a26 a27 a28 a29 a30 a31 a32 a33 a34 a35 a36 a37 a38 a39 a40 a41 a42 a43 a44 a45 a46 a47 a48 a49 a50 a51 a52 a53 a54 a55):=by
 intros
 unfold AV4;exact Le.auto
instance:∀a0 a1,Le (@Ad2 lpK a0 a1) (@Ad2 lpO a0 a1):=by
 intros
 unfold Ad2;exact Le.auto
instance:∀a0 a1,Le (@AO0 lpK a0 a1) (@AO0 lpO a0 a1):=by
 intros
 unfold AO0;exact Le.auto
instance:∀a0 a1 a2 a3 a4,Le (@AO1 lpK a0 a1 a2 a3 a4) (@AO1 lpO a0 a1 a2 a3 a4):=by
 intros
 unfold AO1;exact Le.auto
instance:∀a0 a1 a2 a3 a4 a5 a6 a7 a8 a9 a10 a11 a12 a13 a14 a15 a16 a17 a18 a19 a20 a21 a22 a23 a24 a25 a26 a27 a28 a29 a30 a31 a32 a33 a34 a35 a36 a37 a38 a39 a40 a41 a42 a43 a44 a45 a46 a47 a48 a49 a50 a51 a52 a53 a54 a55 a56 a57,Le (@AO2 lpK a0 a1 a2 a3 a4 a5 a6 a7 a8 a9 a10 a11 a12 a13 a14 a15 a16 a17 a18 a19 a20 a21 a22 a23 a24 a25 a26 a27 a28 a29 a30 a31 a32 a33 a34 a35 a36 a37 a38 a39 a40 a41 a42 a43 a44 a45 a46 a47 a48 a49 a50 a51 a52 a53 a54 a55 a56 a57) (@AO2 lpO a0 a1 a2 a3 a4 a5 a6 a7 a8 a9 a10 a11 a12 a13 a14 a15 a16 a17 a18 a19 a20 a21 a22 a23 a24 a25 a26 a27 a28 a29 a30 a31 a32 a33 a34 a35 a36 a37 a38 a39 a40 a41 a42 a43 a44 a45 a46 a47 a48 a49 a50 a51 a52 a53 a54 a55 a56 a57):=by
 intros
 unfold AO2;exact Le.auto
instance:∀a0 a1 a2 a3 a4 a5 a6 a7 a8 a9 a10 a11 a12 a13 a14 a15 a16 a17 a18 a19 a20 a21 a22 a23 a24 a25 a26 a27 a28 a29 a30 a31 a32 a33 a34 a35 a36 a37 a38 a39 a40 a41 a42 a43 a44 a45 a46 a47 a48 a49 a50 a51 a52 a53 a54 a55 a56 a57,Le (@AV5 lpK a0 a1 a2 a3 a4 a5 a6 a7 a8 a9 a10 a11 a12 a13 a14 a15 a16 a17 a18 a19 a20 a21 a22 a23 a24 a25 a26 a27 a28 a29 a30 a31 a32 a33 a34 a35 a36 a37 a38 a39 a40 a41 a42 a43 a44 a45 a46 a47 a48 a49 a50 a51 a52 a53 a54 a55 a56 a57) (@AV5 lpO a0 a1 a2 a3 a4 a5 a6 a7 a8 a9 a10 a11 a12 a13 a14 a15 a16 a17 a18 a19 a20 a21 a22 a23 a24 a25 a26 a27 a28 a29 a30 a31 a32 a33 a34 a35 a36 a37 a38 a39 a40 a41 a42 a43 a44 a45 a46 a47 a48 a49 a50 a51 a52 a53 a54 a55 a56 a57):=by
 intros
 unfold AV5;exact Le.auto
instance:∀a0 a1 a2,Le (@AO3 lpK a0 a1 a2) (@AO3 lpO a0 a1 a2):=by
 intros
 unfold AO3;exact Le.auto
instance:∀a0 a1 a2 a3,Le (@AA9 lpK a0 a1 a2 a3) (@AA9 lpO a0 a1 a2 a3):=by
 intros
 unfold AA9;exact Le.auto
instance:∀a0 a1 a2 a3 a4 a5 a6 a7 a8 a9 a10 a11 a12 a13 a14 a15 a16 a17 a18 a19 a20 a21 a22 a23 a24 a25 a26 a27 a28 a29 a30 a31 a32 a33 a34 a35 a36 a37 a38 a39 a40 a41 a42 a43 a44 a45 a46 a47 a48 a49 a50 a51 a52 a53 a54 a55,Le (@AV6 lpK a0 a1 a2 a3 a4 a5 a6 a7 a8 a9 a10 a11 a12 a13 a14 a15 a16 a17 a18 a19 a20 a21 a22 a23 a24 a25 a26 a27 a28 a29 a30 a31 a32 a33 a34 a35 a36 a37 a38 a39 a40 a41 a42 a43 a44 a45 a46 a47 a48 a49 a50 a51 a52 a53 a54 a55) (@AV6 lpO a0 a1 a2 a3 a4 a5 a6 a7 a8 a9 a10 a11 a12 a13 a14 a15 a16 a17 a18 a19 a20 a21 a22 a23 a24 a25 a26 a27 a28 a29 a30 a31 a32 a33 a34 a35 a36 a37 a38 a39 a40 a41 a42 a43 a44 a45 a46 a47 a48 a49 a50 a51 a52 a53 a54 a55):=by
 intros
 unfold AV6;exact Le.auto
instance:∀a0 a1 a2 a3 a4 a5 a6 a7 a8 a9 a10 a11 a12 a13 a14 a15 a16 a17 a18 a19 a20 a21 a22 a23 a24 a25 a26 a27 a28 a29 a30 a31 a32 a33 a34 a35 a36 a37 a38 a39 a40 a41 a42 a43 a44 a45 a46 a47 a48 a49 a50 a51 a52 a53 a54 a55 a56,Le (@AV7 lpK a0 a1 a2 a3 a4 a5 a6 a7 a8 a9 a10 a11 a12 a13 a14 a15 a16 a17 a18 a19 a20 a21 a22 a23 a24 a25 a26 a27 a28 a29 a30 a31 a32 a33 a34 a35 a36 a37 a38 a39 a40 a41 a42 a43 a44 a45 a46 a47 a48 a49 a50 a51 a52 a53 a54 a55 a56) (@AV7 lpO a0 a1 a2 a3 a4 a5 a6 a7 a8 a9 a10 a11 a12 a13 a14 a15 a16 a17 a18 a19 a20 a21 a22 a23 a24 a25 a26 a27 a28 a29 a30 a31 a32 a33 a34 a35 a36 a37 a38 a39 a40 a41 a42 a43 a44 a45 a46 a47 a48 a49 a50 a51 a52 a53 a54 a55 a56):=by
 intros
 unfold AV7;exact Le.auto
instance:∀a0 a1 a2 a3,Le (@AO4 lpK a0 a1 a2 a3) (@AO4 lpO a0 a1 a2 a3):=by
 intros
 unfold AO4;exact Le.auto
instance:∀a0,Le (@AW1 lpK a0) (@AW1 lpO a0):=by
 intros
 unfold AW1;exact Le.auto
instance:∀a0 a1,Le (@Ad7 lpK a0 a1) (@Ad7 lpO a0 a1):=by
 intros
 unfold Ad7;exact Le.auto
instance:∀a0 a1,Le (@AO5 lpK a0 a1) (@AO5 lpO a0 a1):=by
 intros
 unfold AO5;exact Le.auto
instance:∀a0 a1 a2 a3 a4 a5 a6 a7 a8 a9 a10 a11 a12 a13 a14 a15 a16 a17 a18 a19 a20 a21 a22 a23 a24 a25 a26 a27 a28 a29 a30 a31 a32 a33 a34 a35 a36 a37 a38 a39 a40 a41 a42 a43 a44 a45 a46 a47 a48 a49 a50 a51 a52 a53 a54 a55 a56 a57 a58 a59 a60 a61 a62 a63 a64 a65 a66 a67 a68 a69 a70 a71 a72 a73 a74 a75 a76 a77 a78 a79 a80 a81 a82 a83 a84 a85 a86 a87,Le (@AW2 lpK a0 a1 a2 a3 a4 a5 a6 a7 a8 a9 a10 a11 a12 a13 a14 a15 a16 a17 a18 a19 a20 a21 a22 a23 a24 a25 a26 a27 a28 a29 a30 a31 a32 a33 a34 a35 a36 a37 a38 a39 a40 a41 a42 a43 a44 a45 a46 a47 a48 a49 a50 a51 a52 a53 a54 a55 a56 a57 a58 a59 a60 a61 a62 a63 a64 a65 a66 a67 a68 a69 a70 a71 a72 a73 a74 a75 a76 a77 a78 a79 a80 a81 a82 a83 a84 a85 a86 a87) (@AW2 lpO a0 a1 a2 a3 a4 a5 a6 a7 a8 a9 a10 a11 a12 a13 a14 a15 a16 a17 a18 a19 a20 a21 a22 a23 a24 a25 a26 a27 a28 a29 a30 a31 a32 a33 a34 a35 a36 a37 a38 a39 a40 a41 a42 a43 a44 a45 a46 a47 a48 a49 a50 a51 a52 a53 a54 a55 a56 a57 a58 a59 a60 a61 a62 a63 a64 a65 a66 a67 a68 a69 a70 a71 a72 a73 a74 a75 a76 a77 a78 a79 a80 a81 a82 a83 a84 a85 a86 a87):=by
 intros
 unfold AW2;exact Le.auto
instance:∀a0 a1 a2 a3 a4 a5 a6 a7 a8 a9 a10 a11 a12 a13 a14 a15 a16 a17 a18 a19 a20 a21 a22 a23 a24 a25 a26 a27 a28 a29 a30 a31 a32 a33 a34 a35 a36 a37 a38 a39 a40 a41 a42 a43 a44 a45 a46 a47 a48 a49 a50 a51 a52 a53 a54 a55 a56,Le (@AO6 lpK a0 a1 a2 a3 a4 a5 a6 a7 a8 a9 a10 a11 a12 a13 a14 a15 a16 a17 a18 a19 a20 a21 a22 a23 a24 a25 a26 a27 a28 a29 a30 a31 a32 a33 a34 a35 a36 a37 a38 a39 a40 a41 a42 a43 a44 a45 a46 a47 a48 a49 a50 a51 a52 a53 a54 a55 a56) (@AO6 lpO a0 a1 a2 a3 a4 a5 a6 a7 a8 a9 a10 a11 a12 a13 a14 a15 a16 a17 a18 a19 a20 a21 a22 a23 a24 a25 a26 a27 a28 a29 a30 a31 a32 a33 a34 a35 a36 a37 a38 a39 a40 a41 a42 a43 a44 a45 a46 a47 a48 a49 a50 a51 a52 a53 a54 a55 a56):=by
 intros
 unfold AO6;exact Le.auto
instance:∀a0 a1 a2,Le (@AI0 lpK a0 a1 a2) (@AI0 lpO a0 a1 a2):=by
 intros
 unfold AI0;exact Le.auto
instance:Le (@Y1 lpK ()) (@Y1 lpO ()):=by unfold Y1;exact Le.auto
theorem EW7:@Y1 lpK ()=some true:=by kernel_rfl
theorem BT9:Y1 ()=some true:=(inferInstance:Le (@Y1 lpK ()) (@Y1 lpO ())).go _ EW7
end Go.Proofs.YthfjpkdadjemcaaGreat
