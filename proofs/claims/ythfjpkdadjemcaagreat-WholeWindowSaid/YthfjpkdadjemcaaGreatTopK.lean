/- What is read with so many rounds of each loop at most is what is read: so a run can be looked at. -/
import Derived.Test.YthfjpkdadjemcaaGreatFnsF3
import Derived.Test.YthfjpkdadjemcaaGreatLoopF
set_option linter.unusedSimpArgs false
set_option linter.unusedVariables false
namespace Go.Proofs.YthfjpkdadjemcaaGreat
open Go Go.RowKit
@[reducible] def lpK : LP := ⟨fun f s => E1 f 3000 s⟩
class Le {α:Type} (a b:Option α):Prop where
 go:∀y,a=some y→b=some y
section
variable {α β S X:Type}
theorem Le.same (a:Option α):Le a a:=⟨fun _ h=>h⟩
theorem Le.bnd {a b:Option α}{f g:α→Option β}(h:Le a b)(h2:∀x,Le (f x) (g x)):Le (Option.bind a f) (Option.bind b g):=by
 refine⟨fun y hy=> ?_⟩
 cases ha:a with
 |none=>rw [ha] at hy;cases hy
 |some x=>
  rw[ha] at hy;rw[h.go x ha];exact (h2 x).go y hy
theorem Le.chk {c:Bool}{a b:Option α}(h:Le a b):Le (chk none c a) (chk none c b):=by
 cases c
 ·exact Le.same _
 ·exact h
theorem Le.cnd {c:Bool}{a b a' b':Option α}(h:Le a a')(h2:Le b b'):Le (cond c a b) (cond c a' b'):=by
 cases c
 ·exact h2
 ·exact h
theorem Le.E1 {f g:S→Option (S ⊕ X)}(h:∀s,Le (f s) (g s)):∀n s,Le (E1 f n s) (E1 g n s)
 |0,s=>⟨fun y hy=>by cases hy⟩
 |n+1,s=>by
  refine⟨fun y hy=> ?_⟩
  simp only[Go.Proofs.YthfjpkdadjemcaaGreat.E1] at hy ⊢;cases hf:f s with
  |none=>rw [hf] at hy;cases hy
  |some z=>
   rw[hf] at hy;rw[(h s).go z hf];cases z with
   |inl s'=>exact (Le.E1 h n s').go y hy
   |inr x=>exact hy
theorem Le.lp {f g:S→Option (S ⊕ X)}{s:S}(h:∀s,Le (f s) (g s)):Le (@LP.lp lpK S X f s) (@LP.lp lpO S X g s):=by exact⟨fun y hy=>AX1 (n:=3000) ((Le.E1 h 3000 s).go y hy)⟩
theorem Le.fold {γ:Type}{f g:β→γ→Option β}(h:∀b c,Le (f b c) (g b c)):∀(l:List γ) (b:β),Le (l.foldlM f b) (l.foldlM g b)
 | [],b=>Le.same _
 |c::l,b=>by simp only[List.foldlM_cons];exact Le.bnd (h b c) fun b'=>Le.fold h l b'
end
theorem Le.auto {α:Type}{a b:Option α}(h:Le a b:=by repeat' (first | (intro _) | (with_reducible (first | exact Le.same _ | infer_instance | refine Le.bnd ?_ ?_ | refine Le.chk ?_ | refine Le.cnd ?_ ?_ | refine Le.lp ?_)) | (cases ‹_ ⊕ _›) | exact Le.same _)):Le a b:=h
instance:∀a0 a1 a2,Le (@O3 lpK a0 a1 a2) (@O3 lpO a0 a1 a2):=by
 intros
 unfold O3;exact Le.auto
instance:∀a0 a1,Le (@AR8 lpK a0 a1) (@AR8 lpO a0 a1):=by
 intros
 unfold AR8;exact Le.auto
instance:∀a0,Le (@AH6 lpK a0) (@AH6 lpO a0):=by
 intros
 unfold AH6;exact Le.auto
instance:∀a0,Le (@R0 lpK a0) (@R0 lpO a0):=by
 intros
 unfold R0;exact Le.auto
instance:∀a0,Le (@AL1 lpK a0) (@AL1 lpO a0):=by
 intros
 unfold AL1;exact Le.auto
instance:∀a0 a1,Le (@AR9 lpK a0 a1) (@AR9 lpO a0 a1):=by
 intros
 unfold AR9;exact Le.auto
instance:∀a0 a1,Le (@AS0 lpK a0 a1) (@AS0 lpO a0 a1):=by
 intros
 unfold AS0;exact Le.auto
instance:∀a0,Le (@AS1 lpK a0) (@AS1 lpO a0):=by
 intros
 unfold AS1;exact Le.auto
instance:∀a0 a1,Le (@AL2 lpK a0 a1) (@AL2 lpO a0 a1):=by
 intros
 unfold AL2;exact Le.auto
instance:∀a0 a1,Le (@T8 lpK a0 a1) (@T8 lpO a0 a1):=by
 intros
 unfold T8;exact Le.auto
instance:∀a0,Le (@AL3 lpK a0) (@AL3 lpO a0):=by
 intros
 unfold AL3;exact Le.auto
instance:∀a0 a1,Le (@AS2 lpK a0 a1) (@AS2 lpO a0 a1):=by
 intros
 unfold AS2;exact Le.auto
instance:∀a0 a1,Le (@AS3 lpK a0 a1) (@AS3 lpO a0 a1):=by
 intros
 unfold AS3;exact Le.auto
instance:∀a0,Le (@AL4 lpK a0) (@AL4 lpO a0):=by
 intros
 unfold AL4;exact Le.auto
instance:∀a0 a1 a2,Le (@M5 lpK a0 a1 a2) (@M5 lpO a0 a1 a2):=by
 intros
 unfold M5;exact Le.auto
instance:∀a0 a1 a2 a3,Le (@Z3 lpK a0 a1 a2 a3) (@Z3 lpO a0 a1 a2 a3):=by
 intros
 unfold Z3;exact Le.auto
instance:∀a0 a1,Le (@AS4 lpK a0 a1) (@AS4 lpO a0 a1):=by
 intros
 unfold AS4;exact Le.auto
instance:∀a0 a1 a2,Le (@AS5 lpK a0 a1 a2) (@AS5 lpO a0 a1 a2):=by
 intros
 unfold AS5;exact Le.auto
instance:∀a0 a1,Le (@AS6 lpK a0 a1) (@AS6 lpO a0 a1):=by
 intros
 unfold AS6;exact Le.auto
instance:∀a0 a1 a2,Le (@AS7 lpK a0 a1 a2) (@AS7 lpO a0 a1 a2):=by
 intros
 unfold AS7;exact Le.auto
instance:∀a0 a1,Le (@AS8 lpK a0 a1) (@AS8 lpO a0 a1):=by
 intros
 unfold AS8;exact Le.auto
instance:∀a0 a1 a2,Le (@AS9 lpK a0 a1 a2) (@AS9 lpO a0 a1 a2):=by
 intros
 unfold AS9;exact Le.auto
instance:∀a0 a1,Le (@AT0 lpK a0 a1) (@AT0 lpO a0 a1):=by
 intros
 unfold AT0;exact Le.auto
instance:∀a0 a1 a2,Le (@AT1 lpK a0 a1 a2) (@AT1 lpO a0 a1 a2):=by
 intros
 unfold AT1;exact Le.auto
instance:∀a0 a1,Le (@AT2 lpK a0 a1) (@AT2 lpO a0 a1):=by
 intros
 unfold AT2;exact Le.auto
instance:∀a0 a1,Le (@AT3 lpK a0 a1) (@AT3 lpO a0 a1):=by
 intros
 unfold AT3;exact Le.auto
instance:∀a0,Le (@AL5 lpK a0) (@AL5 lpO a0):=by
 intros
 unfold AL5;exact Le.auto
instance:∀a0,Le (@AL6 lpK a0) (@AL6 lpO a0):=by
 intros
 unfold AL6;exact Le.auto
instance:∀a0 a1,Le (@AD8 lpK a0 a1) (@AD8 lpO a0 a1):=by
 intros
 unfold AD8;exact Le.auto
instance:∀a0 a1 a2 a3,Le (@AB1 lpK a0 a1 a2 a3) (@AB1 lpO a0 a1 a2 a3):=by
 intros
 unfold AB1;exact Le.auto
instance:∀a0 a1 a2,Le (@Z6 lpK a0 a1 a2) (@Z6 lpO a0 a1 a2):=by
 intros
 unfold Z6;exact Le.auto
instance:∀a0,Le (@AD9 lpK a0) (@AD9 lpO a0):=by
 intros
 unfold AD9;exact Le.auto
instance:∀a0 a1 a2 a3 a4 a5 a6 a7 a8 a9 a10 a11 a12 a13,Le (@AH9 lpK a0 a1 a2 a3 a4 a5 a6 a7 a8 a9 a10 a11 a12 a13) (@AH9 lpO a0 a1 a2 a3 a4 a5 a6 a7 a8 a9 a10 a11 a12 a13):=by
 intros
 unfold AH9;exact Le.auto
instance:∀a0,Le (@AI0 lpK a0) (@AI0 lpO a0):=by
 intros
 unfold AI0;exact Le.auto
instance:∀a0 a1,Le (@Z7 lpK a0 a1) (@Z7 lpO a0 a1):=by
 intros
 unfold Z7;exact Le.auto
instance:∀a0 a1,Le (@AL9 lpK a0 a1) (@AL9 lpO a0 a1):=by
 intros
 unfold AL9;exact Le.auto
instance:∀a0,Le (@AM0 lpK a0) (@AM0 lpO a0):=by
 intros
 unfold AM0;exact Le.auto
instance:∀a0,Le (@AM1 lpK a0) (@AM1 lpO a0):=by
 intros
 unfold AM1;exact Le.auto
instance:∀a0 a1,Le (@AT6 lpK a0 a1) (@AT6 lpO a0 a1):=by
 intros
 unfold AT6;exact Le.auto
instance:∀a0,Le (@AT7 lpK a0) (@AT7 lpO a0):=by
 intros
 unfold AT7;exact Le.auto
instance:∀s t p,Le (@V3 lpK s t p) (@V3 lpO s t p):=by
 intro s t p;unfold V3;split
 ·split
  ·exact Le.same _
  ·split
   ·exact Le.bnd (Le.fold (fun b c=>Le.bnd inferInstance fun _=>Le.same _) _ _) fun _=>Le.same _
   ·exact Le.same _
 ·exact Le.same _
instance:∀a0 a1 a2 a3 a4 a5 a6 a7 a8 a9 a10 a11 a12 a13 a14 a15 a16 a17,Le (@AU4 lpK a0 a1 a2 a3 a4 a5 a6 a7 a8 a9 a10 a11 a12 a13 a14 a15 a16 a17) (@AU4 lpO a0 a1 a2 a3 a4 a5 a6 a7 a8 a9 a10 a11 a12 a13 a14 a15 a16 a17):=by
 intros
 unfold AU4;exact Le.auto
instance:∀a0 a1,Le (@AN3 lpK a0 a1) (@AN3 lpO a0 a1):=by
 intros
 unfold AN3;exact Le.auto
instance:∀a0 a1 a2,Le (@AE2 lpK a0 a1 a2) (@AE2 lpO a0 a1 a2):=by
 intros
 unfold AE2;exact Le.auto
instance:∀a0 a1 a2,Le (@AI6 lpK a0 a1 a2) (@AI6 lpO a0 a1 a2):=by
 intros
 unfold AI6;exact Le.auto
instance:∀a0 a1 a2,Le (@AI7 lpK a0 a1 a2) (@AI7 lpO a0 a1 a2):=by
 intros
 unfold AI7;exact Le.auto
instance:∀a0 a1 a2 a3 a4 a5 a6 a7 a8 a9 a10 a11 a12 a13 a14 a15 a16 a17 a18 a19 a20 a21 a22 a23 a24 a25 a26 a27 a28 a29 a30 a31 a32 a33 a34 a35 a36 a37 a38 a39 a40 a41 a42 a43 a44 a45 a46 a47 a48 a49 a50 a51 a52 a53 a54 a55 a56,Le (@AE3 lpK a0 a1 a2 a3 a4 a5 a6 a7 a8 a9 a10 a11 a12 a13 a14 a15 a16 a17 a18 a19 a20 a21 a22 a23 a24 a25 a26 a27 a28 a29 a30 a31 a32 a33 a34 a35 a36 a37 a38 a39 a40 a41 a42 a43 a44 a45 a46 a47 a48 a49 a50 a51 a52 a53 a54 a55 a56) (@AE3 lpO a0 a1 a2 a3 a4 a5 a6 a7 a8 a9 a10 a11 a12 a13 a14 a15 a16 a17 a18 a19 a20 a21 a22 a23 a24 a25 a26 a27 a28 a29 a30 a31 a32 a33 a34 a35 a36 a37 a38 a39 a40 a41 a42 a43 a44 a45 a46 a47 a48 a49 a50 a51 a52 a53 a54 a55 a56):=by
 intros
 unfold AE3;exact Le.auto
instance:∀a0 a1,Le (@AN4 lpK a0 a1) (@AN4 lpO a0 a1):=by
 intros
 unfold AN4;exact Le.auto
instance:∀a0 a1,Le (@AI8 lpK a0 a1) (@AI8 lpO a0 a1):=by
 intros
 unfold AI8;exact Le.auto
instance:∀a0 a1 a2 a3 a4 a5 a6 a7 a8 a9 a10 a11 a12 a13 a14 a15 a16 a17 a18 a19 a20 a21 a22 a23 a24 a25 a26 a27 a28 a29 a30 a31 a32 a33 a34 a35 a36 a37 a38 a39 a40 a41 a42 a43 a44 a45 a46 a47 a48 a49 a50 a51 a52 a53 a54 a55,Le (@AU5 lpK a0 a1 a2 a3 a4 a5 a6 a7 a8 a9 a10 a11 a12 a13 a14 a15 a16 a17 a18 a19 a20 a21 a22 a23 a24 a25 a26 a27 a28 a29 a30 a31 a32 a33 a34 a35 a36 a37 a38 a39 a40 a41 a42 a43 a44 a45 a46 a47 a48 a49 a50 a51 a52 a53 a54 a55) (@AU5 lpO a0 a1 a2 a3 a4 a5 a6 a7 a8 a9 a10 a11 a12 a13 a14 a15 a16 a17 a18 a19 a20 a21 a22 a23 a24 a25 a26 a27 a28 a29 a30 a31 a32 a33 a34 a35 a36 a37 a38 a39 a40 a41 a42 a43 a44 a45 a46 a47 a48 a49 a50 a51 a52 a53 a54 a55):=by
 intros
 unfold AU5;exact Le.auto
instance:∀a0 a1 a2 a3 a4 a5 a6 a7 a8,Le (@AU6 lpK a0 a1 a2 a3 a4 a5 a6 a7 a8) (@AU6 lpO a0 a1 a2 a3 a4 a5 a6 a7 a8):=by
 intros
 unfold AU6;exact Le.auto
instance:∀a0 a1 a2 a3 a4 a5 a6 a7 a8,Le (@AU7 lpK a0 a1 a2 a3 a4 a5 a6 a7 a8) (@AU7 lpO a0 a1 a2 a3 a4 a5 a6 a7 a8):=by
 intros
 unfold AU7;exact Le.auto
instance:∀a0 a1 a2,Le (@AU8 lpK a0 a1 a2) (@AU8 lpO a0 a1 a2):=by
 intros
 unfold AU8;exact Le.auto
instance:∀a0 a1 a2 a3 a4 a5 a6 a7 a8 a9 a10 a11 a12 a13 a14 a15 a16 a17 a18 a19 a20 a21 a22 a23 a24 a25 a26 a27 a28 a29 a30 a31 a32 a33 a34 a35 a36 a37 a38 a39 a40 a41 a42 a43 a44 a45 a46 a47 a48 a49 a50 a51 a52 a53 a54,Le (@AU9 lpK a0 a1 a2 a3 a4 a5 a6 a7 a8 a9 a10 a11 a12 a13 a14 a15 a16 a17 a18 a19 a20 a21 a22 a23 a24 a25 a26 a27 a28 a29 a30 a31 a32 a33 a34 a35 a36 a37 a38 a39 a40 a41 a42 a43 a44 a45 a46 a47 a48 a49 a50 a51 a52 a53 a54) (@AU9 lpO a0 a1 a2 a3 a4 a5 a6 a7 a8 a9 a10 a11 a12 a13 a14 a15 a16 a17 a18 a19 a20 a21 a22 a23 a24 a25 a26 a27 a28 a29 a30 a31 a32 a33 a34 a35 a36 a37 a38 a39 a40 a41 a42 a43 a44 a45 a46 a47 a48 a49 a50 a51 a52 a53 a54):=by
 intros
 unfold AU9;exact Le.auto
instance:∀a0 a1 a2 a3 a4 a5 a6 a7 a8 a9 a10 a11 a12 a13 a14 a15 a16 a17 a18 a19 a20 a21 a22 a23 a24 a25 a26 a27 a28 a29 a30 a31 a32 a33 a34 a35 a36 a37 a38 a39 a40 a41 a42 a43 a44 a45 a46 a47 a48 a49 a50 a51 a52 a53 a54 a55,Le (@AV0 lpK a0 a1 a2 a3 a4 a5 a6 a7 a8 a9 a10 a11 a12 a13 a14 a15 a16 a17 a18 a19 a20 a21 a22 a23 a24 a25 a26 a27 a28 a29 a30 a31 a32 a33 a34 a35 a36 a37 a38 a39 a40 a41 a42 a43 a44 a45 a46 a47 a48 a49 a50 a51 a52 a53 a54 a55) (@AV0 lpO a0 a1 a2 a3 a4 a5 a6 a7 a8 a9 a10 a11 a12 a13 a14 a15 a16 a17 a18 a19 a20 a21 a22 a23 a24 a25 a26 a27 a28 a29 a30 a31 a32 a33 a34 a35 a36 a37 a38 a39 a40 a41 a42 a43 a44 a45 a46 a47 a48 a49 a50 a51 a52 a53 a54 a55):=by
 intros
 unfold AV0;exact Le.auto
instance:∀a0,Le (@AV1 lpK a0) (@AV1 lpO a0):=by
 intros
 unfold AV1;exact Le.auto
instance:∀a0,Le (@AV2 lpK a0) (@AV2 lpO a0):=by
 intros
 unfold AV2;exact Le.auto
instance:∀a0,Le (@AV3 lpK a0) (@AV3 lpO a0):=by
 intros
 unfold AV3;exact Le.auto
instance:∀a0 a1,Le (@AV4 lpK a0 a1) (@AV4 lpO a0 a1):=by
 intros
 unfold AV4;exact Le.auto
instance:∀a0 a1 a2,Le (@AE5 lpK a0 a1 a2) (@AE5 lpO a0 a1 a2):=by
 intros
 unfold AE5;exact Le.auto
instance:∀a0 a1 a2 a3 a4 a5 a6 a7 a8 a9 a10 a11 a12 a13 a14 a15 a16 a17 a18 a19 a20 a21 a22 a23 a24 a25 a26 a27 a28 a29 a30 a31 a32 a33 a34 a35 a36 a37 a38 a39 a40 a41 a42 a43 a44 a45 a46 a47 a48 a49 a50 a51 a52 a53 a54 a55,Le (@AV6 lpK a0 a1 a2 a3 a4 a5 a6 a7 a8 a9 a10 a11 a12 a13 a14 a15 a16 a17 a18 a19 a20 a21 a22 a23 a24 a25 a26 a27 a28 a29 a30 a31 a32 a33 a34 a35 a36 a37 a38 a39 a40 a41 a42 a43 a44 a45 a46 a47 a48 a49 a50 a51 a52 a53 a54 a55) (@AV6 lpO a0 a1 a2 a3 a4 a5 a6 a7 a8 a9 a10 a11 a12 a13 a14 a15 a16 a17 a18 a19 a20 a21 a22 a23 a24 a25 a26 a27 a28 a29 a30 a31 a32 a33 a34 a35 a36 a37 a38 a39 a40 a41 a42 a43 a44 a45 a46 a47 a48 a49 a50 a51 a52 a53 a54 a55):=by
 intros
 unfold AV6;exact Le.auto
instance:∀a0 a1 a2,Le (@l9 lpK a0 a1 a2) (@l9 lpO a0 a1 a2):=by
 intros
 unfold l9;exact Le.auto
instance:∀a0 a1 a2 a3 a4 a5 a6 a7 a8 a9 a10 a11 a12 a13 a14 a15 a16 a17 a18 a19 a20 a21 a22 a23 a24 a25 a26 a27 a28 a29 a30 a31 a32 a33 a34 a35 a36 a37 a38 a39 a40 a41 a42 a43 a44 a45 a46 a47 a48 a49 a50 a51 a52 a53 a54 a55,Le (@AV7 lpK a0 a1 a2 a3 a4 a5 a6 a7 a8 a9 a10 a11 a12 a13 a14 a15 a16 a17 a18 a19 a20 a21 a22 a23 a24 a25 a26 a27 a28 a29 a30 a31 a32 a33 a34 a35 a36 a37 a38 a39 a40 a41 a42 a43 a44 a45 a46 a47 a48 a49 a50 a51 a52 a53 a54 a55) (@AV7 lpO a0 a1 a2 a3 a4 a5 a6 a7 a8 a9 a10 a11 a12 a13 a14 a15 a16 a17 a18 a19 a20 a21 a22 a23 a24 a25 a26 a27 a28 a29 a30 a31 a32 a33 a34 a35 a36 a37 a38 a39 a40 a41 a42 a43 a44 a45 a46 a47 a48 a49 a50 a51 a52 a53 a54 a55):=by
 intros
 unfold AV7;exact Le.auto
instance:∀a0 a1,Le (@AO2 lpK a0 a1) (@AO2 lpO a0 a1):=by
 intros
 unfold AO2;exact Le.auto
instance:∀a0 a1,Le (@V7 lpK a0 a1) (@V7 lpO a0 a1):=by
 intros
 unfold V7;exact Le.auto
instance:∀a0 a1 a2 a3 a4,Le (@AE6 lpK a0 a1 a2 a3 a4) (@AE6 lpO a0 a1 a2 a3 a4):=by
 intros
 unfold AE6;exact Le.auto
instance:∀a0 a1 a2 a3 a4 a5 a6 a7 a8 a9 a10 a11 a12 a13 a14 a15 a16 a17 a18 a19 a20 a21 a22 a23 a24 a25 a26 a27 a28 a29 a30 a31 a32 a33 a34 a35 a36 a37 a38 a39 a40 a41 a42 a43 a44 a45 a46 a47 a48 a49 a50 a51 a52 a53 a54 a55 a56 a57,Le (@AO4 lpK a0 a1 a2 a3 a4 a5 a6 a7 a8 a9 a10 a11 a12 a13 a14 a15 a16 a17 a18 a19 a20 a21 a22 a23 a24 a25 a26 a27 a28 a29 a30 a31 a32 a33 a34 a35 a36 a37 a38 a39 a40 a41 a42 a43 a44 a45 a46 a47 a48 a49 a50 a51 a52 a53 a54 a55 a56 a57) (@AO4 lpO a0 a1 a2 a3 a4 a5 a6 a7 a8 a9 a10 a11 a12 a13 a14 a15 a16 a17 a18 a19 a20 a21 a22 a23 a24 a25 a26 a27 a28 a29 a30 a31 a32 a33 a34 a35 a36 a37 a38 a39 a40 a41 a42 a43 a44 a45 a46 a47 a48 a49 a50 a51 a52 a53 a54 a55 a56 a57):=by
 intros
 unfold AO4;exact Le.auto
instance:∀a0 a1 a2 a3 a4 a5 a6 a7 a8 a9 a10 a11 a12 a13 a14 a15 a16 a17 a18 a19 a20 a21 a22 a23 a24 a25 a26 a27 a28 a29 a30 a31 a32 a33 a34 a35 a36 a37 a38 a39 a40 a41 a42 a43 a44 a45 a46 a47 a48 a49 a50 a51 a52 a53 a54 a55 a56 a57,Le (@AW1 lpK a0 a1 a2 a3 a4 a5 a6 a7 a8 a9 a10 a11 a12 a13 a14 a15 a16 a17 a18 a19 a20 a21 a22 a23 a24 a25 a26 a27 a28 a29 a30 a31 a32 a33 a34 a35 a36 a37 a38 a39 a40 a41 a42 a43 a44 a45 a46 a47 a48 a49 a50 a51 a52 a53 a54 a55 a56 a57) (@AW1 lpO a0 a1 a2 a3 a4 a5 a6 a7 a8 a9 a10 a11 a12 a13 a14 a15 a16 a17 a18 a19 a20 a21 a22 a23 a24 a25 a26 a27 a28 a29 a30 a31 a32 a33 a34 a35 a36 a37 a38 a39 a40 a41 a42 a43 a44 a45 a46 a47 a48 a49 a50 a51 a52 a53 a54 a55 a56 a57):=by
 intros
 unfold AW1;exact Le.auto
instance:∀a0 a1 a2,Le (@AO6 lpK a0 a1 a2) (@AO6 lpO a0 a1 a2):=by
 intros
 unfold AO6;exact Le.auto
instance:∀a0 a1 a2 a3,Le (@AB6 lpK a0 a1 a2 a3) (@AB6 lpO a0 a1 a2 a3):=by
 intros
 unfold AB6;exact Le.auto
instance:∀a0 a1 a2 a3 a4 a5 a6 a7 a8 a9 a10 a11 a12 a13 a14 a15 a16 a17 a18 a19 a20 a21 a22 a23 a24 a25 a26 a27 a28 a29 a30 a31 a32 a33 a34 a35 a36 a37 a38 a39 a40 a41 a42 a43 a44 a45 a46 a47 a48 a49 a50 a51 a52 a53 a54 a55,Le (@AW3 lpK a0 a1 a2 a3 a4 a5 a6 a7 a8 a9 a10 a11 a12 a13 a14 a15 a16 a17 a18 a19 a20 a21 a22 a23 a24 a25 a26 a27 a28 a29 a30 a31 a32 a33 a34 a35 a36 a37 a38 a39 a40 a41 a42 a43 a44 a45 a46 a47 a48 a49 a50 a51 a52 a53 a54 a55) (@AW3 lpO a0 a1 a2 a3 a4 a5 a6 a7 a8 a9 a10 a11 a12 a13 a14 a15 a16 a17 a18 a19 a20 a21 a22 a23 a24 a25 a26 a27 a28 a29 a30 a31 a32 a33 a34 a35 a36 a37 a38 a39 a40 a41 a42 a43 a44 a45 a46 a47 a48 a49 a50 a51 a52 a53 a54 a55):=by
 intros
 unfold AW3;exact Le.auto
instance:∀a0 a1 a2 a3 a4 a5 a6 a7 a8 a9 a10 a11 a12 a13 a14 a15 a16 a17 a18 a19 a20 a21 a22 a23 a24 a25 a26 a27 a28 a29 a30 a31 a32 a33 a34 a35 a36 a37 a38 a39 a40 a41 a42 a43 a44 a45 a46 a47 a48 a49 a50 a51 a52 a53 a54 a55 a56,Le (@AW4 lpK a0 a1 a2 a3 a4 a5 a6 a7 a8 a9 a10 a11 a12 a13 a14 a15 a16 a17 a18 a19 a20 a21 a22 a23 a24 a25 a26 a27 a28 a29 a30 a31 a32 a33 a34 a35 a36 a37 a38 a39 a40 a41 a42 a43 a44 a45 a46 a47 a48 a49 a50 a51 a52 a53 a54 a55 a56) (@AW4 lpO a0 a1 a2 a3 a4 a5 a6 a7 a8 a9 a10 a11 a12 a13 a14 a15 a16 a17 a18 a19 a20 a21 a22 a23 a24 a25 a26 a27 a28 a29 a30 a31 a32 a33 a34 a35 a36 a37 a38 a39 a40 a41 a42 a43 a44 a45 a46 a47 a48 a49 a50 a51 a52 a53 a54 a55 a56):=by
 intros
 unfold AW4;exact Le.auto
instance:∀a0 a1 a2 a3,Le (@AO7 lpK a0 a1 a2 a3) (@AO7 lpO a0 a1 a2 a3):=by
 intros
 unfold AO7;exact Le.auto
instance:∀a0,Le (@AW8 lpK a0) (@AW8 lpO a0):=by
 intros
 unfold AW8;exact Le.auto
instance:∀a0 a1,Le (@Af6 lpK a0 a1) (@Af6 lpO a0 a1):=by
 intros
 unfold Af6;exact Le.auto
instance:∀a0 a1,Le (@AO8 lpK a0 a1) (@AO8 lpO a0 a1):=by
 intros
 unfold AO8;exact Le.auto
instance:∀a0 a1 a2 a3 a4 a5 a6 a7 a8 a9 a10 a11 a12 a13 a14 a15 a16 a17 a18 a19 a20 a21 a22 a23 a24 a25 a26 a27 a28 a29 a30 a31 a32 a33 a34 a35 a36 a37 a38 a39 a40 a41 a42 a43 a44 a45 a46 a47 a48 a49 a50 a51 a52 a53 a54 a55 a56 a57 a58 a59 a60 a61 a62 a63 a64 a65 a66 a67 a68 a69 a70 a71 a72 a73 a74 a75 a76 a77 a78 a79 a80 a81 a82 a83 a84 a85 a86 a87,Le (@AW9 lpK a0 a1 a2 a3 a4 a5 a6 a7 a8 a9 a10 a11 a12 a13 a14 a15 a16 a17 a18 a19 a20 a21 a22 a23 a24 a25 a26 a27 a28 a29 a30 a31 a32 a33 a34 a35 a36 a37 a38 a39 a40 a41 a42 a43 a44 a45 a46 a47 a48 a49 a50 a51 a52 a53 a54 a55 a56 a57 a58 a59 a60 a61 a62 a63 a64 a65 a66 a67 a68 a69 a70 a71 a72 a73 a74 a75 a76 a77 a78 a79 a80 a81 a82 a83 a84 a85 a86 a87) (@AW9 lpO a0 a1 a2 a3 a4 a5 a6 a7 a8 a9 a10 a11 a12 a13 a14 a15 a16 a17 a18 a19 a20 a21 a22 a23 a24 a25 a26 a27 a28 a29 a30 a31 a32 a33 a34 a35 a36 a37 a38 a39 a40 a41 a42 a43 a44 a45 a46 a47 a48 a49 a50 a51 a52 a53 a54 a55 a56 a57 a58 a59 a60 a61 a62 a63 a64 a65 a66 a67 a68 a69 a70 a71 a72 a73 a74 a75 a76 a77 a78 a79 a80 a81 a82 a83 a84 a85 a86 a87):=by
 intros
 unfold AW9;exact Le.auto
instance:∀a0 a1 a2 a3 a4 a5 a6 a7 a8 a9 a10 a11 a12 a13 a14 a15 a16 a17 a18 a19 a20 a21 a22 a23 a24 a25 a26 a27 a28 a29 a30 a31 a32 a33 a34 a35 a36 a37 a38 a39 a40 a41 a42 a43 a44 a45 a46 a47 a48 a49 a50 a51 a52 a53 a54 a55 a56,Le (@AX0 lpK a0 a1 a2 a3 a4 a5 a6 a7 a8 a9 a10 a11 a12 a13 a14 a15 a16 a17 a18 a19 a20 a21 a22 a23 a24 a25 a26 a27 a28 a29 a30 a31 a32 a33 a34 a35 a36 a37 a38 a39 a40 a41 a42 a43 a44 a45 a46 a47 a48 a49 a50 a51 a52 a53 a54 a55 a56) (@AX0 lpO a0 a1 a2 a3 a4 a5 a6 a7 a8 a9 a10 a11 a12 a13 a14 a15 a16 a17 a18 a19 a20 a21 a22 a23 a24 a25 a26 a27 a28 a29 a30 a31 a32 a33 a34 a35 a36 a37 a38 a39 a40 a41 a42 a43 a44 a45 a46 a47 a48 a49 a50 a51 a52 a53 a54 a55 a56):=by
 intros
 unfold AX0;exact Le.auto
instance:∀a0 a1 a2,Le (@AB7 lpK a0 a1 a2) (@AB7 lpO a0 a1 a2):=by
 intros
 unfold AB7;exact Le.auto
instance:Le (@AE7 lpK ()) (@AE7 lpO ()):=by unfold AE7;exact Le.auto
theorem Ec2:@AE7 lpK ()=some true:=by kernel_rfl
theorem Ec3:AE7 ()=some true:=(inferInstance:Le (@AE7 lpK ()) (@AE7 lpO ())).go _ Ec2
end Go.Proofs.YthfjpkdadjemcaaGreat
