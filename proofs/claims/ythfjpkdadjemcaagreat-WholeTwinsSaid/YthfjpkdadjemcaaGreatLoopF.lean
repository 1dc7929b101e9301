/- Loops of the readings. No program in sight. -/
import Derived.Test.YthfjpkdadjemcaaGreatM1
set_option linter.unusedSimpArgs false
set_option linter.unusedVariables false
namespace Go.Proofs.YthfjpkdadjemcaaGreat
open _root_.Classical renaming choose → FN1
section
variable {S X:Type}{f:S→Option (S ⊕ X)}
theorem CA7:∀(n:Nat) (s:S) (x:X),D2 f n s=some x→∀m,n≤m→D2 f m s=some x:=by
 intro n
 induction n with
 |zero=>intro s x h;cases h
 |succ n ih=>
  intro s x h m hm;obtain⟨m,rfl⟩:∃k,m=k+1:=⟨m-1,by omega⟩
  simp only[D2] at h ⊢;split at h
  ·rename_i s' hs'
   exact ih s' x h m (by omega)
  ·exact h
  ·cases h
theorem p0 {n:Nat}{s:S}{x:X}(h:D2 f n s=some x):AJ9 f s=some x:=by
 unfold AJ9;have hex:∃n,(D2 f n s).isSome=true:=⟨n,by rw[h];rfl⟩
 rw[dif_pos hex];have h1:=Classical.choose_spec hex;obtain⟨y,hy⟩:=Option.isSome_iff_exists.1 h1;have h2:=CA7 _ s y hy (n+FN1 hex) (by omega)
 have h3:=CA7 n s x h (n+FN1 hex) (by omega)
 rw[h2] at h3;rw[hy];exact h3
theorem EH7 (I:S→Prop)(μ:S→Nat)(Q:X→Prop)
  (h:∀s,I s→(∃x,f s=some (.inr x)∧Q x)∨(∃s',f s=some (.inl s')∧I s'∧μ s'<μ s)):∀s,I s→∃x,AJ9 f s=some x∧Q x:=by
 have key:∀(m:Nat) (s:S),μ s<m→I s→∃n x,D2 f n s=some x∧Q x:=by
  intro m
  induction m with
  |zero=>intro s hm;omega
  |succ m ih=>
   intro s hm hI;rcases h s hI with⟨x,h1,h2⟩|⟨s',h1,h2,h3⟩
   ·exact⟨1,x,by simp[D2,h1],h2⟩
   ·obtain⟨n,x,h4,h5⟩:=ih s' (by omega) h2
    exact⟨n+1,x,by simp[D2,h1,h4],h5⟩
 intro s hI;obtain⟨n,x,h1,h2⟩:=key (μ s+1) s (by omega) hI
 exact⟨x,p0 h1,h2⟩
end
end Go.Proofs.YthfjpkdadjemcaaGreat
