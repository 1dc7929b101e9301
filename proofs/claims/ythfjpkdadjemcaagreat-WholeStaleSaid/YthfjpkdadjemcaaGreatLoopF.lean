/- Loops of the readings. No program in sight. -/
import Derived.Test.YthfjpkdadjemcaaGreatM1
set_option linter.unusedSimpArgs false
set_option linter.unusedVariables false
namespace Go.Proofs.YthfjpkdadjemcaaGreat
section
variable {S X:Type}{f:S→Option (S ⊕ X)}
theorem CB0:∀(n:Nat) (s:S) (x:X),G3 f n s=some x→∀m,n≤m→G3 f m s=some x:=by
 intro n
 induction n with
 |zero=>intro s x h;cases h
 |succ n ih=>
  intro s x h m hm;obtain⟨m,rfl⟩:∃k,m=k+1:=⟨m-1,by omega⟩
  simp only[G3] at h ⊢;split at h
  ·rename_i s' hs'
   exact ih s' x h m (by omega)
  ·exact h
  ·cases h
theorem Ad2 {n:Nat}{s:S}{x:X}(h:G3 f n s=some x):AJ1 f s=some x:=by
 unfold AJ1;have hex:∃n,(G3 f n s).isSome=true:=⟨n,by rw[h];rfl⟩
 rw[dif_pos hex];have h1:=Classical.choose_spec hex;obtain⟨y,hy⟩:=Option.isSome_iff_exists.1 h1;have h2:=CB0 _ s y hy (n+Classical.choose hex) (by omega)
 have h3:=CB0 n s x h (n+Classical.choose hex) (by omega)
 rw[h2] at h3;rw[hy];exact h3
theorem EF6 (I:S→Prop)(μ:S→Nat)(Q:X→Prop)
  (h:∀s,I s→(∃x,f s=some (.inr x)∧Q x)∨(∃s',f s=some (.inl s')∧I s'∧μ s'<μ s)):∀s,I s→∃x,AJ1 f s=some x∧Q x:=by
 have key:∀(m:Nat) (s:S),μ s<m→I s→∃n x,G3 f n s=some x∧Q x:=by
  intro m
  induction m with
  |zero=>intro s hm;omega
  |succ m ih=>
   intro s hm hI;rcases h s hI with⟨x,h1,h2⟩|⟨s',h1,h2,h3⟩
   ·exact⟨1,x,by simp[G3,h1],h2⟩
   ·obtain⟨n,x,h4,h5⟩:=ih s' (by omega) h2
    exact⟨n+1,x,by simp[G3,h1,h4],h5⟩
 intro s hI;obtain⟨n,x,h1,h2⟩:=key (μ s+1) s (by omega) hI
 exact⟨x,Ad2 h1,h2⟩
end
end Go.Proofs.YthfjpkdadjemcaaGreat
