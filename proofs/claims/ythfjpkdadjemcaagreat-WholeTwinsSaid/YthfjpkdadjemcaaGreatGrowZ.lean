/- Ways that grow: the search. -/
import Derived.Test.YthfjpkdadjemcaaGreatGA
import Derived.Test.YthfjpkdadjemcaaGreatGrowB1
import Derived.Test.YthfjpkdadjemcaaGreatGrowB2
import Derived.Test.YthfjpkdadjemcaaGreatGrowR1
set_option linter.unusedSimpArgs false
set_option linter.unusedVariables false
namespace Go.Proofs.YthfjpkdadjemcaaGreat
open Go.RowKit
open _root_.Classical renaming em → FK9
theorem Dy0 {t:TkD}{p:Int×Int}(hfew:t.1.length≤4611686018427387903):∀k,AC9 (C9 k t p) t p:=by
 intro k
 induction k with
 |zero=>
  intro r en l e le' h;rw[C9] at h;cases h
 |succ k IH=>
  intro r en l e le' h hr hl w G M B bs os cs na nn nc hW;have hfit:=BN8 (p:=p) hfew k;obtain⟨n,s0,s1,s2,s3,s4,s5,s6,s7,s8,s9,s10,s11⟩:=r;obtain⟨lo,hi⟩:=p;obtain⟨s,hs⟩:∃s,O4 (n,s0,s1,s2,s3,s4,s5,s6,s7,s8,s9,s10,s11) (n-1).toNat=s:=⟨_,rfl⟩;rcases FK9 (e=0) with he | he
  case inr=>exact Dx1 IH hfit n s0 s1 s2 s3 s4 s5 s6 s7 s8 s9 s10 s11 en l e le' s hs he h hr hl w G M B bs os cs na nn nc hW
  rcases FK9 (hi≤en∨F3 t s=[]) with hst | hst
  ·rcases FK9 (lo≤en) with h2 | h2
   ·rcases FK9 (16<(I9 (n,s0,s1,s2,s3,s4,s5,s6,s7,s8,s9,s10,s11) l).length) with h3 | h3
    ·rcases FK9 (hi≤en) with h1 | h1
     ·exact Dx5 IH hfit n s0 s1 s2 s3 s4 s5 s6 s7 s8 s9 s10 s11 en l e le' s hs he hst h2 h3 h1 h hr hl w G M B bs os cs na nn nc hW
     ·exact Dx6 IH hfit n s0 s1 s2 s3 s4 s5 s6 s7 s8 s9 s10 s11 en l e le' s hs he hst h2 h3 h1 h hr hl w G M B bs os cs na nn nc hW
    ·rcases FK9 (hi≤en) with h1 | h1
     ·exact Dx7 IH hfit n s0 s1 s2 s3 s4 s5 s6 s7 s8 s9 s10 s11 en l e le' s hs he hst h2 h3 h1 h hr hl w G M B bs os cs na nn nc hW
     ·exact Dx8 IH hfit n s0 s1 s2 s3 s4 s5 s6 s7 s8 s9 s10 s11 en l e le' s hs he hst h2 h3 h1 h hr hl w G M B bs os cs na nn nc hW
   ·rcases FK9 (16<l.length) with h3 | h3
    ·exact Dx2 IH hfit n s0 s1 s2 s3 s4 s5 s6 s7 s8 s9 s10 s11 en l e le' s hs he hst h2 h3 h hr hl w G M B bs os cs na nn nc hW
    ·exact Dx3 IH hfit n s0 s1 s2 s3 s4 s5 s6 s7 s8 s9 s10 s11 en l e le' s hs he hst h2 h3 h hr hl w G M B bs os cs na nn nc hW
  ·rcases FK9 (n=12) with h12 | h12
   ·exact Dx4 IH hfit n s0 s1 s2 s3 s4 s5 s6 s7 s8 s9 s10 s11 en l e le' s hs he hst h12 h hr hl w G M B bs os cs na nn nc hW
   ·exact Dx9 IH hfit n s0 s1 s2 s3 s4 s5 s6 s7 s8 s9 s10 s11 en l e le' s hs he hst h12 h hr hl w G M B bs os cs na nn nc hW
end Go.Proofs.YthfjpkdadjemcaaGreat
