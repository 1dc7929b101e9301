/- Ways that grow: the search. -/
import Derived.Test.YthfjpkdadjemcaaGreatGA
import Derived.Test.YthfjpkdadjemcaaGreatGrowB1
import Derived.Test.YthfjpkdadjemcaaGreatGrowB2
import Derived.Test.YthfjpkdadjemcaaGreatGrowR1
set_option linter.unusedSimpArgs false
set_option linter.unusedVariables false
namespace Go.Proofs.YthfjpkdadjemcaaGreat
open Go.RowKit
theorem Dv5 {t:TkD}{p:Int×Int}(hfew:t.1.length≤4611686018427387903):∀k,AD1 (D1 k t p) t p:=by
 intro k
 induction k with
 |zero=>
  intro r en l e le' h;rw[D1] at h;cases h
 |succ k IH=>
  intro r en l e le' h hr hl w G M B bs os cs na nn nc hW;have hfit:=BO7 (p:=p) hfew k;obtain⟨n,s0,s1,s2,s3,s4,s5,s6,s7,s8,s9,s10,s11⟩:=r;obtain⟨lo,hi⟩:=p;obtain⟨s,hs⟩:∃s,N9 (n,s0,s1,s2,s3,s4,s5,s6,s7,s8,s9,s10,s11) (n-1).toNat=s:=⟨_,rfl⟩;rcases Classical.em (e=0) with he | he
  case inr=>exact Du6 IH hfit n s0 s1 s2 s3 s4 s5 s6 s7 s8 s9 s10 s11 en l e le' s hs he h hr hl w G M B bs os cs na nn nc hW
  rcases Classical.em (hi≤en∨F4 t s=[]) with hst | hst
  ·rcases Classical.em (lo≤en) with h2 | h2
   ·rcases Classical.em (16<(I8 (n,s0,s1,s2,s3,s4,s5,s6,s7,s8,s9,s10,s11) l).length) with h3 | h3
    ·rcases Classical.em (hi≤en) with h1 | h1
     ·exact Dv0 IH hfit n s0 s1 s2 s3 s4 s5 s6 s7 s8 s9 s10 s11 en l e le' s hs he hst h2 h3 h1 h hr hl w G M B bs os cs na nn nc hW
     ·exact Dv1 IH hfit n s0 s1 s2 s3 s4 s5 s6 s7 s8 s9 s10 s11 en l e le' s hs he hst h2 h3 h1 h hr hl w G M B bs os cs na nn nc hW
    ·rcases Classical.em (hi≤en) with h1 | h1
     ·exact Dv2 IH hfit n s0 s1 s2 s3 s4 s5 s6 s7 s8 s9 s10 s11 en l e le' s hs he hst h2 h3 h1 h hr hl w G M B bs os cs na nn nc hW
     ·exact Dv3 IH hfit n s0 s1 s2 s3 s4 s5 s6 s7 s8 s9 s10 s11 en l e le' s hs he hst h2 h3 h1 h hr hl w G M B bs os cs na nn nc hW
   ·rcases Classical.em (16<l.length) with h3 | h3
    ·exact Du7 IH hfit n s0 s1 s2 s3 s4 s5 s6 s7 s8 s9 s10 s11 en l e le' s hs he hst h2 h3 h hr hl w G M B bs os cs na nn nc hW
    ·exact Du8 IH hfit n s0 s1 s2 s3 s4 s5 s6 s7 s8 s9 s10 s11 en l e le' s hs he hst h2 h3 h hr hl w G M B bs os cs na nn nc hW
  ·rcases Classical.em (n=12) with h12 | h12
   ·exact Du9 IH hfit n s0 s1 s2 s3 s4 s5 s6 s7 s8 s9 s10 s11 en l e le' s hs he hst h12 h hr hl w G M B bs os cs na nn nc hW
   ·exact Dv4 IH hfit n s0 s1 s2 s3 s4 s5 s6 s7 s8 s9 s10 s11 en l e le' s hs he hst h12 h hr hl w G M B bs os cs na nn nc hW
end Go.Proofs.YthfjpkdadjemcaaGreat
