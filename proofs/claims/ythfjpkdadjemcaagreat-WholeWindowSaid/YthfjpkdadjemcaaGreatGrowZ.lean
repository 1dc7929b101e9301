/- Ways that grow: the search. -/
import Derived.Test.YthfjpkdadjemcaaGreatGA
import Derived.Test.YthfjpkdadjemcaaGreatGrowB1
import Derived.Test.YthfjpkdadjemcaaGreatGrowB2
import Derived.Test.YthfjpkdadjemcaaGreatGrowR1
set_option linter.unusedSimpArgs false
set_option linter.unusedVariables false
namespace Go.Proofs.YthfjpkdadjemcaaGreat
open Go.RowKit
open _root_.Classical renaming em → FR7
theorem EC0 {t:TkD}{p:Int×Int}(hfew:t.1.length≤4611686018427387903):∀k,AE0 (C6 k t p) t p:=by
 intro k
 induction k with
 |zero=>
  intro r en l e le' h;rw[C6] at h;cases h
 |succ k IH=>
  intro r en l e le' h hr hl w G M B bs os cs na nn nc hW;have hfit:=BM8 (p:=p) hfew k;obtain⟨n,s0,s1,s2,s3,s4,s5,s6,s7,s8,s9,s10,s11⟩:=r;obtain⟨lo,hi⟩:=p;obtain⟨s,hs⟩:∃s,M8 (n,s0,s1,s2,s3,s4,s5,s6,s7,s8,s9,s10,s11) (n-1).toNat=s:=⟨_,rfl⟩;rcases FR7 (e=0) with he | he
  case inr=>exact EB1 IH hfit n s0 s1 s2 s3 s4 s5 s6 s7 s8 s9 s10 s11 en l e le' s hs he h hr hl w G M B bs os cs na nn nc hW
  rcases FR7 (hi≤en∨D2 t s=[]) with hst | hst
  ·rcases FR7 (lo≤en) with h2 | h2
   ·rcases FR7 (16<(G3 (n,s0,s1,s2,s3,s4,s5,s6,s7,s8,s9,s10,s11) l).length) with h3 | h3
    ·rcases FR7 (hi≤en) with h1 | h1
     ·exact EB5 IH hfit n s0 s1 s2 s3 s4 s5 s6 s7 s8 s9 s10 s11 en l e le' s hs he hst h2 h3 h1 h hr hl w G M B bs os cs na nn nc hW
     ·exact EB6 IH hfit n s0 s1 s2 s3 s4 s5 s6 s7 s8 s9 s10 s11 en l e le' s hs he hst h2 h3 h1 h hr hl w G M B bs os cs na nn nc hW
    ·rcases FR7 (hi≤en) with h1 | h1
     ·exact EB7 IH hfit n s0 s1 s2 s3 s4 s5 s6 s7 s8 s9 s10 s11 en l e le' s hs he hst h2 h3 h1 h hr hl w G M B bs os cs na nn nc hW
     ·exact EB8 IH hfit n s0 s1 s2 s3 s4 s5 s6 s7 s8 s9 s10 s11 en l e le' s hs he hst h2 h3 h1 h hr hl w G M B bs os cs na nn nc hW
   ·rcases FR7 (16<l.length) with h3 | h3
    ·exact EB2 IH hfit n s0 s1 s2 s3 s4 s5 s6 s7 s8 s9 s10 s11 en l e le' s hs he hst h2 h3 h hr hl w G M B bs os cs na nn nc hW
    ·exact EB3 IH hfit n s0 s1 s2 s3 s4 s5 s6 s7 s8 s9 s10 s11 en l e le' s hs he hst h2 h3 h hr hl w G M B bs os cs na nn nc hW
  ·rcases FR7 (n=12) with h12 | h12
   ·exact EB4 IH hfit n s0 s1 s2 s3 s4 s5 s6 s7 s8 s9 s10 s11 en l e le' s hs he hst h12 h hr hl w G M B bs os cs na nn nc hW
   ·exact EB9 IH hfit n s0 s1 s2 s3 s4 s5 s6 s7 s8 s9 s10 s11 en l e le' s hs he hst h12 h hr hl w G M B bs os cs na nn nc hW
end Go.Proofs.YthfjpkdadjemcaaGreat
