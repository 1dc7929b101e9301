/- Code of which a drawn region is read in two parts. No program in sight. -/
import Derived.Test.YthfjpkdadjemcaaGreatM4
import Derived.Test.YthfjpkdadjemcaaGreatTwinA
set_option linter.unusedSimpArgs false
set_option linter.unusedVariables false
namespace Go.Proofs.YthfjpkdadjemcaaGreat
open _root_.Bool renaming and_eq_true → Fa3
def CM9 (id:Nat)(ops:Array Oper):Code:=.seq (.region id (pick ops (pre++[9,15,18,19])) false) (.region id (pick ops [20,21,22,23]) false)
def cut (ids:List Nat):Code→Code
 | .region id ops d=>match E8 id ids with
  |true=>CM9 id ops
  |false=>.region id ops d
 | .seq a b=>.seq (cut ids a) (cut ids b)
 | .cond c a b=>.cond c (cut ids a) (cut ids b)
 | .block id a=>.block id (cut ids a)
 | .loop a=>.loop (cut ids a)
 | .scope a=>.scope (cut ids a)
 |c=>c
def Af6 (h:Hint):Bool:=match h.sp with
 | .plain=>true
 |_=>false
def AJ1 (ops:Array Oper):List Nat→Bool
 | []=>true
 |i::l=>(match ops[i]? with | some o=>o.guard.isNone | none=>false)&&AJ1 ops l
def u3 (P:Program)(ids:List Nat):Code→Hint→Bool
 | .region id ops d,h=>match E8 id ids with
  |true=>d&&BD3 P ops&&AJ1 ops (pre++[9,15,18,19])&&AJ1 ops [20,21,22,23]&&Af6 (h.kid 0)&&Af6 (h.kid 1)
  |false=>true
 | .seq a b,h=>u3 P ids a (h.kid 0)&&u3 P ids b (h.kid 1)
 | .cond _ a b,h=>u3 P ids a (h.kid 0)&&u3 P ids b (h.kid 1)
 | .block _ a,h=>u3 P ids a (h.kid 0)
 | .loop a,h=>u3 P ids a (h.kid 0)
 | .scope a,h=>u3 P ids a (h.kid 0)
 |_,_=>true
theorem CN0 {h:Hint}(hb:Af6 h=true):h.sp = .plain:=by
 unfold Af6 at hb;split at hb
 ·assumption
 ·cases hb
theorem BU5 {ops:Array Oper}:∀(l:List Nat),AJ1 ops l=true→∀i∈l,∃o,ops[i]? = some o∧o.guard=none
 | [],_,i,hi=>by simp at hi
 |j::l,h,i,hi=>by
  simp only[AJ1,Fa3] at h;rcases List.mem_cons.1 hi with rfl | hi
  ·have h1:=h.1
   split at h1
   ·exact⟨_,by assumption,by simpa using h1⟩
   ·cases h1
  ·exact BU5 l h.2 i hi
theorem CN1 {ops:Array Oper}:∀(l:List Nat),AJ1 ops l=true→(pick ops l).size=l.length:=by
 intro l
 induction l with
 |nil=>intro h;rfl
 |cons i l ih=>
  intro h;simp only[AJ1,Fa3] at h;have:=ih h.2;have h1:=h.1;unfold pick at this ⊢;split at h1
  ·rename_i o ho
   simpa[List.filterMap_cons,ho] using this
  ·cases h1
section
variable {P:Program}{Γ:Cx}
theorem EZ8 (hΓ:E3 P Γ)(hm:P.follows .mixedOrders=true){id:Nat}{ops:Array Oper}{h:Hint}(hs:BD3 P ops=true)(pa:AJ1 ops (pre++[9,15,18,19])=true)(pb:AJ1 ops [20,21,22,23]=true)(h0:Af6 (h.kid 0)=true)(h1:Af6 (h.kid 1)=true):
  Core P (.region id ops true) (fun ρ σ k=>I7 Γ (CM9 id ops) h ρ σ k):=by
 have h0:=CN0 h0;have h1:=CN0 h1;have main:Core P (.region id ops true) (fun ρ' σ' k'=>I7 Γ (.region id (pick ops (pre++[9,15,18,19])) false) (h.kid 0) ρ' σ' fun ex σ''=>match ex with
   | .normal=>I7 Γ (.region id (pick ops [20,21,22,23]) false) (h.kid 1) ρ' σ'' k'
   |ex=>k' ex σ''):=by
  intro ρ σ k r hr B a w hrel;simp only[I7,h0,h1,AQ5] at hr;obtain⟨ts,s',hL,hq⟩:=T5 hΓ _ _ hr;obtain⟨ts2,s2,hL2,hq2⟩:=T5 hΓ _ _ hq;have hlen:=hL.length;have hlen2:=hL2.length;have hsa:=CN1 _ pa;have hsb:=CN1 _ pb;refine wp_region_any hm ?_;refine EZ7 hs (fun c a w ⟨ex,τ,he,_⟩=>by cases ex <;> cases he) (fun ⟨a,w,ex,τ,he,_⟩=>by cases ex <;> cases he) ?_
  refine BU4 _ 0 (pick ops (pre++[9,15,18,19])) _ _ (by unfold pick;simp) (BU5 _ pa) ?_
  have:=BI9 (B:=B) hL rfl (Q:=Exit.then (wpOps P ops (X3 B σ k r) [20,21,22,23]) (X3 B σ k r)) (fun a' w' hst=>by
   have hrel2:=Av1 hL hst;refine BU4 _ 0 (pick ops [20,21,22,23]) _ _ (by unfold pick;simp) (BU5 _ pb) ?_
   have:=BI9 (B:=B) hL2 rfl (Q:=X3 B σ k r) (fun a' w' hst=>BK0 (Av0 hL) ⟨.normal,_,rfl,hq2,Av1 hL2 hst,Av0 hL2⟩) ts2.length 0 a' w' (by omega)
    (Av2 hL2 hrel2 w' ⟨rfl,rfl,rfl,rfl⟩ (fun k=>decide (k<0)) fun k _=>by simp)
   rwa [show ts2.length=[20,21,22,23].length by rw[hlen2,← hsb];simp] at this) ts.length 0 a {w with drawn:=w.drawn+1} (by omega)
   (Av2 hL hrel {w with drawn:=w.drawn+1} ⟨rfl,rfl,rfl,rfl⟩ (fun k=>decide (k<0)) fun k _=>by simp)
  rwa [show ts.length=(pre++[9,15,18,19]).length by rw[hlen,← hsa];simp] at this
 exact AK8 main
theorem EZ9 (hΓ:E3 P Γ)(hm:P.follows .mixedOrders=true)(ids:List Nat):∀(c:Code) (h:Hint),u3 P ids c h=true→Core P c (fun ρ σ k=>I7 Γ (cut ids c) h ρ σ k):=by
 intro c
 induction c with
 |region id ops draw=>
  intro h hb;unfold u3 at hb;unfold cut;cases hi:E8 id ids with
  |false=>exact Ai7 hΓ hm _ h
  |true=>
   rw[hi] at hb;simp only[Fa3] at hb;obtain⟨⟨⟨⟨⟨rfl,h1⟩,h2⟩,h3⟩,h4⟩,h5⟩:=hb;exact EZ8 hΓ hm h1 h2 h3 h4 h5
 |seq x y ihx ihy=>
  intro h hb;simp only[u3,Fa3] at hb;have:Core P (.seq x y) (fun ρ' σ' k'=>I7 Γ (cut ids x) (h.kid 0) ρ' σ' fun ex σ''=>match ex with
    | .normal=>I7 Γ (cut ids y) (h.kid 1) ρ' σ'' k'
    |ex=>k' ex σ''):=by
   intro ρ σ k r hr B a w hrel;refine wp_seq (wp_mono (ihx _ hb.1 _ _ _ r hr B a w hrel) ?_)
   rintro e a' w' ⟨ex,τ,he,hk,hrel',hevo⟩
   subst he;cases ex with
   |normal=>exact wp_mono (ihy _ hb.2 _ _ _ r hk B a' w' hrel') fun e a w hp=>BK0 hevo hp
   |exit id=>exact ⟨.exit id,τ,rfl,hk,hrel',hevo⟩
   |ret=>exact ⟨.ret,τ,rfl,hk,hrel',hevo⟩
  exact AK8 this
 |cond c x y ihx ihy=>
  intro h hb;simp only[u3,Fa3] at hb;have:Core P (.cond c x y) (fun ρ' σ' k'=>match W6 σ'.C1 [] [] c with
    | .dat .bool t=>bif t then I7 Γ (cut ids x) (h.kid 0) ρ' σ' k' else I7 Γ (cut ids y) (h.kid 1) ρ' σ' k'
    |_=>none):=by
   intro ρ σ k r hr B a w hrel;simp only at hr;split at hr
   ·rename_i t ht
    have hv:a.eval c = .bool t:=by
     obtain⟨ow,bx,hi,⟨h2,h3⟩,_⟩:=hrel;have hrep:A0 ow bx w (W6 σ.C1 [] [] c) (a.eval c):=by
      cases c with
      |tmp t'=>
       simp only[W6,Y8,I0,List.length_nil];cases hs:σ.C1[t']? with
       |none=>exact .undef _
       |some e=>exact h3 t' e hs
      |const v=>exact BI8 v
      |func f=>exact .clo (by simp) (by simp) (fun i e v he=>by simp at he) (fun i e v he=>by simp at he)
      |global g=>exact BH0 hi.AQ6 g
     rw[ht] at hrep;exact AY8 hrep
    refine wp_cond hv ?_;cases t with
    |true=>exact ihx _ hb.1 _ _ _ _ hr B a w hrel
    |false=>exact ihy _ hb.2 _ _ _ _ hr B a w hrel
   ·cases hr
  exact AK8 this
 |block id x ih=>
  intro h hb;have:Core P (.block id x) (fun ρ' σ' k'=>I7 Γ (cut ids x) (h.kid 0) ρ' σ' fun ex σ''=>match ex with
    | .exit id'=>match Nat.beq id' id with
     |true=>k' .normal σ''
     |false=>k' ex σ''
    |ex=>k' ex σ''):=by
   intro ρ σ k r hr B a w hrel;refine wp_block (wp_mono (ih _ hb _ _ _ r hr B a w hrel) ?_)
   rintro e a' w' ⟨ex,τ,he,hk,hrel',hevo⟩
   subst he;cases ex with
   |normal=>exact ⟨.normal,τ,rfl,hk,hrel',hevo⟩
   |ret=>exact ⟨.ret,τ,rfl,hk,hrel',hevo⟩
   |exit id'=>
    simp only at hk;simp only[BJ9,Exit.inBlock];split at hk
    ·rename_i hb
     rw[if_pos (Nat.eq_of_beq_eq_true hb)];exact⟨.normal,τ,rfl,hk,hrel',hevo⟩
    ·rename_i hb
     rw[if_neg (fun e=>by rw[e,Nat.beq_refl] at hb;cases hb)]
     exact⟨.exit id',τ,rfl,hk,hrel',hevo⟩
  exact AK8 this
 |loop x ih=>exact fun h hb=>Bf7 (ih _ hb)
 |scope x ih=>
  intro h hb ρ σ k r hr B a w hrel;refine wp_scope_straight (wp_mono (ih _ hb _ _ _ r hr B a w hrel) ?_)
  rintro e a' w' ⟨ex,τ,he,hk,hrel',hevo⟩
  subst he;cases ex with
  |normal=>exact ⟨.normal,τ,rfl,hk,hrel',hevo⟩
  |exit id=>exact ⟨.exit id,τ,rfl,hk,hrel',hevo⟩
  |ret=>exact ⟨.ret,τ,rfl,hk,hrel',hevo⟩
 |_=>exact fun h _=>Ai7 hΓ hm _ h
def BU6 (ids:List Nat)(fn:Func):Func:=match fn.body with
 |some c=>{fn with body:=some (cut ids c)}
 |none=>fn
theorem Ea0 (ids:List Nat)(hΓ:E3 P Γ)(hm:P.follows .mixedOrders=true){c:Con}{fn:Func}{code:Code}{h:Hint}(hf:P.funcs[c.f]? = some fn)(hb:fn.body=some code)
  (hn:(fn.name == "runtime.NumGoroutine")=false) (hc:u3 P ids code h=true) (hrun:AC1 Γ c (BU6 ids fn) h=c.F):M4 P c:=by
 refine Bg3 hΓ hf hb hn (EZ9 hΓ hm ids code h hc) ?_;unfold BU6 at hrun;rw[hb] at hrun;exact hrun
end
end Go.Proofs.YthfjpkdadjemcaaGreat
