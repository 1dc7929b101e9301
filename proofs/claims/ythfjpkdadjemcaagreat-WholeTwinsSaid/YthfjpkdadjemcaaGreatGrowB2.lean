/- Ways that grow: the search. -/
import Derived.Test.YthfjpkdadjemcaaGreatG1
import Derived.Test.YthfjpkdadjemcaaGreatGA
set_option linter.unusedSimpArgs false
set_option linter.unusedVariables false
namespace Go.Proofs.YthfjpkdadjemcaaGreat
open Go.RowKit
open _root_.List renaming take_succ_cons → FK1, drop_succ_cons → FK2, take_zero → FK3, drop_zero → FK4
open _root_.Classical renaming em → FK5
set_option maxRecDepth 100000 in
set_option maxHeartbeats 4000000 in
theorem Dx7 {k:Nat}{t:TkD}{lo hi:Int}(IH:AC9 (C9 k t (lo,hi)) t (lo,hi))(hfit:∀r en le le',C9 k t (lo,hi) r en le=some le'→A6 r→(∀x∈le.1,A6 x)→∀x∈le'.1,A6 x)(n s0 s1 s2 s3 s4 s5 s6 s7 s8 s9 s10 s11 en:Int)(l:List RtD)(e:Int)(le':List RtD×Int)(s:Int)(hs:O4 (n,s0,s1,s2,s3,s4,s5,s6,s7,s8,s9,s10,s11) (n-1).toNat=s)(he:e=0)(hst:hi≤en∨F3 t s=[])(h2:lo≤en)(h3:¬16<(I9 (n,s0,s1,s2,s3,s4,s5,s6,s7,s8,s9,s10,s11) l).length)(h1:hi≤en)
  (h:C9 (k+1) t (lo,hi) (n,s0,s1,s2,s3,s4,s5,s6,s7,s8,s9,s10,s11) en (l,e)=some le') (hr:A6 (n,s0,s1,s2,s3,s4,s5,s6,s7,s8,s9,s10,s11)) (hl:∀x∈l,A6 x) (w:World) (G M B bs os cs:Nat) (na:Nat→Nat×Nat) (nn:Nat→Option Addr) (nc:Nat→Nat) (hW:O5 w G M B t (lo,hi) bs os cs na nn nc l e):
  Calls Tryz.prog 157 #[.pointer (some ⟨G,0,none⟩),.agg #[.int .i64 n,.int .i64 s0,.int .i64 s1,.int .i64 s2,.int .i64 s3,.int .i64 s4,.int .i64 s5,.int .i64 s6,.int .i64 s7,.int .i64 s8,.int .i64 s9,.int .i64 s10,.int .i64 s11],.int .i64 en] w fun e w'=>e = .returned (.tuple #[])∧∃x,w'=more (grown w G M le'.1 le'.2) x:=by
 rw[C9] at h;have hn:1≤n∧n≤12:=by
  split at h
  ·rename_i hc;exact⟨hc.1,hc.2.1⟩
  ·cases h
 simp only[hs] at h;have hn':=AG6 hn hs;rcases FK5 (0≤s∧s<(t.1.length:Int)) with hc | hc
 case inr=>rw [if_neg (fun hx=>hc ⟨hx.2.2.1,hx.2.2.2⟩)] at h;cases h
 obtain⟨i0,i1⟩:=hc;rw[if_pos ⟨hn.1,hn.2,i0,i1⟩] at h;have H:=hW;obtain⟨q1,q2,q3,g0,g2,g3,g4,g5,f5,hm,hT⟩:=hW;have eN:IntKind.i64.wrap (n-1)=n-1:=AG7 (by omega) (by omega)
 have hG':ltS G w.heap.size:=q2;have hbL:bs<w.heap.size:=by have:=hT.hb;omega
 have hb':ltS bs w.heap.size:=hbL;have i2:s.toNat<t.1.length:=by omega
 have i3:(s.toNat:Int)=s:=by omega
 have n1:=hT.next _ i2;have n2:=hT.addr _ i2;have n3:=hT.each _ i2;rw[i3] at n1 n2 n3;have n4:=n3.1;generalize hnx:F3 t s=nx at*;generalize nn s.toNat=an at n1 n2;generalize nc s.toNat=cn at n1;have N2:Hid _:=n2;have N3:Hid _:=n3.2;have HM:Hid _:=hm;have HT:Hid _:=hT;have HH:Hid _:=H;have HL:Hid _:=hl;have HR:Hid _:=hr;have hfew:=hT.few;clear n2 n3 hm hT H hl hr hs;simp only at g2 g3;subst he;rw[if_neg (by simp)] at h
 have he0:((0:Int)!=0)=false:=rfl;rw[if_pos hst] at h;obtain rfl:=Option.some.inj h;have hz1:hi≤en∨(¬hi≤en∧((nx.length:Int)==0)=true):=by
  rcases FK5 (hi≤en) with h1 | h1
  ·exact .inl h1
  ·rcases hst with h4 | h4
   ·exact absurd h4 h1
   ·rw[h4];exact .inr ⟨h1,rfl⟩
 clear hst;have hmu:∀y,(Instr.mapUpdate 257 (.map (some M)) (.agg #[.int .i64 n,.int .i64 s0,.int .i64 s1,.int .i64 s2,.int .i64 s3,.int .i64 s4,.int .i64 s5,.int .i64 s6,.int .i64 s7,.int .i64 s8,.int .i64 s9,.int .i64 s10,.int .i64 s11]) (.int .i64 n)).run Tryz.prog (more (w.alloc (.cells #[.int .i64 n,.int .i64 s0,.int .i64 s1,.int .i64 s2,.int .i64 s3,.int .i64 s4,.int .i64 s5,.int .i64 s6,.int .i64 s7,.int .i64 s8,.int .i64 s9,.int .i64 s10,.int .i64 s11] 195)) y) = .ok () (more ((B0 w M (I9 (n,s0,s1,s2,s3,s4,s5,s6,s7,s8,s9,s10,s11) l)).alloc (.cells #[.int .i64 n,.int .i64 s0,.int .i64 s1,.int .i64 s2,.int .i64 s3,.int .i64 s4,.int .i64 s5,.int .i64 s6,.int .i64 s7,.int .i64 s8,.int .i64 s9,.int .i64 s10,.int .i64 s11] 195)) y):=by
  intro y;have h1:=Ay0 (X9 (Y0 HH (.cells #[.int .i64 n,.int .i64 s0,.int .i64 s1,.int .i64 s2,.int .i64 s3,.int .i64 s4,.int .i64 s5,.int .i64 s6,.int .i64 s7,.int .i64 s8,.int .i64 s9,.int .i64 s10,.int .i64 s11] 195)) y).map HR HL;rw[Am0 (by rw[A4];exact Nat.lt_succ_of_lt q3),Am1 q3] at h1
  exact h1
 have hlen:∀l1 y,(Builtin.len_ #[257] 3 #[.map (some M)]).run Tryz.prog (more ((B0 w M l1).alloc (.cells #[.int .i64 n,.int .i64 s0,.int .i64 s1,.int .i64 s2,.int .i64 s3,.int .i64 s4,.int .i64 s5,.int .i64 s6,.int .i64 s7,.int .i64 s8,.int .i64 s9,.int .i64 s10,.int .i64 s11] 195)) y) = .ok (.int .i64 l1.length) (more ((B0 w M l1).alloc (.cells #[.int .i64 n,.int .i64 s0,.int .i64 s1,.int .i64 s2,.int .i64 s3,.int .i64 s4,.int .i64 s5,.int .i64 s6,.int .i64 s7,.int .i64 s8,.int .i64 s9,.int .i64 s10,.int .i64 s11] 195)) y):=
  fun l1 y=>Ab5 (X9 (Y0 (AN0 HH l1) (.cells #[.int .i64 n,.int .i64 s0,.int .i64 s1,.int .i64 s2,.int .i64 s3,.int .i64 s4,.int .i64 s5,.int .i64 s6,.int .i64 s7,.int .i64 s8,.int .i64 s9,.int .i64 s10,.int .i64 s11] 195)) y).map
 have hg0:∀l1,grown w G M l1 0=B0 w M l1:=fun l1=>by unfold grown;rw[AM9 (by rw[Z9];exact g5)]
 rw[if_pos h2];generalize I9 (n,s0,s1,s2,s3,s4,s5,s6,s7,s8,s9,s10,s11) l=l1 at hmu h3 ⊢;have hlen1:=hlen l1;clear hlen;have hg1:=hg0 l1;clear hg0;rw[if_neg h3];have h3':¬(16:Int)<(l1.length:Int):=by omega
 rcases hn' with⟨rfl,rfl⟩|⟨rfl,rfl⟩|⟨rfl,rfl⟩|⟨rfl,rfl⟩|⟨rfl,rfl⟩|⟨rfl,rfl⟩|⟨rfl,rfl⟩|⟨rfl,rfl⟩|⟨rfl,rfl⟩|⟨rfl,rfl⟩|⟨rfl,rfl⟩|⟨rfl,rfl⟩
 all_goals
  simp only[Int.reduceSub] at eN;clear hn
  go_enter Tryz.func157,Tryz.ntmps157
  go_wp2_with fail
  refine AG4 (by kernel_rfl) (by kernel_rfl) ?_;(try simp only[FK1,FK3,FK2,FK4]);(repeat (refine U1 (fun K hK=> ?_);go_simp;first | (refine hK _ ?_;clear hK K) | (apply Exists.intro;refine⟨fun _=> ?_,hK _ ?_⟩;(fail);clear hK K)));with_reducible refine U0 ?_;intro x
  go_wp2_with fail
  refine Ab3 7 (by kernel_rfl) (by kernel_rfl) ?_
  (try simp only[FK1,FK3,FK2,FK4]);(repeat (refine U1 (fun K hK=> ?_);go_simp;first | (refine hK _ ?_;clear hK K) | (apply Exists.intro;refine⟨fun _=> ?_,hK _ ?_⟩;(fail);clear hK K)));with_reducible refine U0 ?_
  intro x2
  go_wp2_with fail
  refine bodyPost_ret (v:=.tuple #[]) (by simp[results,Tryz.results157,go_sem]) rfl ⟨rfl,?_⟩
  rw[hg1];exact T9 (by (repeat (first | exact Below.refl _ _ | assumption | refine Below.alloc ?_ (by (try simp[A9]) <;> omega) _ | refine Below.setCell ?_ (by (try simp[A9]) <;> omega) _ | refine S6 ?_ (by (try simp[A9]) <;> omega) _ | refine S7 ?_ (by (try simp[A9]) <;> omega) _ | refine Below.drew ?_)))
set_option maxRecDepth 100000 in
set_option maxHeartbeats 4000000 in
theorem Dx8 {k:Nat}{t:TkD}{lo hi:Int}(IH:AC9 (C9 k t (lo,hi)) t (lo,hi))(hfit:∀r en le le',C9 k t (lo,hi) r en le=some le'→A6 r→(∀x∈le.1,A6 x)→∀x∈le'.1,A6 x)(n s0 s1 s2 s3 s4 s5 s6 s7 s8 s9 s10 s11 en:Int)(l:List RtD)(e:Int)(le':List RtD×Int)(s:Int)(hs:O4 (n,s0,s1,s2,s3,s4,s5,s6,s7,s8,s9,s10,s11) (n-1).toNat=s)(he:e=0)(hst:hi≤en∨F3 t s=[])(h2:lo≤en)(h3:¬16<(I9 (n,s0,s1,s2,s3,s4,s5,s6,s7,s8,s9,s10,s11) l).length)(h1:¬hi≤en)
  (h:C9 (k+1) t (lo,hi) (n,s0,s1,s2,s3,s4,s5,s6,s7,s8,s9,s10,s11) en (l,e)=some le') (hr:A6 (n,s0,s1,s2,s3,s4,s5,s6,s7,s8,s9,s10,s11)) (hl:∀x∈l,A6 x) (w:World) (G M B bs os cs:Nat) (na:Nat→Nat×Nat) (nn:Nat→Option Addr) (nc:Nat→Nat) (hW:O5 w G M B t (lo,hi) bs os cs na nn nc l e):
  Calls Tryz.prog 157 #[.pointer (some ⟨G,0,none⟩),.agg #[.int .i64 n,.int .i64 s0,.int .i64 s1,.int .i64 s2,.int .i64 s3,.int .i64 s4,.int .i64 s5,.int .i64 s6,.int .i64 s7,.int .i64 s8,.int .i64 s9,.int .i64 s10,.int .i64 s11],.int .i64 en] w fun e w'=>e = .returned (.tuple #[])∧∃x,w'=more (grown w G M le'.1 le'.2) x:=by
 rw[C9] at h;have hn:1≤n∧n≤12:=by
  split at h
  ·rename_i hc;exact⟨hc.1,hc.2.1⟩
  ·cases h
 simp only[hs] at h;have hn':=AG6 hn hs;rcases FK5 (0≤s∧s<(t.1.length:Int)) with hc | hc
 case inr=>rw [if_neg (fun hx=>hc ⟨hx.2.2.1,hx.2.2.2⟩)] at h;cases h
 obtain⟨i0,i1⟩:=hc;rw[if_pos ⟨hn.1,hn.2,i0,i1⟩] at h;have H:=hW;obtain⟨q1,q2,q3,g0,g2,g3,g4,g5,f5,hm,hT⟩:=hW;have eN:IntKind.i64.wrap (n-1)=n-1:=AG7 (by omega) (by omega)
 have hG':ltS G w.heap.size:=q2;have hbL:bs<w.heap.size:=by have:=hT.hb;omega
 have hb':ltS bs w.heap.size:=hbL;have i2:s.toNat<t.1.length:=by omega
 have i3:(s.toNat:Int)=s:=by omega
 have n1:=hT.next _ i2;have n2:=hT.addr _ i2;have n3:=hT.each _ i2;rw[i3] at n1 n2 n3;have n4:=n3.1;generalize hnx:F3 t s=nx at*;generalize nn s.toNat=an at n1 n2;generalize nc s.toNat=cn at n1;have N2:Hid _:=n2;have N3:Hid _:=n3.2;have HM:Hid _:=hm;have HT:Hid _:=hT;have HH:Hid _:=H;have HL:Hid _:=hl;have HR:Hid _:=hr;have hfew:=hT.few;clear n2 n3 hm hT H hl hr hs;simp only at g2 g3;subst he;rw[if_neg (by simp)] at h
 have he0:((0:Int)!=0)=false:=rfl;rw[if_pos hst] at h;obtain rfl:=Option.some.inj h;have hz1:hi≤en∨(¬hi≤en∧((nx.length:Int)==0)=true):=by
  rcases FK5 (hi≤en) with h1 | h1
  ·exact .inl h1
  ·rcases hst with h4 | h4
   ·exact absurd h4 h1
   ·rw[h4];exact .inr ⟨h1,rfl⟩
 clear hst;have hmu:∀y,(Instr.mapUpdate 257 (.map (some M)) (.agg #[.int .i64 n,.int .i64 s0,.int .i64 s1,.int .i64 s2,.int .i64 s3,.int .i64 s4,.int .i64 s5,.int .i64 s6,.int .i64 s7,.int .i64 s8,.int .i64 s9,.int .i64 s10,.int .i64 s11]) (.int .i64 n)).run Tryz.prog (more (w.alloc (.cells #[.int .i64 n,.int .i64 s0,.int .i64 s1,.int .i64 s2,.int .i64 s3,.int .i64 s4,.int .i64 s5,.int .i64 s6,.int .i64 s7,.int .i64 s8,.int .i64 s9,.int .i64 s10,.int .i64 s11] 195)) y) = .ok () (more ((B0 w M (I9 (n,s0,s1,s2,s3,s4,s5,s6,s7,s8,s9,s10,s11) l)).alloc (.cells #[.int .i64 n,.int .i64 s0,.int .i64 s1,.int .i64 s2,.int .i64 s3,.int .i64 s4,.int .i64 s5,.int .i64 s6,.int .i64 s7,.int .i64 s8,.int .i64 s9,.int .i64 s10,.int .i64 s11] 195)) y):=by
  intro y;have h1:=Ay0 (X9 (Y0 HH (.cells #[.int .i64 n,.int .i64 s0,.int .i64 s1,.int .i64 s2,.int .i64 s3,.int .i64 s4,.int .i64 s5,.int .i64 s6,.int .i64 s7,.int .i64 s8,.int .i64 s9,.int .i64 s10,.int .i64 s11] 195)) y).map HR HL;rw[Am0 (by rw[A4];exact Nat.lt_succ_of_lt q3),Am1 q3] at h1
  exact h1
 have hlen:∀l1 y,(Builtin.len_ #[257] 3 #[.map (some M)]).run Tryz.prog (more ((B0 w M l1).alloc (.cells #[.int .i64 n,.int .i64 s0,.int .i64 s1,.int .i64 s2,.int .i64 s3,.int .i64 s4,.int .i64 s5,.int .i64 s6,.int .i64 s7,.int .i64 s8,.int .i64 s9,.int .i64 s10,.int .i64 s11] 195)) y) = .ok (.int .i64 l1.length) (more ((B0 w M l1).alloc (.cells #[.int .i64 n,.int .i64 s0,.int .i64 s1,.int .i64 s2,.int .i64 s3,.int .i64 s4,.int .i64 s5,.int .i64 s6,.int .i64 s7,.int .i64 s8,.int .i64 s9,.int .i64 s10,.int .i64 s11] 195)) y):=
  fun l1 y=>Ab5 (X9 (Y0 (AN0 HH l1) (.cells #[.int .i64 n,.int .i64 s0,.int .i64 s1,.int .i64 s2,.int .i64 s3,.int .i64 s4,.int .i64 s5,.int .i64 s6,.int .i64 s7,.int .i64 s8,.int .i64 s9,.int .i64 s10,.int .i64 s11] 195)) y).map
 have hg0:∀l1,grown w G M l1 0=B0 w M l1:=fun l1=>by unfold grown;rw[AM9 (by rw[Z9];exact g5)]
 rw[if_pos h2];generalize I9 (n,s0,s1,s2,s3,s4,s5,s6,s7,s8,s9,s10,s11) l=l1 at hmu h3 ⊢;have hlen1:=hlen l1;clear hlen;have hg1:=hg0 l1;clear hg0;rw[if_neg h3];have h3':¬(16:Int)<(l1.length:Int):=by omega
 have hz1:((nx.length:Int)==0)=true:=(hz1.resolve_left h1).2;rcases hn' with⟨rfl,rfl⟩|⟨rfl,rfl⟩|⟨rfl,rfl⟩|⟨rfl,rfl⟩|⟨rfl,rfl⟩|⟨rfl,rfl⟩|⟨rfl,rfl⟩|⟨rfl,rfl⟩|⟨rfl,rfl⟩|⟨rfl,rfl⟩|⟨rfl,rfl⟩|⟨rfl,rfl⟩
 all_goals
  simp only[Int.reduceSub] at eN;clear hn
  go_enter Tryz.func157,Tryz.ntmps157
  go_wp2_with fail
  refine AG4 (by kernel_rfl) (by kernel_rfl) ?_;(try simp only[FK1,FK3,FK2,FK4]);(repeat (refine U1 (fun K hK=> ?_);go_simp;first | (refine hK _ ?_;clear hK K) | (apply Exists.intro;refine⟨fun _=> ?_,hK _ ?_⟩;(fail);clear hK K)));with_reducible refine U0 ?_;intro x
  go_wp2_with fail
  refine Ab3 7 (by kernel_rfl) (by kernel_rfl) ?_
  (try simp only[FK1,FK3,FK2,FK4]);(repeat (refine U1 (fun K hK=> ?_);go_simp;first | (refine hK _ ?_;clear hK K) | (apply Exists.intro;refine⟨fun _=> ?_,hK _ ?_⟩;(fail);clear hK K)));with_reducible refine U0 ?_
  intro x2
  go_wp2_with fail
  refine bodyPost_ret (v:=.tuple #[]) (by simp[results,Tryz.results157,go_sem]) rfl ⟨rfl,?_⟩
  rw[hg1];exact T9 (by (repeat (first | exact Below.refl _ _ | assumption | refine Below.alloc ?_ (by (try simp[A9]) <;> omega) _ | refine Below.setCell ?_ (by (try simp[A9]) <;> omega) _ | refine S6 ?_ (by (try simp[A9]) <;> omega) _ | refine S7 ?_ (by (try simp[A9]) <;> omega) _ | refine Below.drew ?_)))
end Go.Proofs.YthfjpkdadjemcaaGreat
