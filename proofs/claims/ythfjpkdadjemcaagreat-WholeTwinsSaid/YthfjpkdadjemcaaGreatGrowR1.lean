/- Ways that grow: the search. -/
import Derived.Test.YthfjpkdadjemcaaGreatG1
import Derived.Test.YthfjpkdadjemcaaGreatGA
set_option linter.unusedSimpArgs false
set_option linter.unusedVariables false
namespace Go.Proofs.YthfjpkdadjemcaaGreat
open Go.RowKit
open _root_.List renaming take_succ_cons → FK6, drop_succ_cons → FK7
open _root_.Classical renaming em → FK8
set_option maxRecDepth 100000 in
set_option maxHeartbeats 4000000 in
theorem Dx9 {k:Nat}{t:TkD}{lo hi:Int}(IH:AC9 (C9 k t (lo,hi)) t (lo,hi))(hfit:∀r en le le',C9 k t (lo,hi) r en le=some le'→A6 r→(∀x∈le.1,A6 x)→∀x∈le'.1,A6 x)(n s0 s1 s2 s3 s4 s5 s6 s7 s8 s9 s10 s11 en:Int)(l:List RtD)(e:Int)(le':List RtD×Int)(s:Int)(hs:O4 (n,s0,s1,s2,s3,s4,s5,s6,s7,s8,s9,s10,s11) (n-1).toNat=s)(he:e=0)(hst:¬(hi≤en∨F3 t s=[]))(h12:n≠12)
  (h:C9 (k+1) t (lo,hi) (n,s0,s1,s2,s3,s4,s5,s6,s7,s8,s9,s10,s11) en (l,e)=some le') (hr:A6 (n,s0,s1,s2,s3,s4,s5,s6,s7,s8,s9,s10,s11)) (hl:∀x∈l,A6 x) (w:World) (G M B bs os cs:Nat) (na:Nat→Nat×Nat) (nn:Nat→Option Addr) (nc:Nat→Nat) (hW:O5 w G M B t (lo,hi) bs os cs na nn nc l e):
  Calls Tryz.prog 157 #[.pointer (some ⟨G,0,none⟩),.agg #[.int .i64 n,.int .i64 s0,.int .i64 s1,.int .i64 s2,.int .i64 s3,.int .i64 s4,.int .i64 s5,.int .i64 s6,.int .i64 s7,.int .i64 s8,.int .i64 s9,.int .i64 s10,.int .i64 s11],.int .i64 en] w fun e w'=>e = .returned (.tuple #[])∧∃x,w'=more (grown w G M le'.1 le'.2) x:=by
 rw[C9] at h;have hn:1≤n∧n≤12:=by
  split at h
  ·rename_i hc;exact⟨hc.1,hc.2.1⟩
  ·cases h
 simp only[hs] at h;have hn':=AG6 hn hs;rcases FK8 (0≤s∧s<(t.1.length:Int)) with hc | hc
 case inr=>rw [if_neg (fun hx=>hc ⟨hx.2.2.1,hx.2.2.2⟩)] at h;cases h
 obtain⟨i0,i1⟩:=hc;rw[if_pos ⟨hn.1,hn.2,i0,i1⟩] at h;have H:=hW;obtain⟨q1,q2,q3,g0,g2,g3,g4,g5,f5,hm,hT⟩:=hW;have eN:IntKind.i64.wrap (n-1)=n-1:=AG7 (by omega) (by omega)
 have hG':ltS G w.heap.size:=q2;have hbL:bs<w.heap.size:=by have:=hT.hb;omega
 have hb':ltS bs w.heap.size:=hbL;have i2:s.toNat<t.1.length:=by omega
 have i3:(s.toNat:Int)=s:=by omega
 have n1:=hT.next _ i2;have n2:=hT.addr _ i2;have n3:=hT.each _ i2;rw[i3] at n1 n2 n3;have n4:=n3.1;generalize hnx:F3 t s=nx at*;generalize nn s.toNat=an at n1 n2;generalize nc s.toNat=cn at n1;have N2:Hid _:=n2;have N3:Hid _:=n3.2;have HM:Hid _:=hm;have HT:Hid _:=hT;have HH:Hid _:=H;have HL:Hid _:=hl;have HR:Hid _:=hr;have hfew:=hT.few;clear n2 n3 hm hT H hl hr hs;simp only at g2 g3;subst he;rw[if_neg (by simp)] at h
 have he0:((0:Int)!=0)=false:=rfl;rw[if_neg hst] at h;have h1:¬hi≤en:=fun h0=>hst (.inl h0)
 have hne:nx≠[]:=fun h0=>hst (.inr h0)
 have hpos:0<nx.length:=by
  rcases nx with _ |⟨a,nx⟩
  ·exact absurd rfl hne
  ·simp
 have hz1:((nx.length:Int)==0)=false:=by rw[beq_eq_false_iff_ne];omega
 clear hst;rw[if_neg h12] at h;have n2:=N2 hne;obtain⟨n5,n6⟩:=n2;obtain⟨nb,hnb⟩:∃nb,(na s.toNat).1=nb:=⟨_,rfl⟩;obtain⟨no,hno⟩:∃no,(na s.toNat).2=no:=⟨_,rfl⟩;have N3':Hid (∀j,j<nx.length→w.cell? ⟨nb,no+j,none⟩=some (.int .i64 (nx.getD j 0))):=by rw[← hnb,← hno];exact N3
 rw[hnb,hno] at n5;rw[hnb] at n6;subst n5;have n6':nb<B:=n6;clear N2 N3 n6 hnb hno;generalize hF:(fun (le:List RtD×Int) (v:Int)=>if 0≤v∧v<(t.1.length:Int) then C9 k t (lo,hi) (U2 (n,s0,s1,s2,s3,s4,s5,s6,s7,s8,s9,s10,s11) v) (IntKind.i64.wrap (en+lenOf t v)) le else none)=F at h
 have HF:Hid _:=hF;clear hF;have hnb':ltS nb w.heap.size:=(show nb<w.heap.size by omega)
 have c1:bs≠G:=by have h7:bs<B:=(show X8 w B t bs os na nn nc from HT).hb;omega
 have c2:nb≠G:=by omega
 have c3:G≠bs:=fun h0=>c1 h0.symm
 have c4:G≠nb:=fun h0=>c2 h0.symm
 have HN:Hid (1≤n∧n≤11):=⟨hn.1,by omega⟩
 have hround:Hid (∀(j:Nat) (lj:List RtD) (ej:Int),j<nx.length→(nx.drop j).foldlM F (lj,ej)=some le'→(∀q∈lj,A6 q)→∃(v:Int) (le2:List RtD×Int),0≤v∧v<(t.1.length:Int)∧nx.getD j 0=v∧w.cell? ⟨nb,no+j,none⟩=some (.int .i64 v)∧
   (nx.drop (j+1)).foldlM F le2=some le'∧(∀q∈le2.1,A6 q)∧w.cell? ⟨bs,os+v.toNat*3,none⟩=some (.int .i64 (lenOf t v))∧
   ∀y,Calls Tryz.prog 157 #[.pointer (some ⟨G,0,none⟩),.agg (E2 (U2 (n,s0,s1,s2,s3,s4,s5,s6,s7,s8,s9,s10,s11) v)),.int .i64 (wrap64 (en+lenOf t v))] (more (((B0 w M lj).setCell ⟨G,5,none⟩ (.int .i64 ej)).alloc (.cells (E2 (U2 (n,s0,s1,s2,s3,s4,s5,s6,s7,s8,s9,s10,s11) v)) 195)) y) fun e w'=>e = .returned (.tuple #[])∧
     ∃z,w'=more (((B0 w M le2.1).setCell ⟨G,5,none⟩ (.int .i64 le2.2)).alloc (.cells (E2 (U2 (n,s0,s1,s2,s3,s4,s5,s6,s7,s8,s9,s10,s11) v)) 195)) z):=by
  intro j lj ej hlt h8 HFL;rw[drop_cons hlt] at h8;obtain⟨le2,hs,hf2⟩:=Ab4 h8;have hcell:=N3' j hlt;clear h8;generalize nx.getD j 0=v at hs hcell ⊢;have hs':(fun (le:List RtD×Int) (v:Int)=>if 0≤v∧v<(t.1.length:Int) then C9 k t (lo,hi) (U2 (n,s0,s1,s2,s3,s4,s5,s6,s7,s8,s9,s10,s11) v) (IntKind.i64.wrap (en+lenOf t v)) le else none) (lj,ej) v=some le2:=by rw[show _=F from HF];exact hs
  simp only at hs';rcases FK8 (0≤v∧v<(t.1.length:Int)) with hc | hc
  case inr=>rw [if_neg hc] at hs';cases hs'
  rw[if_pos hc] at hs';obtain⟨m0,m1⟩:=hc;have hT:X8 w B t bs os na nn nc:=HT;have hlenc:=hT.len v.toNat (by omega)
  rw[Int.toNat_of_nonneg m0] at hlenc;have hR2:A6 (U2 (n,s0,s1,s2,s3,s4,s5,s6,s7,s8,s9,s10,s11) v):=Br8 HR (show (1:Int)≤n from HN.1) (show (n:Int)≤11 from HN.2) (Br9 m0 (by omega))
  have ew:IntKind.i64.wrap (en+lenOf t v)=wrap64 (en+lenOf t v):=by rw[IntKind.wrap_i64];unfold wrap64;rfl
  refine⟨v,le2,m0,m1,rfl,hcell,hf2,hfit _ _ _ _ hs' hR2 HFL,hlenc,?_⟩;intro y;have h7:=IH _ _ _ _ _ hs' hR2 HFL _ G M B bs os cs na nn nc (X9 (Y0 (Br5 (AN0 HH lj) ej) (.cells (E2 (U2 (n,s0,s1,s2,s3,s4,s5,s6,s7,s8,s9,s10,s11) v)) 195)) y);rw[ew] at h7;refine h7.mono ?_
  rintro e w' ⟨he,z,rfl⟩
  exact⟨he,_,Du1 q2 q3⟩
 have hst0:Hid (w=(B0 w M l).setCell ⟨G,5,none⟩ (.int .i64 0)):=by rw[AM8 w M l HM,AM9 g5];exact rfl
 have hf0:Hid _:=h;obtain⟨BF,hBF⟩:∃BF:Int→Array Value,∀u,BF u=E2 (U2 (n,s0,s1,s2,s3,s4,s5,s6,s7,s8,s9,s10,s11) u):=⟨_,fun _=>rfl⟩
 obtain⟨u0,hu0⟩:∃u0,O4 (n,s0,s1,s2,s3,s4,s5,s6,s7,s8,s9,s10,s11) n.toNat=u0:=⟨_,rfl⟩;have hn'':(n=1∧s=s0)∨(n=2∧s=s1)∨(n=3∧s=s2)∨(n=4∧s=s3)∨(n=5∧s=s4)∨(n=6∧s=s5)∨(n=7∧s=s6)∨(n=8∧s=s7)∨(n=9∧s=s8)∨(n=10∧s=s9)∨(n=11∧s=s10):=by
  rcases hn' with h0 | h0 | h0 | h0 | h0 | h0 | h0 | h0 | h0 | h0 | h0 | h0
  ·exact .inl h0
  ·exact .inr (.inl h0)
  ·exact .inr (.inr (.inl h0))
  ·exact .inr (.inr (.inr (.inl h0)))
  ·exact .inr (.inr (.inr (.inr (.inl h0))))
  ·exact .inr (.inr (.inr (.inr (.inr (.inl h0)))))
  ·exact .inr (.inr (.inr (.inr (.inr (.inr (.inl h0))))))
  ·exact .inr (.inr (.inr (.inr (.inr (.inr (.inr (.inl h0)))))))
  ·exact .inr (.inr (.inr (.inr (.inr (.inr (.inr (.inr (.inl h0))))))))
  ·exact .inr (.inr (.inr (.inr (.inr (.inr (.inr (.inr (.inr (.inl h0)))))))))
  ·exact .inr (.inr (.inr (.inr (.inr (.inr (.inr (.inr (.inr (.inr (h0))))))))))
  ·exact absurd h0.1 h12
 clear IH hfit HF HT HH HM HR hn h h12 N3' hn';rcases hn'' with⟨rfl,rfl⟩|⟨rfl,rfl⟩|⟨rfl,rfl⟩|⟨rfl,rfl⟩|⟨rfl,rfl⟩|⟨rfl,rfl⟩|⟨rfl,rfl⟩|⟨rfl,rfl⟩|⟨rfl,rfl⟩|⟨rfl,rfl⟩|⟨rfl,rfl⟩
 all_goals
  simp only[Int.reduceSub] at eN;simp only[U2,E2,Int.reduceEq,if_true,if_false,reduceIte,Int.reduceAdd] at hBF;have HU:Hid _:=hu0;have HB:Hid _:=hBF;clear hu0 hBF
  go_enter Tryz.func157,Tryz.ntmps157
  go_wp2_with fail
  refine AG4 (by kernel_rfl) (by kernel_rfl) ?_;(try simp only[FK6,List.take_zero,FK7,List.drop_zero]);(repeat (refine U1 (fun K hK=> ?_);go_simp;first | (refine hK _ ?_;clear hK K) | (apply Exists.intro;refine⟨fun _=> ?_,hK _ ?_⟩;(fail);clear hK K)));with_reducible refine U0 ?_;intro x
  go_wp2_with fail
  go_loopw [78] (fun i wr=>∃(j:Nat) (lj:List RtD) (ej u:Int) (y:N0),j≤nx.length∧i = .int .i64 (j:Int)∧Hid ((nx.drop j).foldlM F (lj,ej)=some le')∧Hid (∀q∈lj,A6 q)∧
    wr=more (((B0 w M lj).setCell ⟨G,5,none⟩ (.int .i64 ej)).alloc (.cells (BF u) 195)) y) (fun i _=>((nx.length:Int)-Go.RowKit.intOf i).toNat)
  case atStart=>
   refine⟨0,l,0,u0,x,by omega,by go_num,hf0,HL,?_⟩
   rw[← show w=_ from hst0,show BF u0=_ from HB u0,← show _=u0 from HU];rfl
  case round=>
   obtain⟨j,lj,ej,u,y,hj,rfl,hf,hfl,rfl⟩:=hrel;rw[show BF u=_ from HB u];clear hf0 HL hst0 HU;rcases FK8 (j<nx.length) with hlt | hlt
   ·have i7:(j:Int)<(nx.length:Int):=by omega
    obtain⟨v,le2,m0,m1,hv,hcell,hf2,hfit2,hlenc,hcall⟩:=hround j lj ej hlt hf hfl;have HF2:Hid _:=hf2;have HI2:Hid _:=hfit2;simp only[U2,E2,Int.reduceEq,if_true,if_false,reduceIte,Int.reduceAdd] at hcall;clear hround hf hfl hf2 hfit2 hv;generalize lenOf t v=ln at hlenc hcall
    go_wp2_with fail
    refine Ab3 13 (by kernel_rfl) (by kernel_rfl) ?_
    (try simp only[FK6,List.take_zero,FK7,List.drop_zero]);(repeat (refine U1 (fun K hK=> ?_);go_simp;first | (refine hK _ ?_;clear hK K) | (apply Exists.intro;refine⟨fun _=> ?_,hK _ ?_⟩;(fail);clear hK K)));with_reducible refine U0 ?_
    intro x2
    go_wp2_with (go_at_call 157;with_reducible refine (hcall _).mono ?_;rintro e' w' ⟨rfl,z,rfl⟩)
    exact⟨⟨j+1,le2.1,le2.2,v,z,by omega,by go_num,HF2,HI2,by rw[show BF v=_ from HB v]⟩,by simp only[Go.RowKit.intOf];omega⟩
   ·have i7:¬(j:Int)<(nx.length:Int):=by omega
    have hle:(lj,ej)=le':=by
     have h5:(nx.drop j).foldlM F (lj,ej)=some le':=hf;rw[List.drop_of_length_le (by omega)] at h5
     exact Option.some.inj h5
    clear hf hround;subst hle
    go_wp2_with fail
    go_end0
    refine⟨rfl,?_⟩;show ∃x',_=more ((B0 w M lj).setCell ⟨G,5,none⟩ (.int .i64 ej)) x';exact T9 (by (repeat (first | exact Below.refl _ _ | assumption | refine Below.alloc ?_ (by (try simp[A9]) <;> omega) _ | refine Below.setCell ?_ (by (try simp[A9]) <;> omega) _ | refine S6 ?_ (by (try simp[A9]) <;> omega) _ | refine S7 ?_ (by (try simp[A9]) <;> omega) _ | refine Below.drew ?_)))
end Go.Proofs.YthfjpkdadjemcaaGreat
