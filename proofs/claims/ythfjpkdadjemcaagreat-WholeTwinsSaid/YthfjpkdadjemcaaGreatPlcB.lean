/- Places of a group: along all ways. -/
import Derived.Test.YthfjpkdadjemcaaGreatPlcA
set_option linter.unusedSimpArgs false
set_option linter.unusedVariables false
namespace Go.Proofs.YthfjpkdadjemcaaGreat
open Go.RowKit
open _root_.List renaming drop_eq_getElem_cons → FM0, getElem?_eq_getElem → FM1, take → FM2, drop_of_length_le → FM3
open _root_.Classical renaming em → FM4
open _root_.Nat renaming le_refl → FM5
structure V7 (w0:World)(O X:Nat)(frm seg off:Int)(sv tv gv:Value)(xs:List Int)(v:Value)(w:World):Prop where
 g:l9 w0 O (w0.heap.size+2) xs v w
 s0:w.heap[w0.heap.size]? = some (.cells #[.int .i64 frm,sv] 111 (0,0))
 t0:w.heap[w0.heap.size+1]? = some (.cells #[tv,gv] 100 (0,0))
theorem V7.visit {w0 w w':World}{O X:Nat}{frm seg off:Int}{sv tv gv:Value}{xs ys:List Int}{v v':Value}(h:V7 w0 O X frm seg off sv tv gv xs v w)(hv:BO6 w w' O v v')(ho:w'.heap[O]? = some (.cells #[v'] 90 (0,0)))(hown:w'.ownsRow (w0.heap.size+2) 2 1 v' ys.length (ys.map (Value.int .i64))):V7 w0 O X frm seg off sv tv gv ys v' w':=by
 have hl:=h.g.low;have hb:=h.g.bs.2;refine⟨h.g.visit hv ho hown,?_,?_⟩
 ·rw[hv.block _ (by omega) (by omega) (AN4 h.g.own (by omega))];exact h.s0
 ·rw[hv.block _ (by omega) (by omega) (AN4 h.g.own (by omega))];exact h.t0
theorem V7.grown {w0 w w':World}{O X:Nat}{frm seg off:Int}{sv tv gv:Value}{xs:List Int}{v:Value}(h:V7 w0 O X frm seg off sv tv gv xs v w)(hb:Below w.heap.size w w'):V7 w0 O X frm seg off sv tv gv xs v w':=by
 have hb2:=h.g.bs.2;refine⟨h.g.grown hb,?_,?_⟩
 ·rw[hb.block _ (by omega)];exact h.s0
 ·rw[hb.block _ (by omega)];exact h.t0
theorem BO7 {t:TkD}{seg off:Int}:∀(ps:List Int) (a:Int) (xs ys:List Int),Q9 t seg off ps a xs=some ys→xs.length≤ys.length
 | [],a,xs,ys,h=>by rw[Q9] at h;rw[Option.some.inj h];exact FM5 _
 |i::ps,a,xs,ys,h=>by
  rw[Q9] at h;split at h
  ·have:=BO7 ps _ _ _ h
   split at this
   ·simp at this;omega
   ·exact this
  ·cases h
theorem Bu4 {t:TkD}{frm seg off:Int}:∀(rs:List RtD) (xs ys:List Int),AD0 t frm seg off rs xs=some ys→xs.length≤ys.length
 | [],xs,ys,h=>by rw[Option.some.inj h];exact FM5 _
 |r::rs,xs,ys,h=>by obtain⟨c,h1,h2⟩:=Ab4 h;exact Nat.le_trans (BO7 _ _ _ _ h1) (Bu4 rs c ys h2)
set_option maxRecDepth 100000 in
set_option maxHeartbeats 600000 in
theorem Dz4 (frm seg off:Int)(sl:List RtD)(tv gv:Value)(sb so sc X O B:Nat)(w:World){t:TkD}{bs os cs:Nat}{na:Nat→Nat×Nat}{nn:Nat→Option Addr}{nc:Nat→Nat}{ys:List Int}(htv:tv = .slice (some ⟨bs,os,none⟩) t.1.length cs)(hT:X8 w B t bs os na nn nc)(hB:B≤O)(hX:X<w.heap.size)(hO:O<w.heap.size)(hXO:X≠O)(hsb:sb<B)(hsl:sl.length≤1000000)(hys:ys.length<1000000)
  (hX1:w.cell? ⟨X,1,none⟩=some (.int .i64 seg)) (hX2:w.cell? ⟨X,2,none⟩=some (.int .i64 off)) (hO0:w.heap[O]? = some (.cells #[.slice none 0 0] 90 (0,0))) (h:AD0 t frm seg off sl []=some ys)
  (hcells:∀i n s0 s1 s2 s3 s4 s5 s6 s7 s8 s9 s10 s11,sl[i]? = some (n,s0,s1,s2,s3,s4,s5,s6,s7,s8,s9,s10,s11)→w.cell? ⟨sb,so+i*13,none⟩=some (.int .i64 n)∧w.cell? ⟨sb,so+i*13+1,none⟩=some (.int .i64 s0)∧w.cell? ⟨sb,so+i*13+2,none⟩=some (.int .i64 s1)∧w.cell? ⟨sb,so+i*13+3,none⟩=some (.int .i64 s2)∧w.cell? ⟨sb,so+i*13+4,none⟩=some (.int .i64 s3)∧w.cell? ⟨sb,so+i*13+5,none⟩=some (.int .i64 s4)∧w.cell? ⟨sb,so+i*13+6,none⟩=some (.int .i64 s5)∧w.cell? ⟨sb,so+i*13+7,none⟩=some (.int .i64 s6)∧w.cell? ⟨sb,so+i*13+8,none⟩=some (.int .i64 s7)∧w.cell? ⟨sb,so+i*13+9,none⟩=some (.int .i64 s8)∧w.cell? ⟨sb,so+i*13+10,none⟩=some (.int .i64 s9)∧w.cell? ⟨sb,so+i*13+11,none⟩=some (.int .i64 s10)∧w.cell? ⟨sb,so+i*13+12,none⟩=some (.int .i64 s11)):
  Calls Tryz.prog 169 #[.agg #[.int .i64 frm,.slice (some ⟨sb,so,none⟩) sl.length sc],.agg #[tv,gv],.func (.func 175) #[] #[.pointer (some ⟨X,0,none⟩),.pointer (some ⟨O,0,none⟩)]] w fun x w'=>x = .returned (.tuple #[])∧∃v',l9 w O (w.heap.size+2) ys v' w':=by
 have HV:Hid _:=htv;have HC:Hid _:=hcells;have HK:Hid _:=hT;have H0:Hid _:=h;have HX1:Hid _:=hX1;have HX2:Hid _:=hX2;have hst:V7 w O X frm seg off (.slice (some ⟨sb,so,none⟩) sl.length sc) tv gv [] (.slice none 0 0) ((w.alloc (.cells #[.int .i64 frm,.slice (some ⟨sb,so,none⟩) sl.length sc] 111)).alloc (.cells #[tv,gv] 100)):=by
  have k1:∀k,k<w.heap.size→((w.alloc (.cells #[.int .i64 frm,.slice (some ⟨sb,so,none⟩) sl.length sc] 111)).alloc (.cells #[tv,gv] 100)).heap[k]? = w.heap[k]? := by intro k hk;rw[Below.heap_alloc _ _ _ (by rw[A4];omega),Below.heap_alloc _ _ _ hk]
  refine⟨⟨rfl,rfl,rfl,by rw[A4,A4];omega,fun k hk _=>k1 k hk,hO,⟨by omega,by rw[A4,A4];omega⟩,by rw[k1 O hO];exact hO0,World.ownsRow_nil _ _ _ _⟩,?_,?_⟩
  ·rw[Below.heap_alloc _ _ _ (by rw[A4];omega)]
   exact heap_alloc_new w _
  ·have:=heap_alloc_new (w.alloc (.cells #[.int .i64 frm,.slice (some ⟨sb,so,none⟩) sl.length sc] 111)) (.cells #[tv,gv] 100)
   rw[A4] at this;exact this
 have HST:Hid _:=hst;clear htv hcells hT h hX1 hX2 hst hO0
 go_enter Tryz.func169,Tryz.ntmps169
 go_wp2_with fail
 go_loopw [14] (fun i wr=>∃(j:Nat) (xs:List Int) (v:Value),j≤sl.length∧i = .int .i64 (j:Int)∧AD0 t frm seg off (sl.drop j) xs=some ys∧V7 w O X frm seg off (.slice (some ⟨sb,so,none⟩) sl.length sc) tv gv xs v wr) (fun i _=>((sl.length:Int)-Go.RowKit.intOf i).toNat)
 case atStart=>exact ⟨0,[],_,by omega,by go_num,H0,HST⟩
 case round=>
  obtain⟨j,xs,v,hj,rfl,hf,hE⟩:=hrel;clear HST H0;have hS0:wr.cell? ⟨w.heap.size,0,none⟩=some (.int .i64 frm):=U3 hE.s0 rfl;have hwr:=hE.g.bs.2;have hS0l:ltS w.heap.size wr.heap.size:=by unfold ltS;omega
  have hsbl:ltS sb wr.heap.size:=by unfold ltS;omega
  rcases FM4 (j<sl.length) with hlt | hlt
  ·have i7:(j:Int)<(sl.length:Int):=by omega
   obtain⟨n,s0,s1,s2,s3,s4,s5,s6,s7,s8,s9,s10,s11,hrj⟩:∃n s0 s1 s2 s3 s4 s5 s6 s7 s8 s9 s10 s11,sl[j]? = some ((n,s0,s1,s2,s3,s4,s5,s6,s7,s8,s9,s10,s11):RtD):=by rcases hx:sl[j] with⟨n,s0,s1,s2,s3,s4,s5,s6,s7,s8,s9,s10,s11⟩;exact⟨n,s0,s1,s2,s3,s4,s5,s6,s7,s8,s9,s10,s11,by rw[FM1 hlt,hx]⟩
   have hkeep:∀k,wr.cell? ⟨sb,k,none⟩=w.cell? ⟨sb,k,none⟩:=fun k=>World.cell?_of_block (w:=w) (hE.g.block sb (by omega) (by omega))
   obtain⟨f0,f1,f2,f3,f4,f5,f6,f7,f8,f9,f10,f11,f12⟩:wr.cell? ⟨sb,so+j*13,none⟩=some (.int .i64 n)∧wr.cell? ⟨sb,so+j*13+1,none⟩=some (.int .i64 s0)∧wr.cell? ⟨sb,so+j*13+2,none⟩=some (.int .i64 s1)∧wr.cell? ⟨sb,so+j*13+3,none⟩=some (.int .i64 s2)∧wr.cell? ⟨sb,so+j*13+4,none⟩=some (.int .i64 s3)∧wr.cell? ⟨sb,so+j*13+5,none⟩=some (.int .i64 s4)∧wr.cell? ⟨sb,so+j*13+6,none⟩=some (.int .i64 s5)∧wr.cell? ⟨sb,so+j*13+7,none⟩=some (.int .i64 s6)∧wr.cell? ⟨sb,so+j*13+8,none⟩=some (.int .i64 s7)∧wr.cell? ⟨sb,so+j*13+9,none⟩=some (.int .i64 s8)∧wr.cell? ⟨sb,so+j*13+10,none⟩=some (.int .i64 s9)∧wr.cell? ⟨sb,so+j*13+11,none⟩=some (.int .i64 s10)∧wr.cell? ⟨sb,so+j*13+12,none⟩=some (.int .i64 s11):=by simp only[hkeep];exact HC j n s0 s1 s2 s3 s4 s5 s6 s7 s8 s9 s10 s11 hrj
   have hd:sl.drop j=(n,s0,s1,s2,s3,s4,s5,s6,s7,s8,s9,s10,s11)::sl.drop (j+1):=by rw[FM0 hlt];rw[FM1 hlt] at hrj;rw[Option.some.inj hrj]
   rw[hd] at hf;obtain⟨zs,hc,hf2⟩:=Ab4 hf;obtain⟨m,hmz⟩:∃m:Nat,(m:Int)=min (max n 0) 12:=⟨(min (max n 0) 12).toNat,by omega⟩
   have hpath:=fun W=>Bk3 n (m:Int) s0 s1 s2 s3 s4 s5 s6 s7 s8 s9 s10 s11 hmz.symm (by omega) (by omega) W
   simp only[Int.toNat_natCast] at hpath;have hmt:(min (max n 0) 12).toNat=m:=by omega
   have hm12:m≤12:=by omega
   have HE:Hid _:=hE;have HF2:Hid _:=hf2;have hc':Q9 t seg off (FM2 (min (max n 0) 12).toNat [s0,s1,s2,s3,s4,s5,s6,s7,s8,s9,s10,s11]) (wrap64 (-frm)) xs=some zs:=hc;rw[hmt] at hc';have HC2:Hid _:=hc';clear hE hf hf2 hc hc' hd hrj hkeep hmz hmt
   go_wp2_with (go_at_call 84;(with_reducible refine (hpath _).mono ?_);rintro e1 w5 ⟨v5,rfl,hrow,hb5⟩;obtain⟨p5,c5,rfl⟩:=Bt6 hrow;have HROW:Hid _:=hrow;have HB5:Hid _:=hb5;clear hrow hb5)
   have hE5:V7 w O X frm seg off (.slice (some ⟨sb,so,none⟩) sl.length sc) tv gv xs v w5:=by
    refine V7.grown (w:=wr) HE ?_;have hb:Below (wr.alloc (.cells #[.int .i64 n,.int .i64 s0,.int .i64 s1,.int .i64 s2,.int .i64 s3,.int .i64 s4,.int .i64 s5,.int .i64 s6,.int .i64 s7,.int .i64 s8,.int .i64 s9,.int .i64 s10,.int .i64 s11] 195)).heap.size (wr.alloc (.cells #[.int .i64 n,.int .i64 s0,.int .i64 s1,.int .i64 s2,.int .i64 s3,.int .i64 s4,.int .i64 s5,.int .i64 s6,.int .i64 s7,.int .i64 s8,.int .i64 s9,.int .i64 s10,.int .i64 s11] 195)) w5:=HB5
    rw[A4] at hb;exact (Below.alloc (Below.refl _ _) (FM5 _) _).trans (hb.mono (Nat.le_succ _))
   have hrow:w5.ownsRow (wr.heap.size+1) 3 1 (.slice p5 m c5) m ((FM2 m [s0,s1,s2,s3,s4,s5,s6,s7,s8,s9,s10,s11]).map (Value.int .i64)):=by have h0:w5.ownsRow (wr.alloc (.cells #[.int .i64 n,.int .i64 s0,.int .i64 s1,.int .i64 s2,.int .i64 s3,.int .i64 s4,.int .i64 s5,.int .i64 s6,.int .i64 s7,.int .i64 s8,.int .i64 s9,.int .i64 s10,.int .i64 s11] 195)).heap.size 3 1 (.slice p5 m c5) m ((FM2 m [s0,s1,s2,s3,s4,s5,s6,s7,s8,s9,s10,s11]).map (Value.int .i64)):=HROW;rw[A4] at h0;exact h0
   have hvlt:∀k,v.ownBlock=some k→k<wr.heap.size:=fun k hk=>((V7.g HE).own.lt k hk).2
   clear HROW HB5 HE hpath;have hc2:Q9 t seg off (FM2 m [s0,s1,s2,s3,s4,s5,s6,s7,s8,s9,s10,s11]) (wrap64 (-frm)) xs=some zs:=HC2;clear HC2;generalize FM2 m [s0,s1,s2,s3,s4,s5,s6,s7,s8,s9,s10,s11]=ps at hrow hc2;have hlen:ps.length=m:=by have:=hrow.1;rw[List.length_map] at this;omega
   clear f0 f1 f2 f3 f4 f5 f6 f7 f8 f9 f10 f11 f12 hS0 hS0l hsbl;rcases hrow.2 with⟨h1,h2⟩|⟨g,cap,cur,hv5,hb,hg,hnc,hcm,hcs,htake⟩
   ·
    simp only[Value.slice.injEq] at h1;obtain⟨rfl,_,rfl⟩:=h1;have hps:ps=[]:=List.eq_nil_of_length_eq_zero (by omega)
    rw[hps,Q9] at hc2;obtain rfl:=Option.some.inj hc2;have HE5:Hid _:=hE5;have hi0:¬(0:Int)<(m:Int):=by omega
    have hi1:¬0<m:=by omega
    clear h2 hE5 hrow hc2 hps hlen hvlt
    go_loopw [24,8] (fun k a w'=>k = .int .i64 0∧w'=w5) (fun _ _ _=>0)
    case atStart=>exact ⟨by go_num,rfl⟩
    case round=>
     obtain⟨rfl,rfl⟩:=hrel
     go_wp2_with fail
     exact⟨⟨j+1,xs,v,by omega,by go_num,HF2,HE5⟩,by simp only[Go.RowKit.intOf];omega⟩
   ·simp only[Value.slice.injEq,true_and] at hv5
    obtain⟨rfl,rfl⟩:=hv5;have hgl:w.heap.size≤g:=by have h5:wr.heap.size+1≤g:=hb;omega
    have hpc:∀k,k<ps.length→cur[k]? = some (.int .i64 (ps.getD k 0)):=by
     intro k hk;have h3:(cur.toList.take (m*1))[k]? = some (.int .i64 (ps.getD k 0)):=by rw[htake];simp[List.getD,hk]
     rw[List.getElem?_take,if_pos (by omega)] at h3
     simpa using h3
    have HE5:Hid _:=hE5;have HG5:Hid (w5.heap[g]? = some (.cells cur 3 (0,0))):=hg;have HPC:Hid _:=hpc;have HVG:Hid (v.ownBlock≠some g):=fun h0=>by have:=hvlt g h0;omega
    have HCC:Hid _:=hc2;have hpm:ps.length≤m:=by omega
    clear hE5 hg hpc hvlt hc2 hrow htake hcs hcm hb
    go_loopw [24,8] (fun k a w'=>∃(q:Nat) (at':Int) (gs:List Int) (u:Value),k = .int .i64 (q:Int)∧a = .int .i64 at'∧q≤ps.length∧Q9 t seg off (ps.drop q) at' gs=some zs∧V7 w O X frm seg off (.slice (some ⟨sb,so,none⟩) sl.length sc) tv gv gs u w'∧w'.heap[g]? = some (.cells cur 3 (0,0))∧u.ownBlock≠some g) (fun k _ _=>((ps.length:Int)-Go.RowKit.intOf k).toNat)
    case atStart=>exact ⟨0,wrap64 (-frm),xs,v,by go_num,rfl,by omega,HCC,HE5,HG5,HVG⟩
    case round=>
     obtain⟨q,at',gs,u,rfl,rfl,hq,hwk,hE,hG,hU⟩:=hrel;clear HCC HE5 HG5 HVG;rcases FM4 (q<ps.length) with hql | hql
     ·have j7:(q:Int)<(m:Int):=by omega
      have hd:ps.drop q=ps.getD q 0::ps.drop (q+1):=by rw[FM0 hql];simp[List.getD,hql]
      have hpq:wr.cell? ⟨g,q,none⟩=some (.int .i64 (ps.getD q 0)):=U3 hG (HPC q hql);rw[hd,Q9] at hwk;generalize ps.getD q 0=i at hwk hpq;rcases FM4 (0≤i∧i<(t.1.length:Int)) with hc | hc
      case inr=>rw [if_neg hc] at hwk;cases hwk
      rw[if_pos hc] at hwk;obtain⟨m0,m1⟩:=hc;have hgsl:gs.length<1000000:=by
       have h1:=BO7 _ _ _ _ hwk;have h2:=Bu4 _ _ _ (show AD0 t frm seg off (sl.drop (j+1)) zs=some ys from HF2);split at h1
       ·simp at h1;omega
       ·omega
      have hgq:g<wr.heap.size:=(Array.getElem?_eq_some_iff.1 hG).1;have hbl:=hE.g.bs.2;have hXk:wr.heap[X]? = w.heap[X]? := hE.g.block X hX hXO;have hTK:X8 w B t bs os na nn nc:=HK;have hlenc:=hTK.len i.toNat (by omega)
      rw[Int.toNat_of_nonneg m0] at hlenc;have hbs:bs<B:=hTK.hb;have hvis:Calls Tryz.prog 175 #[.int .i64 i,.int .i64 at',.pointer (some ⟨X,0,none⟩),.pointer (some ⟨O,0,none⟩)] wr fun e w'=>e = .returned (.tuple #[])∧w'.cell? ⟨w.heap.size+1,0,none⟩=some (.slice (some ⟨bs,os,none⟩) t.1.length cs)∧w'.cell? ⟨bs,os+i.toNat*3,none⟩=some (.int .i64 (lenOf t i))∧
        Hid (∃v',V7 w O X frm seg off (.slice (some ⟨sb,so,none⟩) sl.length sc) tv gv (if i=seg then gs++[wrap64 (at'+off)] else gs) v' w'∧w'.heap[g]? = some (.cells cur 3 (0,0))∧v'.ownBlock≠some g):=by
       refine (Dz3 seg off i at' (by rw[World.cell?_of_block (w:=w) hXk];exact HX1) (by rw[World.cell?_of_block (w:=w) hXk];exact HX2) hE.g.o hE.g.own (by have:=hE.g.low;omega) hE.g.bs.2 hgsl).mono ?_
       rintro e w6 ⟨rfl,v',hv,ho,hown⟩
       have hE6:=hE.visit hv ho hown;refine⟨rfl,?_,?_,v',hE6,?_,?_⟩
       ·rw[U3 hE6.t0 rfl]
        exact congrArg some HV
       ·rw[World.cell?_of_block (w:=w) (hE6.g.block bs (by omega) (by omega))]
        exact hlenc
       ·rw[hv.block g hgq (by have:=hE.g.low;omega) (fun h0=>hU h0.symm)]
        exact hG
       ·intro h0
        rcases hv.at' with h1 |⟨k,h1,h2⟩
        ·exact hU (h1.symm.trans h0)
        ·rw[h1] at h0
         have:=Option.some.inj h0;omega
      have hwk2:Hid (Q9 t seg off (ps.drop (q+1)) (wrap64 (at'+lenOf t i)) (if i=seg then gs++[wrap64 (at'+off)] else gs)=some zs):=hwk
      clear hE hG hU hwk hd hgsl hgq hbl hXk hTK hlenc hbs;generalize (if i=seg then gs++[wrap64 (at'+off)] else gs)=gs2 at*
      generalize lenOf t i=ln at hvis hwk2
      go_wp2_with (go_at_call 175;(with_reducible refine hvis.mono ?_);rintro e6 w6 ⟨rfl,c1,c2,HQ⟩)
      obtain⟨v',hE6,hG6,hU6⟩:=HQ;exact⟨⟨q+1,_,gs2,v',by go_num,rfl,by omega,hwk2,hE6,hG6,hU6⟩,by simp only[Go.RowKit.intOf];omega⟩
     ·have j7:¬(q:Int)<(m:Int):=by omega
      have hle:gs=zs:=by
       rw[FM3 (by omega),Q9] at hwk
       exact Option.some.inj hwk
      subst hle;have HE:Hid _:=hE;clear hE hG hU hwk
      go_wp2_with fail
      exact⟨⟨j+1,gs,u,by omega,by go_num,HF2,HE⟩,by simp only[Go.RowKit.intOf];omega⟩
  ·have i7:¬(j:Int)<(sl.length:Int):=by omega
   have hle:xs=ys:=by
    rw[FM3 (by omega)] at hf
    exact Option.some.inj hf
   subst hle;have HE:Hid _:=hE;clear hE hf
   go_wp2_with fail
   go_end0
   exact⟨rfl,v,V7.g HE⟩
end Go.Proofs.YthfjpkdadjemcaaGreat
