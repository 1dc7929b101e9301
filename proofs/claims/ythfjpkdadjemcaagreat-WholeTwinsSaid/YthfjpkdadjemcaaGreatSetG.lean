/- Ways that grow: the whole. -/
import Derived.Test.YthfjpkdadjemcaaGreatGrowZ
import Derived.Test.YthfjpkdadjemcaaGreatS1
import Derived.Test.YthfjpkdadjemcaaGreatEndF
import Derived.Test.YthfjpkdadjemcaaGreatSortF
import Derived.Maps.RangeRun
import Derived.RegionTactic
set_option linter.unusedSimpArgs false
set_option linter.unusedVariables false
namespace Go.Proofs.YthfjpkdadjemcaaGreat
open Go.RowKit
open _root_.List renaming getElem?_eq_getElem → FL0
open _root_.Classical renaming em → FL1
theorem Dy4 (w:World):(Instr.makeMap 257 none).run Tryz.prog w = .ok (.map (some w.heap.size)) (w.alloc (.map #[] 0)):=by simp[Instr.makeMap,go_sem]
set_option maxRecDepth 100000 in
set_option maxHeartbeats 600000 in
theorem Dy5 (frm lo hi:Int)(sl:List RtD)(tv gv:Value)(sb so sc:Nat)(w:World)(hr0:lo≤hi)(hr1:¬lo<wrap64 (-frm))(hsb:sb<w.heap.size)(hsl:sl.length≤1000000)
  {ow:Nat→A1} {t:TkD} {bs os cs:Nat} {na:Nat→Nat×Nat} {nn:Nat→Option Addr} {nc:Nat→Nat} {le':List RtD×Int} (here:∀blk,ow blk≠ .B8→blk<w.heap.size) (hs:C7 ow w (.agg V6) ((frm,sl):M6) (.agg #[.int .i64 frm,.slice (some ⟨sb,so,none⟩) sl.length sc])) (ht:C7 ow w (.agg TkT) t (.agg #[tv,gv]))
  (htv:tv = .slice (some ⟨bs,os,none⟩) t.1.length cs) (hT:X8 w w.heap.size t bs os na nn nc) (hfits:∀r∈sl,A6 r) (hfew:t.1.length≤4611686018427387903) (hlim:le'.1.length<1000000) (h:sl.foldlM (fun (le:List RtD×Int) (r:RtD)=>(S5 (frm,sl) t r).bind fun en=>C9 13 t (lo,hi) r en le) ([],0)=some le')
  (hcells:∀i n s0 s1 s2 s3 s4 s5 s6 s7 s8 s9 s10 s11,sl[i]? = some (n,s0,s1,s2,s3,s4,s5,s6,s7,s8,s9,s10,s11)→w.cell? ⟨sb,so+i*13,none⟩=some (.int .i64 n)∧w.cell? ⟨sb,so+i*13+1,none⟩=some (.int .i64 s0)∧w.cell? ⟨sb,so+i*13+2,none⟩=some (.int .i64 s1)∧w.cell? ⟨sb,so+i*13+3,none⟩=some (.int .i64 s2)∧w.cell? ⟨sb,so+i*13+4,none⟩=some (.int .i64 s3)∧w.cell? ⟨sb,so+i*13+5,none⟩=some (.int .i64 s4)∧w.cell? ⟨sb,so+i*13+6,none⟩=some (.int .i64 s5)∧w.cell? ⟨sb,so+i*13+7,none⟩=some (.int .i64 s6)∧w.cell? ⟨sb,so+i*13+8,none⟩=some (.int .i64 s7)∧w.cell? ⟨sb,so+i*13+9,none⟩=some (.int .i64 s8)∧w.cell? ⟨sb,so+i*13+10,none⟩=some (.int .i64 s9)∧w.cell? ⟨sb,so+i*13+11,none⟩=some (.int .i64 s10)∧w.cell? ⟨sb,so+i*13+12,none⟩=some (.int .i64 s11)):
  Calls Tryz.prog 115 #[.agg #[.int .i64 frm,.slice (some ⟨sb,so,none⟩) sl.length sc],.agg #[tv,gv],.agg #[.int .i64 lo,.int .i64 hi]] w fun x w'=>Below w.heap.size w w'∧∃v',w'.ownsRow w.heap.size 195 13 v' (L8 frm le'.1 le'.2).1.2.length ((L8 frm le'.1 le'.2).1.2.flatMap E6)∧x = .returned (.tuple #[.agg #[.int .i64 (L8 frm le'.1 le'.2).1.1,v'],.int .i64 (L8 frm le'.1 le'.2).2]):=by
 have hri:=fun W=>Bu1 lo hi W
 rw[decide_eq_true hr0] at hri;have hmk:=fun W=>Dy4 W
 have HV:Hid _:=htv;clear htv;have HC:Hid _:=hcells;have HS:Hid _:=hs;have HT:Hid _:=ht;have HK:Hid _:=hT;have HF:Hid _:=hfits;have HE:Hid _:=here;clear hcells hs ht hT hfits here;generalize hFd:(fun (le:List RtD×Int) (r:RtD)=>(S5 (frm,sl) t r).bind fun en=>C9 13 t (lo,hi) r en le)=F at h
 have HFd:Hid _:=hFd;have H0:Hid _:=h;clear hFd h;have hsb':ltS sb w.heap.size:=hsb
 go_enter Tryz.func115,Tryz.ntmps115
 go_wp2_with (go_at_call 28;with_reducible refine (hri _).mono ?_;rintro e w1 ⟨rfl,hbw⟩;obtain⟨xw,rfl⟩:=T9 hbw;clear hbw)
 have hbase:=Dv1 (xw:=xw) (c1:=#[.int .i64 frm,.slice (some ⟨sb,so,none⟩) sl.length sc]) (c2:=#[tv,gv]) (c3:=#[.int .i64 lo,.int .i64 hi]) (c4:=#[.int .i64 0,.slice none 0 0]) (gv:=gv) (lo:=lo) (hi:=hi) (show tv=_ from HV) (show X8 w w.heap.size t bs os na nn nc from HK);have HB:Hid _:=hbase;clear hbase
 go_loopw [33] (fun i wr=>∃(j:Nat) (l:List RtD) (e:Int) (y:N0),j≤sl.length∧i = .int .i64 (j:Int)∧(sl.drop j).foldlM F (l,e)=some le'∧(∀q∈l,A6 q)∧
   wr=more ((B0 (((more ((((w.alloc (.cells #[.int .i64 frm,.slice (some ⟨sb,so,none⟩) sl.length sc] 111)).alloc (.cells #[tv,gv] 100)).alloc (.cells #[.int .i64 lo,.int .i64 hi] 44)).alloc (.cells #[.int .i64 0,.slice none 0 0] 111)) xw).alloc (.map #[] 0)).alloc (.cells #[tv,gv,.int .i64 lo,.int .i64 hi,.map (some (w.heap.size+1+1+1+1+xw.B9.size)),.int .i64 0] 259)) (w.heap.size+1+1+1+1+xw.B9.size) l).setCell ⟨(w.heap.size+1+1+1+1+xw.B9.size+1),5,none⟩ (.int .i64 e)) y) (fun i _=>((sl.length:Int)-Go.RowKit.intOf i).toNat)
 case atStart=>
  refine⟨0,[],0,⟨#[],(((more ((((w.alloc (.cells #[.int .i64 frm,.slice (some ⟨sb,so,none⟩) sl.length sc] 111)).alloc (.cells #[tv,gv] 100)).alloc (.cells #[.int .i64 lo,.int .i64 hi] 44)).alloc (.cells #[.int .i64 0,.slice none 0 0] 111)) xw).alloc (.map #[] 0)).alloc (.cells #[tv,gv,.int .i64 lo,.int .i64 hi,.map (some (w.heap.size+1+1+1+1+xw.B9.size)),.int .i64 0] 259)).drawn⟩,by omega,by go_num,H0,fun q hq=>absurd hq (by simp),?_⟩
  have h1:grown (((more ((((w.alloc (.cells #[.int .i64 frm,.slice (some ⟨sb,so,none⟩) sl.length sc] 111)).alloc (.cells #[tv,gv] 100)).alloc (.cells #[.int .i64 lo,.int .i64 hi] 44)).alloc (.cells #[.int .i64 0,.slice none 0 0] 111)) xw).alloc (.map #[] 0)).alloc (.cells #[tv,gv,.int .i64 lo,.int .i64 hi,.map (some (w.heap.size+1+1+1+1+xw.B9.size)),.int .i64 0] 259)) (w.heap.size+1+1+1+1+xw.B9.size+1) (w.heap.size+1+1+1+1+xw.B9.size) [] 0=(((more ((((w.alloc (.cells #[.int .i64 frm,.slice (some ⟨sb,so,none⟩) sl.length sc] 111)).alloc (.cells #[tv,gv] 100)).alloc (.cells #[.int .i64 lo,.int .i64 hi] 44)).alloc (.cells #[.int .i64 0,.slice none 0 0] 111)) xw).alloc (.map #[] 0)).alloc (.cells #[tv,gv,.int .i64 lo,.int .i64 hi,.map (some (w.heap.size+1+1+1+1+xw.B9.size)),.int .i64 0] 259)):=Br6 HB.1.map HB.1.g5
  have h2:∀u:World,more u ⟨#[],u.drawn⟩=u:=fun u=>by simp[more]
  show _=more (grown (((more ((((w.alloc (.cells #[.int .i64 frm,.slice (some ⟨sb,so,none⟩) sl.length sc] 111)).alloc (.cells #[tv,gv] 100)).alloc (.cells #[.int .i64 lo,.int .i64 hi] 44)).alloc (.cells #[.int .i64 0,.slice none 0 0] 111)) xw).alloc (.map #[] 0)).alloc (.cells #[tv,gv,.int .i64 lo,.int .i64 hi,.map (some (w.heap.size+1+1+1+1+xw.B9.size)),.int .i64 0] 259)) (w.heap.size+1+1+1+1+xw.B9.size+1) (w.heap.size+1+1+1+1+xw.B9.size) [] 0) _
  rw[h1,h2]
 case round=>
  obtain⟨j,l,e,y,hj,rfl,hf,hl,hwr⟩:=hrel;have hGA:O5 wr (w.heap.size+1+1+1+1+xw.B9.size+1) (w.heap.size+1+1+1+1+xw.B9.size) w.heap.size t (lo,hi) bs os cs na nn nc l e:=by rw[hwr];exact X9 (Br5 (AN0 HB.1 l) e) y
  have hbW:Below w.heap.size w wr:=by
   rw[hwr];refine Am2 (Below.setCell (Du9 HB.2.1 (by omega) l) (by simp only;omega) _) ?_ y
   rw[size_setCell,AG5,HB.2.2];omega
  rcases FL1 (j<sl.length) with hlt | hlt
  ·have i7:(j:Int)<(sl.length:Int):=by omega
   obtain⟨n,s0,s1,s2,s3,s4,s5,s6,s7,s8,s9,s10,s11,hrj⟩:∃n s0 s1 s2 s3 s4 s5 s6 s7 s8 s9 s10 s11,sl[j]? = some ((n,s0,s1,s2,s3,s4,s5,s6,s7,s8,s9,s10,s11):RtD):=by rcases hx:sl[j] with⟨n,s0,s1,s2,s3,s4,s5,s6,s7,s8,s9,s10,s11⟩;exact⟨n,s0,s1,s2,s3,s4,s5,s6,s7,s8,s9,s10,s11,by rw[FL0 hlt,hx]⟩
   obtain⟨f0,f1,f2,f3,f4,f5,f6,f7,f8,f9,f10,f11,f12⟩:=HC j n s0 s1 s2 s3 s4 s5 s6 s7 s8 s9 s10 s11 hrj;have hrm:((n,s0,s1,s2,s3,s4,s5,s6,s7,s8,s9,s10,s11):RtD)∈sl:=List.mem_of_getElem? hrj;have hrf:A6 (n,s0,s1,s2,s3,s4,s5,s6,s7,s8,s9,s10,s11):=HF _ hrm;have hd:sl.drop j=(n,s0,s1,s2,s3,s4,s5,s6,s7,s8,s9,s10,s11)::sl.drop (j+1):=by rw[List.drop_eq_getElem_cons hlt];rw[FL0 hlt] at hrj;rw[Option.some.inj hrj]
   rw[hd] at hf;obtain⟨c,hc,hf2⟩:=Ab4 hf;rw[← show _=F from HFd] at hc;simp only at hc;cases hy:S5 (frm,sl) t (n,s0,s1,s2,s3,s4,s5,s6,s7,s8,s9,s10,s11) with
   |none=>rw [hy] at hc;cases hc
   |some y0=>
    rw[hy] at hc;simp only[Option.bind_some] at hc;have hE:∀x,Calls Tryz.prog 129 #[.agg #[.int .i64 frm,.slice (some ⟨sb,so,none⟩) sl.length sc],.agg #[tv,gv],.agg #[.int .i64 n,.int .i64 s0,.int .i64 s1,.int .i64 s2,.int .i64 s3,.int .i64 s4,.int .i64 s5,.int .i64 s6,.int .i64 s7,.int .i64 s8,.int .i64 s9,.int .i64 s10,.int .i64 s11]] (more (wr.alloc (.cells #[.int .i64 n,.int .i64 s0,.int .i64 s1,.int .i64 s2,.int .i64 s3,.int .i64 s4,.int .i64 s5,.int .i64 s6,.int .i64 s7,.int .i64 s8,.int .i64 s9,.int .i64 s10,.int .i64 s11] 195)) x) fun e w'=>e = .returned (.int .i64 y0)∧Below (more (wr.alloc (.cells #[.int .i64 n,.int .i64 s0,.int .i64 s1,.int .i64 s2,.int .i64 s3,.int .i64 s4,.int .i64 s5,.int .i64 s6,.int .i64 s7,.int .i64 s8,.int .i64 s9,.int .i64 s10,.int .i64 s11] 195)) x).heap.size (more (wr.alloc (.cells #[.int .i64 n,.int .i64 s0,.int .i64 s1,.int .i64 s2,.int .i64 s3,.int .i64 s4,.int .i64 s5,.int .i64 s6,.int .i64 s7,.int .i64 s8,.int .i64 s9,.int .i64 s10,.int .i64 s11] 195)) x) w':=by
     intro x;have hb2:Below w.heap.size w (more (wr.alloc (.cells #[.int .i64 n,.int .i64 s0,.int .i64 s1,.int .i64 s2,.int .i64 s3,.int .i64 s4,.int .i64 s5,.int .i64 s6,.int .i64 s7,.int .i64 s8,.int .i64 s9,.int .i64 s10,.int .i64 s11] 195)) x):=Am2 (Below.alloc hbW hbW.size _) (by rw[A4];have:=hbW.size;omega) x
     have hs':C7 ow w (.agg V6) ((frm,sl):M6) (.agg #[.int .i64 frm,.slice (some ⟨sb,so,none⟩) sl.length sc]):=HS;have ht':C7 ow w (.agg TkT) t (.agg #[tv,gv]):=HT;have he':∀blk,ow blk≠ .B8→blk<w.heap.size:=HE;have h1:=Dy3 (W:=more (wr.alloc (.cells #[.int .i64 n,.int .i64 s0,.int .i64 s1,.int .i64 s2,.int .i64 s3,.int .i64 s4,.int .i64 s5,.int .i64 s6,.int .i64 s7,.int .i64 s8,.int .i64 s9,.int .i64 s10,.int .i64 s11] 195)) x) hy hs' ht' hrf he' hb2.block hb2.size
     exact h1
    have hG2:∀x,Calls Tryz.prog 157 #[.pointer (some ⟨(w.heap.size+1+1+1+1+xw.B9.size+1),0,none⟩),.agg #[.int .i64 n,.int .i64 s0,.int .i64 s1,.int .i64 s2,.int .i64 s3,.int .i64 s4,.int .i64 s5,.int .i64 s6,.int .i64 s7,.int .i64 s8,.int .i64 s9,.int .i64 s10,.int .i64 s11],.int .i64 y0] (more (wr.alloc (.cells #[.int .i64 n,.int .i64 s0,.int .i64 s1,.int .i64 s2,.int .i64 s3,.int .i64 s4,.int .i64 s5,.int .i64 s6,.int .i64 s7,.int .i64 s8,.int .i64 s9,.int .i64 s10,.int .i64 s11] 195)) x) fun e w'=>e = .returned (.tuple #[])∧
      ∃z,w'=more ((B0 (((more ((((w.alloc (.cells #[.int .i64 frm,.slice (some ⟨sb,so,none⟩) sl.length sc] 111)).alloc (.cells #[tv,gv] 100)).alloc (.cells #[.int .i64 lo,.int .i64 hi] 44)).alloc (.cells #[.int .i64 0,.slice none 0 0] 111)) xw).alloc (.map #[] 0)).alloc (.cells #[tv,gv,.int .i64 lo,.int .i64 hi,.map (some (w.heap.size+1+1+1+1+xw.B9.size)),.int .i64 0] 259)) (w.heap.size+1+1+1+1+xw.B9.size) c.1).setCell ⟨(w.heap.size+1+1+1+1+xw.B9.size+1),5,none⟩ (.int .i64 c.2)) z:=by
     intro x;refine (Dy0 hfew 13 _ _ _ _ _ hc hrf hl _ _ _ _ _ _ _ _ _ _ (X9 (Y0 hGA (.cells #[.int .i64 n,.int .i64 s0,.int .i64 s1,.int .i64 s2,.int .i64 s3,.int .i64 s4,.int .i64 s5,.int .i64 s6,.int .i64 s7,.int .i64 s8,.int .i64 s9,.int .i64 s10,.int .i64 s11] 195)) x)).mono ?_
     rintro e' w' ⟨he,z,rfl⟩
     refine⟨he,?_⟩;refine Du8 (l:=l) (e:=e) ?_;have h9:wr=more (grown (((more ((((w.alloc (.cells #[.int .i64 frm,.slice (some ⟨sb,so,none⟩) sl.length sc] 111)).alloc (.cells #[tv,gv] 100)).alloc (.cells #[.int .i64 lo,.int .i64 hi] 44)).alloc (.cells #[.int .i64 0,.slice none 0 0] 111)) xw).alloc (.map #[] 0)).alloc (.cells #[tv,gv,.int .i64 lo,.int .i64 hi,.map (some (w.heap.size+1+1+1+1+xw.B9.size)),.int .i64 0] 259)) (w.heap.size+1+1+1+1+xw.B9.size+1) (w.heap.size+1+1+1+1+xw.B9.size) l e) y:=hwr
     rw[h9];refine Am2 (Below.alloc (Am2 (Below.refl _ _) (Nat.le_refl _) y) ?_ _) ?_ x
     ·rw[A9];omega
     ·rw[A4,A9];omega
    have hfit2:Hid _:=BN8 hfew 13 _ _ _ _ hc hrf hl;have HF2:Hid _:=hf2;clear hf2 hf hd hc hy hrf hrm hrj hbW hGA HB HFd HC HS HT HK HF HE H0 hl;subst hwr
    go_wp2_with fail
    refine Ab3 6 (by kernel_rfl) (by kernel_rfl) ?_
    (try simp only[List.take_succ_cons,List.take_zero,List.drop_succ_cons,List.drop_zero]);(repeat (refine U1 (fun K hK=> ?_);go_simp;first | (refine hK _ ?_;clear hK K) | (apply Exists.intro;refine⟨fun _=> ?_,hK _ ?_⟩;((go_at_call 129;with_reducible exact Ds4 (hE _)));clear hK K)));with_reducible refine U0 ?_
    intro x2
    go_wp2_with (go_at_call 157;with_reducible refine (hG2 _).mono ?_;rintro e' w' ⟨rfl,z,rfl⟩)
    exact⟨⟨j+1,c.1,c.2,z,by omega,by go_num,HF2,hfit2,rfl⟩,by simp only[Go.RowKit.intOf];omega⟩
  ·have i7:¬(j:Int)<(sl.length:Int):=by omega
   have hle:(l,e)=le':=by
    rw[List.drop_of_length_le (by omega)] at hf
    exact Option.some.inj hf
   subst hle;have hrg:=Dv0 (Y0 hGA (.cells #[.int .i64 frm,.slice none 0 0] 111)).map;obtain⟨hb0,hb3⟩:=Dw2 hwr;have hcS:wr.cell? ⟨w.heap.size,0,none⟩=some (.int .i64 frm):=U3 hb0 rfl;have hG4:wr.cell? ⟨(w.heap.size+1+1+1+1+xw.B9.size+1),4,none⟩=some (.map (some (w.heap.size+1+1+1+1+xw.B9.size))):=hGA.g4;have hGl:ltS (w.heap.size+1+1+1+1+xw.B9.size+1) wr.heap.size:=hGA.hG
   have hSl:ltS w.heap.size wr.heap.size:=by have:=hGA.hG;unfold ltS;omega
   have hst:=Dw3 (w:=w) (frm:=frm) (M:=(w.heap.size+1+1+1+1+xw.B9.size)) (G:=(w.heap.size+1+1+1+1+xw.B9.size+1)) (V:=w.heap.size+1+1+1) (e:=e) (l:=l) hbW (by have:=hGA.hG;have:=hGA.hM;omega) hGA.map hb3 hGA.g5
   have HST:Hid _:=hst;have hll:l.length<1000000:=hlim;have HLL:Hid _:=hll;clear hst hll hlim hf hl hGA hbW hb0 hb3 hwr HB HFd HC HS HT HK HF HE H0 hri hmk;obtain⟨w1,hw1⟩:∃x,x=wr:=⟨_,rfl⟩;subst hw1
   go_wp2_with fail
   go_loopw [] (fun w2=>∃(seen:Array Nat) (v:Value),AN2 w (w.heap.size+1+1+1+1+xw.B9.size) (w.heap.size+1+1+1+1+xw.B9.size+1) w1.heap.size (w.heap.size+1+1+1) (w1.heap.size+1) frm e l seen v w2) (fun w2=>l.length-(w2.iterSeen (w1.heap.size+1)).size)
   case atStart=>exact ⟨#[],_,HST⟩
   case round=>
    obtain⟨seen,v,hR⟩:=hrel;clear HST;have i7':=hR.ord;have hMap:=hR.map;have hIt:=hR.it;have hO1:wr.cell? ⟨w1.heap.size,1,none⟩=some v:=U3 hR.o rfl;have HR:Hid _:=hR;clear hR
    go_wp2_with (first
     | (at_next;refine Dv9 rfl _ rfl (w1.heap.size+1) (w.heap.size+1+1+1+1+xw.B9.size) l seen rfl hMap hIt ?_ ?_)
     |go_in)
    ·intro hall
     have hR:AN2 w (w.heap.size+1+1+1+1+xw.B9.size) (w.heap.size+1+1+1+1+xw.B9.size+1) w1.heap.size (w.heap.size+1+1+1) (w1.heap.size+1) frm e l seen v wr:=HR;have hall':∀i,i<l.length→seen.contains i=true:=fun i hi=>by simpa using hall i hi
     have hsz:seen.size=l.length:=by have:=(Bt3 hR.nod hR.inb hall').length_eq;unfold taken at this;simpa using this
     obtain⟨pa,pc,rfl⟩:=Bt6 hR.own;rw[hsz] at*;have hsort:=Dw4 HR hall' (by have:=(show l.length<1000000 from HLL);omega)
     have hO1':wr.cell? ⟨w1.heap.size,1,none⟩=some (.slice pa l.length pc):=hO1;clear hall hall' hMap hIt HR i7' hO1 hR hsz;rcases FL1 (e=0) with he | he
     ·rcases FL1 (l=[]) with hl0 | hl0
      ·have hans:L8 frm l e=((0,[]),40):=by unfold L8;rw[if_neg (by rw[he];simp),if_pos hl0]
       have HAN:Hid _:=hans;have hl1:l.length=0:=by rw[hl0];rfl
       rw[hl1] at hsort hO1';subst he;clear hans hl0
       go_wp2_with (go_at_call 158;with_reducible refine hsort.mono ?_;rintro x5 w5 ⟨rfl,q1,q2,q3,q4,q5,q6,q7,HQ⟩)
       obtain⟨z1,z2,z3,z4,z5⟩:=HQ;refine bodyPost_ret (Am3 (v7:=.int .i64 40) rfl rfl (a:=.int .i64 0) (b:=.slice none 0 0) (by simp[go_sem,q4,q5]) (by simp[go_sem,q4,q5])) rfl ?_
       refine⟨by exact Below.setCell (Below.setCell z2 z3 _) z3 _,.slice none 0 0,?_,?_⟩
       ·rw[show L8 frm l 0=_ from HAN];exact World.ownsRow_nil _ _ _ _
       ·rw[show L8 frm l 0=_ from HAN]
      ·have hans:L8 frm l e=((frm,J9 l),0):=by unfold L8;rw[if_neg (by rw[he];simp),if_neg hl0]
       have HAN:Hid _:=hans;have hl1:¬(l.length:Int)=0:=by intro h0;exact hl0 (List.eq_nil_of_length_eq_zero (by omega))
       subst he;clear hans
       go_wp2_with (go_at_call 158;with_reducible refine hsort.mono ?_;rintro x5 w5 ⟨rfl,q1,q2,q3,q4,q5,q6,q7,HQ⟩)
       obtain⟨z1,z2,z3,z4,z5⟩:=HQ;refine bodyPost_ret (Am3 (v7:=.int .i64 0) rfl rfl (a:=.int .i64 frm) (b:=.slice pa l.length pc) (by simp[go_sem,q4,q5]) (by simp[go_sem,q4,q5])) rfl ?_
       have hlen:(J9 l).length=l.length:=Ay4 l;refine⟨by exact Below.setCell (Below.setCell z2 z3 _) z3 _,.slice pa l.length pc,?_,?_⟩
       ·rw[show L8 frm l 0=_ from HAN]
        simp only;rw[hlen];exact BO4 (BO4 z5 z4 z1) z4 (by rw[size_setCell];exact z1)
       ·rw[show L8 frm l 0=_ from HAN]
     ·have hans:L8 frm l e=((0,[]),e):=by unfold L8;rw[if_pos he]
      have HAN:Hid _:=hans;clear hans
      go_wp2_with (go_at_call 158;with_reducible refine hsort.mono ?_;rintro x5 w5 ⟨rfl,q1,q2,q3,q4,q5,q6,q7,HQ⟩)
      obtain⟨z1,z2,z3,z4,z5⟩:=HQ
      go_region
      all_goals
       go_wp2_with fail
       refine bodyPost_ret (Am3 (v7:=.int .i64 e) rfl rfl (a:=.int .i64 0) (b:=.slice none 0 0) (by simp[go_sem,q4,q5]) (by simp[go_sem,q4,q5])) rfl ?_
       have hbb:Below w.heap.size w ((w5.setCell ⟨w.heap.size+1+1+1,0,none⟩ (.int .i64 0)).setCell ⟨w.heap.size+1+1+1,1,none⟩ (.slice none 0 0)):=Below.setCell (Below.setCell z2 z3 _) z3 _;refine⟨⟨hbb.os,hbb.tape,hbb.output,hbb.size,hbb.block⟩,.slice none 0 0,?_,?_⟩
       ·rw[show L8 frm l e=_ from HAN];exact World.ownsRow_nil _ _ _ _
       ·rw[show L8 frm l e=_ from HAN]
    ·intro i n s0 s1 s2 s3 s4 s5 s6 s7 s8 s9 s10 s11 w3 hx hn h3 h4 h5 hen
     simp only[E2] at hen;have hn':seen.contains i=false:=by simpa using hn
     have hR:AN2 w (w.heap.size+1+1+1+1+xw.B9.size) (w.heap.size+1+1+1+1+xw.B9.size+1) w1.heap.size (w.heap.size+1+1+1) (w1.heap.size+1) frm e l seen v wr:=HR;have hord:=hR.ord;have hlt:=Dw5 hR.nod hR.inb hx hn';have hll:l.length<1000000:=HLL;have hownW:=hR.own.kept h3 (.inr (fun h0=>AU3 hR.own (Nat.le_refl _) h0.symm))
     have hO3:w3.cell? ⟨w1.heap.size,1,none⟩=some v:=h3.cell hO1 (by simp)
     have hO3l:ltS w1.heap.size w3.heap.size:=by unfold ltS;omega
     have hOf:w3.frozen? ⟨w1.heap.size,1,none⟩=false:=by rw[World.frozen?_of_block (w:=wr) (h3.block w1.heap.size (by omega) (by simp))];exact Ay5 hR.o
     have HX:Hid (l[i]? = some (n,s0,s1,s2,s3,s4,s5,s6,s7,s8,s9,s10,s11)):=hx;have H3:Hid _:=h3;have H4:Hid _:=h4;have H5:Hid _:=h5;have HW:Hid _:=hownW;have HN:Hid _:=hn';obtain⟨i0,hi0,hz0,hz1,hz2⟩:=info_parts Dw6;clear hx hn hn' h3 h4 h5 hownW hR hO1 hMap hIt;simp only[E2]
     go_wp2_with (first
      | (at_builtin;refine wpList_append_own _ rfl _ _ 109 rfl (w1.heap.size+1+1) 195 i0 (.agg #[.int .i64 0,.int .i64 0,.int .i64 0,.int .i64 0,.int .i64 0,.int .i64 0,.int .i64 0,.int .i64 0,.int .i64 0,.int .i64 0,.int .i64 0,.int .i64 0,.int .i64 0]) 13 104 Tryz.underlying109 hi0 hz0 hz1 hz2 rfl (by decide) v seen.size ((taken l seen).flatMap E6) rfl ?hx ⟨w3.heap.size+1,0,none⟩ 1 1 [.int .i64 n,.int .i64 s0,.int .i64 s1,.int .i64 s2,.int .i64 s3,.int .i64 s4,.int .i64 s5,.int .i64 s6,.int .i64 s7,.int .i64 s8,.int .i64 s9,.int .i64 s10,.int .i64 s11] rfl rfl ?c1 ?c2 ?c3 ?c4 ?c5 ?_)
      |go_in)
     case hx=>exact ((show w3.ownsRow (w1.heap.size+1+1) 195 13 v seen.size ((taken l seen).flatMap E6) from HW).alloc _).alloc _
     case c1=>exact Dw7 _ _ #[.int .i64 n,.int .i64 s0,.int .i64 s1,.int .i64 s2,.int .i64 s3,.int .i64 s4,.int .i64 s5,.int .i64 s6,.int .i64 s7,.int .i64 s8,.int .i64 s9,.int .i64 s10,.int .i64 s11] _
     case c2=>intro u hu;simp at hu;rcases hu with rfl | rfl | rfl | rfl | rfl | rfl | rfl | rfl | rfl | rfl | rfl | rfl | rfl <;> rfl
     case c3=>unfold maxLen;omega
     case c4=>omega
     case c5=>rw [A4,A4];have h40:w3.heap.size=wr.heap.size:=H4;omega
     intro v' w4 hown4 hg4 hnil4;obtain⟨pa,pn,pc,rfl⟩:=Bt5 hown4;have hR:AN2 w (w.heap.size+1+1+1+1+xw.B9.size) (w.heap.size+1+1+1+1+xw.B9.size+1) w1.heap.size (w.heap.size+1+1+1) (w1.heap.size+1) frm e l seen v wr:=HR;have h40:w3.heap.size=wr.heap.size:=H4;have hO4:w4.cell? ⟨w1.heap.size,1,none⟩=some v:=by
      refine hg4.cell ?_ (AU3 hR.own (Nat.le_succ _));rw[World.cell?_of_block (w:=w3) (by rw[Below.heap_alloc _ _ _ (by rw[A4];simp only;omega),Below.heap_alloc _ _ _ (by simp only;omega)])]
      exact hO3
     have hf4:w4.frozen? ⟨w1.heap.size,1,none⟩=false:=by
      rw[World.frozen?_of_block (w:=w3) (by rw[hg4.block w1.heap.size (by rw[A4,A4];omega) (AU3 hR.own (Nat.le_succ _)),Below.heap_alloc _ _ _ (by rw[A4];omega),Below.heap_alloc _ _ _ (by omega)])]
      exact hOf
     have hnew:=Dw1 hR HX HN H3 H4 H5 hown4 hg4;have hsn:wr.iterSeen (w1.heap.size+1)=seen:=Bt4 hR.it;have hsn2:(w4.setCell ⟨w1.heap.size,1,none⟩ (.slice pa pn pc)).iterSeen (w1.heap.size+1)=seen.push i:=Bt4 hnew.it;have HNW:Hid _:=hnew;have HS1:Hid _:=hsn;have HS2:Hid _:=hsn2;clear hnew hsn hsn2 hown4 hg4 hnil4 hR hO3 hOf
     go_wp2_with fail
     refine⟨⟨seen.push i,_,HNW⟩,?_⟩;rw[show wr.iterSeen (w1.heap.size+1)=seen from HS1,show (w4.setCell ⟨w1.heap.size,1,none⟩ (.slice pa pn pc)).iterSeen (w1.heap.size+1)=seen.push i from HS2,Array.size_push];omega
end Go.Proofs.YthfjpkdadjemcaaGreat
