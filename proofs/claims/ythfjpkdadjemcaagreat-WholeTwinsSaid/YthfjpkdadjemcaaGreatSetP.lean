/- Ways that grow: the promise of the whole. -/
import Derived.Test.YthfjpkdadjemcaaGreatSetG
set_option linter.unusedSimpArgs false
set_option linter.unusedVariables false
namespace Go.Proofs.YthfjpkdadjemcaaGreat
open Go.Shelf Go.RowKit Go.Lib Go.ChangeMaps
open _root_.List renaming getElem?_take → FL2, getElem?_eq_none → FL3, getElem?_drop → FL4
open _root_.Option renaming bind_some → FL5
open _root_.Array renaming ext' → FL6
set_option maxRecDepth 100000 in
theorem Dy6 (frm lo hi:Int)(sa:Option Addr)(sn sc:Nat)(tv gv:Value)(w:World)(h:¬lo≤hi∨lo<wrap64 (-frm)):
  Calls Tryz.prog 115 #[.agg #[.int .i64 frm,.slice sa sn sc],.agg #[tv,gv],.agg #[.int .i64 lo,.int .i64 hi]] w fun x w'=>Below w.heap.size w w'∧x = .returned (.tuple #[.agg #[.int .i64 0,.slice none 0 0],.int .i64 40]):=by
 have hri:=fun W=>Bu1 lo hi W
 rcases Classical.em (lo≤hi) with h0 | h0
 ·have h1:lo<wrap64 (-frm):=h.resolve_left fun h2=>h2 h0
  rw[decide_eq_true h0] at hri;clear h
  go_enter Tryz.func115,Tryz.ntmps115
  go_wp2_with (go_at_call 28;with_reducible refine (hri _).mono ?_;rintro e w1 ⟨rfl,hbw⟩;obtain⟨xw,rfl⟩:=T9 hbw;clear hbw)
  refine bodyPost_ret (Am3 (v7:=.int .i64 40) (V:=w.heap.size+1+1+1) rfl rfl (a:=.int .i64 0) (b:=.slice none 0 0) (by simp[go_sem]) (by simp[go_sem])) rfl ?_
  exact⟨by (repeat (first | exact Below.refl _ _ | assumption | refine Below.alloc ?_ (by (try simp[A9]) <;> omega) _ | refine Below.setCell ?_ (by (try simp[A9]) <;> omega) _ | refine S6 ?_ (by (try simp[A9]) <;> omega) _ | refine S7 ?_ (by (try simp[A9]) <;> omega) _ | refine Below.drew ?_)),rfl⟩
 ·rw[decide_eq_false h0] at hri
  clear h
  go_enter Tryz.func115,Tryz.ntmps115
  go_wp2_with (go_at_call 28;with_reducible refine (hri _).mono ?_;rintro e w1 ⟨rfl,hbw⟩;obtain⟨xw,rfl⟩:=T9 hbw;clear hbw)
  refine bodyPost_ret (Am3 (v7:=.int .i64 40) (V:=w.heap.size+1+1+1) rfl rfl (a:=.int .i64 0) (b:=.slice none 0 0) (by simp[go_sem]) (by simp[go_sem])) rfl ?_
  exact⟨by (repeat (first | exact Below.refl _ _ | assumption | refine Below.alloc ?_ (by (try simp[A9]) <;> omega) _ | refine Below.setCell ?_ (by (try simp[A9]) <;> omega) _ | refine S6 ?_ (by (try simp[A9]) <;> omega) _ | refine S7 ?_ (by (try simp[A9]) <;> omega) _ | refine Below.drew ?_)),rfl⟩
theorem Dy7 {l:List Value}{k:Nat}{q:List Value}(hq:q.length=13)(h:(l.drop k).take 13=q):∀j,j<13→l[k+j]? = q[j]? := by intro j hj;rw[← h,FL2,if_pos hj,FL4]
theorem Bu2 {ow:Nat→A1}{w:World}{sl:List RtD}{sv:Value}(here:∀blk,ow blk≠ .B8→blk<w.heap.size)(h:Rep ow w (.slice (.agg RtT)) sl [sv])(hne:sl≠[]):
  ∃sb so sc,sv = .slice (some ⟨sb,so,none⟩) sl.length sc∧sb<w.heap.size∧(∀r∈sl,A6 r)∧
   ∀i n s0 s1 s2 s3 s4 s5 s6 s7 s8 s9 s10 s11,sl[i]? = some (n,s0,s1,s2,s3,s4,s5,s6,s7,s8,s9,s10,s11)→w.cell? ⟨sb,so+i*13,none⟩=some (.int .i64 n)∧w.cell? ⟨sb,so+i*13+1,none⟩=some (.int .i64 s0)∧w.cell? ⟨sb,so+i*13+2,none⟩=some (.int .i64 s1)∧w.cell? ⟨sb,so+i*13+3,none⟩=some (.int .i64 s2)∧w.cell? ⟨sb,so+i*13+4,none⟩=some (.int .i64 s3)∧w.cell? ⟨sb,so+i*13+5,none⟩=some (.int .i64 s4)∧w.cell? ⟨sb,so+i*13+6,none⟩=some (.int .i64 s5)∧w.cell? ⟨sb,so+i*13+7,none⟩=some (.int .i64 s6)∧w.cell? ⟨sb,so+i*13+8,none⟩=some (.int .i64 s7)∧w.cell? ⟨sb,so+i*13+9,none⟩=some (.int .i64 s8)∧w.cell? ⟨sb,so+i*13+10,none⟩=some (.int .i64 s9)∧w.cell? ⟨sb,so+i*13+11,none⟩=some (.int .i64 s10)∧w.cell? ⟨sb,so+i*13+12,none⟩=some (.int .i64 s11):=by
 obtain⟨ad,cap,e1,e2,e3⟩:=h;obtain⟨sb,so,c,T,fz,rfl,hrig,hc,hel⟩:=e3 hne;have hlt:sb<w.heap.size:=by
  refine here sb fun h0=> ?_
  unfold A5 at hrig;rw[h0] at hrig;exact hrig
 have key:∀i n s0 s1 s2 s3 s4 s5 s6 s7 s8 s9 s10 s11,sl[i]? = some (n,s0,s1,s2,s3,s4,s5,s6,s7,s8,s9,s10,s11)→(c.toList.drop (so+i*13)).take 13=[.int .i64 n,.int .i64 s0,.int .i64 s1,.int .i64 s2,.int .i64 s3,.int .i64 s4,.int .i64 s5,.int .i64 s6,.int .i64 s7,.int .i64 s8,.int .i64 s9,.int .i64 s10,.int .i64 s11]∧A6 (n,s0,s1,s2,s3,s4,s5,s6,s7,s8,s9,s10,s11):=by intro i n s0 s1 s2 s3 s4 s5 s6 s7 s8 s9 s10 s11 hi;have hr:=hel i _ hi;obtain⟨_,_,hcs,⟨rfl,f0⟩,_,_,rfl,⟨rfl,f1⟩,_,_,rfl,⟨rfl,f2⟩,_,_,rfl,⟨rfl,f3⟩,_,_,rfl,⟨rfl,f4⟩,_,_,rfl,⟨rfl,f5⟩,_,_,rfl,⟨rfl,f6⟩,_,_,rfl,⟨rfl,f7⟩,_,_,rfl,⟨rfl,f8⟩,_,_,rfl,⟨rfl,f9⟩,_,_,rfl,⟨rfl,f10⟩,_,_,rfl,⟨rfl,f11⟩,rfl,f12⟩:=hr;exact⟨hcs,Br7 ⟨f0,f1,f2,f3,f4,f5,f6,f7,f8,f9,f10,f11,f12⟩⟩
 refine⟨sb,so,cap,by simpa using e1,hlt,?_,?_⟩
 ·intro r hr
  obtain⟨i,hi⟩:=List.getElem?_of_mem hr;obtain⟨n,s0,s1,s2,s3,s4,s5,s6,s7,s8,s9,s10,s11⟩:=r;exact (key i n s0 s1 s2 s3 s4 s5 s6 s7 s8 s9 s10 s11 hi).2
 ·intro i n s0 s1 s2 s3 s4 s5 s6 s7 s8 s9 s10 s11 hi
  have h1:=Dy7 rfl (key i n s0 s1 s2 s3 s4 s5 s6 s7 s8 s9 s10 s11 hi).1;exact⟨cell_of hc (h1 0 (by decide)),cell_of hc (h1 1 (by decide)),cell_of hc (h1 2 (by decide)),cell_of hc (h1 3 (by decide)),cell_of hc (h1 4 (by decide)),cell_of hc (h1 5 (by decide)),cell_of hc (h1 6 (by decide)),cell_of hc (h1 7 (by decide)),cell_of hc (h1 8 (by decide)),cell_of hc (h1 9 (by decide)),cell_of hc (h1 10 (by decide)),cell_of hc (h1 11 (by decide)),cell_of hc (h1 12 (by decide))⟩
theorem Dy8 {ow:Nat→A1}{w w':World}{v:Value}{l:List RtD}(h:w'.ownsRow w.heap.size 195 13 v l.length (l.flatMap E6))(hf:∀x∈l,A6 x):
  Rep (Z7 ow w.heap.size w'.heap.size) w' (.slice (.agg RtT)) l [v]:=by
 obtain⟨h1,h2⟩:=h;rcases h2 with⟨rfl,h3⟩|⟨g,cap,cur,rfl,h3,h4,h5,h6,h7,h8⟩
 ·have:l=[]:=List.eq_nil_of_length_eq_zero h3
  subst this;exact⟨none,0,rfl,⟨by simp,by simp⟩,fun h=>absurd rfl h⟩
 ·have hm:l.length≤9223372036854775807:=by unfold maxLen at h6;omega
  refine⟨some ⟨g,0,none⟩,cap,rfl,⟨by omega,by omega⟩,fun _=>⟨g,0,cur,195,(0,0),rfl,?_,h4,?_⟩⟩
  ·have hlt:g<w'.heap.size:=by
    rw[Array.getElem?_eq_some_iff] at h4;exact h4.1
   exact L3 (Bk1 h3 hlt)
  ·intro i x hx
   have hil:i<l.length:=by rw[List.getElem?_eq_some_iff] at hx;exact hx.1
   have hxm:x∈l:=List.mem_of_getElem? hx;obtain⟨cs,hcs,hrep⟩:=hf x hxm (Z7 ow w.heap.size w'.heap.size) w';have hcs':cs=E2 x:=by injection hcs with h0;exact h0.symm
   rw[hcs'] at hrep;have e:(cur.toList.drop (0+i*13)).take 13=(E2 x).toList:=by
    apply List.ext_getElem?;intro j;by_cases hj:j<13
    ·rw[FL2,if_pos hj,FL4,Nat.zero_add]
     have e1:=BO0 l i j x hx hj;have hlt:i*13+j<l.length*13:=by omega
     rw[← h8,FL2,if_pos hlt] at e1;exact e1
    ·rw[FL3 (by rw[List.length_take];omega),FL3 (by have:=AU1 x;unfold E6 at this;omega)]
   show Rep _ _ (.agg RtT) x ((cur.toList.drop (0+i*13)).take 13);rw[e];exact hrep
theorem Dy9 {t:TkD}{p:Int×Int}:∀(k:Nat) (r:RtD) (en:Int) (le le':List RtD×Int),C9 k t p r en le=some le'→(le.2=0∨le.2=13)→(le'.2=0∨le'.2=13):=by
 intro k
 induction k with
 |zero=>intro r en le le' h;rw[C9] at h;cases h
 |succ k ih=>
  intro r en le le' h hl;rw[C9] at h;split at h
  ·rename_i hc
   split at h
   ·obtain rfl:=Option.some.inj h;exact hl
   ·split at h
    ·obtain rfl:=Option.some.inj h
     simp only;split
     ·split
      ·exact .inr rfl
      ·exact .inl rfl
     ·split
      ·exact .inr rfl
      ·exact .inl rfl
    ·split at h
     ·obtain rfl:=Option.some.inj h;exact .inr rfl
     ·refine Bs0 (P:=fun b=>b.2=0∨b.2=13) _ _ _ h hl ?_
      intro c a c' hF hcl;split at hF
      ·exact ih _ _ _ _ hF hcl
      ·cases hF
  ·cases h
def AN3 (s:M6)(t:TkD):Bool:= !s.2.isEmpty&&(!t.1.isEmpty&&(decide (s.2.length≤1000000)&&(decide (t.1.length≤1000000)&&t.1.all fun x=>decide (x.2.2.length≤1000000))))
noncomputable def AG8 [LP](s:M6)(t:TkD)(p:Int×Int):Option (M6×Int):=
 if p.1≤p.2 then
  if p.1<wrap64 (-s.1) then some ((0,[]),40)
  else if AN3 s t=true then
   (s.2.foldlM (fun (le:List RtD×Int) (r:RtD)=>(S5 s t r).bind fun en=>C9 13 t p r en le) ([],0)).bind fun le=>
    if le.1.length<1000000 then some (L8 s.1 le.1 le.2) else none
  else none
 else some ((0,[]),40)
noncomputable def BO5:Con:={f:=115,ps:=[.dat (.agg V6),.dat (.agg TkT),.dat (.agg SpT)],boxes:=[],ins:=.pair (.agg V6) (.pair (.agg TkT) (.agg SpT)),nin:=3,outs:=.pair (.agg V6) (.int .i64),rs:=[.dat (.agg V6),.dat (.int .i64)],A2:=2,F:=fun x=>AG8 x.1 x.2.1 x.2.2}
theorem Bu3 {ow:Nat→A1}{bx:Bx}{w:World}{e1 e2:EV}{v1 v2:Value}(h1:A0 ow bx w e1 v1)(h2:A0 ow bx w e2 v2):A0 ow bx w (.tup [e1,e2]) (.tuple #[v1,v2]):=by
 refine .tup rfl fun i e v he hv=> ?_
 match i,he,hv with
 |0,he,hv=>
  obtain rfl:=Option.some.inj he;obtain rfl:=Option.some.inj hv;exact h1
 |1,he,hv=>
  obtain rfl:=Option.some.inj he;obtain rfl:=Option.some.inj hv;exact h2
 |i+2,he,hv=>cases he
theorem Dz0:M4 Tryz.prog BO5:=by
 refine BL8 ⟨Tryz.f115,Tryz.func115,by kernel_rfl,by kernel_rfl⟩ rfl ?_
 intro x y hF w ow bx args hg here hR;obtain⟨⟨frm,sl⟩,t,⟨lo,hi⟩⟩:=x;obtain⟨hl,hv⟩:=hR;have hsz:args.size=3:=hl.symm;obtain⟨a,b,c,rfl⟩:∃a b c,args=#[a,b,c]:=by
  obtain⟨l⟩:=args
  match l,hsz with
  | [a,b,c],_=>exact ⟨a,b,c,rfl⟩
 have h0:A0 ow bx w (.dat (.agg V6) ((frm,sl):M6)) a:=hv 0 _ a rfl rfl;have h1:A0 ow bx w (.dat (.agg TkT) t) b:=hv 1 _ b rfl rfl;have h2:A0 ow bx w (.dat (.agg SpT) ((lo,hi):Int×Int)) c:=hv 2 _ c rfl rfl;have h0':C7 ow w (.agg V6) ((frm,sl):M6) a:=by cases h0;assumption
 have h1':C7 ow w (.agg TkT) t b:=by cases h1;assumption
 have h2':C7 ow w (.agg SpT) ((lo,hi):Int×Int) c:=by cases h2;assumption
 clear h0 h1 h2 hv hl hsz;have hS:=h0';have hT:=h1';obtain⟨cs,rfl,c1,c2,hc,⟨rfl,ff⟩,hsl⟩:=h0';obtain⟨ds,rfl,d1,d2,hd,htl,hgl⟩:=h1';obtain⟨es,rfl,e1,e2,he,⟨rfl,fl⟩,⟨rfl,fh⟩⟩:=h2';have hsl0:=hsl;have htl0:=htl;obtain⟨sa,sc,rfl,_,_⟩:=hsl;obtain⟨ta,tc,rfl,_,_⟩:=htl;obtain⟨ga,gc,rfl,_,_⟩:=hgl;obtain rfl:cs=#[.int .i64 frm,.slice sa sl.length sc]:=FL6 hc;obtain rfl:ds=#[.slice ta t.1.length tc,.slice ga t.2.length gc]:=FL6 hd
 obtain rfl:es=#[.int .i64 lo,.int .i64 hi]:=FL6 he;have hF':AG8 (frm,sl) t (lo,hi)=some y:=hF;have lost:y=((0,[]),40)→(¬lo≤hi∨lo<wrap64 (-frm))→Calls Tryz.prog 115 #[.agg #[.int .i64 frm,.slice sa sl.length sc],.agg #[.slice ta t.1.length tc,.slice ga t.2.length gc],.agg #[.int .i64 lo,.int .i64 hi]] w fun e w'=>∃v,e = .returned v∧Below w.heap.size w w'∧A0 (Z7 ow w.heap.size w'.heap.size) bx w' (BO5.res y) v:=by
  rintro rfl hc
  refine (Dy6 frm lo hi sa sl.length sc _ _ w hc).mono ?_
  rintro e w' ⟨hb,rfl⟩
  refine⟨_,rfl,hb,?_⟩;refine Bu3 (.dat ⟨_,rfl,[.int .i64 0],[.slice none 0 0],rfl,⟨rfl,by decide⟩,none,0,rfl,⟨by simp,by simp⟩,fun h=>absurd rfl h⟩) (.dat ⟨rfl,by decide⟩)
 unfold AG8 at hF';simp only at hF';by_cases p1:lo≤hi
 ·rw[if_pos p1] at hF'
  by_cases p2:lo<wrap64 (-frm)
  ·rw[if_pos p2] at hF'
   exact lost (Option.some.inj hF').symm (.inr p2)
  ·rw[if_neg p2] at hF'
   by_cases p3:AN3 (frm,sl) t=true
   ·rw[if_pos p3] at hF'
    cases hle:sl.foldlM (fun (le:List RtD×Int) (r:RtD)=>(S5 (frm,sl) t r).bind fun en=>C9 13 t (lo,hi) r en le) ([],0) with
    |none=>rw [hle] at hF';cases hF'
    |some le'=>
     rw[hle] at hF';simp only[FL5] at hF';split at hF'
     ·rename_i hlim
      obtain rfl:=Option.some.inj hF';simp only[AN3,Bool.and_eq_true,Bool.not_eq_true',decide_eq_true_eq,List.all_eq_true,List.isEmpty_eq_false_iff] at p3;obtain⟨q1,q2,q3,q4,q5⟩:=p3;obtain⟨sb,so,sc',hsv,hsb,hfits,hcells⟩:=Bu2 here hsl0 q1;obtain⟨bs,os,tcs,htv,hTk⟩:=Bs6 here (by omega) (fun x hx=>by have:=q5 x hx;omega) htl0 q2
      simp only[Value.slice.injEq,true_and] at hsv;obtain⟨rfl,rfl⟩:=hsv;have hmem:(∀x∈le'.1,A6 x)∧(le'.2=0∨le'.2=13):=by
       have hk:∀(l:List RtD) (b b':List RtD×Int),(∀r∈l,A6 r)→l.foldlM (fun (le:List RtD×Int) (r:RtD)=>(S5 (frm,sl) t r).bind fun en=>C9 13 t (lo,hi) r en le) b=some b'→((∀x∈b.1,A6 x)∧(b.2=0∨b.2=13))→((∀x∈b'.1,A6 x)∧(b'.2=0∨b'.2=13)):=by
        intro l
        induction l with
        |nil=>intro b b' _ h hb;obtain rfl:=Option.some.inj h;exact hb
        |cons a l ih=>
         intro b b' hl h hb;obtain⟨c,hc,h2⟩:=Ab4 h;cases hy:S5 (frm,sl) t a with
         |none=>rw [hy] at hc;cases hc
         |some y0=>
          rw[hy] at hc;simp only[FL5] at hc;exact ih c b' (fun r hr=>hl r (by simp[hr])) h2 ⟨BN8 (by omega) 13 _ _ _ _ hc (hl a (by simp)) hb.1,Dy9 13 _ _ _ _ hc hb.2⟩
       exact hk sl _ _ hfits hle ⟨fun x hx=>absurd hx (by simp),.inl rfl⟩
      refine (Dy5 frm lo hi sl _ _ sb so sc w p1 p2 hsb q3 here hS hT htv hTk hfits (by omega) hlim hle hcells).mono ?_
      rintro e w' ⟨hb,v',hown,rfl⟩
      refine⟨_,rfl,hb,?_⟩;have hfa:∀x∈(L8 frm le'.1 le'.2).1.2,A6 x:=by
       unfold L8;split
       ·intro x hx;exact absurd hx (by simp)
       ·split
        ·intro x hx;exact absurd hx (by simp)
        ·intro x hx
         exact hmem.1 x (Bt1.1 hx)
      have hff:fits .i64 (L8 frm le'.1 le'.2).1.1=true∧fits .i64 (L8 frm le'.1 le'.2).2=true:=by
       unfold L8;split
       ·refine⟨(by decide:fits .i64 0=true),?_⟩
        show fits .i64 le'.2=true;rcases hmem.2 with h0 | h0 <;> rw[h0] <;> decide
       ·split
        ·exact⟨(by decide:fits .i64 0=true),(by decide:fits .i64 40=true)⟩
        ·exact⟨ff,(by decide:fits .i64 0=true)⟩
      exact Bu3 (.dat ⟨_,rfl,[.int .i64 _],[v'],rfl,⟨rfl,hff.1⟩,Dy8 hown hfa⟩) (.dat ⟨rfl,hff.2⟩)
     ·cases hF'
   ·rw[if_neg p3] at hF'
    cases hF'
 ·rw[if_neg p1] at hF'
  exact lost (Option.some.inj hF').symm (.inl p1)
end Go.Proofs.YthfjpkdadjemcaaGreat
