/- Places of a group: the whole. -/
import Derived.Test.YthfjpkdadjemcaaGreatPlcB
set_option linter.unusedSimpArgs false
set_option linter.unusedVariables false
namespace Go.Proofs.YthfjpkdadjemcaaGreat
open Go.RowKit
open _root_.Nat renaming lt_of_lt_of_le → FM6, le_trans → FM7
set_option maxRecDepth 100000 in
theorem Dz5 (frm:Int)(sa:Option Addr)(sn sc:Nat)(tv:Value)(gp:Option Addr)(gn gc:Nat)(g:Int)(w:World)(h:g<0∨(gn:Int)≤g):
  Calls Tryz.prog 162 #[.agg #[.int .i64 frm,.slice sa sn sc],.agg #[tv,.slice gp gn gc],.int .i64 g] w fun e w'=>e = .returned (.slice none 0 0)∧Below w.heap.size w w':=by
 rcases Classical.em (g<0) with h0 | h0
 ·clear h
  go_enter Tryz.func162,Tryz.ntmps162
  go_wp2
  go_ret
  exact⟨rfl,by (repeat (first | exact Below.refl _ _ | assumption | refine Below.alloc ?_ (by (try simp[A9]) <;> omega) _ | refine Below.setCell ?_ (by (try simp[A9]) <;> omega) _ | refine S6 ?_ (by (try simp[A9]) <;> omega) _ | refine S7 ?_ (by (try simp[A9]) <;> omega) _ | refine Below.drew ?_))⟩
 ·have h1:¬g<(gn:Int):=by omega
  have h2:(gn:Int)≤g:=by omega
  clear h
  go_enter Tryz.func162,Tryz.ntmps162
  go_wp2
  go_ret
  exact⟨rfl,by (repeat (first | exact Below.refl _ _ | assumption | refine Below.alloc ?_ (by (try simp[A9]) <;> omega) _ | refine Below.setCell ?_ (by (try simp[A9]) <;> omega) _ | refine S6 ?_ (by (try simp[A9]) <;> omega) _ | refine S7 ?_ (by (try simp[A9]) <;> omega) _ | refine Below.drew ?_))⟩
theorem Dz6 {w:World}{B B':Nat}{T:TypeId}{s:Nat}{v:Value}{n:Nat}{xs:List Value}(h:w.ownsRow B T s v n xs)(hb:B'≤B):w.ownsRow B' T s v n xs:=by
 refine⟨h.1,?_⟩;rcases h.2 with h0 |⟨g,cap,cur,e1,e2,e3⟩
 ·exact .inl h0
 ·exact .inr ⟨g,cap,cur,e1,FM7 hb e2,e3⟩
theorem Dz7 {w0 w:World}{O base:Nat}{ys:List Int}{v:Value}(h:l9 w0 O base ys v w)(hl:ys.length<1000000):
  Calls Tryz.prog 176 #[v] w fun e w'=>e = .returned (.tuple #[])∧w'.cell? ⟨O,0,none⟩=some v∧Hid (l9 w0 O base (N1 ys) v w'):=by
 have hlen:(N1 ys).length=ys.length:=by unfold N1;simp
 refine (Dw8 h.own (by omega)).mono ?_
 rintro e w' ⟨rfl,hown,hg⟩
 have hO:some O≠v.ownBlock:=AN4 h.own (by have:=h.low;have:=h.bs.1;omega)
 have hO':w'.heap[O]? = some (.cells #[v] 90 (0,0)):=by
  rw[hg.block O (by have:=h.low;have:=h.size;omega) hO]
  exact h.o
 refine⟨rfl,U3 hO' rfl,⟨hg.os.trans h.os,hg.tape.trans h.tape,hg.output.trans h.output,FM7 h.size hg.size,fun k hk hkO=> ?_,h.low,⟨h.bs.1,FM7 h.bs.2 hg.size⟩,hO',by rw[hlen];exact hown⟩⟩
 rw[hg.block k (FM6 hk h.size) (AN4 h.own (FM6 hk h.bs.1))];exact h.block k hk hkO
theorem Dz8 {w0 w:World}{O base:Nat}{ys:List Int}{v:Value}(h:l9 w0 O base ys v w):
  Calls Tryz.prog 177 #[v] w fun e w'=>∃v',e = .returned v'∧Hid (w'.ownsRow base 2 1 v' (O6 ys).length ((O6 ys).map (Value.int .i64))∧w'.os=w0.os∧w'.tape=w0.tape∧w'.output=w0.output∧w0.heap.size≤w'.heap.size∧∀k,k<w0.heap.size→k≠O→w'.heap[k]? = w0.heap[k]?):=by
 refine (Dx0 h.own).mono ?_
 rintro e w' ⟨v',rfl,hown,hg⟩
 refine⟨v',rfl,hown,hg.os.trans h.os,hg.tape.trans h.tape,hg.output.trans h.output,FM7 h.size hg.size,fun k hk hkO=> ?_⟩
 rw[hg.block k (FM6 hk h.size) (AN4 h.own (FM6 hk h.bs.1))];exact h.block k hk hkO
set_option maxRecDepth 100000 in
set_option maxHeartbeats 600000 in
theorem Dz9 (frm:Int)(sl:List RtD)(tv:Value)(gb go gn gc:Nat)(g:Int)(x0 seg off x3 x4:Int)(sb so sc:Nat)(w:World){t:TkD}{bs os cs:Nat}{na:Nat→Nat×Nat}{nn:Nat→Option Addr}{nc:Nat→Nat}{ys:List Int}(htv:tv = .slice (some ⟨bs,os,none⟩) t.1.length cs)(hT:X8 w w.heap.size t bs os na nn nc)(hsb:sb<w.heap.size)(hgb:gb<w.heap.size)(hsl:sl.length≤1000000)(hys:ys.length<1000000)
  (g0:0≤g) (g1:g<(gn:Int)) (x0c:w.cell? ⟨gb,go+g.toNat*5,none⟩=some (.int .i64 x0)) (x1c:w.cell? ⟨gb,go+g.toNat*5+1,none⟩=some (.int .i64 seg)) (x2c:w.cell? ⟨gb,go+g.toNat*5+2,none⟩=some (.int .i64 off)) (x3c:w.cell? ⟨gb,go+g.toNat*5+3,none⟩=some (.int .i64 x3)) (x4c:w.cell? ⟨gb,go+g.toNat*5+4,none⟩=some (.int .i64 x4)) (h:AD0 t frm seg off sl []=some ys)
  (hcells:∀i n s0 s1 s2 s3 s4 s5 s6 s7 s8 s9 s10 s11,sl[i]? = some (n,s0,s1,s2,s3,s4,s5,s6,s7,s8,s9,s10,s11)→w.cell? ⟨sb,so+i*13,none⟩=some (.int .i64 n)∧w.cell? ⟨sb,so+i*13+1,none⟩=some (.int .i64 s0)∧w.cell? ⟨sb,so+i*13+2,none⟩=some (.int .i64 s1)∧w.cell? ⟨sb,so+i*13+3,none⟩=some (.int .i64 s2)∧w.cell? ⟨sb,so+i*13+4,none⟩=some (.int .i64 s3)∧w.cell? ⟨sb,so+i*13+5,none⟩=some (.int .i64 s4)∧w.cell? ⟨sb,so+i*13+6,none⟩=some (.int .i64 s5)∧w.cell? ⟨sb,so+i*13+7,none⟩=some (.int .i64 s6)∧w.cell? ⟨sb,so+i*13+8,none⟩=some (.int .i64 s7)∧w.cell? ⟨sb,so+i*13+9,none⟩=some (.int .i64 s8)∧w.cell? ⟨sb,so+i*13+10,none⟩=some (.int .i64 s9)∧w.cell? ⟨sb,so+i*13+11,none⟩=some (.int .i64 s10)∧w.cell? ⟨sb,so+i*13+12,none⟩=some (.int .i64 s11)):
  Calls Tryz.prog 162 #[.agg #[.int .i64 frm,.slice (some ⟨sb,so,none⟩) sl.length sc],.agg #[tv,.slice (some ⟨gb,go,none⟩) gn gc],.int .i64 g] w fun e w'=>∃v',e = .returned v'∧Below w.heap.size w w'∧w'.ownsRow w.heap.size 2 1 v' (O6 (N1 ys)).length ((O6 (N1 ys)).map (Value.int .i64)):=by
 have heach:Calls Tryz.prog 169 #[.agg #[.int .i64 frm,.slice (some ⟨sb,so,none⟩) sl.length sc],.agg #[tv,.slice (some ⟨gb,go,none⟩) gn gc],.func (.func 175) #[] #[.pointer (some ⟨w.heap.size+1+1+1,0,none⟩),.pointer (some ⟨w.heap.size+1+1,0,none⟩)]]
   ((((w.alloc (.cells #[.int .i64 frm,.slice (some ⟨sb,so,none⟩) sl.length sc] 111)).alloc (.cells #[tv,.slice (some ⟨gb,go,none⟩) gn gc] 100)).alloc (.cells #[.slice none 0 0] 90)).alloc (.cells #[.int .i64 x0,.int .i64 seg,.int .i64 off,.int .i64 x3,.int .i64 x4] 160)) fun e w'=>e = .returned (.tuple #[])∧∃v',w'.cell? ⟨w.heap.size+1+1,0,none⟩=some v'∧Hid (l9 ((((w.alloc (.cells #[.int .i64 frm,.slice (some ⟨sb,so,none⟩) sl.length sc] 111)).alloc (.cells #[tv,.slice (some ⟨gb,go,none⟩) gn gc] 100)).alloc (.cells #[.slice none 0 0] 90)).alloc (.cells #[.int .i64 x0,.int .i64 seg,.int .i64 off,.int .i64 x3,.int .i64 x4] 160)) (w.heap.size+1+1) (w.heap.size+1+1+1+1+2) ys v' w'):=by
  have hsz:((((w.alloc (.cells #[.int .i64 frm,.slice (some ⟨sb,so,none⟩) sl.length sc] 111)).alloc (.cells #[tv,.slice (some ⟨gb,go,none⟩) gn gc] 100)).alloc (.cells #[.slice none 0 0] 90)).alloc (.cells #[.int .i64 x0,.int .i64 seg,.int .i64 off,.int .i64 x3,.int .i64 x4] 160)).heap.size=w.heap.size+1+1+1+1:=by rw[A4,A4,A4,A4]
  have hold:∀k,k<w.heap.size→((((w.alloc (.cells #[.int .i64 frm,.slice (some ⟨sb,so,none⟩) sl.length sc] 111)).alloc (.cells #[tv,.slice (some ⟨gb,go,none⟩) gn gc] 100)).alloc (.cells #[.slice none 0 0] 90)).alloc (.cells #[.int .i64 x0,.int .i64 seg,.int .i64 off,.int .i64 x3,.int .i64 x4] 160)).heap[k]? = w.heap[k]? := by intro k hk;rw[Below.heap_alloc _ _ _ (by rw[A4,A4,A4];omega),Below.heap_alloc _ _ _ (by rw[A4,A4];omega),Below.heap_alloc _ _ _ (by rw[A4];omega),Below.heap_alloc _ _ _ hk]
  have hXb:((((w.alloc (.cells #[.int .i64 frm,.slice (some ⟨sb,so,none⟩) sl.length sc] 111)).alloc (.cells #[tv,.slice (some ⟨gb,go,none⟩) gn gc] 100)).alloc (.cells #[.slice none 0 0] 90)).alloc (.cells #[.int .i64 x0,.int .i64 seg,.int .i64 off,.int .i64 x3,.int .i64 x4] 160)).heap[w.heap.size+1+1+1]? = some (.cells #[.int .i64 x0,.int .i64 seg,.int .i64 off,.int .i64 x3,.int .i64 x4] 160 (0,0)):=by have:=heap_alloc_new (((w.alloc (.cells #[.int .i64 frm,.slice (some ⟨sb,so,none⟩) sl.length sc] 111)).alloc (.cells #[tv,.slice (some ⟨gb,go,none⟩) gn gc] 100)).alloc (.cells #[.slice none 0 0] 90)) (.cells #[.int .i64 x0,.int .i64 seg,.int .i64 off,.int .i64 x3,.int .i64 x4] 160);rw[A4,A4,A4] at this;exact this
  have hOb:((((w.alloc (.cells #[.int .i64 frm,.slice (some ⟨sb,so,none⟩) sl.length sc] 111)).alloc (.cells #[tv,.slice (some ⟨gb,go,none⟩) gn gc] 100)).alloc (.cells #[.slice none 0 0] 90)).alloc (.cells #[.int .i64 x0,.int .i64 seg,.int .i64 off,.int .i64 x3,.int .i64 x4] 160)).heap[w.heap.size+1+1]? = some (.cells #[.slice none 0 0] 90 (0,0)):=by
   rw[Below.heap_alloc _ _ _ (by rw[A4,A4,A4];omega)]
   have:=heap_alloc_new ((w.alloc (.cells #[.int .i64 frm,.slice (some ⟨sb,so,none⟩) sl.length sc] 111)).alloc (.cells #[tv,.slice (some ⟨gb,go,none⟩) gn gc] 100)) (.cells #[.slice none 0 0] 90);rw[A4,A4] at this;exact this
  generalize ((((w.alloc (.cells #[.int .i64 frm,.slice (some ⟨sb,so,none⟩) sl.length sc] 111)).alloc (.cells #[tv,.slice (some ⟨gb,go,none⟩) gn gc] 100)).alloc (.cells #[.slice none 0 0] 90)).alloc (.cells #[.int .i64 x0,.int .i64 seg,.int .i64 off,.int .i64 x3,.int .i64 x4] 160))=W at hsz hold hXb hOb ⊢;have hkc:∀b i,b<w.heap.size→W.cell? ⟨b,i,none⟩=w.cell? ⟨b,i,none⟩:=fun b i hb=>World.cell?_of_block (w:=w) (hold b hb)
  refine (Dz4 frm seg off sl tv _ sb so sc (w.heap.size+1+1+1) (w.heap.size+1+1) w.heap.size W htv (hT.keep hkc) (by omega) (by omega) (by omega) (by omega) hsb hsl hys (U3 hXb rfl) (U3 hXb rfl) hOb h ?_).mono ?_
  ·intro i n s0 s1 s2 s3 s4 s5 s6 s7 s8 s9 s10 s11 hi
   simp only[hkc _ _ hsb];exact hcells i n s0 s1 s2 s3 s4 s5 s6 s7 s8 s9 s10 s11 hi
  ·rintro e w' ⟨rfl,v',hG⟩
   rw[hsz] at hG;exact⟨rfl,v',U3 hG.o rfl,hG⟩
 have hgl:ltS gb w.heap.size:=hgb;have hg2:¬(gn:Int)≤g:=by omega
 have hg3:¬g<0:=by omega
 clear htv hT hcells h
 go_enter Tryz.func162,Tryz.ntmps162
 go_wp2_with (go_at_call 169;(with_reducible refine heach.mono ?_);rintro e6 w6 ⟨rfl,v6,c6,HG⟩;have hsort:=Dz7 HG hys)
 go_wp2_with (go_at_call 176;(with_reducible refine hsort.mono ?_);rintro e7 w7 ⟨rfl,c7,HG7⟩;have honce:=Dz8 HG7)
 go_wp2_with (go_at_call 177;(with_reducible refine honce.mono ?_);rintro e8 w8 ⟨v8,rfl,HQ⟩)
 go_ret
 obtain⟨q1,q2,q3,q4,q5,q6⟩:=HQ;refine⟨v8,rfl,⟨q2,q3,q4,?_,fun k hk=> ?_⟩,Dz6 q1 (by omega)⟩
 ·rw[A4,A4,A4,A4] at q5
  omega
 ·rw[q6 k (by rw[A4,A4,A4,A4];omega) (by omega),Below.heap_alloc _ _ _ (by rw[A4,A4,A4];omega),Below.heap_alloc _ _ _ (by rw[A4,A4];omega),Below.heap_alloc _ _ _ (by rw[A4];omega),Below.heap_alloc _ _ _ hk]
noncomputable def Ab9 (s:M6)(t:TkD)(g:Int):Option (List Int):=
 if 0≤g∧g<(t.2.length:Int) then
  if AN3 s t=true then
   (AD0 t s.1 (t.2.getD g.toNat (0,0,0,0,0)).2.1 (t.2.getD g.toNat (0,0,0,0,0)).2.2.1 s.2 []).bind fun ys=>
    if ys.length<1000000 then some (O6 (N1 ys)) else none
  else none
 else some []
noncomputable def Bu5:Con:={f:=162,ps:=[.dat (.agg V6),.dat (.agg TkT),.dat (.int .i64)],boxes:=[],ins:=.pair (.agg V6) (.pair (.agg TkT) (.int .i64)),nin:=3,outs:=.slice (.int .i64),rs:=[.dat (.slice (.int .i64))],A2:=1,F:=fun x=>Ab9 x.1 x.2.1 x.2.2}
theorem EA0 {l:List Value}{k:Nat}{q:List Value}(hq:q.length=5)(h:(l.drop k).take 5=q):∀j,j<5→l[k+j]? = q[j]? := by intro j hj;rw[← h,List.getElem?_take,if_pos hj,List.getElem?_drop]
theorem EA1 (x:Int):fits .i64 (wrap64 x)=true:=by
 have e:IntKind.i64.wrap x=wrap64 x:=by rw[IntKind.wrap_i64];unfold wrap64;rfl
 rw[← e];exact X2 .i64 x
theorem Bu6 {t:TkD}{seg off:Int}:∀(ps:List Int) (a:Int) (xs ys:List Int),Q9 t seg off ps a xs=some ys→(∀x∈xs,fits .i64 x=true)→∀x∈ys,fits .i64 x=true
 | [],a,xs,ys,h,hx=>by rw[Q9] at h;rw[← Option.some.inj h];exact hx
 |i::ps,a,xs,ys,h,hx=>by
  rw[Q9] at h;split at h
  ·refine Bu6 ps _ _ _ h ?_
   split
   ·intro x hm
    rcases List.mem_append.1 hm with h1 | h1
    ·exact hx x h1
    ·simp at h1
     subst h1;exact EA1 _
   ·exact hx
  ·cases h
theorem Bu7 {t:TkD}{frm seg off:Int}:∀(rs:List RtD) (xs ys:List Int),AD0 t frm seg off rs xs=some ys→(∀x∈xs,fits .i64 x=true)→∀x∈ys,fits .i64 x=true
 | [],xs,ys,h,hx=>by rw[← Option.some.inj h];exact hx
 |r::rs,xs,ys,h,hx=>by obtain⟨c,h1,h2⟩:=Ab4 h;exact Bu7 rs c ys h2 (Bu6 _ _ _ _ h1 hx)
theorem EA2 {xs:List Int}{x:Int}(h:x∈O6 xs):x∈xs:=by
 unfold O6 Go.Lib.compactUpTo at h;rw[List.mem_map] at h;obtain⟨i,hi,rfl⟩:=h;have hi2:=(List.mem_filter.1 hi).1;rw[List.mem_range] at hi2;have hi3:i<xs.length:=by simpa using hi2
 rw[getElem!_pos _ i hi2];simp
theorem EA3:M4 Tryz.prog Bu5:=by
 refine BL8 ⟨Tryz.f162,Tryz.func162,by kernel_rfl,by kernel_rfl⟩ rfl ?_
 intro x y hF w ow bx args hg here hR;obtain⟨⟨frm,sl⟩,t,g⟩:=x;obtain⟨hl,hv⟩:=hR;have hsz:args.size=3:=hl.symm;obtain⟨a,b,c,rfl⟩:∃a b c,args=#[a,b,c]:=by
  obtain⟨l⟩:=args
  match l,hsz with
  | [a,b,c],_=>exact ⟨a,b,c,rfl⟩
 have h0:A0 ow bx w (.dat (.agg V6) ((frm,sl):M6)) a:=hv 0 _ a rfl rfl;have h1:A0 ow bx w (.dat (.agg TkT) t) b:=hv 1 _ b rfl rfl;have h2:A0 ow bx w (.dat (.int .i64) g) c:=hv 2 _ c rfl rfl;have h0':C7 ow w (.agg V6) ((frm,sl):M6) a:=by cases h0;assumption
 have h1':C7 ow w (.agg TkT) t b:=by cases h1;assumption
 have h2':C7 ow w (.int .i64) g c:=by cases h2;assumption
 clear h0 h1 h2 hv hl hsz;obtain⟨cs,rfl,c1,c2,hc,⟨rfl,ff⟩,hsl⟩:=h0';obtain⟨ds,rfl,d1,d2,hd,htl,hgl⟩:=h1';obtain⟨hc3,fg⟩:=h2';simp only[List.cons.injEq,and_true] at hc3;subst hc3;have hsl0:=hsl;have htl0:=htl;have hgl0:=hgl;obtain⟨sa,sc,rfl,_,_⟩:=hsl;obtain⟨ta,tc,rfl,_,_⟩:=htl;obtain⟨ga,gc,rfl,_,hgr⟩:=hgl;obtain rfl:cs=#[.int .i64 frm,.slice sa sl.length sc]:=Array.ext' hc;obtain rfl:ds=#[.slice ta t.1.length tc,.slice ga t.2.length gc]:=Array.ext' hd
 have hF':Ab9 (frm,sl) t g=some y:=hF;unfold Ab9 at hF';simp only at hF';obtain⟨g1,hg1⟩:∃g1:Int,g1=g:=⟨g,rfl⟩;subst hg1;by_cases p1:0≤g1∧g1<(t.2.length:Int)
 ·rw[if_pos p1] at hF'
  by_cases p3:AN3 (frm,sl) t=true
  ·rw[if_pos p3] at hF'
   have hi:g1.toNat<t.2.length:=by omega
   have hne:t.2≠[]:=by intro h0;rw[h0] at hi;exact absurd hi (by simp)
   obtain⟨gb,go,cg,T,fz,rfl,hrig,hcg,hel⟩:=hgr hne;have hlt:gb<w.heap.size:=by
    refine here gb fun h0=> ?_
    unfold A5 at hrig;rw[h0] at hrig;exact hrig
   have hx:t.2[g1.toNat]? = some (t.2.getD g1.toNat (0,0,0,0,0)):=by simp[List.getD,hi]
   have hr:=hel _ _ hx;generalize t.2.getD g1.toNat (0,0,0,0,0)=x at hr hF';obtain⟨x0,seg,off,x3,x4⟩:=x;obtain⟨_,_,hcs,⟨rfl,f0⟩,_,_,rfl,⟨rfl,f1⟩,_,_,rfl,⟨rfl,f2⟩,_,_,rfl,⟨rfl,f3⟩,rfl,f4⟩:=hr;have h5:=EA0 rfl hcs;simp only at hF';cases hys:AD0 t frm seg off sl [] with
   |none=>rw [hys] at hF';cases hF'
   |some ys=>
    rw[hys] at hF';simp only[Option.bind_some] at hF';split at hF'
    ·rename_i hlim
     obtain rfl:=Option.some.inj hF';simp only[AN3,Bool.and_eq_true,Bool.not_eq_true',decide_eq_true_eq,List.all_eq_true,List.isEmpty_eq_false_iff] at p3;obtain⟨q1,q2,q3,q4,q5⟩:=p3;obtain⟨sb,so,sc',hsv,hsb,hfits,hcells⟩:=Bu2 here hsl0 q1;obtain⟨bs,os,tcs,htv,hTk⟩:=Bs6 here (by omega) (fun x hx=>by have:=q5 x hx;omega) htl0 q2
     simp only[Value.slice.injEq,true_and] at hsv;obtain⟨rfl,rfl⟩:=hsv;refine (Dz9 frm sl _ gb go t.2.length gc g1 x0 seg off x3 x4 sb so sc w htv hTk hsb hlt q3 hlim p1.1 p1.2 (cell_of hcg (h5 0 (by decide))) (cell_of hcg (h5 1 (by decide))) (cell_of hcg (h5 2 (by decide))) (cell_of hcg (h5 3 (by decide))) (cell_of hcg (h5 4 (by decide))) hys hcells).mono ?_
     rintro e w' ⟨v',rfl,hb,hown⟩
     refine⟨v',rfl,hb,.dat (Bk4 hown rfl ?_)⟩;intro z hz;have hz2:z∈N1 ys:=EA2 hz;unfold N1 at hz2;rw[List.mem_mergeSort] at hz2;exact Bu7 _ _ _ hys (fun x hx=>absurd hx (by simp)) z hz2
    ·cases hF'
  ·rw[if_neg p3] at hF'
   cases hF'
 ·rw[if_neg p1] at hF'
  obtain rfl:=Option.some.inj hF';refine (Dz5 frm sa sl.length sc _ ga t.2.length gc g1 w (by omega)).mono ?_
  rintro e w' ⟨rfl,hb⟩
  exact⟨_,rfl,hb,.dat ⟨none,0,rfl,⟨by simp,by simp⟩,fun h=>absurd rfl h⟩⟩
end Go.Proofs.YthfjpkdadjemcaaGreat
