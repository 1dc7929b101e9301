/- Ways that grow: the state of a search. -/
import Derived.Test.YthfjpkdadjemcaaGreatMapF
set_option linter.unusedSimpArgs false
set_option linter.unusedVariables false
namespace Go.Proofs.YthfjpkdadjemcaaGreat
open Go.RowKit
open _root_.Array renaming getElem?_modify → FF4, ext_getElem? → FF5, getElem?_setIfInBounds → FF6, getElem?_push → FF7
theorem Am0 {w:World}{M:Nat}{l:List RtD}{x:N0}(h:M<w.heap.size):B0 (more w x) M l=more (B0 w M l) x:=by unfold B0 more;simp only;rw[Array.modify_append_left _ _ _ _ h]
theorem Am1 {w:World}{M:Nat}{l:List RtD}{o:Obj}(h:M<w.heap.size):B0 (w.alloc o) M l=(B0 w M l).alloc o:=by
 have e:(w.alloc o)={w with heap:=w.heap.push o}:=rfl;have e2:(B0 w M l).alloc o={B0 w M l with heap:=(B0 w M l).heap.push o}:=rfl;rw[e,e2];unfold B0;simp only;congr 1;apply FF5;intro j;rw[FF4,FF7,FF7,Array.size_modify,FF4];by_cases hj:M=j
 ·subst hj
  rw[if_pos rfl,if_neg (by omega),if_neg (by omega),if_pos rfl]
 ·rw[if_neg hj,if_neg hj]
theorem Br2 {w:World}{M:Nat}{l:List RtD}(a:Addr)(v:Value):B0 (w.setCell a v) M l=(B0 w M l).setCell a v:=by
 unfold B0 World.setCell;simp only;congr 1;apply FF5;intro j;rw[FF4,FF4,FF4,FF4];by_cases h1:M=j
 ·by_cases h2:a.block=j
  ·rw[if_pos h1,if_pos h2,if_pos h2,if_pos h1]
   cases w.heap[j]? with
   |none=>rfl
   |some o=>cases o <;> rfl
  ·rw[if_pos h1,if_neg h2,if_neg h2,if_pos h1]
 ·rw[if_neg h1,if_neg h1]
theorem Br3 {w:World}{M:Nat}{l l':List RtD}:B0 (B0 w M l) M l'=B0 w M l':=by
 unfold B0;simp only;congr 1;apply FF5;intro j;rw[FF4,FF4,FF4];by_cases h1:M=j
 ·rw[if_pos h1,if_pos h1,if_pos h1]
  cases w.heap[j]? with
  |none=>rfl
  |some o=>cases o <;> rfl
 ·rw[if_neg h1,if_neg h1,if_neg h1]
theorem Br4 {w:World}(a:Addr)(v v':Value):(w.setCell a v).setCell a v'=w.setCell a v':=by
 unfold World.setCell;simp only;congr 1;apply FF5;intro j;rw[FF4,FF4,FF4];by_cases h1:a.block=j
 ·rw[if_pos h1,if_pos h1,if_pos h1]
  cases w.heap[j]? with
  |none=>rfl
  |some o=>
   cases o <;> simp
   split
   ·rfl
   ·rw[Array.setIfInBounds_setIfInBounds]
 ·rw[if_neg h1,if_neg h1,if_neg h1]
theorem AM9 {w:World}{a:Addr}{v:Value}(h:w.cell? a=some v):w.setCell a v=w:=by
 have e:(w.setCell a v).heap=w.heap:=by
  unfold World.setCell;simp only;apply FF5;intro j;rw[FF4];by_cases h1:a.block=j
  ·rw[if_pos h1]
   unfold World.cell? at h;rw[h1] at h;cases hw:w.heap[j]? with
   |none=>rfl
   |some o=>
    rw[hw] at h;cases o <;> simp at h ⊢
    obtain⟨h2,h3⟩:=h;intro _;apply FF5;intro q;rw[FF6];by_cases hq:a.off=q
    ·subst hq
     rw[if_pos rfl,h3];split
     ·rfl
     ·rename_i hn
      rw[Array.getElem?_eq_none (by omega)] at h3
      cases h3
    ·rw[if_neg hq]
  ·rw[if_neg h1]
 have e2:w.setCell a v={w with heap:=(w.setCell a v).heap}:=rfl;rw[e2,e]
def F3 (t:TkD)(i:Int):List Int:=(t.1.getD i.toNat (0,[],[])).2.2
def lenOf (t:TkD)(i:Int):Int:=(t.1.getD i.toNat (0,[],[])).1
def O4 (r:RtD)(i:Nat):Int:=match r with
 | (_,s0,s1,s2,s3,s4,s5,s6,s7,s8,s9,s10,s11)=>[s0,s1,s2,s3,s4,s5,s6,s7,s8,s9,s10,s11].getD i 0
def U2 (r:RtD)(v:Int):RtD:=match r with
 | (n,s0,s1,s2,s3,s4,s5,s6,s7,s8,s9,s10,s11)=>(n+1,if n=0 then v else s0,if n=1 then v else s1,if n=2 then v else s2,if n=3 then v else s3,if n=4 then v else s4,if n=5 then v else s5,if n=6 then v else s6,if n=7 then v else s7,if n=8 then v else s8,if n=9 then v else s9,if n=10 then v else s10,if n=11 then v else s11)
def C9:Nat→TkD→Int×Int→RtD→Int→List RtD×Int→Option (List RtD×Int)
 |0,_,_,_,_,_=>none
 |k+1,t,p,r,en,le=>
  if 1≤r.1∧r.1≤12∧0≤O4 r (r.1-1).toNat∧O4 r (r.1-1).toNat<t.1.length then
   if le.2≠0 then some le
   else if p.2≤en∨F3 t (O4 r (r.1-1).toNat)=[] then
    some (if p.1≤en then I9 r le.1 else le.1,if 16<(if p.1≤en then I9 r le.1 else le.1).length then 13 else 0)
   else if r.1=12 then some (le.1,13)
   else (F3 t (O4 r (r.1-1).toNat)).foldlM (fun (le:List RtD×Int) (n:Int)=>if 0≤n∧n<(t.1.length:Int) then C9 k t p (U2 r n) (IntKind.i64.wrap (en+lenOf t n)) le else none) le
  else none
structure X8 (w:World)(B:Nat)(t:TkD)(bs os:Nat)(na:Nat→Nat×Nat)(nn:Nat→Option Addr)(nc:Nat→Nat):Prop where
 few:t.1.length≤4611686018427387903
 hb:bs<B
 len:∀i,i<t.1.length→w.cell? ⟨bs,os+i*3,none⟩=some (.int .i64 (lenOf t i))
 next:∀i,i<t.1.length→w.cell? ⟨bs,os+i*3+2,none⟩=some (.slice (nn i) (F3 t i).length (nc i))
 addr:∀i,i<t.1.length→F3 t i≠[]→nn i=some ⟨(na i).1,(na i).2,none⟩∧(na i).1<B
 each:∀i,i<t.1.length→(F3 t i).length≤4611686018427387903∧∀j,j<(F3 t i).length→w.cell? ⟨(na i).1,(na i).2+j,none⟩=some (.int .i64 ((F3 t i).getD j 0))
theorem X8.keep {w w':World}{B:Nat}{t:TkD}{bs os:Nat}{na:Nat→Nat×Nat}{nn:Nat→Option Addr}{nc:Nat→Nat}(h:X8 w B t bs os na nn nc)(hk:∀b i,b<B→w'.cell? ⟨b,i,none⟩=w.cell? ⟨b,i,none⟩):X8 w' B t bs os na nn nc:=by
 refine⟨h.few,h.hb,fun i hi=> ?_,fun i hi=> ?_,h.addr,fun i hi=>⟨(h.each i hi).1,fun j hj=> ?_⟩⟩
 ·rw[hk _ _ h.hb];exact h.len i hi
 ·rw[hk _ _ h.hb];exact h.next i hi
 ·have hne:F3 t i≠[]:=by
   intro h0;rw[h0] at hj;exact absurd hj (by simp)
  rw[hk _ _ (h.addr i hi hne).2];exact (h.each i hi).2 j hj
structure O5 (w:World)(G M B:Nat)(t:TkD)(p:Int×Int)(bs os cs:Nat)(na:Nat→Nat×Nat)(nn:Nat→Option Addr)(nc:Nat→Nat)(l:List RtD)(e:Int):Prop where
 hB:B≤G
 hG:G<w.heap.size
 hM:M<w.heap.size
 g0:w.cell? ⟨G,0,none⟩=some (.slice (some ⟨bs,os,none⟩) t.1.length cs)
 g2:w.cell? ⟨G,2,none⟩=some (.int .i64 p.1)
 g3:w.cell? ⟨G,3,none⟩=some (.int .i64 p.2)
 g4:w.cell? ⟨G,4,none⟩=some (.map (some M))
 g5:w.cell? ⟨G,5,none⟩=some (.int .i64 e)
 f5:w.frozen? ⟨G,5,none⟩=false
 map:L7 w M l
 tk:X8 w B t bs os na nn nc

/- Ways that grow: how the state of a search goes on. -/
theorem Ay1 {w:World}{G i j:Nat}{v:Value}(h:i≠j):(w.setCell ⟨G,i,none⟩ v).cell? ⟨G,j,none⟩=w.cell? ⟨G,j,none⟩:=by
 unfold World.cell? World.setCell;simp only;rw[FF4,if_pos rfl];cases w.heap[G]? with
 |none=>rfl
 |some o=>
  cases o <;> simp
  rw[FF6,if_neg h]
theorem Dt8 {w:World}{G i b j:Nat}{v:Value}(h:b≠G):(w.setCell ⟨G,i,none⟩ v).cell? ⟨b,j,none⟩=w.cell? ⟨b,j,none⟩:=
 World.cell?_of_block (w:=w) (Below.heap_setCell w ⟨G,i,none⟩ v b h)
theorem Dt9 {w:World}{G i:Nat}{u v:Value}(h:w.cell? ⟨G,i,none⟩=some u):(w.setCell ⟨G,i,none⟩ v).cell? ⟨G,i,none⟩=some v:=by
 unfold World.cell? World.setCell at*;simp only at*;rw[FF4,if_pos rfl];cases hw:w.heap[G]? with
 |none=>rw [hw] at h;cases h
 |some o=>
  rw[hw] at h;cases o <;> simp at h ⊢
  rw[FF6,if_pos rfl];have hlt:=Array.getElem?_eq_some_iff.1 h;rw[if_pos hlt.1]
theorem Du0 {w:World}{a b:Addr}{v:Value}:(w.setCell a v).frozen? b=w.frozen? b:=by
 unfold World.frozen? World.setCell;simp only;rw[FF4];by_cases h:a.block=b.block
 ·rw[if_pos h]
  cases w.heap[b.block]? with
  |none=>rfl
  |some o=>cases o <;> rfl
 ·rw[if_neg h]
theorem size_setCell {w:World}{a:Addr}{v:Value}:(w.setCell a v).heap.size=w.heap.size:=by unfold World.setCell;simp
section
variable {w:World}{G M B:Nat}{t:TkD}{p:Int×Int}{bs os cs:Nat}{na:Nat→Nat×Nat}{nn:Nat→Option Addr}{nc:Nat→Nat}{l:List RtD}{e:Int}
theorem AN0 (h:O5 w G M B t p bs os cs na nn nc l e)(l':List RtD):O5 (B0 w M l') G M B t p bs os cs na nn nc l' e:=
 ⟨h.hB,by rw[AG5];exact h.hG,by rw[AG5];exact h.hM,by rw[Z9];exact h.g0,by rw[Z9];exact h.g2,by rw[Z9];exact h.g3,by rw[Z9];exact h.g4,by rw[Z9];exact h.g5,by rw[Dt0];exact h.f5,
  Dt1 w M l' ⟨l,h.map⟩,h.tk.keep fun b i _=>by rw[Z9]⟩
theorem Br5 (h:O5 w G M B t p bs os cs na nn nc l e)(e':Int):O5 (w.setCell ⟨G,5,none⟩ (.int .i64 e')) G M B t p bs os cs na nn nc l e':=by
 have hne:M≠G:=by intro h0;have h1:=h.map;have h2:=h.g0;unfold L7 at h1;unfold World.cell? at h2;rw[h0] at h1;simp only at h2;rw[h1] at h2;cases h2
 refine⟨h.hB,by rw[size_setCell];exact h.hG,by rw[size_setCell];exact h.hM,?_,?_,?_,?_,?_,?_,?_,?_⟩
 ·rw[Ay1 (by decide)];exact h.g0
 ·rw[Ay1 (by decide)];exact h.g2
 ·rw[Ay1 (by decide)];exact h.g3
 ·rw[Ay1 (by decide)];exact h.g4
 ·exact Dt9 h.g5
 ·rw[Du0];exact h.f5
 ·unfold L7
  rw[Below.heap_setCell w _ _ _ hne];exact h.map
 ·refine h.tk.keep fun b i hb=>Dt8 ?_
  have:=h.hB;omega
theorem X9 (h:O5 w G M B t p bs os cs na nn nc l e)(x:N0):O5 (more w x) G M B t p bs os cs na nn nc l e:=by
 have hs:(more w x).heap.size=w.heap.size+x.B9.size:=A9;have hc:∀b i,b<w.heap.size→(more w x).cell? ⟨b,i,none⟩=w.cell? ⟨b,i,none⟩:=fun b i hb=>Dr8 b i hb
 have hG:=h.hG;have hM:=h.hM;have hB:=h.hB;refine⟨h.hB,by omega,by omega,by rw[hc _ _ hG];exact h.g0,by rw[hc _ _ hG];exact h.g2,by rw[hc _ _ hG];exact h.g3,by rw[hc _ _ hG];exact h.g4,by rw[hc _ _ hG];exact h.g5,?_,?_,h.tk.keep fun b i hb=>hc b i (by omega)⟩
 ·rw[Dr9 _ _ hG];exact h.f5
 ·unfold L7
  rw[AM6 hM];exact h.map
theorem Y0 (h:O5 w G M B t p bs os cs na nn nc l e)(o:Obj):O5 (w.alloc o) G M B t p bs os cs na nn nc l e:=by
 have hs:(w.alloc o).heap.size=w.heap.size+1:=A4 w o;have hc:∀b i,b<w.heap.size→(w.alloc o).cell? ⟨b,i,none⟩=w.cell? ⟨b,i,none⟩:=fun b i hb=>Ds2 o b i hb
 have hG:=h.hG;have hM:=h.hM;have hB:=h.hB;refine⟨h.hB,by omega,by omega,by rw[hc _ _ hG];exact h.g0,by rw[hc _ _ hG];exact h.g2,by rw[hc _ _ hG];exact h.g3,by rw[hc _ _ hG];exact h.g4,by rw[hc _ _ hG];exact h.g5,?_,?_,h.tk.keep fun b i hb=>hc b i (by omega)⟩
 ·rw[Ds3 _ _ _ hG];exact h.f5
 ·unfold L7
  rw[Below.heap_alloc w o M hM];exact h.map
end
def grown (w:World)(G M:Nat)(l:List RtD)(e:Int):World:=(B0 w M l).setCell ⟨G,5,none⟩ (.int .i64 e)
theorem Br6 {w:World}{G M:Nat}{l:List RtD}{e:Int}(hm:L7 w M l)(he:w.cell? ⟨G,5,none⟩=some (.int .i64 e)):grown w G M l e=w:=by unfold grown;rw[AM8 w M l hm,AM9 he]
theorem Du1 {w:World}{G M:Nat}{l l':List RtD}{e e':Int}{o:Obj}{x y:N0}(hG:G<w.heap.size)(hM:M<w.heap.size):
  more (grown (more ((grown w G M l e).alloc o) x) G M l' e') y=more ((grown w G M l' e').alloc o) (x.add y):=by
 have hs:(grown w G M l e).heap.size=w.heap.size:=by unfold grown;rw[size_setCell,AG5]
 have hs':(B0 (grown w G M l e) M l').heap.size=w.heap.size:=by rw[AG5,hs]
 have e1:grown (more ((grown w G M l e).alloc o) x) G M l' e'=more ((grown w G M l' e').alloc o) x:=by
  have key:∀A:World,A.heap.size=w.heap.size→(B0 (more (A.alloc o) x) M l').setCell ⟨G,5,none⟩ (.int .i64 e')=more (((B0 A M l').setCell ⟨G,5,none⟩ (.int .i64 e')).alloc o) x:=by
   intro A hA;have hA':(B0 A M l').heap.size=w.heap.size:=by rw[AG5,hA]
   rw[Am0 (by rw[A4,hA];omega),Am1 (by rw[hA];exact hM),Ds0 _ _ _ (show G<_ by rw[A4,hA'];omega),Ds1 _ _ _ _ (show G<_ by rw[hA'];exact hG)]
  show (B0 (more ((grown w G M l e).alloc o) x) M l').setCell ⟨G,5,none⟩ (.int .i64 e')=_;rw[key _ hs];unfold grown;rw[Br2,Br3,Br4]
 rw[e1,BN7]

/- Ways that grow: numbers fit. -/
theorem Br7 {n s0 s1 s2 s3 s4 s5 s6 s7 s8 s9 s10 s11:Int}(h:fits .i64 n=true∧fits .i64 s0=true∧fits .i64 s1=true∧fits .i64 s2=true∧fits .i64 s3=true∧fits .i64 s4=true∧fits .i64 s5=true∧fits .i64 s6=true∧fits .i64 s7=true∧fits .i64 s8=true∧fits .i64 s9=true∧fits .i64 s10=true∧fits .i64 s11=true):A6 (n,s0,s1,s2,s3,s4,s5,s6,s7,s8,s9,s10,s11):=by obtain⟨f0,f1,f2,f3,f4,f5,f6,f7,f8,f9,f10,f11,f12⟩:=h;intro ow w;exact⟨_,rfl,[.int .i64 n],[.int .i64 s0,.int .i64 s1,.int .i64 s2,.int .i64 s3,.int .i64 s4,.int .i64 s5,.int .i64 s6,.int .i64 s7,.int .i64 s8,.int .i64 s9,.int .i64 s10,.int .i64 s11],rfl,⟨rfl,f0⟩,[.int .i64 s0],[.int .i64 s1,.int .i64 s2,.int .i64 s3,.int .i64 s4,.int .i64 s5,.int .i64 s6,.int .i64 s7,.int .i64 s8,.int .i64 s9,.int .i64 s10,.int .i64 s11],rfl,⟨rfl,f1⟩,[.int .i64 s1],[.int .i64 s2,.int .i64 s3,.int .i64 s4,.int .i64 s5,.int .i64 s6,.int .i64 s7,.int .i64 s8,.int .i64 s9,.int .i64 s10,.int .i64 s11],rfl,⟨rfl,f2⟩,[.int .i64 s2],[.int .i64 s3,.int .i64 s4,.int .i64 s5,.int .i64 s6,.int .i64 s7,.int .i64 s8,.int .i64 s9,.int .i64 s10,.int .i64 s11],rfl,⟨rfl,f3⟩,[.int .i64 s3],[.int .i64 s4,.int .i64 s5,.int .i64 s6,.int .i64 s7,.int .i64 s8,.int .i64 s9,.int .i64 s10,.int .i64 s11],rfl,⟨rfl,f4⟩,[.int .i64 s4],[.int .i64 s5,.int .i64 s6,.int .i64 s7,.int .i64 s8,.int .i64 s9,.int .i64 s10,.int .i64 s11],rfl,⟨rfl,f5⟩,[.int .i64 s5],[.int .i64 s6,.int .i64 s7,.int .i64 s8,.int .i64 s9,.int .i64 s10,.int .i64 s11],rfl,⟨rfl,f6⟩,[.int .i64 s6],[.int .i64 s7,.int .i64 s8,.int .i64 s9,.int .i64 s10,.int .i64 s11],rfl,⟨rfl,f7⟩,[.int .i64 s7],[.int .i64 s8,.int .i64 s9,.int .i64 s10,.int .i64 s11],rfl,⟨rfl,f8⟩,[.int .i64 s8],[.int .i64 s9,.int .i64 s10,.int .i64 s11],rfl,⟨rfl,f9⟩,[.int .i64 s9],[.int .i64 s10,.int .i64 s11],rfl,⟨rfl,f10⟩,[.int .i64 s10],[.int .i64 s11],rfl,⟨rfl,f11⟩,rfl,f12⟩
theorem Du2 {n s0 s1 s2 s3 s4 s5 s6 s7 s8 s9 s10 s11:Int}(h:A6 (n,s0,s1,s2,s3,s4,s5,s6,s7,s8,s9,s10,s11)):fits .i64 n=true∧fits .i64 s0=true∧fits .i64 s1=true∧fits .i64 s2=true∧fits .i64 s3=true∧fits .i64 s4=true∧fits .i64 s5=true∧fits .i64 s6=true∧fits .i64 s7=true∧fits .i64 s8=true∧fits .i64 s9=true∧fits .i64 s10=true∧fits .i64 s11=true:=by
 obtain⟨_,he,_,_,hcs,⟨rfl,f0⟩,_,_,rfl,⟨rfl,f1⟩,_,_,rfl,⟨rfl,f2⟩,_,_,rfl,⟨rfl,f3⟩,_,_,rfl,⟨rfl,f4⟩,_,_,rfl,⟨rfl,f5⟩,_,_,rfl,⟨rfl,f6⟩,_,_,rfl,⟨rfl,f7⟩,_,_,rfl,⟨rfl,f8⟩,_,_,rfl,⟨rfl,f9⟩,_,_,rfl,⟨rfl,f10⟩,_,_,rfl,⟨rfl,f11⟩,rfl,f12⟩:=h (fun _=>.B8) default
 exact⟨f0,f1,f2,f3,f4,f5,f6,f7,f8,f9,f10,f11,f12⟩
theorem Br8 {r:RtD}{v:Int}(h:A6 r)(h1:1≤r.1)(h2:r.1≤11)(hv:fits .i64 v=true):A6 (U2 r v):=by
 obtain⟨n,s0,s1,s2,s3,s4,s5,s6,s7,s8,s9,s10,s11⟩:=r;obtain⟨f0,f1,f2,f3,f4,f5,f6,f7,f8,f9,f10,f11,f12⟩:=Du2 h;have h1':1≤n:=h1;have h2':n≤11:=h2;unfold U2;refine Br7 ⟨?_,?_,?_,?_,?_,?_,?_,?_,?_,?_,?_,?_,?_⟩
 ·simp only[fits,Bool.and_eq_true,decide_eq_true_eq]
  simp only[IntKind.min,IntKind.max] at*;omega
 all_goals (split <;> assumption)
theorem Br9 {v:Int}(h0:0≤v)(h1:v≤4611686018427387903):fits .i64 v=true:=by simp only[fits,Bool.and_eq_true,decide_eq_true_eq];omega
theorem Bs0 {α β:Type}{F:β→α→Option β}{P:β→Prop}:∀(l:List α) (b b':β),l.foldlM F b=some b'→P b→(∀c a c',F c a=some c'→P c→P c')→P b':=by
 intro l
 induction l with
 |nil=>
  intro b b' h hb _;simp only[List.foldlM_nil] at h;obtain rfl:=Option.some.inj h;exact hb
 |cons a l ih=>
  intro b b' h hb hF;simp only[List.foldlM_cons] at h;cases hc:F b a with
  |none=>rw [hc] at h;cases h
  |some c=>
   rw[hc] at h;exact ih c b' h (hF b a c hc hb) hF
theorem Ab4 {α β:Type}{F:β→α→Option β}{l:List α}{a:α}{b b':β}(h:(a::l).foldlM F b=some b'):∃c,F b a=some c∧l.foldlM F c=some b':=by
 simp only[List.foldlM_cons] at h;cases hc:F b a with
 |none=>rw [hc] at h;cases h
 |some c=>rw [hc] at h;exact⟨c,rfl,h⟩
theorem Bs1 {r x:RtD}{l:List RtD}(h:x∈I9 r l):x=r∨x∈l:=by
 unfold I9 at h;split at h
 ·exact .inr h
 ·rcases List.mem_append.1 h with h | h
  ·exact .inr h
  ·exact .inl (by simpa using h)
theorem BN8 {t:TkD}{p:Int×Int}(hfew:t.1.length≤4611686018427387903):∀(k:Nat) (r:RtD) (en:Int) (le le':List RtD×Int),C9 k t p r en le=some le'→A6 r→(∀x∈le.1,A6 x)→∀x∈le'.1,A6 x:=by
 intro k
 induction k with
 |zero=>intro r en le le' h;rw[C9] at h;cases h
 |succ k ih=>
  intro r en le le' h hr hl;rw[C9] at h;split at h
  ·rename_i hc
   split at h
   ·obtain rfl:=Option.some.inj h;exact hl
   ·split at h
    ·obtain rfl:=Option.some.inj h
     intro x hx;simp only at hx;split at hx
     ·rcases Bs1 hx with rfl | hx
      ·exact hr
      ·exact hl x hx
     ·exact hl x hx
    ·split at h
     ·obtain rfl:=Option.some.inj h;exact hl
     ·rename_i h12
      refine Bs0 (P:=fun b=>∀x∈b.1,A6 x) _ _ _ h hl ?_
      intro c a c' hF hcl;split at hF
      ·rename_i ha
       exact ih _ _ _ _ hF (Br8 hr hc.1 (by have:=hc.2.1;omega) (Br9 ha.1 (by omega))) hcl
      ·cases hF
  ·cases h

/- Ways that grow: the search: what is said of it. -/
theorem Ab5 {w:World}{M:Nat}{l:List RtD}{ty:TypeId}(h:L7 w M l):(Builtin.len_ #[257] ty #[.map (some M)]).run Tryz.prog w = .ok (.int .i64 l.length) w:=by
 have hb:w.heap[M]? = some (.map (mapOf l) l.length):=h;have hs:(mapOf l).size=l.length:=by unfold mapOf;simp
 simp[Builtin.len_,run_underlying Ax9,MapKept.run_getObj_map hb,Result.andThen,hs,go_sem]
def AC9 (F:RtD→Int→List RtD×Int→Option (List RtD×Int))(t:TkD)(p:Int×Int):Prop:=
 ∀(r:RtD) (en:Int) (l:List RtD) (e:Int) (le':List RtD×Int),F r en (l,e)=some le'→A6 r→(∀x∈l,A6 x)→
  ∀(w:World) (G M B bs os cs:Nat) (na:Nat→Nat×Nat) (nn:Nat→Option Addr) (nc:Nat→Nat),O5 w G M B t p bs os cs na nn nc l e→
   Calls Tryz.prog 157 #[.pointer (some ⟨G,0,none⟩),.agg (E2 r),.int .i64 en] w fun e w'=>e = .returned (.tuple #[])∧∃x,w'=more (grown w G M le'.1 le'.2) x
end Go.Proofs.YthfjpkdadjemcaaGreat
