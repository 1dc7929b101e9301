/- A track's data as cells. -/
import Derived.Test.YthfjpkdadjemcaaGreatG1
set_option linter.unusedSimpArgs false
set_option linter.unusedVariables false
namespace Go.Proofs.YthfjpkdadjemcaaGreat
open Go.RowKit
open _root_.Int renaming toNat_natCast → FF8
open _root_.List renaming getElem?_take → FF9, getElem?_drop → FG0
theorem Du5 {l:List Value}{k:Nat}{a b d:Value}(h:(l.drop k).take 3=[a,b,d]):l[k]? = some a∧l[k+1]? = some b∧l[k+2]? = some d:=by
 have e:∀j,j<3→l[k+j]? = [a,b,d][j]? := by intro j hj;rw[← h,FF9,if_pos hj,FG0]
 exact⟨by have:=e 0 (by decide);simpa using this,by have:=e 1 (by decide);simpa using this,by have:=e 2 (by decide);simpa using this⟩
theorem take_one {l:List Value}{k:Nat}{a:Value}(h:(l.drop k).take 1=[a]):l[k]? = some a:=by
 have e:l[k+0]? = [a][0]? := by rw[← h,FF9,if_pos (by decide),FG0]
 simpa using e
theorem cell_of {w:World}{blk k:Nat}{c:Array Value}{T:TypeId}{fz:Nat×Nat}{v:Value}(h:w.heap[blk]? = some (.cells c T fz))(hk:c.toList[k]? = some v):w.cell? ⟨blk,k,none⟩=some v:=by unfold World.cell?;simp only;rw[h];simpa using hk
def AU0 (w:World)(bs os:Nat)(i:Nat):Option Addr:=match w.cell? ⟨bs,os+i*3+2,none⟩ with
 |some (.slice a _ _)=>a
 |_=>none
def Bs5 (w:World)(bs os:Nat)(i:Nat):Nat:=match w.cell? ⟨bs,os+i*3+2,none⟩ with
 |some (.slice _ _ c)=>c
 |_=>0
def BN9 (w:World)(bs os:Nat)(i:Nat):Nat×Nat:=match AU0 w bs os i with
 |some a=>(a.block,a.off)
 |none=>(0,0)
theorem Bs6 {ow:Nat→A1}{w:World}{t:TkD}{tv:Value}(here:∀blk,ow blk≠ .B8→blk<w.heap.size)(hfew:t.1.length≤140737488355328)(hnext:∀x∈t.1,x.2.2.length≤140737488355328)
  (h:Rep ow w (.slice (.agg (.pair (.int .i64) (.pair (.slice (.agg (.pair (.int .i64) (.int .i64)))) (.slice (.int .i64)))))) t.1 [tv]) (hne:t.1≠[]):
  ∃bs os cs,tv = .slice (some ⟨bs,os,none⟩) t.1.length cs∧X8 w w.heap.size t bs os (BN9 w bs os) (AU0 w bs os) (Bs5 w bs os):=by
 obtain⟨ad,cap,e1,e2,e3⟩:=h;obtain⟨bs,os,c,T,fz,rfl,hrig,hc,hel⟩:=e3 hne;have lt_of:∀blk n,A5 ow blk n→blk<w.heap.size:=by
  intro blk n hr;refine here blk fun h0=> ?_
  unfold A5 at hr;rw[h0] at hr;exact hr
 have hx:∀i,i<t.1.length→∃ad2 cap2,w.cell? ⟨bs,os+i*3,none⟩=some (.int .i64 (lenOf t i))∧w.cell? ⟨bs,os+i*3+2,none⟩=some (.slice ad2 (F3 t i).length cap2)∧
   (F3 t i≠[]→∃b2 o2 c2 T2 fz2,ad2=some ⟨b2,o2,none⟩∧A5 ow b2 (o2+(F3 t i).length*1)∧w.heap[b2]? = some (.cells c2 T2 fz2)∧∀(j:Nat) y,(F3 t i)[j]? = some y→Rep ow w (.int .i64) y ((c2.toList.drop (o2+j*1)).take 1)):=by
  intro i hi;have hg:t.1[i]? = some (t.1.getD i (0,[],[])):=by simp[List.getD,hi]
  have hl:lenOf t i=(t.1.getD i (0,[],[])).1:=by unfold lenOf;rw[FF8]
  have hnx:F3 t i=(t.1.getD i (0,[],[])).2.2:=by unfold F3;rw[FF8]
  have hr:=hel i _ hg;rw[hl,hnx];generalize t.1.getD i (0,[],[])=x at hr;obtain⟨q1,q2,hq,⟨rfl,_⟩,q3,q4,rfl,⟨a3,p3,rfl,_,_⟩,a4,p4,rfl,_,h4⟩:=hr;obtain⟨r1,r2,r3⟩:=Du5 hq;exact⟨a4,p4,cell_of hc r1,cell_of hc r3,h4⟩
 refine⟨bs,os,cap,by simpa using e1,⟨by omega,lt_of _ _ hrig,?_,?_,?_,?_⟩⟩
 ·intro i hi
  obtain⟨_,_,h1,_⟩:=hx i hi;exact h1
 ·intro i hi
  obtain⟨a2,p2,_,h2,_⟩:=hx i hi;unfold AU0 Bs5;rw[h2]
 ·intro i hi hn
  obtain⟨a2,p2,_,h2,h3⟩:=hx i hi;obtain⟨b2,o2,c2,T2,fz2,rfl,hr2,_⟩:=h3 hn;have e:AU0 w bs os i=some ⟨b2,o2,none⟩:=by unfold AU0;rw[h2]
  unfold BN9;rw[e];exact⟨rfl,lt_of _ _ hr2⟩
 ·intro i hi
  obtain⟨a2,p2,_,h2,h3⟩:=hx i hi;have hm:(F3 t i).length≤140737488355328:=by
   unfold F3;rw[FF8];have:t.1.getD i (0,[],[])∈t.1:=by simp[List.getD,hi]
   exact hnext _ this
  refine⟨by omega,fun j hj=> ?_⟩
  have hn:F3 t i≠[]:=by intro h0;rw[h0] at hj;exact absurd hj (by simp)
  obtain⟨b2,o2,c2,T2,fz2,rfl,hr2,hc2,he⟩:=h3 hn;have e:AU0 w bs os i=some ⟨b2,o2,none⟩:=by unfold AU0;rw[h2]
  unfold BN9;rw[e];have hg:(F3 t i)[j]? = some ((F3 t i).getD j 0):=by simp[List.getD,hj]
  have hr:=he j _ hg;obtain⟨hr,_⟩:=hr;rw[Nat.mul_one] at hr;exact cell_of hc2 (take_one hr)
end Go.Proofs.YthfjpkdadjemcaaGreat
