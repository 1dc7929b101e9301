/- A region that draws its order, in a class of worlds; worlds with more blocks behind. No program in sight. -/
import Derived.Deep.Quiet
import Derived.Deep.QuietTactic
import Derived.StillTail
import Derived.Below
import Derived.WalkKit
import Derived.WalkSpells
import Derived.RowKit3
import Derived.BigQuiet
set_option linter.unusedSimpArgs false
set_option linter.unusedVariables false
namespace Go.Proofs.YthfjpkdadjemcaaGreat
open Go.RowKit
open _root_.Array renaming getElem?_append → FE1, getElem?_modify → FE4, ext_getElem? → FE5
open _root_.Classical renaming byContradiction → FE2
open _root_.List renaming length_cons → FE3
section
variable {P:Program}{ops:Array Oper}{md:Region.Mode}{C:World→Prop}
def Al9 (P:Program)(md:Region.Mode)(ops:Array Oper)(C:World→Prop)(n:Nat)(L:Array Bool→Act→Prop):Nat→Array Bool→Act→Prop
 |0,listed,a=>L listed a
 |f+1,listed,a=>Region.ready md ops listed≠[]∧∀i∈Region.ready md ops listed,i<n∧qOp P ops C i (Al9 P md ops C n L f (listed.setIfInBounds i true)) a
theorem Dr3 {n g:Nat}{L:Array Bool→Act→Prop}{Q':Exit→Act→World→Prop}(hL:∀listed a w,C w→L listed a→wpAny P md ops Q' g listed a w):
  ∀(f:Nat) (listed:Array Bool) (a:Act) (w:World),C w→Al9 P md ops C n L f listed a→wpAny P md ops Q' (f+g) listed a w:=by
 intro f
 induction f with
 |zero=>intro listed a w hw h;rw[Nat.zero_add];exact hL _ _ _ hw h
 |succ f ih=>
  intro listed a w hw h;rw[show f+1+g=(f+g)+1 by omega]
  exact⟨fun h0=>absurd h0 h.1,fun i hi=>wpOp_of_qOp hw (fun a' w' hw' h'=>ih _ a' w' hw' h') (h.2 i hi).2⟩
theorem Dr4 {n i:Nat}{oi:Oper}{v:Value}{L:Array Bool→Act→Prop}(hi:ops[i]? = some oi)(hsel:∀(j:Nat) (o:Oper) cs b,ops[j]? = some o→o.op≠ .select cs b)
  (hs:Region.sinkB md ops n=true) (hc:Region.chainB md ops n=true) (hn:n<ops.size) (hin:i<n)
  (hdone:∀listed a,L listed a→∀j∈Region.ready md ops listed,n≤j):
  ∀(f:Nat) (listed:Array Bool) (a:Act),HeadInv md ops n listed→
   (∀j oj,ops[j]? = some oj→j≠i→listed.getD j true=false→(∀e∈oj.after,Region.binds md e=true→e.on≠i)→oi.apart ops oj=true)→
   i∈Region.ready md ops listed→YieldsIn P ops C oi v a→
   Al9 P md ops C n L f (listed.setIfInBounds i true) (a.put oi.dst v)→Al9 P md ops C n L (f+1) listed a:=by
 intro f
 induction f with
 |zero=>
  intro listed a inv _ hr hy H;refine⟨fun h=>(by rw[h] at hr;cases hr),fun j hj=> ?_⟩
  have hjn:j<n:=by apply FE2;intro hge;exact tail_waits hs hc hn inv _ i rfl hin (mem_ready.1 hr).1 j (by omega) hj
  refine⟨hjn,?_⟩;by_cases hji:j=i
  ·subst hji;exact hy.qOp hi H
  ·have:=hdone _ _ H j (ready_mono hj hji)
   omega
 |succ f ih=>
  intro listed a inv hfree hr hy H;have hun:=(mem_ready.1 hr).1;refine⟨fun h=>(by rw[h] at hr;cases hr),fun j hj=> ?_⟩
  have hjn:j<n:=by apply FE2;intro hge;exact tail_waits hs hc hn inv _ i rfl hin hun j (by omega) hj
  refine⟨hjn,?_⟩;by_cases hji:j=i
  ·subst hji;exact hy.qOp hi H
  ·have h1:=(H.2 j (ready_mono hj hji)).2
   obtain⟨hjun,oj,hoj,hall⟩:=mem_ready.1 hj;have hnot:∀e∈oj.after,Region.binds md e=true→e.on≠i:=fun e he hb heq=>by have h1:=hall e he hb;rw[heq,getD_both hun] at h1;cases h1
   have h2:=qOp_put hoj (hfree j oj hoj hji hjun hnot) (fun cs b=>hsel i oi cs b hi) (fun cs b=>hsel j oj cs b hoj) hy h1
   have hfree':∀k ok,ops[k]? = some ok→k≠i→(listed.setIfInBounds j true).getD k true=false→
     (∀e∈ok.after,Region.binds md e=true→e.on≠i)→oi.apart ops ok=true:=fun k ok hk hki hku hno=>by
    refine hfree k ok hk hki ?_ hno;by_cases hjk:j=k
    ·subst hjk;exact hjun
    ·rwa [getD_set_ne true hjk] at hku
   refine qOp_mono (fun a' h3=>ih (listed.setIfInBounds j true) a' (inv.set hj hjn) hfree' (ready_mono hr (Ne.symm hji)) h3.1 ?_) h2
   rw[Array.setIfInBounds_comm _ _ hji];exact h3.2
theorem Dr5 {n g:Nat}{Lq:Act→Prop}(hsel:Region.noSelect ops=true)(hs:Region.sinkB md ops n=true)(hc:Region.chainB md ops n=true)(hn:n<ops.size):
  ∀(l:List Oper) (k:Nat) (listed:Array Bool) (a:Act),(∀j,j<l.length→l[j]? = ops[k+j]?)→k+l.length=n→HeadInv md ops n listed→
  Region.lexHead md ops g l.length k listed=true→wpQuiet P ops C Lq l a→
  Al9 P md ops C n (fun listed' a'=>Region.seqB md ops g n listed'=true∧Lq a') l.length listed a:=by
 intro l
 induction l with
 |nil=>
  intro k listed a _ hk _ hB h;have hkn:k=n:=by simpa using hk
  subst hkn;exact⟨by simpa[Region.lexHead] using hB,h⟩
 |cons o l ih=>
  intro k listed a hl hk inv hB h;have h0:ops[k]? = some o:=by simpa using (hl 0 (by simp)).symm
  simp only[FE3,Region.lexHead,Bool.and_eq_true] at hB;obtain⟨⟨hr,hf⟩,hB'⟩:=hB;have hkn:k<n:=by simp only[FE3] at hk;omega
  have hr':k∈Region.ready md ops listed:=by simpa using hr
  have hq:qOp P ops C k (wpQuiet P ops C Lq l) a:=by unfold qOp;simp only[h0];exact h
  obtain⟨v,hy,hK⟩:=yieldsIn_of_qOp h0 hq;refine Dr4 h0 (Region.noSelect_spec hsel) hs hc hn hkn (fun listed' a' hL=>seqB_ready hL.1) l.length listed a inv (Region.free_spec h0 hf) hr' hy ?_
  exact ih (k+1) _ _ (fun j hj=>by have:=hl (j+1) (by simp;omega);simpa[Nat.add_assoc,Nat.add_comm 1 j] using this) (by simp only[FE3] at hk;omega) (inv.set hr' hkn) hB' hK
theorem Dr6 {id:Nat}{Q:Exit→Act→World→Prop}{a:Act}{w:World}{l:List Oper}(n:Nat)(hm:P.follows .mixedOrders=true)(hB:Region.lexTailB .any l.toArray n=true)
  (C:World→Prop) (hC:C w.drew)
  (h:wpQuiet P l.toArray C (fun a'=>∀w',C w'→wpList P l.toArray Q (l.drop n) a' w') (l.take n) a):(Code.region id l.toArray true).wp P Q a w:=by
 simp only[Region.lexTailB,Bool.and_eq_true,decide_eq_true_eq] at hB;obtain⟨⟨⟨⟨hsel,hn⟩,hs⟩,hc⟩,hlex⟩:=hB;have hn':n<l.length:=by simpa using hn
 have htl:(l.take n).length=n:=by simp;omega
 have hdl:(l.drop n).length=l.toArray.size-n:=by simp
 have inv0:HeadInv .any l.toArray n (Array.replicate l.toArray.size false):=
  ⟨by simp,fun j oj _ hl=>(by rw[getD_replicate_false] at hl;cases hl),fun t _ ht=>getD_in (by simpa using ht) (getD_replicate_false _ _)⟩
 have H:=Dr5 (P:=P) (C:=C) (md:=.any) (g:=l.toArray.size-n) hsel hs hc hn (l.take n) 0 _ a (fun j hj=>by
  have hj':j<n:=by rw[htl] at hj;exact hj
  simp[hj']) (by simpa using htl) inv0 (by rw[htl];exact hlex) h
 refine wp_region_any hm ?_;have K:=Dr3 (Q':=Q) (g:=l.toArray.size-n) (fun listed a' w' hw' hL=>by
  have:=wpAny_of_seq (md:=.any) (Q':=Q) (l.drop n) n listed a' w' (fun j=>by simp[List.getElem?_drop]) (by rw[hdl];exact hL.1) (hL.2 w' hw')
  rwa [hdl] at this) _ _ _ w.drew hC H
 rw[htl,show n+(l.toArray.size-n)=l.toArray.size by omega] at K
 exact K
theorem Dr7 {id:Nat}{Q:Exit→Act→World→Prop}{a:Act}{w:World}{l:List Oper}(hm:P.follows .mixedOrders=true)(hB:Region.lexB .any l.toArray=true)
  (C:World→Prop) (hC:C w.drew)
  (h:wpQuiet P l.toArray C (fun a'=>∀w',C w'→Q .normal a' w') l a):(Code.region id l.toArray true).wp P Q a w:=
 wp_region_quiet (C:=C) hm hB hC (by simpa using h)
end

structure N0 where
 B9:Array Obj
 drawn:Nat
instance Ee1:Nonempty N0:=⟨⟨#[],0⟩⟩
def more (w:World)(x:N0):World:={w with heap:=w.heap++x.B9,drawn:=x.drawn}
def ltS (n a:Nat):Prop:=n<a
def neS (n a:Nat):Prop:=n≠a
def BN6 (n a s:Nat):Prop:=a≤n∧n<a+s
@[go_sem] theorem Ee2 (n : Nat) : ltS n n = False := eq_false (Nat.lt_irrefl n)
@[go_sem] theorem Ee3 (n a : Nat) : ltS n (a + 1) = (n = a ∨ ltS n a) := propext ⟨fun h => by unfold ltS at *; omega, fun h => by unfold ltS at *; omega⟩
@[go_sem] theorem Ee4 (n a : Nat) (x : N0) : ltS n (a + x.B9.size) = (ltS n a ∨ BN6 n a x.B9.size) := propext ⟨fun h => by unfold ltS BN6 at *; omega, fun h => by unfold ltS BN6 at *; omega⟩
@[go_sem] theorem Ee5 (n a : Nat) : neS n a = (ltS n a ∨ ltS a n) := propext ⟨fun h => by unfold ltS neS at *; omega, fun h => by unfold ltS neS at *; omega⟩
section
variable {w w':World}{x:N0}
@[go_sem] theorem A9 : (more w x).heap.size = w.heap.size + x.B9.size := by simp [more]
theorem AM6 {k:Nat}(h:k<w.heap.size):(more w x).heap[k]? = w.heap[k]? := by show (w.heap++x.B9)[k]? = _;rw[Array.getElem?_append_left h]
@[go_sem] theorem Dr8 (n i : Nat) (h : ltS n w.heap.size) : (more w x).cell? ⟨n, i, none⟩ = w.cell? ⟨n, i, none⟩ := World.cell?_of_block (w := w) (AM6 h)
@[go_sem] theorem Dr9 (n i : Nat) (h : ltS n w.heap.size) : (more w x).frozen? ⟨n, i, none⟩ = w.frozen? ⟨n, i, none⟩ := World.frozen?_of_block (w := w) (AM6 h)
@[go_sem] theorem Ee6 : more w.drew x = more w x := rfl
@[go_sem] theorem Ee7 (n : Nat) : more (w.drewN n) x = more w x := rfl
theorem Array.modify_append_left {α:Type}(a b:Array α)(i:Nat)(f:α→α)(h:i<a.size):(a++b).modify i f=a.modify i f++b:=by
 apply FE5;intro j;rw[FE4,FE1,FE1,Array.size_modify,FE4];by_cases hij:i=j
 ·subst hij;simp[h]
 ·simp[hij]
@[go_sem] theorem Ds0 (n i : Nat) (v : Value) (h : ltS n w.heap.size) : (more w x).setCell ⟨n, i, none⟩ v = more (w.setCell ⟨n, i, none⟩ v) x := by unfold more World.setCell;simp only;rw[Array.modify_append_left _ _ _ _ h]
@[go_sem] theorem Ds1 (o : Obj) (n i : Nat) (v : Value) (hn : ltS n w.heap.size) : (w.alloc o).setCell ⟨n, i, none⟩ v = (w.setCell ⟨n, i, none⟩ v).alloc o := World.setCell_alloc_past o n i v hn
@[go_sem] theorem Ds2 (o : Obj) (n i : Nat) (hn : ltS n w.heap.size) : (w.alloc o).cell? ⟨n, i, none⟩ = w.cell? ⟨n, i, none⟩ := World.cell?_alloc_past o n i hn
@[go_sem] theorem Ds3 (o : Obj) (n i : Nat) (hn : ltS n w.heap.size) : (w.alloc o).frozen? ⟨n, i, none⟩ = w.frozen? ⟨n, i, none⟩ := World.frozen?_alloc_past o n i hn
def N0.add (x y:N0):N0:=⟨x.B9++y.B9,y.drawn⟩
@[go_sem] theorem BN7 (y : N0) : more (more w x) y = more w (x.add y) := by simp[more,N0.add,Array.append_assoc]
theorem T9 (h:Below w.heap.size w w'):∃x,w'=more w x:=by
 refine⟨⟨w'.heap.extract w.heap.size w'.heap.size,w'.drawn⟩,?_⟩;have hh:w'.heap=w.heap++w'.heap.extract w.heap.size w'.heap.size:=by
  apply FE5;intro j;rw[FE1];split
  ·rename_i hj;exact h.block j hj
  ·rename_i hj
   rw[Array.getElem?_extract];split
   ·congr 1;omega
   ·rw[Array.getElem?_eq_none (by have:=h.size;omega)]
 cases w';cases w;simp only[more,World.mk.injEq];exact⟨hh,h.tape,trivial,h.os,h.output⟩
theorem S6 {B:Nat}{a:World}(h:Below B a w)(hB:B≤w.heap.size)(x:N0):Below B a (more w x):=
 h.trans ⟨rfl,rfl,rfl,by rw[A9];omega,fun k hk=>AM6 (by omega)⟩
end
def L6 (w w':World):Prop:=∃y,w'=more w y
theorem Bq3 (w:World):L6 w w:=⟨⟨#[],w.drawn⟩,by simp[more]⟩
theorem L6.more {w w':World}(h:L6 w w')(x:N0):L6 w (more w' x):=by obtain⟨y,rfl⟩:=h;exact⟨y.add x,BN7 x⟩
theorem L6.alloc {w w':World}(h:L6 w w')(o:Obj):L6 w (w'.alloc o):=by obtain⟨y,rfl⟩:=h;refine⟨⟨y.B9.push o,y.drawn⟩,?_⟩;unfold Go.Proofs.YthfjpkdadjemcaaGreat.more World.alloc;simp only[Array.push_append]
theorem L6.drew {w w':World}(h:L6 w w'):L6 w w'.drew:=by obtain⟨y,rfl⟩:=h;exact⟨⟨y.B9,y.drawn+1⟩,rfl⟩
theorem L6.drewN {w w':World}(h:L6 w w')(n:Nat):L6 w (w'.drewN n):=by obtain⟨y,rfl⟩:=h;exact⟨⟨y.B9,y.drawn+n⟩,rfl⟩
theorem L6.trans {a b c:World}(h:L6 a b)(k:L6 b c):L6 a c:=by obtain⟨y,rfl⟩:=h;obtain⟨z,rfl⟩:=k;exact⟨_,BN7 z⟩
theorem Ds4 {P:Program}{f:FuncId}{args:Array Value}{W:World}{v:Value}(h:Calls P f args W fun e w''=>e = .returned v∧Below W.heap.size W w''):
  Calls P f args W fun e w''=>e = .returned v∧L6 W w'':=
 h.mono fun _ _ ⟨he,hb⟩=>⟨he,T9 hb⟩
end Go.Proofs.YthfjpkdadjemcaaGreat
