/- A region that draws its order and stores one row of the call's own. No program in sight. -/
import Derived.Test.YthfjpkdadjemcaaGreatMore
import Derived.Laws.Tables
import Derived.Deep.WholeRow
set_option linter.unusedSimpArgs false
set_option linter.unusedVariables false
namespace Go.Proofs.YthfjpkdadjemcaaGreat
open Go.RowKit
open _root_.Array renaming getElem?_modify → FE7, getElem?_push → FE8
section
variable {P:Program}{ops:Array Oper}{md:Region.Mode}{C:(Nat→Bool)→World→Prop}
end

@[go_sem] theorem Ee8 (w : World) (g : Nat) (cs : Array Value) (n i : Nat) (h : neS n g) : (w.setRow g cs).cell? ⟨n, i, none⟩ = w.cell? ⟨n, i, none⟩ := cell_setRow_other w g cs _ h
@[go_sem] theorem Ee9 (w : World) (g : Nat) (cs : Array Value) (a : Addr) : (w.setRow g cs).frozen? a = w.frozen? a := by
 unfold World.frozen? World.setRow;simp only[FE7];by_cases h:g=a.block
 ·rw[if_pos h]
  cases w.heap[a.block]? with
  |none=>rfl
  |some o=>cases o <;> rfl
 ·rw[if_neg h]
attribute [go_sem] setRow_size
@[go_sem] theorem Ef0 (w : World) (c c' : Array Value) (t : TypeId) (n : Nat) (hn : n = w.heap.size) : (w.alloc (.cells c t)).setRow n c' = w.alloc (.cells c' t) := by subst hn;exact World.setRow_alloc_new w c c' t
@[go_sem] theorem Ef1 (w : World) (o : Obj) (c : Array Value) (n : Nat) (hn0 : ltS n w.heap.size) : (w.alloc o).setRow n c = (w.setRow n c).alloc o := by
 have hn:n<w.heap.size:=hn0;unfold World.setRow World.alloc;simp only[World.mk.injEq,and_true];apply Array.ext_getElem?;intro j;rw[FE7,FE8,FE8,Array.size_modify,FE7];by_cases hj:n=j
 ·subst hj
  rw[if_pos rfl,if_neg (by omega),if_neg (by omega),if_pos rfl]
 ·rw[if_neg hj,if_neg hj]
@[go_sem] theorem Ef2 (w : World) (x : N0) (c : Array Value) (n : Nat) (hn : ltS n w.heap.size) : (more w x).setRow n c = more (w.setRow n c) x := by unfold World.setRow more;simp only;rw[Array.modify_append_left _ _ _ _ hn]
@[go_sem] theorem Ef3 (w : World) (c : Array Value) (n : Nat) : w.drew.setRow n c = (w.setRow n c).drew := rfl
def Blk (w:World)(b:Nat)(c:Array Value)(t:TypeId):Prop:=w.heap[b]? = some (.cells c t (0,0))
theorem S7 {B g:Nat}{w0 w:World}(h:Below B w0 w)(hg:B≤g)(cs:Array Value):Below B w0 (w.setRow g cs):=
 h.trans ⟨rfl,rfl,rfl,by simp,fun k hk=>setRow_other w g k cs (by omega)⟩
section
variable {P:Program}{ops:Array Oper}
def Ab2 (P:Program)(v:Value)(w':World):Result Next→Prop
 | .ok (.value u) w''=>w''=w'∧u=v
 | .ok .skip w''=>w''=w'∧v=undef
 | .ok (.enter f args) w''=>w''=w'∧Calls P f args w' (fun e w3=>e = .returned v∧L6 w' w3)
 |_=>False
attribute [go_sem] Ab2
def S8 (P:Program)(ops:Array Oper)(w:World)(Q:Act→Prop):List Oper→Act→Prop
 | [],a=>Q a
 |o::rest,a=>if Region.wanted o (yielded ops a.tmps)=true then ∃v,(∀x,Ab2 P v (more w x) ((execOp a.eval o).run P (more w x)))∧S8 P ops w Q rest (a.put o.dst v) else S8 P ops w Q rest (a.put o.dst undef)
theorem U0 {w:World}{Q:Act→Prop}{a:Act}(h:Q a):S8 P ops w Q [] a:=h
theorem U1 {w:World}{Q:Act→Prop}{o:Oper}{rest:List Oper}{a:Act}
  (h:∀K:Act→Prop,(∀a,S8 P ops w Q rest a→K a)→if Region.wanted o (yielded ops a.tmps)=true then ∃v,(∀x,Ab2 P v (more w x) ((execOp a.eval o).run P (more w x)))∧K (a.put o.dst v) else K (a.put o.dst undef)):
  S8 P ops w Q (o::rest) a:=h _ (fun _ h=>h)
theorem Bq8 {w:World}{Q:Act→Prop}:∀(l:List Oper) (a:Act),S8 P ops w Q l a→wpQuiet P ops (L6 w) Q l a:=by
 intro l
 induction l with
 |nil=>intro a h;exact h
 |cons o l ih=>
  intro a h;unfold S8 at h;unfold wpQuiet;split at h
  ·rename_i hw
   rw[if_pos hw];obtain⟨v,hq,hK⟩:=h;refine⟨v,?_,ih _ hK⟩
   rintro w' ⟨x,rfl⟩
   have h3:=hq x;unfold Oper.quietAt;generalize (execOp a.eval o).run P (more w x)=r at*;cases r with
   |ok nx w''=>
    cases nx <;> simp only[Ab2] at h3 <;> simp only[Oper.quietUpon]
    case value u=>exact h3
    case skip=>exact h3
    case enter f args=>exact ⟨h3.1,h3.2.mono fun e w3 ⟨he,hl⟩=>⟨he,L6.trans ⟨x,rfl⟩ hl⟩⟩
   |halt hh w''=>simp only[Ab2] at h3
  ·rename_i hw
   rw[if_neg hw];exact ih _ h
theorem AG4 {id:Nat}{Q:Exit→Act→World→Prop}{a:Act}{w:World}{l:List Oper}(hm:P.follows .mixedOrders=true)(hB:Region.lexB .any l.toArray=true)
  (h:S8 P l.toArray w (fun a'=>∀x,Q .normal a' (more w x)) l a):(Code.region id l.toArray true).wp P Q a w:=
 Dr7 hm hB (L6 w) (Bq3 w).drew
  (Bq8 _ _ (by
   have key:∀(l':List Oper) (a:Act) (Q1 Q2:Act→Prop),(∀a,Q1 a→Q2 a)→S8 P l.toArray w Q1 l' a→S8 P l.toArray w Q2 l' a:=by
    intro l'
    induction l' with
    |nil=>intro a Q1 Q2 hq h;exact hq _ h
    |cons o l' ih=>
     intro a Q1 Q2 hq h;unfold S8 at h ⊢;split at h
     ·rename_i hw;rw[if_pos hw];obtain⟨v,h1,h2⟩:=h;exact⟨v,h1,ih _ _ _ hq h2⟩
     ·rename_i hw;rw[if_neg hw];exact ih _ _ _ hq h
   refine key l a _ _ (fun a' hq w' hl=> ?_) h
   obtain⟨x,rfl⟩:=hl;exact hq x))
theorem Ab3 {id:Nat}{Q:Exit→Act→World→Prop}{a:Act}{w:World}{l:List Oper}(n:Nat)(hm:P.follows .mixedOrders=true)(hB:Region.lexTailB .any l.toArray n=true)
  (h:S8 P l.toArray w (fun a'=>∀x,wpList P l.toArray Q (l.drop n) a' (more w x)) (l.take n) a):(Code.region id l.toArray true).wp P Q a w:=
 Dr6 n hm hB (L6 w) (Bq3 w).drew
  (Bq8 _ _ (by
   have key:∀(l':List Oper) (a:Act) (Q1 Q2:Act→Prop),(∀a,Q1 a→Q2 a)→S8 P l.toArray w Q1 l' a→S8 P l.toArray w Q2 l' a:=by
    intro l'
    induction l' with
    |nil=>intro a Q1 Q2 hq h;exact hq _ h
    |cons o l' ih=>
     intro a Q1 Q2 hq h;unfold S8 at h ⊢;split at h
     ·rename_i hw;rw[if_pos hw];obtain⟨v,h1,h2⟩:=h;exact⟨v,h1,ih _ _ _ hq h2⟩
     ·rename_i hw;rw[if_neg hw];exact ih _ _ _ hq h
   refine key (l.take n) a _ _ (fun a' hq w' hl=> ?_) h
   obtain⟨x,rfl⟩:=hl;exact hq x))
def Ax8 (P:Program)(ops:Array Oper)(w:World)(b i n:Nat)(Q:Array Value→Act→Prop):Option (Array Value)→Nat→List Oper→Act→Prop
 |none,_,[],_=>False
 |some V,_,[],a=>Q V a
 |ov,k,o::rest,a=>
  if k=i then
   o.guard=none∧o.dst=none∧ov=none∧∃ty x y V,o.op = .store ty x y∧a.eval x = .pointer (some ⟨b,0,none⟩)∧a.eval y = .agg V∧V.size=n∧V.all (·.oneCell')=true∧(P.info? ty).map (·.size)=some n∧
    Ax8 P ops w b i n Q (some V) (k+1) rest a
  else if Region.wanted o (yielded ops a.tmps)=true then ∃v,(∀x c,Ab2 P v (more (w.setRow b c) x) ((execOp a.eval o).run P (more (w.setRow b c) x)))∧Ax8 P ops w b i n Q ov (k+1) rest (a.put o.dst v)
  else Ax8 P ops w b i n Q ov (k+1) rest (a.put o.dst undef)
end
attribute [irreducible] S8 Ax8
end Go.Proofs.YthfjpkdadjemcaaGreat
