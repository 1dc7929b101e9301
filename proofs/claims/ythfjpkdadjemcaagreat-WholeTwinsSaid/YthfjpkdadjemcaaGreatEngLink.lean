/- From what a row's arguments read as to the reading's data: plain data of any shape. No program in sight. -/
import Derived.Test.YthfjpkdadjemcaaGreatEngRow
import Derived.Test.YthfjpkdadjemcaaGreatClaimKit
import Derived.ChangeArms
import Derived.OpenShut
import Derived.WideKeyArgs
import Derived.ChangeMaps5
import Derived.Deep.Slices
import Derived.SizedLaws
set_option linter.unusedSimpArgs false
set_option linter.unusedVariables false
namespace Go.Proofs.YthfjpkdadjemcaaGreat
open Go.RowKit Go.WideShapes Go.ChangeShapes
open _root_.Nat renaming eq_of_beq_eq_true → FO7, beq → FP0, le_of_ble_eq_true → FP1, zero_le → FP9
open _root_.Bool renaming and_eq_true → FO8
open _root_.List renaming getElem?_eq_getElem → FO9, getElem?_map → FP3, drop_eq_nil_of_le → FP4, take_of_length_le → FP5, take_append_drop → FP6, getElem?_eq_none → FP7, mem_map → FP8
open _root_.Array renaming getElem?_eq_some_iff → FP2
def Fits:(t:Ty)→t.den→Prop
 | .int k,n=>fits k n=true
 | .bool,_=>True
 | .str,s=>s.size≤140737488351232
 | .unit,_=>True
 | .pair a b,x=>Fits a x.1∧Fits b x.2
 | .agg a,x=>Fits a x
 | .slice a,l=>l.length≤140737488351232∧∀x∈l,Fits a x
def Y2 {H:Type}(P:Program)(t:TypeId)(d:DataW H):Prop:=∀n∈d.weights P t,n≤reachBytes
theorem BS2 {H:Type}{P:Program}{e:TypeId}:∀{l:List (DataW H)},(∀n∈DataW.weightsAll P e l,n≤reachBytes)→∀d∈l,Y2 P e d
 | [],_,d,h=>by cases h
 |x::l,h,d,hd=>by
  simp only[DataW.weightsAll,List.mem_append] at h;rcases List.mem_cons.1 hd with rfl | hd
  ·exact fun n hn=>h n (.inl hn)
  ·exact BS2 (fun n hn=>h n (.inr hn)) d hd
theorem BS3 {H:Type}{P:Program}{ts:List TypeId}{ds:List (DataW H)}(h:∀n∈DataW.weightsEach P ts ds,n≤reachBytes){j:Nat}{t:TypeId}{d:DataW H}(ht:ts[j]? = some t)(hd:ds[j]? = some d):Y2 P t d:=
 fun n hn=>h n (DataW.weights_mem_each ht hd n hn)
def Ae2 (P:Program)(ok:Nat→Ty→Bool):List Field→Ty→Nat→Bool
 | [],.unit,_=>true
 | [f],t,off=>FP0 f.offset off&&FP0 (P.cellsOf f.type) t.size&&ok f.type t
 |f::g::r,.pair a b,off=>FP0 f.offset off&&FP0 (P.cellsOf f.type) a.size&&ok f.type a&&Ae2 P ok (g::r) b (off+a.size)
 |_,_,_=>false
def Ae3 (P:Program)(ok:Nat→Ty→Bool)(e s:Nat):Nat→Ty→Bool
 |0,.unit=>true
 |1,t=>FP0 s t.size&&ok e t
 |n+2,.pair a b=>FP0 s a.size&&ok e a&&Ae3 P ok e s (n+1) b
 |_,_=>false
def p9 (P:Program):Nat→Nat→Ty→Bool
 |0,_,_=>false
 |m+1,t,ty=>match P.underlying t,ty with
  |some .bool,.bool=>true
  |some (.int k),.int k'=>decide (k=k')
  |some .string,.str=>true
  |some (.slice e),.slice a=>FP0 (P.cellsOf e) a.size&&Nat.ble 1 a.size&&Nat.ble 1 (P.bytesOf e)&&p9 P m e a
  |some (.struct fs),.agg r=>FP0 (P.cellsOf t) r.size&&Ae2 P (p9 P m) fs.toList r 0
  |some (.array n e),.agg r=>FP0 (P.cellsOf t) r.size&&Ae3 P (p9 P m) e (P.cellsOf e) n r
  |_,_=>false
section
variable {H:Type}{enc:TypeId×Value→H}{P:Program}{w:World}{base:Nat}{spare:Nat→Bool}{held:Bool}
theorem CF9 {a:Addr}{n:Nat}{cs:List Value}(h:w.cells? base a n=some cs):cs.length=n∧∀i,i<n→w.cell? (a.add i)=cs[i]? := by
 unfold World.cells? at h;split at h
 ·have hl:=mapM_some_length h
  refine⟨by simpa using hl,fun i hi=>mapM_some_get h i i (by simp[hi])⟩
 ·cases h
theorem EP9 {a:Addr}{v:Value}(h:w.cell? a=some v):a.spot=none∧∃c T fz,w.heap[a.block]? = some (.cells c T fz)∧c[a.off]? = some v:=by
 unfold World.cell? at h;split at h
 ·rename_i c T fz hb
  split at h
  ·cases h
  ·rename_i hs
   exact⟨by simpa using hs,c,T,fz,hb,h⟩
 ·cases h
theorem CG0 {ok:Nat→Ty→Bool}{n:Nat}(hok:∀t ty cs x,ok t ty=true→DataW.trod enc P w base spare held n t cs=some x→Y2 P t x.1→∃v:ty.den,Rep (M0 w) w ty v cs∧Fits ty v):
  ∀(fs:List Field) (r:Ty) (off:Nat) (cs:List Value),Ae2 P ok fs r off=true→cs.length=off+r.size→
   (∀f∈fs,∃x,DataW.trod enc P w base spare held n f.type ((cs.drop f.offset).take (P.cellsOf f.type))=some x∧Y2 P f.type x.1)→∃v:r.den,Rep (M0 w) w r v (cs.drop off)∧Fits r v
 | [],r,off,cs,h,hl,hx=>by
  cases r <;> simp only[Ae2] at h <;> first | cases h | skip
  refine⟨(),?_,trivial⟩;simp only[Ty.size] at hl;show cs.drop off=[];exact FP4 (by omega)
 | [f],r,off,cs,h,hl,hx=>by
  have h':(FP0 f.offset off&&FP0 (P.cellsOf f.type) r.size&&ok f.type r)=true:=by cases r <;> simpa only[Ae2] using h
  simp only[FO8] at h';obtain⟨⟨h1,h2⟩,h3⟩:=h';have h1:=FO7 h1;have h2:=FO7 h2;obtain⟨x,hx,hw⟩:=hx f (by simp)
  obtain⟨v,hv,hf⟩:=hok _ _ _ _ h3 hx hw;refine⟨v,?_,hf⟩;rw[h1,h2,FP5 (by simp;omega)] at hv
  exact hv
 |f::g::fs,r,off,cs,h,hl,hx=>by
  cases r <;> simp only[Ae2] at h <;> first | cases h | skip
  rename_i a b;simp only[FO8] at h;obtain⟨⟨⟨h1,h2⟩,h3⟩,h4⟩:=h;have h1:=FO7 h1;have h2:=FO7 h2;simp only[Ty.size] at hl;obtain⟨x,hx1,hw⟩:=hx f (by simp)
  obtain⟨v,hv,hf1⟩:=hok _ _ _ _ h3 hx1 hw;obtain⟨u,hu,hf2⟩:=CG0 hok (g::fs) b (off+a.size) cs h4 (by omega) (fun f' hf=>hx f' (by simp at hf ⊢;exact .inr hf))
  rw[h1,h2] at hv;refine⟨(v,u),⟨_,_,?_,hv,hu⟩,hf1,hf2⟩;rw[← List.drop_drop,FP6]
theorem CG1 {ok:Nat→Ty→Bool}{n e s:Nat}(hok:∀t ty cs x,ok t ty=true→DataW.trod enc P w base spare held n t cs=some x→Y2 P t x.1→∃v:ty.den,Rep (M0 w) w ty v cs∧Fits ty v):
  ∀(k:Nat) (r:Ty) (i0:Nat) (cs:List Value),Ae3 P ok e s k r=true→cs.length=i0*s+r.size→
   (∀i,i<k→∃x,DataW.trod enc P w base spare held n e ((cs.drop ((i0+i)*s)).take s)=some x∧Y2 P e x.1)→∃v:r.den,Rep (M0 w) w r v (cs.drop (i0*s))∧Fits r v
 |0,r,i0,cs,h,hl,hx=>by
  cases r <;> simp only[Ae3] at h <;> first | cases h | skip
  refine⟨(),?_,trivial⟩;simp only[Ty.size] at hl;show cs.drop (i0*s)=[];exact FP4 (by omega)
 |1,r,i0,cs,h,hl,hx=>by
  have h':(FP0 s r.size&&ok e r)=true:=by cases r <;> simpa only[Ae3] using h
  simp only[FO8] at h';have h1:=FO7 h'.1;obtain⟨x,hx,hw⟩:=hx 0 (by omega)
  obtain⟨v,hv,hf⟩:=hok _ _ _ _ h'.2 hx hw;refine⟨v,?_,hf⟩;rw[Nat.add_zero,FP5 (by simp;omega)] at hv
  exact hv
 |k+2,r,i0,cs,h,hl,hx=>by
  cases r <;> simp only[Ae3] at h <;> first | cases h | skip
  rename_i a b;simp only[FO8] at h;obtain⟨⟨h1,h2⟩,h3⟩:=h;have h1:=FO7 h1;simp only[Ty.size] at hl;obtain⟨x,hx1,hw⟩:=hx 0 (by omega)
  obtain⟨v,hv,hf1⟩:=hok _ _ _ _ h2 hx1 hw;have hs:(i0+1)*s=i0*s+s:=by rw[Nat.add_mul,Nat.one_mul]
  obtain⟨u,hu,hf2⟩:=CG1 hok (k+1) b (i0+1) cs h3 (by rw[hs];omega) (fun i hi=>by
   have:=hx (i+1) (by omega)
   rwa [show i0+(i+1)=i0+1+i by omega] at this)
  rw[Nat.add_zero] at hv;refine⟨(v,u),⟨_,_,?_,hv,hu⟩,hf1,hf2⟩;rw[hs,← List.drop_drop,FP6]
instance Ef4 (t:Ty):Inhabited t.den:=⟨t.J7⟩
theorem EQ0:∀(n m t:Nat) (ty:Ty) (cs:List Value) (x:DataW H×List MemPlace),p9 P m t ty=true→DataW.trod enc P w base spare held n t cs=some x→Y2 P t x.1→∃v:ty.den,Rep (M0 w) w ty v cs∧Fits ty v:=by
 intro n
 induction n with
 |zero=>intro m t ty cs x _ h;simp[DataW.trod] at h
 |succ n ih=>
  intro m t ty cs x hB h hw;cases m with
  |zero=>cases hB
  |succ m=>
   simp only[p9] at hB;split at hB
   ·rename_i hu
    obtain⟨b,rfl,_⟩:=DataW.trod_bool hu h;exact⟨b,rfl,trivial⟩
   ·rename_i k k' hu
    have hk:=of_decide_eq_true hB;subst hk;obtain⟨i,rfl,_,hwf⟩:=DataW.trod_int hu h;have hfit:fits k i=true:=(AY7 k i).2 (by simpa[Lit.wf] using hwf)
    exact⟨i,⟨rfl,hfit⟩,hfit⟩
   ·rename_i hu
    obtain⟨s,rfl,rfl,hs⟩:=DataW.trod_string hu h;have hb:s.size≤reachBytes:=by
     have:=hw s.data.toList.length (by simp[DataW.weights])
     simpa using this
    unfold reachBytes at hb;refine⟨s,⟨rfl,by omega⟩,?_⟩
    show s.size≤140737488351232;omega
   ·rename_i e a hu
    simp only[FO8] at hB;obtain⟨⟨⟨h1,h2⟩,h2b⟩,h3⟩:=hB;have h1:=FO7 h1;have h2:=FP1 h2;have h2b:=FP1 h2b;rcases DataW.trod_slice hu h with⟨rfl,rfl⟩|⟨ad,len,cap,elems,rest,n',hn,rfl,rfl,hb,hl,hm,hlen,hel,hsp,hns⟩
    ·exact⟨[],⟨none,0,rfl,⟨FP9 _,FP9 _⟩,fun h=>absurd rfl h⟩,FP9 _,fun x hx=>by cases hx⟩
    ·have hn:n=n':=by omega
     subst hn;have hwt:(elems.length+rest.length)*P.bytesOf e≤reachBytes∧∀d∈elems.map (·.1),Y2 P e d:=by unfold Y2 at hw;simp only[DataW.weights,hu,List.length_map] at hw;refine⟨hw _ (by simp),BS2 fun n hn=>hw n (by simp[hn])⟩
     have hlim:len≤140737488351232:=by have k1:(elems.length+rest.length)*1≤(elems.length+rest.length)*P.bytesOf e:=Nat.mul_le_mul_left _ h2b;have:=hwt.1;unfold reachBytes at this;omega
     have hel':∀i,i<len→∃(v:a.den),(∃cs':List Value,w.cells? base (ad.add (i*a.size)) a.size=some cs'∧Rep (M0 w) w a v cs')∧Fits a v:=by
      intro i hi;have hi':i<elems.length:=by omega
      have hk:=hel i hi;rw[FO9 hi'] at hk;obtain⟨cs',hc,ht⟩:=Option.bind_eq_some_iff.1 hk;obtain⟨v,hv,hf⟩:=ih m e a cs' _ h3 ht (hwt.2 _ (FP8.2 ⟨_,List.getElem_mem hi',rfl⟩));exact⟨v,⟨cs',by rw[← h1];exact hc,hv⟩,hf⟩
     obtain⟨f,hf⟩:=Go.Deep.choose_lt hel';refine⟨(List.range len).map f,⟨some ad,cap,by simp,⟨by simp;omega,by simpa using hl⟩,fun hne=> ?_⟩,by simpa using hlim,fun x hx=> ?_⟩
     rotate_left
     ·obtain⟨i,hi,rfl⟩:=FP8.1 hx
      exact (hf i (List.mem_range.1 hi)).2
     have hlen':0<len:=by apply Nat.pos_of_ne_zero;intro h0;subst h0;exact hne rfl
     obtain⟨⟨cs0,hc0,_⟩,_⟩:=hf 0 hlen';obtain⟨l0,g0⟩:=CF9 hc0;have hcell:=g0 0 (by omega)
     rw[FO9 (by omega)] at hcell
     simp only[Nat.zero_mul] at hcell;have e0:(ad.add 0).add 0=ad:=rfl;rw[e0] at hcell;obtain⟨hsp,c,T,fz,hheap,_⟩:=EP9 hcell;obtain⟨blk,off,spot⟩:=ad;simp only at hsp hheap;subst hsp;refine⟨blk,off,c,T,fz,rfl,?_,hheap,fun i y hy=> ?_⟩
     ·refine L3 ?_
      unfold M0;rw[if_pos];exact (FP2.1 hheap).1
     ·have hi:i<len:=by have:=(List.getElem?_eq_some_iff.1 hy).1;simpa using this
      have hy':f i=y:=by rw[FP3,List.getElem?_range hi] at hy;simpa using hy
      subst hy';obtain⟨⟨cs',hc',hr⟩,_⟩:=hf i hi;obtain⟨l',g'⟩:=CF9 hc';have:(c.toList.drop (off+i*a.size)).take a.size=cs':=by
       have hget:∀j,j<a.size→c[off+i*a.size+j]? = cs'[j]? := by intro j hj;have:=g' j hj;rw[Go.Deep.add_add,Z3,AE8 hheap] at this;rw[← this];congr 1;omega
       apply List.ext_getElem?;intro j;by_cases hj:j<a.size
       ·rw[List.getElem?_take,if_pos hj,List.getElem?_drop,← hget j hj]
        simp
       ·rw[FP7 (by simp;omega),FP7 (by omega)]
      rw[this];exact hr
   ·rename_i fs r hu
    simp only[FO8] at hB;have hs:=FO7 hB.1;obtain⟨xs,n',hn,rfl,hl,hxl,hf⟩:=DataW.trod_struct hu h;have hn:n=n':=by omega
    subst hn;have hwt:∀n∈DataW.weightsEach P (fs.toList.map (·.type)) (xs.map (·.1)),n≤reachBytes:=by unfold Y2 at hw;simpa only[DataW.weights,hu] using hw
    have:=CG0 (ok:=p9 P m) (fun t ty cs x h1 h2 h3=>ih m t ty cs x h1 h2 h3) fs.toList r 0 cs hB.2 (by omega) (fun f hfm=>by
     obtain⟨i,hi⟩:=List.getElem?_of_mem hfm;have hfi:fs[i]? = some f:=by simpa using hi
     have hlt:i<xs.length:=by rw[hxl];exact (FP2.1 hfi).1
     exact⟨_,(hf i f hfi).trans (FO9 hlt),BS3 hwt (j:=i) (by rw[FP3,hi];rfl) (by rw[FP3,FO9 hlt];rfl)⟩)
    obtain⟨v,hv,hfit⟩:=this;have hv':Rep (M0 w) w r v cs:=by simpa using hv
    exact⟨v,hv',hfit⟩
   ·rename_i k e r hu
    simp only[FO8] at hB;have hs:=FO7 hB.1;obtain⟨xs,n',hn,rfl,hl,hxl,hf⟩:=DataW.trod_array hu h;have hn:n=n':=by omega
    subst hn;have hwt:∀d∈xs.map (·.1),Y2 P e d:=by unfold Y2 at hw;simp only[DataW.weights,hu] at hw;exact BS2 hw
    have:=CG1 (ok:=p9 P m) (fun t ty cs x h1 h2 h3=>ih m t ty cs x h1 h2 h3) k r 0 cs hB.2 (by omega) (fun i hi=>by
     rw[Nat.zero_add];have hlt:i<xs.length:=by omega
     exact⟨_,(hf i hi).trans (FO9 hlt),hwt _ (FP8.2 ⟨_,List.getElem_mem hlt,rfl⟩)⟩)
    obtain⟨v,hv,hfit⟩:=this;have hv':Rep (M0 w) w r v cs:=by simpa using hv
    exact⟨v,hv',hfit⟩
   ·cases hB
theorem CG2 {m t:Nat}{ty:Ty}{v:Value}{d:DataW H}{p:List MemPlace}{r:Reach}{b0:Nat}(hB:p9 P m t ty=true)(hv:Value.okWide P w r b0 t v)(h:DataW.Trod enc P w base spare held t v d p)(hw:Y2 P t d):
  ∃x:ty.den,C7 (M0 w) w ty x v∧Fits ty x:=by
 obtain⟨n,hn⟩:=id h;obtain⟨x,hx,hf⟩:=EQ0 n m t ty _ _ hB hn hw;cases m with
 |zero=>cases hB
 |succ m=>
  simp only[p9] at hB;split at hB
  ·rename_i hu
   obtain⟨b,rfl⟩:=okWide_bool hu hv;exact⟨x,hx,hf⟩
  ·rename_i k k' hu
   obtain⟨b,rfl,_⟩:=open_int hu hv h;exact⟨x,hx,hf⟩
  ·rename_i hu
   obtain⟨b,rfl⟩:=okWide_string hu hv;exact⟨x,hx,hf⟩
  ·rename_i hu
   obtain⟨a,l,c,rfl⟩:=okWide_slice hu hv;exact⟨x,hx,hf⟩
  ·rename_i hu
   obtain⟨cs,rfl,_⟩:=okWide_struct hu hv;exact⟨x,⟨cs,rfl,hx⟩,hf⟩
  ·rename_i k e r' hu
   have:∃cs,v = .agg cs:=by unfold Value.okWide at hv;rw[hu] at hv;obtain⟨cs,h,_⟩:=hv;exact⟨cs,h⟩
   obtain⟨cs,rfl⟩:=this;exact⟨x,⟨cs,rfl,hx⟩,hf⟩
  ·cases hB
def Ae4 (P:Program):List TypeId→Ty→Bool
 | [],.unit=>true
 | [t],ty=>p9 P 40 t ty
 |t::t'::r,.pair a b=>p9 P 40 t a&&Ae4 P (t'::r) b
 |_,_=>false
theorem CG3 {r:Reach}{b0:Nat}:∀(ts:List TypeId) (ins:Ty) (vs:List Value) (ds:List (DataW H)) (p:List MemPlace),Ae4 P ts ins=true→DataW.TrodAll enc P w base spare held ts vs ds p→(∀n∈DataW.weightsEach P ts ds,n≤reachBytes)→
  (∀(j:Nat) t v,ts[j]? = some t→vs[j]? = some v→Value.okWide P w r b0 t v)→∃x:ins.den,RL (M0 w) w (A8 ins ts.length x) vs∧Fits ins x
 | [],ins,vs,ds,p,hB,h,hw,hv=>by
  cases ins <;> simp only[Ae4] at hB <;> first | cases hB | skip
  cases vs with
  |nil=>exact ⟨(),trivial,trivial⟩
  |cons v vs=>cases ds <;> exact h.elim
 | [t],ins,vs,ds,p,hB,h,hw,hv=>by
  have hB':p9 P 40 t ins=true:=by cases ins <;> simpa only[Ae4] using hB
  cases vs with
  |nil=>cases ds <;> exact h.elim
  |cons v vs=>
   cases ds with
   |nil=>exact h.elim
   |cons d ds=>
    obtain⟨p1,p2,h1,h2,_⟩:=h;obtain⟨x,hx,hf⟩:=CG2 hB' (hv 0 t v rfl rfl) h1 (BS3 hw (j:=0) rfl rfl);cases vs with
    |nil=>
     refine⟨x,?_,hf⟩;have:A8 ins 1 x=[.dat ins x]:=by cases ins <;> rfl
     show RL _ _ (A8 ins 1 x) _;rw[this];exact⟨.dat hx,trivial⟩
    |cons v' vs=>cases ds <;> exact h2.elim
 |t::t'::ts,ins,vs,ds,p,hB,h,hw,hv=>by
  cases ins <;> simp only[Ae4] at hB <;> first | cases hB | skip
  rename_i a b;simp only[FO8] at hB;cases vs with
  |nil=>cases ds <;> exact h.elim
  |cons v vs=>
   cases ds with
   |nil=>exact h.elim
   |cons d ds=>
    obtain⟨p1,p2,h1,h2,_⟩:=h;obtain⟨x,hx,hf1⟩:=CG2 hB.1 (hv 0 t v rfl rfl) h1 (BS3 hw (j:=0) rfl rfl);obtain⟨y,hy,hf⟩:=CG3 (t'::ts) b vs ds p2 hB.2 h2 (fun n hn=>hw n (by simp only[DataW.weightsEach,List.mem_append];exact .inr hn)) (fun j t v h1 h2=>hv (j+1) t v (by simpa using h1) (by simpa using h2))
    exact⟨(x,y),⟨.dat hx,hy⟩,hf1,hf⟩
theorem EQ1 {α:Type}{l:List α}(h:l.length=3):∃d0 d1 d2,l=[d0,d1,d2]:=by
 match l,h with
 | [d0,d1,d2],_=>exact ⟨_,_,_,rfl⟩
theorem CG4 {sp:Nat→Bool}{hd:Bool}:∀{ts:List TypeId} {vs:List Value} {ds:List (DataW H)} {p:List MemPlace},DataW.TrodAll enc P w base sp hd ts vs ds p→ds.length=ts.length
 | [],[],[],_,_=>rfl
 |t::ts,v::vs,d::ds,p,h=>by obtain⟨p1,p2,h1,h2,_⟩:=h;simp[CG4 h2]
 | [],[],_::_,_,h=>h.elim
 | [],_::_,_,_,h=>h.elim
 |_::_,[],_,_,h=>h.elim
 |_::_,_::_,[],_,h=>h.elim
theorem EQ2 {sp:Nat→Bool}{hd:Bool}{t0 t1 t2:TypeId}{vs:List Value}{ds:List (DataW H)}{p:List MemPlace}(h:DataW.TrodAll enc P w base sp hd [t0,t1,t2] vs ds p):∃d0 d1 d2,ds=[d0,d1,d2]:=by have:=CG4 h;obtain⟨d0,d1,d2,rfl⟩:=EQ1 this;exact⟨_,_,_,rfl⟩
def CG5 (P:Program)(ts:List TypeId):Bool:=ts.all fun t=>P.readableRec t&&Nat.blt t P.types.size
theorem CG6 {W W':World}(hl:laidOutB P=true)(hb:Below W.heap.size W W'){sp:Nat→Bool}:∀(ts:List TypeId) (vs:List Value) (ds:List (DataW H)) (p:List MemPlace),CG5 P ts=true→
  DataW.TrodAll enc P W 0 (fun _=>true) true ts vs ds p→(∀x∈p,x.block<W.heap.size)→(∀x∈p,sp x.block=true)→DataW.TrodAll enc P W' 0 sp true ts vs ds p
 | [],vs,ds,p,_,h,_,_=>by cases vs <;> cases ds <;> exact h
 |t::ts,vs,ds,p,hB,h,hlt,hsp=>by
  cases vs with
  |nil=>cases ds <;> exact h.elim
  |cons v vs=>
   cases ds with
   |nil=>exact h.elim
   |cons d ds=>
    obtain⟨p1,p2,h1,h2,rfl⟩:=h;simp only[CG5,List.all_cons,FO8] at hB;exact⟨p1,p2,Go.WideElems.Trod_stays hl hB.1.1 (Nat.lt_of_succ_le (FP1 hB.1.2)) h1 (fun x hx=>hb.same (hlt x (by simp[hx]))) (fun x hx=>hsp x (by simp[hx])),
     CG6 hl hb ts vs ds p2 hB.2 h2 (fun x hx=>hlt x (by simp[hx])) (fun x hx=>hsp x (by simp[hx])),rfl⟩
end
end Go.Proofs.YthfjpkdadjemcaaGreat
