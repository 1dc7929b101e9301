/- From what a row's arguments read as to the reading's data: plain data of any shape. No program in sight. -/
import Derived.Test.YthfjpkdadjemcaaGreatEngRow
import Derived.Test.YthfjpkdadjemcaaGreatClaimKit
import Derived.ChangeArms
import Derived.OpenShut
import Derived.WideKeyArgs
import Derived.ChangeMaps5
import Derived.Deep.Slices
import Derived.SizedLaws
set_option linter.unusedSimpArgs false
set_option linter.unusedVariables false
namespace Go.Proofs.YthfjpkdadjemcaaGreat
open Go.RowKit Go.WideShapes Go.ChangeShapes
open _root_.Nat renaming eq_of_beq_eq_true → FX2, beq → FX5, le_of_ble_eq_true → FX6, zero_le → FY4
open _root_.Bool renaming and_eq_true → FX3
open _root_.List renaming getElem?_eq_getElem → FX4, getElem?_map → FX8, drop_eq_nil_of_le → FX9, take_of_length_le → FY0, take_append_drop → FY1, getElem?_eq_none → FY2, mem_map → FY3
open _root_.Array renaming getElem?_eq_some_iff → FX7
def Fits:(t:Ty)→t.den→Prop
 | .int k,n=>fits k n=true
 | .bool,_=>True
 | .str,s=>s.size≤140737488351232
 | .unit,_=>True
 | .pair a b,x=>Fits a x.1∧Fits b x.2
 | .agg a,x=>Fits a x
 | .slice a,l=>l.length≤140737488351232∧∀x∈l,Fits a x
def X9 {H:Type}(P:Program)(t:TypeId)(d:DataW H):Prop:=∀n∈d.weights P t,n≤reachBytes
theorem BR5 {H:Type}{P:Program}{e:TypeId}:∀{l:List (DataW H)},(∀n∈DataW.weightsAll P e l,n≤reachBytes)→∀d∈l,X9 P e d
 | [],_,d,h=>by cases h
 |x::l,h,d,hd=>by
  simp only[DataW.weightsAll,List.mem_append] at h;rcases List.mem_cons.1 hd with rfl | hd
  ·exact fun n hn=>h n (.inl hn)
  ·exact BR5 (fun n hn=>h n (.inr hn)) d hd
theorem BR6 {H:Type}{P:Program}{ts:List TypeId}{ds:List (DataW H)}(h:∀n∈DataW.weightsEach P ts ds,n≤reachBytes){j:Nat}{t:TypeId}{d:DataW H}(ht:ts[j]? = some t)(hd:ds[j]? = some d):X9 P t d:=
 fun n hn=>h n (DataW.weights_mem_each ht hd n hn)
def Ag1 (P:Program)(ok:Nat→Ty→Bool):List Field→Ty→Nat→Bool
 | [],.unit,_=>true
 | [f],t,off=>FX5 f.offset off&&FX5 (P.cellsOf f.type) t.size&&ok f.type t
 |f::g::r,.pair a b,off=>FX5 f.offset off&&FX5 (P.cellsOf f.type) a.size&&ok f.type a&&Ag1 P ok (g::r) b (off+a.size)
 |_,_,_=>false
def Ag2 (P:Program)(ok:Nat→Ty→Bool)(e s:Nat):Nat→Ty→Bool
 |0,.unit=>true
 |1,t=>FX5 s t.size&&ok e t
 |n+2,.pair a b=>FX5 s a.size&&ok e a&&Ag2 P ok e s (n+1) b
 |_,_=>false
def q9 (P:Program):Nat→Nat→Ty→Bool
 |0,_,_=>false
 |m+1,t,ty=>match P.underlying t,ty with
  |some .bool,.bool=>true
  |some (.int k),.int k'=>decide (k=k')
  |some .string,.str=>true
  |some (.slice e),.slice a=>FX5 (P.cellsOf e) a.size&&Nat.ble 1 a.size&&Nat.ble 1 (P.bytesOf e)&&q9 P m e a
  |some (.struct fs),.agg r=>FX5 (P.cellsOf t) r.size&&Ag1 P (q9 P m) fs.toList r 0
  |some (.array n e),.agg r=>FX5 (P.cellsOf t) r.size&&Ag2 P (q9 P m) e (P.cellsOf e) n r
  |_,_=>false
section
variable {H:Type}{enc:TypeId×Value→H}{P:Program}{w:World}{base:Nat}{spare:Nat→Bool}{held:Bool}
theorem CH4 {a:Addr}{n:Nat}{cs:List Value}(h:w.cells? base a n=some cs):cs.length=n∧∀i,i<n→w.cell? (a.add i)=cs[i]? := by
 unfold World.cells? at h;split at h
 ·have hl:=mapM_some_length h
  refine⟨by simpa using hl,fun i hi=>mapM_some_get h i i (by simp[hi])⟩
 ·cases h
theorem EU8 {a:Addr}{v:Value}(h:w.cell? a=some v):a.spot=none∧∃c T fz,w.heap[a.block]? = some (.cells c T fz)∧c[a.off]? = some v:=by
 unfold World.cell? at h;split at h
 ·rename_i c T fz hb
  split at h
  ·cases h
  ·rename_i hs
   exact⟨by simpa using hs,c,T,fz,hb,h⟩
 ·cases h
theorem CH5 {ok:Nat→Ty→Bool}{n:Nat}(hok:∀t ty cs x,ok t ty=true→DataW.trod enc P w base spare held n t cs=some x→X9 P t x.1→∃v:ty.den,Rep (L5 w) w ty v cs∧Fits ty v):
  ∀(fs:List Field) (r:Ty) (off:Nat) (cs:List Value),Ag1 P ok fs r off=true→cs.length=off+r.size→
   (∀f∈fs,∃x,DataW.trod enc P w base spare held n f.type ((cs.drop f.offset).take (P.cellsOf f.type))=some x∧X9 P f.type x.1)→∃v:r.den,Rep (L5 w) w r v (cs.drop off)∧Fits r v
 | [],r,off,cs,h,hl,hx=>by
  cases r <;> simp only[Ag1] at h <;> first | cases h | skip
  refine⟨(),?_,trivial⟩;simp only[Ty.size] at hl;show cs.drop off=[];exact FX9 (by omega)
 | [f],r,off,cs,h,hl,hx=>by
  have h':(FX5 f.offset off&&FX5 (P.cellsOf f.type) r.size&&ok f.type r)=true:=by cases r <;> simpa only[Ag1] using h
  simp only[FX3] at h';obtain⟨⟨h1,h2⟩,h3⟩:=h';have h1:=FX2 h1;have h2:=FX2 h2;obtain⟨x,hx,hw⟩:=hx f (by simp)
  obtain⟨v,hv,hf⟩:=hok _ _ _ _ h3 hx hw;refine⟨v,?_,hf⟩;rw[h1,h2,FY0 (by simp;omega)] at hv
  exact hv
 |f::g::fs,r,off,cs,h,hl,hx=>by
  cases r <;> simp only[Ag1] at h <;> first | cases h | skip
  rename_i a b;simp only[FX3] at h;obtain⟨⟨⟨h1,h2⟩,h3⟩,h4⟩:=h;have h1:=FX2 h1;have h2:=FX2 h2;simp only[Ty.size] at hl;obtain⟨x,hx1,hw⟩:=hx f (by simp)
  obtain⟨v,hv,hf1⟩:=hok _ _ _ _ h3 hx1 hw;obtain⟨u,hu,hf2⟩:=CH5 hok (g::fs) b (off+a.size) cs h4 (by omega) (fun f' hf=>hx f' (by simp at hf ⊢;exact .inr hf))
  rw[h1,h2] at hv;refine⟨(v,u),⟨_,_,?_,hv,hu⟩,hf1,hf2⟩;rw[← List.drop_drop,FY1]
theorem CH6 {ok:Nat→Ty→Bool}{n e s:Nat}(hok:∀t ty cs x,ok t ty=true→DataW.trod enc P w base spare held n t cs=some x→X9 P t x.1→∃v:ty.den,Rep (L5 w) w ty v cs∧Fits ty v):
  ∀(k:Nat) (r:Ty) (i0:Nat) (cs:List Value),Ag2 P ok e s k r=true→cs.length=i0*s+r.size→
   (∀i,i<k→∃x,DataW.trod enc P w base spare held n e ((cs.drop ((i0+i)*s)).take s)=some x∧X9 P e x.1)→∃v:r.den,Rep (L5 w) w r v (cs.drop (i0*s))∧Fits r v
 |0,r,i0,cs,h,hl,hx=>by
  cases r <;> simp only[Ag2] at h <;> first | cases h | skip
  refine⟨(),?_,trivial⟩;simp only[Ty.size] at hl;show cs.drop (i0*s)=[];exact FX9 (by omega)
 |1,r,i0,cs,h,hl,hx=>by
  have h':(FX5 s r.size&&ok e r)=true:=by cases r <;> simpa only[Ag2] using h
  simp only[FX3] at h';have h1:=FX2 h'.1;obtain⟨x,hx,hw⟩:=hx 0 (by omega)
  obtain⟨v,hv,hf⟩:=hok _ _ _ _ h'.2 hx hw;refine⟨v,?_,hf⟩;rw[Nat.add_zero,FY0 (by simp;omega)] at hv
  exact hv
 |k+2,r,i0,cs,h,hl,hx=>by
  cases r <;> simp only[Ag2] at h <;> first | cases h | skip
  rename_i a b;simp only[FX3] at h;obtain⟨⟨h1,h2⟩,h3⟩:=h;have h1:=FX2 h1;simp only[Ty.size] at hl;obtain⟨x,hx1,hw⟩:=hx 0 (by omega)
  obtain⟨v,hv,hf1⟩:=hok _ _ _ _ h2 hx1 hw;have hs:(i0+1)*s=i0*s+s:=by rw[Nat.add_mul,Nat.one_mul]
  obtain⟨u,hu,hf2⟩:=CH6 hok (k+1) b (i0+1) cs h3 (by rw[hs];omega) (fun i hi=>by
   have:=hx (i+1) (by omega)
   rwa [show i0+(i+1)=i0+1+i by omega] at this)
  rw[Nat.add_zero] at hv;refine⟨(v,u),⟨_,_,?_,hv,hu⟩,hf1,hf2⟩;rw[hs,← List.drop_drop,FY1]
instance Eo6 (t:Ty):Inhabited t.den:=⟨t.J6⟩
theorem EU9:∀(n m t:Nat) (ty:Ty) (cs:List Value) (x:DataW H×List MemPlace),q9 P m t ty=true→DataW.trod enc P w base spare held n t cs=some x→X9 P t x.1→∃v:ty.den,Rep (L5 w) w ty v cs∧Fits ty v:=by
 intro n
 induction n with
 |zero=>intro m t ty cs x _ h;simp[DataW.trod] at h
 |succ n ih=>
  intro m t ty cs x hB h hw;cases m with
  |zero=>cases hB
  |succ m=>
   simp only[q9] at hB;split at hB
   ·rename_i hu
    obtain⟨b,rfl,_⟩:=DataW.trod_bool hu h;exact⟨b,rfl,trivial⟩
   ·rename_i k k' hu
    have hk:=of_decide_eq_true hB;subst hk;obtain⟨i,rfl,_,hwf⟩:=DataW.trod_int hu h;have hfit:fits k i=true:=(Aa1 k i).2 (by simpa[Lit.wf] using hwf)
    exact⟨i,⟨rfl,hfit⟩,hfit⟩
   ·rename_i hu
    obtain⟨s,rfl,rfl,hs⟩:=DataW.trod_string hu h;have hb:s.size≤reachBytes:=by
     have:=hw s.data.toList.length (by simp[DataW.weights])
     simpa using this
    unfold reachBytes at hb;refine⟨s,⟨rfl,by omega⟩,?_⟩
    show s.size≤140737488351232;omega
   ·rename_i e a hu
    simp only[FX3] at hB;obtain⟨⟨⟨h1,h2⟩,h2b⟩,h3⟩:=hB;have h1:=FX2 h1;have h2:=FX6 h2;have h2b:=FX6 h2b;rcases DataW.trod_slice hu h with⟨rfl,rfl⟩|⟨ad,len,cap,elems,rest,n',hn,rfl,rfl,hb,hl,hm,hlen,hel,hsp,hns⟩
    ·exact⟨[],⟨none,0,rfl,⟨FY4 _,FY4 _⟩,fun h=>absurd rfl h⟩,FY4 _,fun x hx=>by cases hx⟩
    ·have hn:n=n':=by omega
     subst hn;have hwt:(elems.length+rest.length)*P.bytesOf e≤reachBytes∧∀d∈elems.map (·.1),X9 P e d:=by unfold X9 at hw;simp only[DataW.weights,hu,List.length_map] at hw;refine⟨hw _ (by simp),BR5 fun n hn=>hw n (by simp[hn])⟩
     have hlim:len≤140737488351232:=by have k1:(elems.length+rest.length)*1≤(elems.length+rest.length)*P.bytesOf e:=Nat.mul_le_mul_left _ h2b;have:=hwt.1;unfold reachBytes at this;omega
     have hel':∀i,i<len→∃(v:a.den),(∃cs':List Value,w.cells? base (ad.add (i*a.size)) a.size=some cs'∧Rep (L5 w) w a v cs')∧Fits a v:=by
      intro i hi;have hi':i<elems.length:=by omega
      have hk:=hel i hi;rw[FX4 hi'] at hk;obtain⟨cs',hc,ht⟩:=Option.bind_eq_some_iff.1 hk;obtain⟨v,hv,hf⟩:=ih m e a cs' _ h3 ht (hwt.2 _ (FY3.2 ⟨_,List.getElem_mem hi',rfl⟩));exact⟨v,⟨cs',by rw[← h1];exact hc,hv⟩,hf⟩
     obtain⟨f,hf⟩:=Go.Deep.choose_lt hel';refine⟨(List.range len).map f,⟨some ad,cap,by simp,⟨by simp;omega,by simpa using hl⟩,fun hne=> ?_⟩,by simpa using hlim,fun x hx=> ?_⟩
     rotate_left
     ·obtain⟨i,hi,rfl⟩:=FY3.1 hx
      exact (hf i (List.mem_range.1 hi)).2
     have hlen':0<len:=by apply Nat.pos_of_ne_zero;intro h0;subst h0;exact hne rfl
     obtain⟨⟨cs0,hc0,_⟩,_⟩:=hf 0 hlen';obtain⟨l0,g0⟩:=CH4 hc0;have hcell:=g0 0 (by omega)
     rw[FX4 (by omega)] at hcell
     simp only[Nat.zero_mul] at hcell;have e0:(ad.add 0).add 0=ad:=rfl;rw[e0] at hcell;obtain⟨hsp,c,T,fz,hheap,_⟩:=EU8 hcell;obtain⟨blk,off,spot⟩:=ad;simp only at hsp hheap;subst hsp;refine⟨blk,off,c,T,fz,rfl,?_,hheap,fun i y hy=> ?_⟩
     ·refine M0 ?_
      unfold L5;rw[if_pos];exact (FX7.1 hheap).1
     ·have hi:i<len:=by have:=(List.getElem?_eq_some_iff.1 hy).1;simpa using this
      have hy':f i=y:=by rw[FX8,List.getElem?_range hi] at hy;simpa using hy
      subst hy';obtain⟨⟨cs',hc',hr⟩,_⟩:=hf i hi;obtain⟨l',g'⟩:=CH4 hc';have:(c.toList.drop (off+i*a.size)).take a.size=cs':=by
       have hget:∀j,j<a.size→c[off+i*a.size+j]? = cs'[j]? := by intro j hj;have:=g' j hj;rw[Go.Deep.add_add,AG4,Aa0 hheap] at this;rw[← this];congr 1;omega
       apply List.ext_getElem?;intro j;by_cases hj:j<a.size
       ·rw[List.getElem?_take,if_pos hj,List.getElem?_drop,← hget j hj]
        simp
       ·rw[FY2 (by simp;omega),FY2 (by omega)]
      rw[this];exact hr
   ·rename_i fs r hu
    simp only[FX3] at hB;have hs:=FX2 hB.1;obtain⟨xs,n',hn,rfl,hl,hxl,hf⟩:=DataW.trod_struct hu h;have hn:n=n':=by omega
    subst hn;have hwt:∀n∈DataW.weightsEach P (fs.toList.map (·.type)) (xs.map (·.1)),n≤reachBytes:=by unfold X9 at hw;simpa only[DataW.weights,hu] using hw
    have:=CH5 (ok:=q9 P m) (fun t ty cs x h1 h2 h3=>ih m t ty cs x h1 h2 h3) fs.toList r 0 cs hB.2 (by omega) (fun f hfm=>by
     obtain⟨i,hi⟩:=List.getElem?_of_mem hfm;have hfi:fs[i]? = some f:=by simpa using hi
     have hlt:i<xs.length:=by rw[hxl];exact (FX7.1 hfi).1
     exact⟨_,(hf i f hfi).trans (FX4 hlt),BR6 hwt (j:=i) (by rw[FX8,hi];rfl) (by rw[FX8,FX4 hlt];rfl)⟩)
    obtain⟨v,hv,hfit⟩:=this;have hv':Rep (L5 w) w r v cs:=by simpa using hv
    exact⟨v,hv',hfit⟩
   ·rename_i k e r hu
    simp only[FX3] at hB;have hs:=FX2 hB.1;obtain⟨xs,n',hn,rfl,hl,hxl,hf⟩:=DataW.trod_array hu h;have hn:n=n':=by omega
    subst hn;have hwt:∀d∈xs.map (·.1),X9 P e d:=by unfold X9 at hw;simp only[DataW.weights,hu] at hw;exact BR5 hw
    have:=CH6 (ok:=q9 P m) (fun t ty cs x h1 h2 h3=>ih m t ty cs x h1 h2 h3) k r 0 cs hB.2 (by omega) (fun i hi=>by
     rw[Nat.zero_add];have hlt:i<xs.length:=by omega
     exact⟨_,(hf i hi).trans (FX4 hlt),hwt _ (FY3.2 ⟨_,List.getElem_mem hlt,rfl⟩)⟩)
    obtain⟨v,hv,hfit⟩:=this;have hv':Rep (L5 w) w r v cs:=by simpa using hv
    exact⟨v,hv',hfit⟩
   ·cases hB
theorem CH7 {m t:Nat}{ty:Ty}{v:Value}{d:DataW H}{p:List MemPlace}{r:Reach}{b0:Nat}(hB:q9 P m t ty=true)(hv:Value.okWide P w r b0 t v)(h:DataW.Trod enc P w base spare held t v d p)(hw:X9 P t d):
  ∃x:ty.den,D1 (L5 w) w ty x v∧Fits ty x:=by
 obtain⟨n,hn⟩:=id h;obtain⟨x,hx,hf⟩:=EU9 n m t ty _ _ hB hn hw;cases m with
 |zero=>cases hB
 |succ m=>
  simp only[q9] at hB;split at hB
  ·rename_i hu
   obtain⟨b,rfl⟩:=okWide_bool hu hv;exact⟨x,hx,hf⟩
  ·rename_i k k' hu
   obtain⟨b,rfl,_⟩:=open_int hu hv h;exact⟨x,hx,hf⟩
  ·rename_i hu
   obtain⟨b,rfl⟩:=okWide_string hu hv;exact⟨x,hx,hf⟩
  ·rename_i hu
   obtain⟨a,l,c,rfl⟩:=okWide_slice hu hv;exact⟨x,hx,hf⟩
  ·rename_i hu
   obtain⟨cs,rfl,_⟩:=okWide_struct hu hv;exact⟨x,⟨cs,rfl,hx⟩,hf⟩
  ·rename_i k e r' hu
   have:∃cs,v = .agg cs:=by unfold Value.okWide at hv;rw[hu] at hv;obtain⟨cs,h,_⟩:=hv;exact⟨cs,h⟩
   obtain⟨cs,rfl⟩:=this;exact⟨x,⟨cs,rfl,hx⟩,hf⟩
  ·cases hB
def Ag3 (P:Program):List TypeId→Ty→Bool
 | [],.unit=>true
 | [t],ty=>q9 P 40 t ty
 |t::t'::r,.pair a b=>q9 P 40 t a&&Ag3 P (t'::r) b
 |_,_=>false
theorem CH8 {r:Reach}{b0:Nat}:∀(ts:List TypeId) (ins:Ty) (vs:List Value) (ds:List (DataW H)) (p:List MemPlace),Ag3 P ts ins=true→DataW.TrodAll enc P w base spare held ts vs ds p→(∀n∈DataW.weightsEach P ts ds,n≤reachBytes)→
  (∀(j:Nat) t v,ts[j]? = some t→vs[j]? = some v→Value.okWide P w r b0 t v)→∃x:ins.den,RL (L5 w) w (A8 ins ts.length x) vs∧Fits ins x
 | [],ins,vs,ds,p,hB,h,hw,hv=>by
  cases ins <;> simp only[Ag3] at hB <;> first | cases hB | skip
  cases vs with
  |nil=>exact ⟨(),trivial,trivial⟩
  |cons v vs=>cases ds <;> exact h.elim
 | [t],ins,vs,ds,p,hB,h,hw,hv=>by
  have hB':q9 P 40 t ins=true:=by cases ins <;> simpa only[Ag3] using hB
  cases vs with
  |nil=>cases ds <;> exact h.elim
  |cons v vs=>
   cases ds with
   |nil=>exact h.elim
   |cons d ds=>
    obtain⟨p1,p2,h1,h2,_⟩:=h;obtain⟨x,hx,hf⟩:=CH7 hB' (hv 0 t v rfl rfl) h1 (BR6 hw (j:=0) rfl rfl);cases vs with
    |nil=>
     refine⟨x,?_,hf⟩;have:A8 ins 1 x=[.dat ins x]:=by cases ins <;> rfl
     show RL _ _ (A8 ins 1 x) _;rw[this];exact⟨.dat hx,trivial⟩
    |cons v' vs=>cases ds <;> exact h2.elim
 |t::t'::ts,ins,vs,ds,p,hB,h,hw,hv=>by
  cases ins <;> simp only[Ag3] at hB <;> first | cases hB | skip
  rename_i a b;simp only[FX3] at hB;cases vs with
  |nil=>cases ds <;> exact h.elim
  |cons v vs=>
   cases ds with
   |nil=>exact h.elim
   |cons d ds=>
    obtain⟨p1,p2,h1,h2,_⟩:=h;obtain⟨x,hx,hf1⟩:=CH7 hB.1 (hv 0 t v rfl rfl) h1 (BR6 hw (j:=0) rfl rfl);obtain⟨y,hy,hf⟩:=CH8 (t'::ts) b vs ds p2 hB.2 h2 (fun n hn=>hw n (by simp only[DataW.weightsEach,List.mem_append];exact .inr hn)) (fun j t v h1 h2=>hv (j+1) t v (by simpa using h1) (by simpa using h2))
    exact⟨(x,y),⟨.dat hx,hy⟩,hf1,hf⟩
theorem EV0 {α:Type}{l:List α}(h:l.length=3):∃d0 d1 d2,l=[d0,d1,d2]:=by
 match l,h with
 | [d0,d1,d2],_=>exact ⟨_,_,_,rfl⟩
theorem CH9 {sp:Nat→Bool}{hd:Bool}:∀{ts:List TypeId} {vs:List Value} {ds:List (DataW H)} {p:List MemPlace},DataW.TrodAll enc P w base sp hd ts vs ds p→ds.length=ts.length
 | [],[],[],_,_=>rfl
 |t::ts,v::vs,d::ds,p,h=>by obtain⟨p1,p2,h1,h2,_⟩:=h;simp[CH9 h2]
 | [],[],_::_,_,h=>h.elim
 | [],_::_,_,_,h=>h.elim
 |_::_,[],_,_,h=>h.elim
 |_::_,_::_,[],_,h=>h.elim
theorem EV1 {sp:Nat→Bool}{hd:Bool}{t0 t1 t2:TypeId}{vs:List Value}{ds:List (DataW H)}{p:List MemPlace}(h:DataW.TrodAll enc P w base sp hd [t0,t1,t2] vs ds p):∃d0 d1 d2,ds=[d0,d1,d2]:=by have:=CH9 h;obtain⟨d0,d1,d2,rfl⟩:=EV0 this;exact⟨_,_,_,rfl⟩
def CI0 (P:Program)(ts:List TypeId):Bool:=ts.all fun t=>P.readableRec t&&Nat.blt t P.types.size
theorem CI1 {W W':World}(hl:laidOutB P=true)(hb:Below W.heap.size W W'){sp:Nat→Bool}:∀(ts:List TypeId) (vs:List Value) (ds:List (DataW H)) (p:List MemPlace),CI0 P ts=true→
  DataW.TrodAll enc P W 0 (fun _=>true) true ts vs ds p→(∀x∈p,x.block<W.heap.size)→(∀x∈p,sp x.block=true)→DataW.TrodAll enc P W' 0 sp true ts vs ds p
 | [],vs,ds,p,_,h,_,_=>by cases vs <;> cases ds <;> exact h
 |t::ts,vs,ds,p,hB,h,hlt,hsp=>by
  cases vs with
  |nil=>cases ds <;> exact h.elim
  |cons v vs=>
   cases ds with
   |nil=>exact h.elim
   |cons d ds=>
    obtain⟨p1,p2,h1,h2,rfl⟩:=h;simp only[CI0,List.all_cons,FX3] at hB;exact⟨p1,p2,Go.WideElems.Trod_stays hl hB.1.1 (Nat.lt_of_succ_le (FX6 hB.1.2)) h1 (fun x hx=>hb.same (hlt x (by simp[hx]))) (fun x hx=>hsp x (by simp[hx])),
     CI1 hl hb ts vs ds p2 hB.2 h2 (fun x hx=>hlt x (by simp[hx])) (fun x hx=>hsp x (by simp[hx])),rfl⟩
end
end Go.Proofs.YthfjpkdadjemcaaGreat
