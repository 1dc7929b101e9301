/- A unit's state by its parts, and what is reckoned of it. -/
import Derived.Test.YthfjpkdadjemcaaGreatFnsF3
import Derived.Test.YthfjpkdadjemcaaGreatLoopF
set_option linter.unusedSimpArgs false
set_option linter.unusedVariables false
namespace Go.Proofs.YthfjpkdadjemcaaGreat
open Go Go.RowKit
open _root_.Option renaming bind_some → FU0, bind_assoc → FU1
open Go.IntKind renaming wrap → FU2
open _root_.List renaming drop_eq_getElem_cons → FU3
abbrev Cfg:=Int×(Int×(Int×(Int×(Int×(Int×(Int×(Int×(Int×(Int×(Int×(Int×(Int×Int))))))))))))
abbrev Spn:=Int×Int
abbrev Sns:=Bool×Spn
abbrev Cnt:=Bool×(Int×Int)
abbrev Plc:=Bool×(Int×(Spn×(Int×J3)))
abbrev Fsd:=Spn×(Int×(Bool×(Bool×(Int×Int))))
abbrev Fnd:=Int×(List Int×(Bool×Bool))
abbrev Mal:=(Bool×(Bool×(Bool×(Bool×(Bool×Bool)))))×((Int×(Int×(Int×(Int×(Int×Int)))))×(Int×(Int×(Int×Int))))
abbrev G4:=Int×(Int×(Int×(Spn×(Int×(Spn×(Int×(Int×(List (List Int)×(Int×(Bool×(Bool×((Int×Int)×(Bool×(Bool×(Bool×(Bool×(Bool×(Spn×(Int×((Spn×Spn)×(Int×(Int×(Int×Int)))))))))))))))))))))))
structure C8 where
 c:Cfg
 t:TkD
 broken:Bool
 C9:Int
 V8:Spn
 ends:List Int
 k0:Cnt
 k1:Cnt
 K2:Spn
 K3:Spn
 speed:Spn
 K4:Int
 place:Plc
 clean:Bool
 origin:Spn
 p7:Int
 p8:Int
 still:Int×Bool
 E5:Bool×(Bool×Spn)
 watch:Int×(Int×Bool)
abbrev CF2 (ρ:Type):=Int→Int→Int→Int→Int→Int→Int→Int→Int→Int→Int→Int→Int→Int→List (Int×(List (Int×Int)×List Int))→List (Int×(Int×(Int×(Int×Int))))→Bool→Int→Int→Int→List Int→Bool→Int→Int→Bool→Int→Int→Int→Int→Int→Int→Int→Int→Int→Bool→Int→Int→Int→Int→Int→List RtD→Bool→Int→Int→Int→Int→Int→Bool→Bool→Bool→Int→Int→Int→Int→Bool→ρ
def apN {ρ:Type}(F:CF2 ρ)(s:C8):ρ:=F s.c.1 s.c.2.1 s.c.2.2.1 s.c.2.2.2.1 s.c.2.2.2.2.1 s.c.2.2.2.2.2.1 s.c.2.2.2.2.2.2.1 s.c.2.2.2.2.2.2.2.1 s.c.2.2.2.2.2.2.2.2.1 s.c.2.2.2.2.2.2.2.2.2.1 s.c.2.2.2.2.2.2.2.2.2.2.1 s.c.2.2.2.2.2.2.2.2.2.2.2.1 s.c.2.2.2.2.2.2.2.2.2.2.2.2.1 s.c.2.2.2.2.2.2.2.2.2.2.2.2.2 s.t.1 s.t.2 s.broken s.C9 s.V8.1 s.V8.2 s.ends s.k0.1 s.k0.2.1 s.k0.2.2 s.k1.1 s.k1.2.1 s.k1.2.2 s.K2.1 s.K2.2 s.K3.1 s.K3.2 s.speed.1 s.speed.2 s.K4 s.place.1 s.place.2.1 s.place.2.2.1.1 s.place.2.2.1.2 s.place.2.2.2.1 s.place.2.2.2.2.1 s.place.2.2.2.2.2 s.clean s.origin.1 s.origin.2 s.p7 s.p8 s.still.1 s.still.2 s.E5.1 s.E5.2.1 s.E5.2.2.1 s.E5.2.2.2 s.watch.1 s.watch.2.1 s.watch.2.2
theorem J4 {ρ:Type}(F:CF2 ρ)(s:C8):apN F s=F s.c.1 s.c.2.1 s.c.2.2.1 s.c.2.2.2.1 s.c.2.2.2.2.1 s.c.2.2.2.2.2.1 s.c.2.2.2.2.2.2.1 s.c.2.2.2.2.2.2.2.1 s.c.2.2.2.2.2.2.2.2.1 s.c.2.2.2.2.2.2.2.2.2.1 s.c.2.2.2.2.2.2.2.2.2.2.1 s.c.2.2.2.2.2.2.2.2.2.2.2.1 s.c.2.2.2.2.2.2.2.2.2.2.2.2.1 s.c.2.2.2.2.2.2.2.2.2.2.2.2.2 s.t.1 s.t.2 s.broken s.C9 s.V8.1 s.V8.2 s.ends s.k0.1 s.k0.2.1 s.k0.2.2 s.k1.1 s.k1.2.1 s.k1.2.2 s.K2.1 s.K2.2 s.K3.1 s.K3.2 s.speed.1 s.speed.2 s.K4 s.place.1 s.place.2.1 s.place.2.2.1.1 s.place.2.2.1.2 s.place.2.2.2.1 s.place.2.2.2.2.1 s.place.2.2.2.2.2 s.clean s.origin.1 s.origin.2 s.p7 s.p8 s.still.1 s.still.2 s.E5.1 s.E5.2.1 s.E5.2.2.1 s.E5.2.2.2 s.watch.1 s.watch.2.1 s.watch.2.2:=rfl
def tuN (s:C8):=(s.c.1,s.c.2.1,s.c.2.2.1,s.c.2.2.2.1,s.c.2.2.2.2.1,s.c.2.2.2.2.2.1,s.c.2.2.2.2.2.2.1,s.c.2.2.2.2.2.2.2.1,s.c.2.2.2.2.2.2.2.2.1,s.c.2.2.2.2.2.2.2.2.2.1,s.c.2.2.2.2.2.2.2.2.2.2.1,s.c.2.2.2.2.2.2.2.2.2.2.2.1,s.c.2.2.2.2.2.2.2.2.2.2.2.2.1,s.c.2.2.2.2.2.2.2.2.2.2.2.2.2,s.t.1,s.t.2,s.broken,s.C9,s.V8.1,s.V8.2,s.ends,s.k0.1,s.k0.2.1,s.k0.2.2,s.k1.1,s.k1.2.1,s.k1.2.2,s.K2.1,s.K2.2,s.K3.1,s.K3.2,s.speed.1,s.speed.2,s.K4,s.place.1,s.place.2.1,s.place.2.2.1.1,s.place.2.2.1.2,s.place.2.2.2.1,s.place.2.2.2.2.1,s.place.2.2.2.2.2,s.clean,s.origin.1,s.origin.2,s.p7,s.p8,s.still.1,s.still.2,s.E5.1,s.E5.2.1,s.E5.2.2.1,s.E5.2.2.2,s.watch.1,s.watch.2.1,s.watch.2.2)
theorem AE8 {α β:Type}(c:Bool)(a b:Option α)(k:α→Option β):Option.bind (bif c then a else b) k=bif c then Option.bind a k else Option.bind b k:=by cases c <;> rfl
theorem CF3 {α β:Type}(c:Bool)(a:Option α)(k:α→Option β):Option.bind (chk none c a) k=chk none c (Option.bind a k):=by cases c <;> rfl
theorem P5 {α:Type}(a:Option α):chk none true a=a:=rfl
def mv1 (m:Mal):Int×Bool:=(m.2.1.2.1,m.1.2.1)
def mv2 (m:Mal):Int×Bool:=(m.2.1.2.2.1,m.1.2.2.1)
def mv3 (m:Mal):Int×Bool:=(m.2.1.2.2.2.1,m.1.2.2.2.1)
def mv4 (m:Mal):Int×Bool:=(m.2.1.2.2.2.2.1,m.1.2.2.2.2.1)
def mv5 (m:Mal):Int×Bool:=(m.2.1.2.2.2.2.2,m.1.2.2.2.2.2)
theorem EO9 (m:Mal):AE1 m 1=some (mv1 m):=rfl
theorem EP0 (m:Mal):AE1 m 2=some (mv2 m):=rfl
theorem EP1 (m:Mal):AE1 m 3=some (mv3 m):=rfl
theorem EP2 (m:Mal):AE1 m 4=some (mv4 m):=rfl
theorem EP3 (m:Mal):AE1 m 5=some (mv5 m):=rfl
noncomputable def AO9 (k:Cnt)(circ:Spn)(p:Int)(v:Int×Bool):Option (Sns×Cnt):=
 (Ae9 k v.1 v.2).bind fun y=>bif !y.2.2 then some ((false,(0,0)),y.1) else (AI7 y.2.1 circ p).bind fun z=>some ((true,z.1),y.1)
theorem EP4 (m:Mal)(s:C8):apN (AE3 0 m) s=(AO9 s.k0 s.K2 s.c.1 (mv1 m)).bind fun y=>some (y.1,tuN {s with k0:=y.2}):=by
 rw[J4];unfold tuN AE3 AO9;simp only[show FU2 .i64 ((1:Int)+0)=1 by decide,EO9,FU0,AE8,FU1]
 all_goals rfl
theorem EP5 (m:Mal)(s:C8):apN (AE3 1 m) s=(AO9 s.k1 s.K3 s.c.1 (mv2 m)).bind fun y=>some (y.1,tuN {s with k1:=y.2}):=by
 rw[J4];unfold tuN AE3 AO9;simp only[show FU2 .i64 ((1:Int)+1)=2 by decide,EP0,FU0,AE8,FU1]
 all_goals rfl
noncomputable def An6 (c:Cfg)(v:Int×Bool):Option Sns:=bif !v.2 then some (false,(0,0)) else (AI8 c v.1).bind fun t=>some (true,t)
theorem EP6 (m:Mal)(s:C8):apN (AU5) s m=An6 s.c (mv3 m):=by
 rw[J4];unfold AU5 An6;simp only[EP1,FU0]
 all_goals rfl
noncomputable def BQ8 (t:TkD)(gr:Spn)(pl:Plc):Option Spn:=AU9 0 0 0 0 0 0 0 0 0 0 0 0 0 0 t.1 t.2 false 0 gr.1 gr.2 [] false 0 0 false 0 0 0 0 0 0 0 0 0 pl.1 pl.2.1 pl.2.2.1.1 pl.2.2.1.2 pl.2.2.2.1 pl.2.2.2.2.1 pl.2.2.2.2.2 false 0 0 0 0 0 false false false 0 0 0 0 false
noncomputable def An7 (c:Cfg)(t:TkD)(gr sp:Spn)(pl:Plc)(v:Int×Bool):Option Sns:=
 bif !v.2 then some (false,(0,0)) else (BQ8 t gr pl).bind fun g=>(Af0 c v.1 g).bind fun a=>(Af2 sp a).bind fun w=>some (true,w)
theorem EP7 (m:Mal)(s:C8):apN (AV0) s m=An7 s.c s.t s.V8 s.speed s.place (mv4 m):=by
 rw[J4];unfold AV0 An7;simp only[EP2,FU0]
 all_goals rfl
noncomputable def AE9 (s:C8)(v1 v2 v3 v4:Int×Bool):Option (Fsd×(Cnt×Cnt)):=
 (AO9 s.k0 s.K2 s.c.1 v1).bind fun a=>(AO9 s.k1 s.K3 s.c.1 v2).bind fun b=>(An6 s.c v3).bind fun r=>(AN8 s.c s.speed).bind fun pr=>
  (An7 s.c s.t s.V8 s.speed s.place v4).bind fun ac=>(AE5 pr (a.1,(b.1,r)) ac).bind fun f=>some (f,(a.2,b.2))
theorem EP8 (m:Mal)(s:C8):apN (AV6 m) s=(AE9 s (mv1 m) (mv2 m) (mv3 m) (mv4 m)).bind fun y=>some (y.1,tuN {s with k0:=y.2.1,k1:=y.2.2}):=by
 rw[J4];unfold tuN AV6 AE9;have h0:=EP4 m s;rw[J4] at h0;simp only[tuN] at h0;rw[h0];simp only[FU1,FU0];refine congrArg _ (funext fun a=> ?_)
 have h1:=EP5 m {s with k0:=a.2};rw[J4] at h1;simp only[tuN] at h1;rw[h1];simp only[FU1,FU0];refine congrArg _ (funext fun b=> ?_)
 have h2:=EP6 m {s with k0:=a.2,k1:=b.2};have h3:=EP7 m {s with k0:=a.2,k1:=b.2};rw[J4] at h2 h3;simp only at h2 h3;rw[h2,h3]
noncomputable def AP0 (t:TkD)(speed:Spn)(K4:Int)(pl:Plc):Option (Bool×(Int×Plc)):=
 (AB5 speed).bind fun m=>(Af3 m).bind fun a=>(V5 K4 a.1).bind fun d=>
  bif (bif a.2 then d.2 else false) then (bif pl.1 then (l9 pl t speed).bind fun q=>some ((bif false then true else (q.2==(20:Int))),(d.1,q.1)) else some (false,(d.1,pl)))
  else (bif pl.1 then (l9 pl t speed).bind fun q=>some ((bif true then true else (q.2==(20:Int))),(K4,q.1)) else some (true,(K4,pl)))
theorem EP9 (speed:Spn)(s:C8):apN (AV7 speed) s=(AP0 s.t speed s.K4 s.place).bind fun y=>some (y.1,tuN {s with speed:=speed,K4:=y.2.1,place:=y.2.2}):=by
 rw[J4];unfold tuN AV7 AP0;simp only[FU0,AE8,FU1]
 all_goals rfl
noncomputable def AX2 (c:Cfg)(t:TkD)(st:J3)(was:Plc)(speed:Spn)(g:Int):Option (List Int):=
 (AO3 was.2.2.1 speed).bind fun p=>bif !p.2 then some [] else AE6 c t st p.1 g
theorem EQ0 (s:C8)(was:Plc)(speed:Spn)(g:Int):apN (AO4 was speed g) s=(AX2 s.c s.t s.place.2.2.2.2 was speed g).bind fun y=>some (y,tuN s):=by
 rw[J4];unfold tuN AO4 AX2;simp only[FU0,AE8,FU1]
 all_goals rfl
noncomputable def AP1 (c:Cfg)(t:TkD)(pl was:Plc)(speed:Spn)(v:Int×Bool):Option Fnd:=
 bif !v.2 then some (0,([],(true,false))) else (V7 t v.1).bind fun i=>bif !i.2 then some (0,([],(false,false))) else
  bif pl.1 then (AX2 c t pl.2.2.2.2 was speed i.1).bind fun l=>some (i.1,(l,(decide ((0:Int)<(l.length:Int)),decide ((0:Int)<(l.length:Int))))) else some (i.1,([],(true,true)))
theorem EQ1 (m:Mal)(was:Plc)(speed:Spn)(s:C8):apN (AW1 m was speed) s=(AP1 s.c s.t s.place was speed (mv5 m)).bind fun y=>some (y,tuN s):=by
 rw[J4];unfold tuN AW1 AP1;have h0:∀g,_=_:=fun g=>(J4 (AO4 was speed g) s).symm.trans (EQ0 s was speed g)
 simp only[tuN] at h0;simp only[EP3,FU0,AE8,FU1,h0]
 all_goals rfl
noncomputable def An8 (p:Int)(K2 K3:Spn)(k0 k1:Cnt)(p7 p8:Int)(pos origin:Spn)(at':Int):Option (Spn×Spn):=
 (Z8 at').bind fun a=>(l8 pos a).bind fun w=>bif !w.2 then some (K2,K3) else (AN9 w.1 origin).bind fun z=>bif !z.2 then some (K2,K3) else
  (AB6 K2 z.1 p (FU2 .i64 (k0.2.2-p7))).bind fun a=>(AB6 K3 z.1 p (FU2 .i64 (k1.2.2-p8))).bind fun b=>some (a.1,b.1)
theorem EQ2 (at':Int)(s:C8):apN (AW3 at') s=(An8 s.c.1 s.K2 s.K3 s.k0 s.k1 s.p7 s.p8 s.place.2.2.1 s.origin at').bind fun y=>some (tuN {s with K2:=y.1,K3:=y.2}):=by
 rw[J4];unfold tuN AW3 An8;simp only[FU0,AE8,FU1]
 all_goals rfl
noncomputable def AP2 (x:Fnd)(speed:Spn)(s:C8):Option C8:=
 (AO5 s.c s.t x.1 speed).bind fun p=>
  bif (bif (bif s.place.1 then s.clean else false) then ((x.2.1.length:Int)==(1:Int)) else false) then
   chk none (true&&(decide ((0:Int)<(x.2.1.length:Int))))<|(An8 s.c.1 s.K2 s.K3 s.k0 s.k1 s.p7 s.p8 p.2.2.1 s.origin (x.2.1.getD (0:Int).toNat (0:Int))).bind fun y=>
    some {s with place:=p,K2:=y.1,K3:=y.2,clean:=true,origin:=p.2.2.1,p7:=s.k0.2.2,p8:=s.k1.2.2}
  else some {s with place:=p,clean:=true,origin:=p.2.2.1,p7:=s.k0.2.2,p8:=s.k1.2.2}
theorem EQ3 (x:Fnd)(speed:Spn)(s:C8):apN (AW4 x speed) s=(AP2 x speed s).bind fun y=>some (tuN y):=by
 rw[J4];unfold tuN AW4 AP2;simp only[FU0,AE8,CF3,FU1];refine congrArg _ (funext fun p=> ?_)
 have h1:=EQ2 (x.2.1.getD (0:Int).toNat (0:Int)) {s with place:=p};rw[J4] at h1;simp only[tuN] at h1;rw[h1];simp only[FU0,FU1]
 all_goals rfl

/- A unit's cycle by its parts. -/
noncomputable def Af8 (l:List RtD):Option (List (List Int)):=
 LP.lp (X:=(List (List Int))) (fun (s:((List (List Int))×Int))=>
  (bif (decide (s.2<(l.length:Int))) then
   chk none ((decide ((0:Int)≤s.2))&&(decide (s.2<(l.length:Int))))<|
   (Ac3 (l.getD s.2.toNat ((0:Int),((0:Int),((0:Int),((0:Int),((0:Int),((0:Int),((0:Int),((0:Int),((0:Int),((0:Int),((0:Int),((0:Int),(0:Int))))))))))))))).bind fun p=>
   chk none (decide ((s.1.length+([p]:List (List Int)).length)*24≤140737488355328))<|
   some (.inl (s.1++([p]:List (List Int)),FU2 .i64 (s.2+(1:Int))))
  else
   some (.inr s.1))) ([],(0:Int))
noncomputable def AP3 (s:C8)(f:Fsd)(cy:Int)(acc flt:Bool)(q:Int×(Int×(Int×Int))):Option G4:=
 (AB5 f.1).bind fun nm=>(Af5 s.watch s.place.1 f.2.1 f.2.2.2.1).bind fun md=>
  bif !s.place.1 then some (cy,(md,(0,((0,0),(0,(f.1,(nm,(s.K4,([],(f.2.1,(f.2.2.1,(f.2.2.2.1,(f.2.2.2.2,(acc,(flt,(s.still.2,(s.E5.2.1,(false,(s.E5.2.2,(s.c.2.2.2.2.2.2.1,((s.K2,s.K3),q)))))))))))))))))))))
  else chk none ((decide ((0:Int)≤s.place.2.1))&&(decide (s.place.2.1<(s.t.2.length:Int))))<|(Af8 s.place.2.2.2.2.2).bind fun rts=>(AO7 s.t s.ends s.place.2.2.2.2 s.place.2.2.1.2).bind fun fr=>
   bif fr.2 then (AO8 s.c fr.1).bind fun pm=>some (cy,(md,((s.t.2.getD s.place.2.1.toNat ((0:Int),((0:Int),((0:Int),((0:Int),(0:Int)))))).1,(s.place.2.2.1,(s.place.2.2.2.1,(f.1,(nm,(s.K4,(rts,(f.2.1,(f.2.2.1,(f.2.2.2.1,(f.2.2.2.2,(acc,(flt,(s.still.2,(s.E5.2.1,(decide (pm<f.1.2),(s.E5.2.2,(pm,((s.K2,s.K3),q)))))))))))))))))))))
   else some (cy,(md,((s.t.2.getD s.place.2.1.toNat ((0:Int),((0:Int),((0:Int),((0:Int),(0:Int)))))).1,(s.place.2.2.1,(s.place.2.2.2.1,(f.1,(nm,(s.K4,(rts,(f.2.1,(f.2.2.1,(f.2.2.2.1,(f.2.2.2.2,(acc,(flt,(s.still.2,(s.E5.2.1,(decide (s.c.2.2.2.2.2.2.1<f.1.2),(s.E5.2.2,(s.c.2.2.2.2.2.2.1,((s.K2,s.K3),q)))))))))))))))))))))
theorem Az2 (s:C8)(f:Fsd)(cy:Int)(acc flt:Bool)(q:Int×(Int×(Int×Int))):
  apN (AW9 f) s cy 4 0 0 0 0 0 0 0 0 [] 0 false false 0 0 acc flt false false false 0 0 0 0 0 0 0 q.1 q.2.1 q.2.2.1 q.2.2.2=(AP3 s f cy acc flt q).bind fun r=>some (s.c.1,s.c.2.1,s.c.2.2.1,s.c.2.2.2.1,s.c.2.2.2.2.1,s.c.2.2.2.2.2.1,s.c.2.2.2.2.2.2.1,s.c.2.2.2.2.2.2.2.1,s.c.2.2.2.2.2.2.2.2.1,s.c.2.2.2.2.2.2.2.2.2.1,s.c.2.2.2.2.2.2.2.2.2.2.1,s.c.2.2.2.2.2.2.2.2.2.2.2.1,s.c.2.2.2.2.2.2.2.2.2.2.2.2.1,s.c.2.2.2.2.2.2.2.2.2.2.2.2.2,s.t.1,s.t.2,s.broken,s.C9,s.V8.1,s.V8.2,s.ends,s.k0.1,s.k0.2.1,s.k0.2.2,s.k1.1,s.k1.2.1,s.k1.2.2,s.K2.1,s.K2.2,s.K3.1,s.K3.2,s.speed.1,s.speed.2,s.K4,s.place.1,s.place.2.1,s.place.2.2.1.1,s.place.2.2.1.2,s.place.2.2.2.1,s.place.2.2.2.2.1,s.place.2.2.2.2.2,s.clean,s.origin.1,s.origin.2,s.p7,s.p8,s.still.1,s.still.2,s.E5.1,s.E5.2.1,s.E5.2.2.1,s.E5.2.2.2,s.watch.1,s.watch.2.1,s.watch.2.2,r.1,r.2.1,r.2.2.1,r.2.2.2.1.1,r.2.2.2.1.2,r.2.2.2.2.1,r.2.2.2.2.2.1.1,r.2.2.2.2.2.1.2,r.2.2.2.2.2.2.1,r.2.2.2.2.2.2.2.1,r.2.2.2.2.2.2.2.2.1,r.2.2.2.2.2.2.2.2.2.1,r.2.2.2.2.2.2.2.2.2.2.1,r.2.2.2.2.2.2.2.2.2.2.2.1,r.2.2.2.2.2.2.2.2.2.2.2.2.1.1,r.2.2.2.2.2.2.2.2.2.2.2.2.1.2,r.2.2.2.2.2.2.2.2.2.2.2.2.2.1,r.2.2.2.2.2.2.2.2.2.2.2.2.2.2.1,r.2.2.2.2.2.2.2.2.2.2.2.2.2.2.2.1,r.2.2.2.2.2.2.2.2.2.2.2.2.2.2.2.2.1,r.2.2.2.2.2.2.2.2.2.2.2.2.2.2.2.2.2.1,r.2.2.2.2.2.2.2.2.2.2.2.2.2.2.2.2.2.2.1.1,r.2.2.2.2.2.2.2.2.2.2.2.2.2.2.2.2.2.2.1.2,r.2.2.2.2.2.2.2.2.2.2.2.2.2.2.2.2.2.2.2.1,r.2.2.2.2.2.2.2.2.2.2.2.2.2.2.2.2.2.2.2.2.1.1.1,r.2.2.2.2.2.2.2.2.2.2.2.2.2.2.2.2.2.2.2.2.1.1.2,r.2.2.2.2.2.2.2.2.2.2.2.2.2.2.2.2.2.2.2.2.1.2.1,r.2.2.2.2.2.2.2.2.2.2.2.2.2.2.2.2.2.2.2.2.1.2.2,r.2.2.2.2.2.2.2.2.2.2.2.2.2.2.2.2.2.2.2.2.2.1,r.2.2.2.2.2.2.2.2.2.2.2.2.2.2.2.2.2.2.2.2.2.2.1,r.2.2.2.2.2.2.2.2.2.2.2.2.2.2.2.2.2.2.2.2.2.2.2.1,r.2.2.2.2.2.2.2.2.2.2.2.2.2.2.2.2.2.2.2.2.2.2.2.2):=by
 rw[J4];unfold AW9 AP3 Af8;simp only[FU0,AE8,CF3,FU1]
 all_goals rfl
noncomputable def AX3 (m:Mal)(cmd:Bool)(cy:Int)(s:C8):Option (G4×C8):=
 (AE9 s (mv1 m) (mv2 m) (mv3 m) (mv4 m)).bind fun y=>(AP0 s.t y.1.1 s.K4 s.place).bind fun z=>(AP1 s.c s.t z.2.2 s.place y.1.1 (mv5 m)).bind fun x=>
  (bif x.2.2.2 then AP2 x y.1.1 {s with k0:=y.2.1,k1:=y.2.2,clean:=bif s.clean then y.1.2.2.1 else false,speed:=y.1.1,K4:=z.2.1,place:=z.2.2} else some {s with k0:=y.2.1,k1:=y.2.2,clean:=bif s.clean then y.1.2.2.1 else false,speed:=y.1.1,K4:=z.2.1,place:=z.2.2}).bind fun s4=>
   (AW5 s4.watch s4.c y.1.2.1 y.1.2.2.2.1 z.1 x.2.2.2).bind fun w=>
    (bif w.2.2 then some ((false,(0,((0,0),(0,(0,[]))))):Plc) else some s4.place).bind fun pl=>
     (AW6 s4.still s4.c y.1.1 y.1.2.1).bind fun st=>(AW7 s4.E5 s4.c st.2 cmd y.1.1).bind fun ro=>
      (AP3 {s4 with watch:=w,place:=pl,still:=st,E5:=ro} y.1 cy x.2.2.2 (!x.2.2.1) m.2.2).bind fun r=>some (r,{s4 with watch:=w,place:=pl,still:=st,E5:=ro})
def An9 (cy:Int):G4:=(cy,((4:Int),((0:Int),(((0:Int),(0:Int)),((0:Int),(((0:Int),(0:Int)),((0:Int),((0:Int),([],((0:Int),(false,(false,(((0:Int),(0:Int)),(false,(false,(false,(false,(false,(((0:Int),(0:Int)),((0:Int),((((0:Int),(0:Int)),((0:Int),(0:Int))),((0:Int),((0:Int),((0:Int),(0:Int)))))))))))))))))))))))))
noncomputable def AB8 (list:List (List Int))(cmd:Bool)(s:C8):Option (G4×C8):=
 bif s.broken then some (An9 s.C9,{s with C9:=FU2 .i64 (s.C9+1)})
 else (AN3 s.C9 list).bind fun m=>AX3 m cmd s.C9 {s with C9:=FU2 .i64 (s.C9+1)}
theorem EQ4 (list:List (List Int))(cmd:Bool)(s:C8):apN (AX0 list cmd) s=(AB8 list cmd s).bind fun y=>some (y.1,tuN y.2):=by
 rw[J4];unfold tuN AX0 AB8;simp only[AE8,FU0,FU1];refine congrArg _ (congrArg _ (funext fun m=> ?_))
 unfold AX3;have h1:=EP8 m {s with C9:=FU2 .i64 (s.C9+1)};rw[J4] at h1;simp only[tuN] at h1;rw[h1];simp only[FU0,FU1];have e0:∀a b,AE9 {s with C9:=a} b=AE9 s b:=fun _ _=>rfl
 refine congrArg _ (funext fun y=> ?_)
 have h2:=EP9 y.1.1 {s with C9:=FU2 .i64 (s.C9+1),k0:=y.2.1,k1:=y.2.2,clean:=bif s.clean then y.1.2.2.1 else false};rw[J4] at h2;simp only[tuN] at h2;rw[h2];simp only[FU0,FU1];refine congrArg _ (funext fun z=> ?_)
 have h3:=EQ1 m s.place y.1.1 {s with C9:=FU2 .i64 (s.C9+1),k0:=y.2.1,k1:=y.2.2,clean:=bif s.clean then y.1.2.2.1 else false,speed:=y.1.1,K4:=z.2.1,place:=z.2.2};rw[J4] at h3;simp only[tuN] at h3;rw[h3];simp only[FU0,FU1];refine congrArg _ (funext fun x=> ?_)
 have h4:=EQ3 x y.1.1 {s with C9:=FU2 .i64 (s.C9+1),k0:=y.2.1,k1:=y.2.2,clean:=bif s.clean then y.1.2.2.1 else false,speed:=y.1.1,K4:=z.2.1,place:=z.2.2};rw[J4] at h4;simp only[tuN] at h4;rw[h4];cases x.2.2.2 with
 |true=>
  simp only[cond_true,FU0,FU1];refine congrArg _ (funext fun s4=> ?_)
  refine congrArg _ (funext fun w=> ?_)
  obtain⟨wa,wb,wc⟩:=w;cases wc with
  |true=>
   simp only[cond_true,FU0,FU1];refine congrArg _ (funext fun st=> ?_)
   refine congrArg _ (funext fun ro=> ?_)
   have h5:=Az2 {s4 with watch:=(wa,wb,true),place:=(false,(0,((0,0),(0,(0,[]))))),still:=st,E5:=ro} y.1 s.C9 true (!x.2.2.1) m.2.2;rw[J4] at h5;simp only at h5;rw[h5];simp only[FU0,FU1]
   all_goals rfl
  |false=>
   simp only[cond_false,FU0,FU1];refine congrArg _ (funext fun st=> ?_)
   refine congrArg _ (funext fun ro=> ?_)
   have h5:=Az2 {s4 with watch:=(wa,wb,false),still:=st,E5:=ro} y.1 s.C9 true (!x.2.2.1) m.2.2;rw[J4] at h5;simp only at h5;rw[h5];simp only[FU0,FU1]
   all_goals rfl
 |false=>
  simp only[cond_false,FU0,FU1];refine congrArg _ (funext fun w=> ?_)
  obtain⟨wa,wb,wc⟩:=w;cases wc with
  |true=>
   simp only[cond_true,FU0,FU1];refine congrArg _ (funext fun st=> ?_)
   refine congrArg _ (funext fun ro=> ?_)
   have h5:=Az2 {s with C9:=FU2 .i64 (s.C9+1),k0:=y.2.1,k1:=y.2.2,clean:=bif s.clean then y.1.2.2.1 else false,speed:=y.1.1,K4:=z.2.1,watch:=(wa,wb,true),place:=(false,(0,((0,0),(0,(0,[]))))),still:=st,E5:=ro} y.1 s.C9 false (!x.2.2.1) m.2.2;rw[J4] at h5;simp only at h5;rw[h5];simp only[FU0,FU1]
   all_goals rfl
  |false=>
   simp only[cond_false,FU0,FU1];refine congrArg _ (funext fun st=> ?_)
   refine congrArg _ (funext fun ro=> ?_)
   have h5:=Az2 {s with C9:=FU2 .i64 (s.C9+1),k0:=y.2.1,k1:=y.2.2,clean:=bif s.clean then y.1.2.2.1 else false,speed:=y.1.1,K4:=z.2.1,place:=z.2.2,watch:=(wa,wb,false),still:=st,E5:=ro} y.1 s.C9 false (!x.2.2.1) m.2.2;rw[J4] at h5;simp only at h5;rw[h5];simp only[FU0,FU1]
   all_goals rfl

/- A unit's cycles, one behind the other. -/
abbrev Cyc:=List (List Int)×Bool
def Az3:C8:={c:=(0,0,0,0,0,0,0,0,0,0,0,0,0,0),t:=([],[]),broken:=true,C9:=0,V8:=(0,0),ends:=[],k0:=(false,0,0),k1:=(false,0,0),K2:=(0,0),K3:=(0,0),speed:=(0,0),K4:=0,place:=(false,0,(0,0),0,0,[]),clean:=false,origin:=(0,0),p7:=0,p8:=0,still:=(0,false),E5:=(false,false,0,0),watch:=(0,0,false)}
noncomputable def AX4 (c:Cfg)(img:List Int):Option C8:=
 (AL6 img).bind fun o=>(bif o.2==(0:Int) then (Z7 c o.1).bind fun e=>some e.1 else some o.2).bind fun e=>bif e != (0:Int) then some Az3
  else (AM0 o.1).bind fun g=>(AM1 o.1).bind fun en=>(AM2 c).bind fun a=>(AM2 c).bind fun b=>(AM3 c).bind fun sp=>
   some {Az3 with c:=c,t:=o.1,broken:=false,V8:=g,ends:=en,K2:=a,K3:=b,speed:=sp}
theorem EQ5 (c:Cfg)(img:List Int):AT6 c img=(AX4 c img).bind fun s=>some (tuN s):=by
 unfold tuN AT6 AX4;simp only[FU0,AE8,FU1]
 all_goals rfl
noncomputable def goN:C8→List Cyc→Option (List G4)
 |_,[]=>some []
 |s,x::xs=>(AB8 x.1 x.2 s).bind fun y=>(goN y.2 xs).bind fun rs=>some (y.1::rs)
theorem CF4 {S:Type}{l:List Cyc}{f:S→Option (S ⊕ List G4)}(sh:C8→List G4→Int→S)(hl:l.length≤1000)
  (hstep:∀(k:Nat) (s:C8) (out:List G4) (y:G4×C8),k<l.length→out.length≤1000→AB8 (l.getD k ([],false)).1 (l.getD k ([],false)).2 s=some y→f (sh s out (k:Int))=some (.inl (sh y.2 (out++[y.1]) ((k+1:Nat):Int))))
  (hend:∀(s:C8) (out:List G4),f (sh s out (l.length:Int))=some (.inr out)):
  ∀(xs:List Cyc) (k:Nat) (s:C8) (out rs:List G4),l.drop k=xs→k≤l.length→out.length=k→goN s xs=some rs→∃n,E1 f n (sh s out (k:Int))=some (out++rs)
 | [],k,s,out,rs,hd,hk,ho,hr=>by
  have hk2:k=l.length:=by have:=congrArg List.length hd;rw[List.length_drop] at this;simp at this;omega
  subst hk2;rw[goN] at hr;obtain rfl:=Option.some.inj hr;exact⟨1,by simp[E1,hend]⟩
 |x::xs,k,s,out,rs,hd,hk,ho,hr=>by
  have hlt:k<l.length:=by have:=congrArg List.length hd;rw[List.length_drop] at this;simp at this;omega
  have hx:l.getD k ([],false)=x:=by rw[FU3 hlt] at hd;have:=(List.cons.inj hd).1;simp[List.getD,hlt,this]
  have hd2:l.drop (k+1)=xs:=by rw[FU3 hlt] at hd;exact (List.cons.inj hd).2
  rw[goN] at hr;cases hy:AB8 x.1 x.2 s with
  |none=>rw [hy] at hr;cases hr
  |some y=>
   rw[hy] at hr;simp only[FU0] at hr;cases hq:goN y.2 xs with
   |none=>rw [hq] at hr;cases hr
   |some qs=>
    rw[hq] at hr;obtain rfl:=Option.some.inj hr;obtain⟨n,hn⟩:=CF4 sh hl hstep hend xs (k+1) y.2 (out++[y.1]) qs hd2 (by omega) (by simp[ho]) hq
    refine⟨n+1,?_⟩;have h1:=hstep k s out y hlt (by omega) (by rw[hx];exact hy)
    simp only[E1,h1,hn];simp
theorem EQ6 {S:Type}{l:List Cyc}{f:S→Option (S ⊕ List G4)}{s:C8}{init:S}{rs:List G4}(sh:C8→List G4→Int→S)(hl:l.length≤1000)(hi:init=sh s [] 0)
  (hstep:∀(k:Nat) (s:C8) (out:List G4) (y:G4×C8),k<l.length→out.length≤1000→AB8 (l.getD k ([],false)).1 (l.getD k ([],false)).2 s=some y→f (sh s out (k:Int))=some (.inl (sh y.2 (out++[y.1]) ((k+1:Nat):Int))))
  (hend:∀(s:C8) (out:List G4),f (sh s out (l.length:Int))=some (.inr out)) (hr:goN s l=some rs):Option.bind (LP.lp f init) (fun r=>some r)=some rs:=by
 obtain⟨n,hn⟩:=CF4 sh hl hstep hend l 0 s [] rs rfl (by omega) rfl hr
 subst hi;show Option.bind (z7 f (sh s [] ((0:Nat):Int))) (fun r=>some r)=some rs
 rw[AX1 hn];rfl
theorem X7 (k:Nat)(h:k≤1000):FU2 .i64 ((k:Int)+1)=((k+1:Nat):Int):=by rw[IntKind.wrap_i64];omega
set_option maxRecDepth 10000 in
theorem EQ7 (c:Cfg)(t:TkD)(l:List Cyc)(hl:l.length≤1000){e:Int×Int}{img:List Int}{s:C8}{rs:List G4}(h1:AL2 c t=some e)(h2:e.1=0)(h3:AL3 t=some img)(h4:AX4 c img=some s)(h5:goN s l=some rs):AB7 c t l=some rs:=by
 unfold AB7;rw[h1];simp only[FU0,h2];rw[h3];simp only[FU0];rw[EQ5,h4];simp only[FU0,tuN];refine EQ6 (l:=l) (s:=s) (fun s out k=>(s.watch.2.1,s.c.2.2.2.2.2.2.2.1,s.broken,s.c.2.2.2.2.2.2.2.2.2.2.2.2.2,s.k1.2.1,s.k0.2.1,s.speed.1,s.place.2.2.2.2.2,s.E5.2.1,s.still.1,s.c.1,s.c.2.2.2.2.2.2.2.2.2.1,s.c.2.2.2.2.2.2.1,s.V8.1,s.t.2,s.k1.1,s.K4,s.origin.1,s.place.2.2.2.2.1,s.E5.1,s.c.2.2.1,s.c.2.2.2.2.2.2.2.2.2.2.2.1,s.c.2.2.2.2.2.2.2.2.1,s.C9,s.k1.2.2,s.place.2.1,s.speed.2,s.p7,s.clean,s.E5.2.2.1,s.c.2.2.2.2.1,s.c.2.1,s.c.2.2.2.2.2.2.2.2.2.2.1,s.V8.2,s.K2.2,s.place.2.2.1.2,s.place.1,s.origin.2,s.watch.1,s.c.2.2.2.1,s.c.2.2.2.2.2.2.2.2.2.2.2.2.1,s.k0.1,s.K3.2,s.K2.1,out,s.place.2.2.1.1,s.p8,k,s.watch.2.2,s.E5.2.2.2,s.c.2.2.2.2.2.1,s.t.1,s.k0.2.2,s.ends,s.K3.1,s.place.2.2.2.1,s.still.2)) hl rfl ?_ ?_ h5
 ·intro k s out y hk ho hy
  have e1:(decide ((k:Int)<(l.length:Int)))=true:=by simpa using hk
  have e2:(decide ((0:Int)≤(k:Int)))=true:=by simp
  have h8:=EQ4 (l.getD k ([],false)).1 (l.getD k ([],false)).2 s;rw[hy] at h8;rw[J4] at h8;simp only[FU0,tuN] at h8;have e3:decide ((out.length+[y.1].length)*232≤140737488355328)=true:=by
   simp
   omega
  have e4:=X7 k (by omega)
  simp only[e1,e2,cond_true,Bool.and_self,P5,Int.toNat_natCast,h8,FU0,e3,e4]
 ·intro s out
  have e1:(decide ((l.length:Int)<(l.length:Int)))=false:=by simp
  simp only[e1,cond_false]
end Go.Proofs.YthfjpkdadjemcaaGreat
