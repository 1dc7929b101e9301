/- A unit's state by its parts, and what is reckoned of it. -/
import Derived.Test.YthfjpkdadjemcaaGreatFnsF3
import Derived.Test.YthfjpkdadjemcaaGreatLoopF
set_option linter.unusedSimpArgs false
set_option linter.unusedVariables false
namespace Go.Proofs.YthfjpkdadjemcaaGreat
open Go Go.RowKit
open _root_.Option renaming bind_some → FN2, bind_assoc → FN3
open Go.IntKind renaming wrap → FN4
open _root_.List renaming drop_eq_getElem_cons → FN5
abbrev Cfg:=Int×(Int×(Int×(Int×(Int×(Int×(Int×(Int×(Int×(Int×(Int×(Int×(Int×Int))))))))))))
abbrev Spn:=Int×Int
abbrev Sns:=Bool×Spn
abbrev Cnt:=Bool×(Int×Int)
abbrev Plc:=Bool×(Int×(Spn×(Int×M6)))
abbrev Fsd:=Spn×(Int×(Bool×(Bool×(Int×Int))))
abbrev Fnd:=Int×(List Int×(Bool×Bool))
abbrev Mal:=(Bool×(Bool×(Bool×(Bool×(Bool×Bool)))))×((Int×(Int×(Int×(Int×(Int×Int)))))×(Int×(Int×(Int×Int))))
abbrev D0:=Int×(Int×(Int×(Spn×(Int×(Spn×(Int×(Int×(List (List Int)×(Int×(Bool×(Bool×((Int×Int)×(Bool×(Bool×(Bool×(Bool×(Bool×(Spn×(Int×((Spn×Spn)×(Int×(Int×(Int×Int)))))))))))))))))))))))
structure C2 where
 c:Cfg
 t:TkD
 broken:Bool
 C6:Int
 V8:Spn
 ends:List Int
 k0:Cnt
 k1:Cnt
 I3:Spn
 I4:Spn
 speed:Spn
 J5:Int
 place:Plc
 clean:Bool
 origin:Spn
 U4:Int
 U5:Int
 still:Int×Bool
 E7:Bool×(Bool×Spn)
 watch:Int×(Int×Bool)
abbrev CE7 (ρ:Type):=Int→Int→Int→Int→Int→Int→Int→Int→Int→Int→Int→Int→Int→Int→List (Int×(List (Int×Int)×List Int))→List (Int×(Int×(Int×(Int×Int))))→Bool→Int→Int→Int→List Int→Bool→Int→Int→Bool→Int→Int→Int→Int→Int→Int→Int→Int→Int→Bool→Int→Int→Int→Int→Int→List RtD→Bool→Int→Int→Int→Int→Int→Bool→Bool→Bool→Int→Int→Int→Int→Bool→ρ
def apN {ρ:Type}(F:CE7 ρ)(s:C2):ρ:=F s.c.1 s.c.2.1 s.c.2.2.1 s.c.2.2.2.1 s.c.2.2.2.2.1 s.c.2.2.2.2.2.1 s.c.2.2.2.2.2.2.1 s.c.2.2.2.2.2.2.2.1 s.c.2.2.2.2.2.2.2.2.1 s.c.2.2.2.2.2.2.2.2.2.1 s.c.2.2.2.2.2.2.2.2.2.2.1 s.c.2.2.2.2.2.2.2.2.2.2.2.1 s.c.2.2.2.2.2.2.2.2.2.2.2.2.1 s.c.2.2.2.2.2.2.2.2.2.2.2.2.2 s.t.1 s.t.2 s.broken s.C6 s.V8.1 s.V8.2 s.ends s.k0.1 s.k0.2.1 s.k0.2.2 s.k1.1 s.k1.2.1 s.k1.2.2 s.I3.1 s.I3.2 s.I4.1 s.I4.2 s.speed.1 s.speed.2 s.J5 s.place.1 s.place.2.1 s.place.2.2.1.1 s.place.2.2.1.2 s.place.2.2.2.1 s.place.2.2.2.2.1 s.place.2.2.2.2.2 s.clean s.origin.1 s.origin.2 s.U4 s.U5 s.still.1 s.still.2 s.E7.1 s.E7.2.1 s.E7.2.2.1 s.E7.2.2.2 s.watch.1 s.watch.2.1 s.watch.2.2
theorem J6 {ρ:Type}(F:CE7 ρ)(s:C2):apN F s=F s.c.1 s.c.2.1 s.c.2.2.1 s.c.2.2.2.1 s.c.2.2.2.2.1 s.c.2.2.2.2.2.1 s.c.2.2.2.2.2.2.1 s.c.2.2.2.2.2.2.2.1 s.c.2.2.2.2.2.2.2.2.1 s.c.2.2.2.2.2.2.2.2.2.1 s.c.2.2.2.2.2.2.2.2.2.2.1 s.c.2.2.2.2.2.2.2.2.2.2.2.1 s.c.2.2.2.2.2.2.2.2.2.2.2.2.1 s.c.2.2.2.2.2.2.2.2.2.2.2.2.2 s.t.1 s.t.2 s.broken s.C6 s.V8.1 s.V8.2 s.ends s.k0.1 s.k0.2.1 s.k0.2.2 s.k1.1 s.k1.2.1 s.k1.2.2 s.I3.1 s.I3.2 s.I4.1 s.I4.2 s.speed.1 s.speed.2 s.J5 s.place.1 s.place.2.1 s.place.2.2.1.1 s.place.2.2.1.2 s.place.2.2.2.1 s.place.2.2.2.2.1 s.place.2.2.2.2.2 s.clean s.origin.1 s.origin.2 s.U4 s.U5 s.still.1 s.still.2 s.E7.1 s.E7.2.1 s.E7.2.2.1 s.E7.2.2.2 s.watch.1 s.watch.2.1 s.watch.2.2:=rfl
def tuN (s:C2):=(s.c.1,s.c.2.1,s.c.2.2.1,s.c.2.2.2.1,s.c.2.2.2.2.1,s.c.2.2.2.2.2.1,s.c.2.2.2.2.2.2.1,s.c.2.2.2.2.2.2.2.1,s.c.2.2.2.2.2.2.2.2.1,s.c.2.2.2.2.2.2.2.2.2.1,s.c.2.2.2.2.2.2.2.2.2.2.1,s.c.2.2.2.2.2.2.2.2.2.2.2.1,s.c.2.2.2.2.2.2.2.2.2.2.2.2.1,s.c.2.2.2.2.2.2.2.2.2.2.2.2.2,s.t.1,s.t.2,s.broken,s.C6,s.V8.1,s.V8.2,s.ends,s.k0.1,s.k0.2.1,s.k0.2.2,s.k1.1,s.k1.2.1,s.k1.2.2,s.I3.1,s.I3.2,s.I4.1,s.I4.2,s.speed.1,s.speed.2,s.J5,s.place.1,s.place.2.1,s.place.2.2.1.1,s.place.2.2.1.2,s.place.2.2.2.1,s.place.2.2.2.2.1,s.place.2.2.2.2.2,s.clean,s.origin.1,s.origin.2,s.U4,s.U5,s.still.1,s.still.2,s.E7.1,s.E7.2.1,s.E7.2.2.1,s.E7.2.2.2,s.watch.1,s.watch.2.1,s.watch.2.2)
theorem AD6 {α β:Type}(c:Bool)(a b:Option α)(k:α→Option β):Option.bind (bif c then a else b) k=bif c then Option.bind a k else Option.bind b k:=by cases c <;> rfl
theorem CE8 {α β:Type}(c:Bool)(a:Option α)(k:α→Option β):Option.bind (chk none c a) k=chk none c (Option.bind a k):=by cases c <;> rfl
theorem R1 {α:Type}(a:Option α):chk none true a=a:=rfl
def mv1 (m:Mal):Int×Bool:=(m.2.1.2.1,m.1.2.1)
def mv2 (m:Mal):Int×Bool:=(m.2.1.2.2.1,m.1.2.2.1)
def mv3 (m:Mal):Int×Bool:=(m.2.1.2.2.2.1,m.1.2.2.2.1)
def mv4 (m:Mal):Int×Bool:=(m.2.1.2.2.2.2.1,m.1.2.2.2.2.1)
def mv5 (m:Mal):Int×Bool:=(m.2.1.2.2.2.2.2,m.1.2.2.2.2.2)
theorem EK5 (m:Mal):AD1 m 1=some (mv1 m):=rfl
theorem EK6 (m:Mal):AD1 m 2=some (mv2 m):=rfl
theorem EK7 (m:Mal):AD1 m 3=some (mv3 m):=rfl
theorem EK8 (m:Mal):AD1 m 4=some (mv4 m):=rfl
theorem EK9 (m:Mal):AD1 m 5=some (mv5 m):=rfl
noncomputable def AO7 (k:Cnt)(circ:Spn)(p:Int)(v:Int×Bool):Option (Sns×Cnt):=
 (Ac2 k v.1 v.2).bind fun y=>bif !y.2.2 then some ((false,(0,0)),y.1) else (AH0 y.2.1 circ p).bind fun z=>some ((true,z.1),y.1)
theorem EL0 (m:Mal)(s:C2):apN (AD4 0 m) s=(AO7 s.k0 s.I3 s.c.1 (mv1 m)).bind fun y=>some (y.1,tuN {s with k0:=y.2}):=by
 rw[J6];unfold tuN AD4 AO7;simp only[show FN4 .i64 ((1:Int)+0)=1 by decide,EK5,FN2,AD6,FN3]
 all_goals rfl
theorem EL1 (m:Mal)(s:C2):apN (AD4 1 m) s=(AO7 s.k1 s.I4 s.c.1 (mv2 m)).bind fun y=>some (y.1,tuN {s with k1:=y.2}):=by
 rw[J6];unfold tuN AD4 AO7;simp only[show FN4 .i64 ((1:Int)+1)=2 by decide,EK6,FN2,AD6,FN3]
 all_goals rfl
noncomputable def Ao4 (c:Cfg)(v:Int×Bool):Option Sns:=bif !v.2 then some (false,(0,0)) else (AH3 c v.1).bind fun t=>some (true,t)
theorem EL2 (m:Mal)(s:C2):apN (AU6) s m=Ao4 s.c (mv3 m):=by
 rw[J6];unfold AU6 Ao4;simp only[EK7,FN2]
 all_goals rfl
noncomputable def BR7 (t:TkD)(gr:Spn)(pl:Plc):Option Spn:=AV0 0 0 0 0 0 0 0 0 0 0 0 0 0 0 t.1 t.2 false 0 gr.1 gr.2 [] false 0 0 false 0 0 0 0 0 0 0 0 0 pl.1 pl.2.1 pl.2.2.1.1 pl.2.2.1.2 pl.2.2.2.1 pl.2.2.2.2.1 pl.2.2.2.2.2 false 0 0 0 0 0 false false false 0 0 0 0 false
noncomputable def Ao5 (c:Cfg)(t:TkD)(gr sp:Spn)(pl:Plc)(v:Int×Bool):Option Sns:=
 bif !v.2 then some (false,(0,0)) else (BR7 t gr pl).bind fun g=>(Ac5 c v.1 g).bind fun a=>(Ac7 sp a).bind fun w=>some (true,w)
theorem EL3 (m:Mal)(s:C2):apN (AV1) s m=Ao5 s.c s.t s.V8 s.speed s.place (mv4 m):=by
 rw[J6];unfold AV1 Ao5;simp only[EK8,FN2]
 all_goals rfl
noncomputable def AB0 (s:C2)(v1 v2 v3 v4:Int×Bool):Option (Fsd×(Cnt×Cnt)):=
 (AO7 s.k0 s.I3 s.c.1 v1).bind fun a=>(AO7 s.k1 s.I4 s.c.1 v2).bind fun b=>(Ao4 s.c v3).bind fun r=>(Ac4 s.c s.speed).bind fun pr=>
  (Ao5 s.c s.t s.V8 s.speed s.place v4).bind fun ac=>(AA8 pr (a.1,(b.1,r)) ac).bind fun f=>some (f,(a.2,b.2))
theorem EL4 (m:Mal)(s:C2):apN (AV3 m) s=(AB0 s (mv1 m) (mv2 m) (mv3 m) (mv4 m)).bind fun y=>some (y.1,tuN {s with k0:=y.2.1,k1:=y.2.2}):=by
 rw[J6];unfold tuN AV3 AB0;have h0:=EL0 m s;rw[J6] at h0;simp only[tuN] at h0;rw[h0];simp only[FN3,FN2];refine congrArg _ (funext fun a=> ?_)
 have h1:=EL1 m {s with k0:=a.2};rw[J6] at h1;simp only[tuN] at h1;rw[h1];simp only[FN3,FN2];refine congrArg _ (funext fun b=> ?_)
 have h2:=EL2 m {s with k0:=a.2,k1:=b.2};have h3:=EL3 m {s with k0:=a.2,k1:=b.2};rw[J6] at h2 h3;simp only at h2 h3;rw[h2,h3]
noncomputable def Ad9 (t:TkD)(speed:Spn)(J5:Int)(pl:Plc):Option (Bool×(Int×Plc)):=
 (AA7 speed).bind fun m=>(Ac8 m).bind fun a=>(AD2 J5 a.1).bind fun d=>
  bif (bif a.2 then d.2 else false) then (bif pl.1 then (AH9 pl t speed).bind fun q=>some ((bif false then true else (q.2==(20:Int))),(d.1,q.1)) else some (false,(d.1,pl)))
  else (bif pl.1 then (AH9 pl t speed).bind fun q=>some ((bif true then true else (q.2==(20:Int))),(J5,q.1)) else some (true,(J5,pl)))
theorem EL5 (speed:Spn)(s:C2):apN (AV4 speed) s=(Ad9 s.t speed s.J5 s.place).bind fun y=>some (y.1,tuN {s with speed:=speed,J5:=y.2.1,place:=y.2.2}):=by
 rw[J6];unfold tuN AV4 Ad9;simp only[FN2,AD6,FN3]
 all_goals rfl
noncomputable def Az7 (c:Cfg)(t:TkD)(st:M6)(was:Plc)(speed:Spn)(g:Int):Option (List Int):=
 (Ad3 was.2.2.1 speed).bind fun p=>bif !p.2 then some [] else AO1 c t st p.1 g
theorem EL6 (s:C2)(was:Plc)(speed:Spn)(g:Int):apN (AO2 was speed g) s=(Az7 s.c s.t s.place.2.2.2.2 was speed g).bind fun y=>some (y,tuN s):=by
 rw[J6];unfold tuN AO2 Az7;simp only[FN2,AD6,FN3]
 all_goals rfl
noncomputable def Ae0 (c:Cfg)(t:TkD)(pl was:Plc)(speed:Spn)(v:Int×Bool):Option Fnd:=
 bif !v.2 then some (0,([],(true,false))) else (AO0 t v.1).bind fun i=>bif !i.2 then some (0,([],(false,false))) else
  bif pl.1 then (Az7 c t pl.2.2.2.2 was speed i.1).bind fun l=>some (i.1,(l,(decide ((0:Int)<(l.length:Int)),decide ((0:Int)<(l.length:Int))))) else some (i.1,([],(true,true)))
theorem EL7 (m:Mal)(was:Plc)(speed:Spn)(s:C2):apN (AV5 m was speed) s=(Ae0 s.c s.t s.place was speed (mv5 m)).bind fun y=>some (y,tuN s):=by
 rw[J6];unfold tuN AV5 Ae0;have h0:∀g,_=_:=fun g=>(J6 (AO2 was speed g) s).symm.trans (EL6 s was speed g)
 simp only[tuN] at h0;simp only[EK9,FN2,AD6,FN3,h0]
 all_goals rfl
noncomputable def AO8 (p:Int)(I3 I4:Spn)(k0 k1:Cnt)(U4 U5:Int)(pos origin:Spn)(at':Int):Option (Spn×Spn):=
 (AA5 at').bind fun a=>(AD5 pos a).bind fun w=>bif !w.2 then some (I3,I4) else (AN8 w.1 origin).bind fun z=>bif !z.2 then some (I3,I4) else
  (AA9 I3 z.1 p (FN4 .i64 (k0.2.2-U4))).bind fun a=>(AA9 I4 z.1 p (FN4 .i64 (k1.2.2-U5))).bind fun b=>some (a.1,b.1)
theorem EL8 (at':Int)(s:C2):apN (AV6 at') s=(AO8 s.c.1 s.I3 s.I4 s.k0 s.k1 s.U4 s.U5 s.place.2.2.1 s.origin at').bind fun y=>some (tuN {s with I3:=y.1,I4:=y.2}):=by
 rw[J6];unfold tuN AV6 AO8;simp only[FN2,AD6,FN3]
 all_goals rfl
noncomputable def AI1 (x:Fnd)(speed:Spn)(s:C2):Option C2:=
 (An7 s.c s.t x.1 speed).bind fun p=>
  bif (bif (bif s.place.1 then s.clean else false) then ((x.2.1.length:Int)==(1:Int)) else false) then
   chk none (true&&(decide ((0:Int)<(x.2.1.length:Int))))<|(AO8 s.c.1 s.I3 s.I4 s.k0 s.k1 s.U4 s.U5 p.2.2.1 s.origin (x.2.1.getD (0:Int).toNat (0:Int))).bind fun y=>
    some {s with place:=p,I3:=y.1,I4:=y.2,clean:=true,origin:=p.2.2.1,U4:=s.k0.2.2,U5:=s.k1.2.2}
  else some {s with place:=p,clean:=true,origin:=p.2.2.1,U4:=s.k0.2.2,U5:=s.k1.2.2}
theorem EL9 (x:Fnd)(speed:Spn)(s:C2):apN (AV7 x speed) s=(AI1 x speed s).bind fun y=>some (tuN y):=by
 rw[J6];unfold tuN AV7 AI1;simp only[FN2,AD6,CE8,FN3];refine congrArg _ (funext fun p=> ?_)
 have h1:=EL8 (x.2.1.getD (0:Int).toNat (0:Int)) {s with place:=p};rw[J6] at h1;simp only[tuN] at h1;rw[h1];simp only[FN2,FN3]
 all_goals rfl

/- A unit's cycle by its parts. -/
noncomputable def Az8 (l:List RtD):Option (List (List Int)):=
 LP.lp (X:=(List (List Int))) (fun (s:((List (List Int))×Int))=>
  (bif (decide (s.2<(l.length:Int))) then
   chk none ((decide ((0:Int)≤s.2))&&(decide (s.2<(l.length:Int))))<|
   (Aa7 (l.getD s.2.toNat ((0:Int),((0:Int),((0:Int),((0:Int),((0:Int),((0:Int),((0:Int),((0:Int),((0:Int),((0:Int),((0:Int),((0:Int),(0:Int))))))))))))))).bind fun p=>
   chk none (decide ((s.1.length+([p]:List (List Int)).length)*24≤140737488355328))<|
   some (.inl (s.1++([p]:List (List Int)),FN4 .i64 (s.2+(1:Int))))
  else
   some (.inr s.1))) ([],(0:Int))
noncomputable def AI2 (s:C2)(f:Fsd)(cy:Int)(acc flt:Bool)(q:Int×(Int×(Int×Int))):Option D0:=
 (AA7 f.1).bind fun nm=>(Ad6 s.watch s.place.1 f.2.1 f.2.2.2.1).bind fun md=>
  bif !s.place.1 then some (cy,(md,(0,((0,0),(0,(f.1,(nm,(s.J5,([],(f.2.1,(f.2.2.1,(f.2.2.2.1,(f.2.2.2.2,(acc,(flt,(s.still.2,(s.E7.2.1,(false,(s.E7.2.2,(s.c.2.2.2.2.2.2.1,((s.I3,s.I4),q)))))))))))))))))))))
  else chk none ((decide ((0:Int)≤s.place.2.1))&&(decide (s.place.2.1<(s.t.2.length:Int))))<|(Az8 s.place.2.2.2.2.2).bind fun rts=>(AO4 s.t s.ends s.place.2.2.2.2 s.place.2.2.1.2).bind fun fr=>
   bif fr.2 then (AO5 s.c fr.1).bind fun pm=>some (cy,(md,((s.t.2.getD s.place.2.1.toNat ((0:Int),((0:Int),((0:Int),((0:Int),(0:Int)))))).1,(s.place.2.2.1,(s.place.2.2.2.1,(f.1,(nm,(s.J5,(rts,(f.2.1,(f.2.2.1,(f.2.2.2.1,(f.2.2.2.2,(acc,(flt,(s.still.2,(s.E7.2.1,(decide (pm<f.1.2),(s.E7.2.2,(pm,((s.I3,s.I4),q)))))))))))))))))))))
   else some (cy,(md,((s.t.2.getD s.place.2.1.toNat ((0:Int),((0:Int),((0:Int),((0:Int),(0:Int)))))).1,(s.place.2.2.1,(s.place.2.2.2.1,(f.1,(nm,(s.J5,(rts,(f.2.1,(f.2.2.1,(f.2.2.2.1,(f.2.2.2.2,(acc,(flt,(s.still.2,(s.E7.2.1,(decide (s.c.2.2.2.2.2.2.1<f.1.2),(s.E7.2.2,(s.c.2.2.2.2.2.2.1,((s.I3,s.I4),q)))))))))))))))))))))
theorem Az9 (s:C2)(f:Fsd)(cy:Int)(acc flt:Bool)(q:Int×(Int×(Int×Int))):
  apN (AW2 f) s cy 4 0 0 0 0 0 0 0 0 [] 0 false false 0 0 acc flt false false false 0 0 0 0 0 0 0 q.1 q.2.1 q.2.2.1 q.2.2.2=(AI2 s f cy acc flt q).bind fun r=>some (s.c.1,s.c.2.1,s.c.2.2.1,s.c.2.2.2.1,s.c.2.2.2.2.1,s.c.2.2.2.2.2.1,s.c.2.2.2.2.2.2.1,s.c.2.2.2.2.2.2.2.1,s.c.2.2.2.2.2.2.2.2.1,s.c.2.2.2.2.2.2.2.2.2.1,s.c.2.2.2.2.2.2.2.2.2.2.1,s.c.2.2.2.2.2.2.2.2.2.2.2.1,s.c.2.2.2.2.2.2.2.2.2.2.2.2.1,s.c.2.2.2.2.2.2.2.2.2.2.2.2.2,s.t.1,s.t.2,s.broken,s.C6,s.V8.1,s.V8.2,s.ends,s.k0.1,s.k0.2.1,s.k0.2.2,s.k1.1,s.k1.2.1,s.k1.2.2,s.I3.1,s.I3.2,s.I4.1,s.I4.2,s.speed.1,s.speed.2,s.J5,s.place.1,s.place.2.1,s.place.2.2.1.1,s.place.2.2.1.2,s.place.2.2.2.1,s.place.2.2.2.2.1,s.place.2.2.2.2.2,s.clean,s.origin.1,s.origin.2,s.U4,s.U5,s.still.1,s.still.2,s.E7.1,s.E7.2.1,s.E7.2.2.1,s.E7.2.2.2,s.watch.1,s.watch.2.1,s.watch.2.2,r.1,r.2.1,r.2.2.1,r.2.2.2.1.1,r.2.2.2.1.2,r.2.2.2.2.1,r.2.2.2.2.2.1.1,r.2.2.2.2.2.1.2,r.2.2.2.2.2.2.1,r.2.2.2.2.2.2.2.1,r.2.2.2.2.2.2.2.2.1,r.2.2.2.2.2.2.2.2.2.1,r.2.2.2.2.2.2.2.2.2.2.1,r.2.2.2.2.2.2.2.2.2.2.2.1,r.2.2.2.2.2.2.2.2.2.2.2.2.1.1,r.2.2.2.2.2.2.2.2.2.2.2.2.1.2,r.2.2.2.2.2.2.2.2.2.2.2.2.2.1,r.2.2.2.2.2.2.2.2.2.2.2.2.2.2.1,r.2.2.2.2.2.2.2.2.2.2.2.2.2.2.2.1,r.2.2.2.2.2.2.2.2.2.2.2.2.2.2.2.2.1,r.2.2.2.2.2.2.2.2.2.2.2.2.2.2.2.2.2.1,r.2.2.2.2.2.2.2.2.2.2.2.2.2.2.2.2.2.2.1.1,r.2.2.2.2.2.2.2.2.2.2.2.2.2.2.2.2.2.2.1.2,r.2.2.2.2.2.2.2.2.2.2.2.2.2.2.2.2.2.2.2.1,r.2.2.2.2.2.2.2.2.2.2.2.2.2.2.2.2.2.2.2.2.1.1.1,r.2.2.2.2.2.2.2.2.2.2.2.2.2.2.2.2.2.2.2.2.1.1.2,r.2.2.2.2.2.2.2.2.2.2.2.2.2.2.2.2.2.2.2.2.1.2.1,r.2.2.2.2.2.2.2.2.2.2.2.2.2.2.2.2.2.2.2.2.1.2.2,r.2.2.2.2.2.2.2.2.2.2.2.2.2.2.2.2.2.2.2.2.2.1,r.2.2.2.2.2.2.2.2.2.2.2.2.2.2.2.2.2.2.2.2.2.2.1,r.2.2.2.2.2.2.2.2.2.2.2.2.2.2.2.2.2.2.2.2.2.2.2.1,r.2.2.2.2.2.2.2.2.2.2.2.2.2.2.2.2.2.2.2.2.2.2.2.2):=by
 rw[J6];unfold AW2 AI2 Az8;simp only[FN2,AD6,CE8,FN3]
 all_goals rfl
noncomputable def AO9 (m:Mal)(cmd:Bool)(cy:Int)(s:C2):Option (D0×C2):=
 (AB0 s (mv1 m) (mv2 m) (mv3 m) (mv4 m)).bind fun y=>(Ad9 s.t y.1.1 s.J5 s.place).bind fun z=>(Ae0 s.c s.t z.2.2 s.place y.1.1 (mv5 m)).bind fun x=>
  (bif x.2.2.2 then AI1 x y.1.1 {s with k0:=y.2.1,k1:=y.2.2,clean:=bif s.clean then y.1.2.2.1 else false,speed:=y.1.1,J5:=z.2.1,place:=z.2.2} else some {s with k0:=y.2.1,k1:=y.2.2,clean:=bif s.clean then y.1.2.2.1 else false,speed:=y.1.1,J5:=z.2.1,place:=z.2.2}).bind fun s4=>
   (AV8 s4.watch s4.c y.1.2.1 y.1.2.2.2.1 z.1 x.2.2.2).bind fun w=>
    (bif w.2.2 then some ((false,(0,((0,0),(0,(0,[]))))):Plc) else some s4.place).bind fun pl=>
     (AV9 s4.still s4.c y.1.1 y.1.2.1).bind fun st=>(AW0 s4.E7 s4.c st.2 cmd y.1.1).bind fun ro=>
      (AI2 {s4 with watch:=w,place:=pl,still:=st,E7:=ro} y.1 cy x.2.2.2 (!x.2.2.1) m.2.2).bind fun r=>some (r,{s4 with watch:=w,place:=pl,still:=st,E7:=ro})
def Ao6 (cy:Int):D0:=(cy,((4:Int),((0:Int),(((0:Int),(0:Int)),((0:Int),(((0:Int),(0:Int)),((0:Int),((0:Int),([],((0:Int),(false,(false,(((0:Int),(0:Int)),(false,(false,(false,(false,(false,(((0:Int),(0:Int)),((0:Int),((((0:Int),(0:Int)),((0:Int),(0:Int))),((0:Int),((0:Int),((0:Int),(0:Int)))))))))))))))))))))))))
noncomputable def U6 (list:List (List Int))(cmd:Bool)(s:C2):Option (D0×C2):=
 bif s.broken then some (Ao6 s.C6,{s with C6:=FN4 .i64 (s.C6+1)})
 else (AN5 s.C6 list).bind fun m=>AO9 m cmd s.C6 {s with C6:=FN4 .i64 (s.C6+1)}
theorem EM0 (list:List (List Int))(cmd:Bool)(s:C2):apN (AO6 list cmd) s=(U6 list cmd s).bind fun y=>some (y.1,tuN y.2):=by
 rw[J6];unfold tuN AO6 U6;simp only[AD6,FN2,FN3];refine congrArg _ (congrArg _ (funext fun m=> ?_))
 unfold AO9;have h1:=EL4 m {s with C6:=FN4 .i64 (s.C6+1)};rw[J6] at h1;simp only[tuN] at h1;rw[h1];simp only[FN2,FN3];have e0:∀a b,AB0 {s with C6:=a} b=AB0 s b:=fun _ _=>rfl
 refine congrArg _ (funext fun y=> ?_)
 have h2:=EL5 y.1.1 {s with C6:=FN4 .i64 (s.C6+1),k0:=y.2.1,k1:=y.2.2,clean:=bif s.clean then y.1.2.2.1 else false};rw[J6] at h2;simp only[tuN] at h2;rw[h2];simp only[FN2,FN3];refine congrArg _ (funext fun z=> ?_)
 have h3:=EL7 m s.place y.1.1 {s with C6:=FN4 .i64 (s.C6+1),k0:=y.2.1,k1:=y.2.2,clean:=bif s.clean then y.1.2.2.1 else false,speed:=y.1.1,J5:=z.2.1,place:=z.2.2};rw[J6] at h3;simp only[tuN] at h3;rw[h3];simp only[FN2,FN3];refine congrArg _ (funext fun x=> ?_)
 have h4:=EL9 x y.1.1 {s with C6:=FN4 .i64 (s.C6+1),k0:=y.2.1,k1:=y.2.2,clean:=bif s.clean then y.1.2.2.1 else false,speed:=y.1.1,J5:=z.2.1,place:=z.2.2};rw[J6] at h4;simp only[tuN] at h4;rw[h4];cases x.2.2.2 with
 |true=>
  simp only[cond_true,FN2,FN3];refine congrArg _ (funext fun s4=> ?_)
  refine congrArg _ (funext fun w=> ?_)
  obtain⟨wa,wb,wc⟩:=w;cases wc with
  |true=>
   simp only[cond_true,FN2,FN3];refine congrArg _ (funext fun st=> ?_)
   refine congrArg _ (funext fun ro=> ?_)
   have h5:=Az9 {s4 with watch:=(wa,wb,true),place:=(false,(0,((0,0),(0,(0,[]))))),still:=st,E7:=ro} y.1 s.C6 true (!x.2.2.1) m.2.2;rw[J6] at h5;simp only at h5;rw[h5];simp only[FN2,FN3]
   all_goals rfl
  |false=>
   simp only[cond_false,FN2,FN3];refine congrArg _ (funext fun st=> ?_)
   refine congrArg _ (funext fun ro=> ?_)
   have h5:=Az9 {s4 with watch:=(wa,wb,false),still:=st,E7:=ro} y.1 s.C6 true (!x.2.2.1) m.2.2;rw[J6] at h5;simp only at h5;rw[h5];simp only[FN2,FN3]
   all_goals rfl
 |false=>
  simp only[cond_false,FN2,FN3];refine congrArg _ (funext fun w=> ?_)
  obtain⟨wa,wb,wc⟩:=w;cases wc with
  |true=>
   simp only[cond_true,FN2,FN3];refine congrArg _ (funext fun st=> ?_)
   refine congrArg _ (funext fun ro=> ?_)
   have h5:=Az9 {s with C6:=FN4 .i64 (s.C6+1),k0:=y.2.1,k1:=y.2.2,clean:=bif s.clean then y.1.2.2.1 else false,speed:=y.1.1,J5:=z.2.1,watch:=(wa,wb,true),place:=(false,(0,((0,0),(0,(0,[]))))),still:=st,E7:=ro} y.1 s.C6 false (!x.2.2.1) m.2.2;rw[J6] at h5;simp only at h5;rw[h5];simp only[FN2,FN3]
   all_goals rfl
  |false=>
   simp only[cond_false,FN2,FN3];refine congrArg _ (funext fun st=> ?_)
   refine congrArg _ (funext fun ro=> ?_)
   have h5:=Az9 {s with C6:=FN4 .i64 (s.C6+1),k0:=y.2.1,k1:=y.2.2,clean:=bif s.clean then y.1.2.2.1 else false,speed:=y.1.1,J5:=z.2.1,place:=z.2.2,watch:=(wa,wb,false),still:=st,E7:=ro} y.1 s.C6 false (!x.2.2.1) m.2.2;rw[J6] at h5;simp only at h5;rw[h5];simp only[FN2,FN3]
   all_goals rfl

/- A unit's cycles, one behind the other. -/
abbrev Cyc:=List (List Int)×Bool
def BA0:C2:={c:=(0,0,0,0,0,0,0,0,0,0,0,0,0,0),t:=([],[]),broken:=true,C6:=0,V8:=(0,0),ends:=[],k0:=(false,0,0),k1:=(false,0,0),I3:=(0,0),I4:=(0,0),speed:=(0,0),J5:=0,place:=(false,0,(0,0),0,0,[]),clean:=false,origin:=(0,0),U4:=0,U5:=0,still:=(0,false),E7:=(false,false,0,0),watch:=(0,0,false)}
noncomputable def AW4 (c:Cfg)(img:List Int):Option C2:=
 (AL5 img).bind fun o=>(bif o.2==(0:Int) then (AM0 c o.1).bind fun e=>some e.1 else some o.2).bind fun e=>bif e != (0:Int) then some BA0
  else (AM2 o.1).bind fun g=>(AM3 o.1).bind fun en=>(AM4 c).bind fun a=>(AM4 c).bind fun b=>(AT5 c).bind fun sp=>
   some {BA0 with c:=c,t:=o.1,broken:=false,V8:=g,ends:=en,I3:=a,I4:=b,speed:=sp}
theorem EM1 (c:Cfg)(img:List Int):AM5 c img=(AW4 c img).bind fun s=>some (tuN s):=by
 unfold tuN AM5 AW4;simp only[FN2,AD6,FN3]
 all_goals rfl
noncomputable def goN:C2→List Cyc→Option (List D0)
 |_,[]=>some []
 |s,x::xs=>(U6 x.1 x.2 s).bind fun y=>(goN y.2 xs).bind fun rs=>some (y.1::rs)
theorem CE9 {S:Type}{l:List Cyc}{f:S→Option (S ⊕ List D0)}(sh:C2→List D0→Int→S)(hl:l.length≤1000)
  (hstep:∀(k:Nat) (s:C2) (out:List D0) (y:D0×C2),k<l.length→out.length≤1000→U6 (l.getD k ([],false)).1 (l.getD k ([],false)).2 s=some y→f (sh s out (k:Int))=some (.inl (sh y.2 (out++[y.1]) ((k+1:Nat):Int))))
  (hend:∀(s:C2) (out:List D0),f (sh s out (l.length:Int))=some (.inr out)):
  ∀(xs:List Cyc) (k:Nat) (s:C2) (out rs:List D0),l.drop k=xs→k≤l.length→out.length=k→goN s xs=some rs→∃n,D2 f n (sh s out (k:Int))=some (out++rs)
 | [],k,s,out,rs,hd,hk,ho,hr=>by
  have hk2:k=l.length:=by have:=congrArg List.length hd;rw[List.length_drop] at this;simp at this;omega
  subst hk2;rw[goN] at hr;obtain rfl:=Option.some.inj hr;exact⟨1,by simp[D2,hend]⟩
 |x::xs,k,s,out,rs,hd,hk,ho,hr=>by
  have hlt:k<l.length:=by have:=congrArg List.length hd;rw[List.length_drop] at this;simp at this;omega
  have hx:l.getD k ([],false)=x:=by rw[FN5 hlt] at hd;have:=(List.cons.inj hd).1;simp[List.getD,hlt,this]
  have hd2:l.drop (k+1)=xs:=by rw[FN5 hlt] at hd;exact (List.cons.inj hd).2
  rw[goN] at hr;cases hy:U6 x.1 x.2 s with
  |none=>rw [hy] at hr;cases hr
  |some y=>
   rw[hy] at hr;simp only[FN2] at hr;cases hq:goN y.2 xs with
   |none=>rw [hq] at hr;cases hr
   |some qs=>
    rw[hq] at hr;obtain rfl:=Option.some.inj hr;obtain⟨n,hn⟩:=CE9 sh hl hstep hend xs (k+1) y.2 (out++[y.1]) qs hd2 (by omega) (by simp[ho]) hq
    refine⟨n+1,?_⟩;have h1:=hstep k s out y hlt (by omega) (by rw[hx];exact hy)
    simp only[D2,h1,hn];simp
theorem EM2 {S:Type}{l:List Cyc}{f:S→Option (S ⊕ List D0)}{s:C2}{init:S}{rs:List D0}(sh:C2→List D0→Int→S)(hl:l.length≤1000)(hi:init=sh s [] 0)
  (hstep:∀(k:Nat) (s:C2) (out:List D0) (y:D0×C2),k<l.length→out.length≤1000→U6 (l.getD k ([],false)).1 (l.getD k ([],false)).2 s=some y→f (sh s out (k:Int))=some (.inl (sh y.2 (out++[y.1]) ((k+1:Nat):Int))))
  (hend:∀(s:C2) (out:List D0),f (sh s out (l.length:Int))=some (.inr out)) (hr:goN s l=some rs):Option.bind (LP.lp f init) (fun r=>some r)=some rs:=by
 obtain⟨n,hn⟩:=CE9 sh hl hstep hend l 0 s [] rs rfl (by omega) rfl hr
 subst hi;show Option.bind (AJ9 f (sh s [] ((0:Nat):Int))) (fun r=>some r)=some rs
 rw[p0 hn];rfl
theorem p7 (k:Nat)(h:k≤1000):FN4 .i64 ((k:Int)+1)=((k+1:Nat):Int):=by rw[IntKind.wrap_i64];omega
set_option maxRecDepth 10000 in
theorem EM3 (c:Cfg)(t:TkD)(l:List Cyc)(hl:l.length≤1000){e:Int×Int}{img:List Int}{s:C2}{rs:List D0}(h1:AG1 c t=some e)(h2:e.1=0)(h3:AG2 t=some img)(h4:AW4 c img=some s)(h5:goN s l=some rs):AI0 c t l=some rs:=by
 unfold AI0;rw[h1];simp only[FN2,h2];rw[h3];simp only[FN2];rw[EM1,h4];simp only[FN2,tuN];refine EM2 (l:=l) (s:=s) (fun s out k=>(s.watch.2.1,s.c.2.2.2.2.2.2.2.1,s.broken,s.c.2.2.2.2.2.2.2.2.2.2.2.2.2,s.k1.2.1,s.k0.2.1,s.speed.1,s.place.2.2.2.2.2,s.E7.2.1,s.still.1,s.c.1,s.c.2.2.2.2.2.2.2.2.2.1,s.c.2.2.2.2.2.2.1,s.V8.1,s.t.2,s.k1.1,s.J5,s.origin.1,s.place.2.2.2.2.1,s.E7.1,s.c.2.2.1,s.c.2.2.2.2.2.2.2.2.2.2.2.1,s.c.2.2.2.2.2.2.2.2.1,s.C6,s.k1.2.2,s.place.2.1,s.speed.2,s.U4,s.clean,s.E7.2.2.1,s.c.2.2.2.2.1,s.c.2.1,s.c.2.2.2.2.2.2.2.2.2.2.1,s.V8.2,s.I3.2,s.place.2.2.1.2,s.place.1,s.origin.2,s.watch.1,s.c.2.2.2.1,s.c.2.2.2.2.2.2.2.2.2.2.2.2.1,s.k0.1,s.I4.2,s.I3.1,out,s.place.2.2.1.1,s.U5,k,s.watch.2.2,s.E7.2.2.2,s.c.2.2.2.2.2.1,s.t.1,s.k0.2.2,s.ends,s.I4.1,s.place.2.2.2.1,s.still.2)) hl rfl ?_ ?_ h5
 ·intro k s out y hk ho hy
  have e1:(decide ((k:Int)<(l.length:Int)))=true:=by simpa using hk
  have e2:(decide ((0:Int)≤(k:Int)))=true:=by simp
  have h8:=EM0 (l.getD k ([],false)).1 (l.getD k ([],false)).2 s;rw[hy] at h8;rw[J6] at h8;simp only[FN2,tuN] at h8;have e3:decide ((out.length+[y.1].length)*232≤140737488355328)=true:=by
   simp
   omega
  have e4:=p7 k (by omega)
  simp only[e1,e2,cond_true,Bool.and_self,R1,Int.toNat_natCast,h8,FN2,e3,e4]
 ·intro s out
  have e1:(decide ((l.length:Int)<(l.length:Int)))=false:=by simp
  simp only[e1,cond_false]
end Go.Proofs.YthfjpkdadjemcaaGreat
