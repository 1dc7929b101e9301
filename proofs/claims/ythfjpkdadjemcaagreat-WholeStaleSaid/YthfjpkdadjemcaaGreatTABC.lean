/- A unit's state by its parts, and what is reckoned of it. -/
import Derived.Test.YthfjpkdadjemcaaGreatFnsF3
import Derived.Test.YthfjpkdadjemcaaGreatLoopF
set_option linter.unusedSimpArgs false
set_option linter.unusedVariables false
namespace Go.Proofs.YthfjpkdadjemcaaGreat
open Go Go.RowKit
abbrev Cfg:=Int×(Int×(Int×(Int×(Int×(Int×(Int×(Int×(Int×(Int×(Int×(Int×(Int×Int))))))))))))
abbrev Spn:=Int×Int
abbrev Sns:=Bool×Spn
abbrev Cnt:=Bool×(Int×Int)
abbrev Plc:=Bool×(Int×(Spn×(Int×L3)))
abbrev Fsd:=Spn×(Int×(Bool×(Bool×(Int×Int))))
abbrev Fnd:=Int×(List Int×(Bool×Bool))
abbrev Mal:=(Bool×(Bool×(Bool×(Bool×(Bool×Bool)))))×((Int×(Int×(Int×(Int×(Int×Int)))))×(Int×(Int×(Int×Int))))
abbrev E3:=Int×(Int×(Int×(Spn×(Int×(Spn×(Int×(Int×(List (List Int)×(Int×(Bool×(Bool×((Int×Int)×(Bool×(Bool×(Bool×(Bool×(Bool×(Spn×(Int×((Spn×Spn)×(Int×(Int×(Int×Int)))))))))))))))))))))))
structure A7 where
 c:Cfg
 t:TkD
 broken:Bool
 C5:Int
 U5:Spn
 ends:List Int
 k0:Cnt
 k1:Cnt
 J4:Spn
 J5:Spn
 speed:Spn
 G4:Int
 place:Plc
 clean:Bool
 origin:Spn
 p8:Int
 p9:Int
 still:Int×Bool
 E7:Bool×(Bool×Spn)
 watch:Int×(Int×Bool)
abbrev CB7 (ρ:Type):=Int→Int→Int→Int→Int→Int→Int→Int→Int→Int→Int→Int→Int→Int→List (Int×(List (Int×Int)×List Int))→List (Int×(Int×(Int×(Int×Int))))→Bool→Int→Int→Int→List Int→Bool→Int→Int→Bool→Int→Int→Int→Int→Int→Int→Int→Int→Int→Bool→Int→Int→Int→Int→Int→List RtD→Bool→Int→Int→Int→Int→Int→Bool→Bool→Bool→Int→Int→Int→Int→Bool→ρ
def apN {ρ:Type}(F:CB7 ρ)(s:A7):ρ:=F s.c.1 s.c.2.1 s.c.2.2.1 s.c.2.2.2.1 s.c.2.2.2.2.1 s.c.2.2.2.2.2.1 s.c.2.2.2.2.2.2.1 s.c.2.2.2.2.2.2.2.1 s.c.2.2.2.2.2.2.2.2.1 s.c.2.2.2.2.2.2.2.2.2.1 s.c.2.2.2.2.2.2.2.2.2.2.1 s.c.2.2.2.2.2.2.2.2.2.2.2.1 s.c.2.2.2.2.2.2.2.2.2.2.2.2.1 s.c.2.2.2.2.2.2.2.2.2.2.2.2.2 s.t.1 s.t.2 s.broken s.C5 s.U5.1 s.U5.2 s.ends s.k0.1 s.k0.2.1 s.k0.2.2 s.k1.1 s.k1.2.1 s.k1.2.2 s.J4.1 s.J4.2 s.J5.1 s.J5.2 s.speed.1 s.speed.2 s.G4 s.place.1 s.place.2.1 s.place.2.2.1.1 s.place.2.2.1.2 s.place.2.2.2.1 s.place.2.2.2.2.1 s.place.2.2.2.2.2 s.clean s.origin.1 s.origin.2 s.p8 s.p9 s.still.1 s.still.2 s.E7.1 s.E7.2.1 s.E7.2.2.1 s.E7.2.2.2 s.watch.1 s.watch.2.1 s.watch.2.2
theorem J6 {ρ:Type}(F:CB7 ρ)(s:A7):apN F s=F s.c.1 s.c.2.1 s.c.2.2.1 s.c.2.2.2.1 s.c.2.2.2.2.1 s.c.2.2.2.2.2.1 s.c.2.2.2.2.2.2.1 s.c.2.2.2.2.2.2.2.1 s.c.2.2.2.2.2.2.2.2.1 s.c.2.2.2.2.2.2.2.2.2.1 s.c.2.2.2.2.2.2.2.2.2.2.1 s.c.2.2.2.2.2.2.2.2.2.2.2.1 s.c.2.2.2.2.2.2.2.2.2.2.2.2.1 s.c.2.2.2.2.2.2.2.2.2.2.2.2.2 s.t.1 s.t.2 s.broken s.C5 s.U5.1 s.U5.2 s.ends s.k0.1 s.k0.2.1 s.k0.2.2 s.k1.1 s.k1.2.1 s.k1.2.2 s.J4.1 s.J4.2 s.J5.1 s.J5.2 s.speed.1 s.speed.2 s.G4 s.place.1 s.place.2.1 s.place.2.2.1.1 s.place.2.2.1.2 s.place.2.2.2.1 s.place.2.2.2.2.1 s.place.2.2.2.2.2 s.clean s.origin.1 s.origin.2 s.p8 s.p9 s.still.1 s.still.2 s.E7.1 s.E7.2.1 s.E7.2.2.1 s.E7.2.2.2 s.watch.1 s.watch.2.1 s.watch.2.2:=rfl
def tuN (s:A7):=(s.c.1,s.c.2.1,s.c.2.2.1,s.c.2.2.2.1,s.c.2.2.2.2.1,s.c.2.2.2.2.2.1,s.c.2.2.2.2.2.2.1,s.c.2.2.2.2.2.2.2.1,s.c.2.2.2.2.2.2.2.2.1,s.c.2.2.2.2.2.2.2.2.2.1,s.c.2.2.2.2.2.2.2.2.2.2.1,s.c.2.2.2.2.2.2.2.2.2.2.2.1,s.c.2.2.2.2.2.2.2.2.2.2.2.2.1,s.c.2.2.2.2.2.2.2.2.2.2.2.2.2,s.t.1,s.t.2,s.broken,s.C5,s.U5.1,s.U5.2,s.ends,s.k0.1,s.k0.2.1,s.k0.2.2,s.k1.1,s.k1.2.1,s.k1.2.2,s.J4.1,s.J4.2,s.J5.1,s.J5.2,s.speed.1,s.speed.2,s.G4,s.place.1,s.place.2.1,s.place.2.2.1.1,s.place.2.2.1.2,s.place.2.2.2.1,s.place.2.2.2.2.1,s.place.2.2.2.2.2,s.clean,s.origin.1,s.origin.2,s.p8,s.p9,s.still.1,s.still.2,s.E7.1,s.E7.2.1,s.E7.2.2.1,s.E7.2.2.2,s.watch.1,s.watch.2.1,s.watch.2.2)
theorem AD8 {α β:Type}(c:Bool)(a b:Option α)(k:α→Option β):Option.bind (bif c then a else b) k=bif c then Option.bind a k else Option.bind b k:=by cases c <;> rfl
theorem CB8 {α β:Type}(c:Bool)(a:Option α)(k:α→Option β):Option.bind (chk none c a) k=chk none c (Option.bind a k):=by cases c <;> rfl
theorem P6 {α:Type}(a:Option α):chk none true a=a:=rfl
def mv1 (m:Mal):Int×Bool:=(m.2.1.2.1,m.1.2.1)
def mv2 (m:Mal):Int×Bool:=(m.2.1.2.2.1,m.1.2.2.1)
def mv3 (m:Mal):Int×Bool:=(m.2.1.2.2.2.1,m.1.2.2.2.1)
def mv4 (m:Mal):Int×Bool:=(m.2.1.2.2.2.2.1,m.1.2.2.2.2.1)
def mv5 (m:Mal):Int×Bool:=(m.2.1.2.2.2.2.2,m.1.2.2.2.2.2)
theorem EK1 (m:Mal):AD3 m 1=some (mv1 m):=rfl
theorem EK2 (m:Mal):AD3 m 2=some (mv2 m):=rfl
theorem EK3 (m:Mal):AD3 m 3=some (mv3 m):=rfl
theorem EK4 (m:Mal):AD3 m 4=some (mv4 m):=rfl
theorem EK5 (m:Mal):AD3 m 5=some (mv5 m):=rfl
noncomputable def Y4 (k:Cnt)(circ:Spn)(p:Int)(v:Int×Bool):Option (Sns×Cnt):=
 (AG7 k v.1 v.2).bind fun y=>bif !y.2.2 then some ((false,(0,0)),y.1) else (AG9 y.2.1 circ p).bind fun z=>some ((true,z.1),y.1)
theorem EK6 (m:Mal)(s:A7):apN (AD4 0 m) s=(Y4 s.k0 s.J4 s.c.1 (mv1 m)).bind fun y=>some (y.1,tuN {s with k0:=y.2}):=by
 rw[J6];unfold tuN AD4 Y4;simp only[show IntKind.wrap .i64 ((1:Int)+0)=1 by decide,EK1,Option.bind_some,AD8,Option.bind_assoc]
 all_goals rfl
theorem EK7 (m:Mal)(s:A7):apN (AD4 1 m) s=(Y4 s.k1 s.J5 s.c.1 (mv2 m)).bind fun y=>some (y.1,tuN {s with k1:=y.2}):=by
 rw[J6];unfold tuN AD4 Y4;simp only[show IntKind.wrap .i64 ((1:Int)+1)=2 by decide,EK2,Option.bind_some,AD8,Option.bind_assoc]
 all_goals rfl
noncomputable def Ad8 (c:Cfg)(v:Int×Bool):Option Sns:=bif !v.2 then some (false,(0,0)) else (AM7 c v.1).bind fun t=>some (true,t)
theorem EK8 (m:Mal)(s:A7):apN (AT5) s m=Ad8 s.c (mv3 m):=by
 rw[J6];unfold AT5 Ad8;simp only[EK3,Option.bind_some]
 all_goals rfl
noncomputable def BS2 (t:TkD)(gr:Spn)(pl:Plc):Option Spn:=AT9 0 0 0 0 0 0 0 0 0 0 0 0 0 0 t.1 t.2 false 0 gr.1 gr.2 [] false 0 0 false 0 0 0 0 0 0 0 0 0 pl.1 pl.2.1 pl.2.2.1.1 pl.2.2.1.2 pl.2.2.2.1 pl.2.2.2.2.1 pl.2.2.2.2.2 false 0 0 0 0 0 false false false 0 0 0 0 false
noncomputable def Ad9 (c:Cfg)(t:TkD)(gr sp:Spn)(pl:Plc)(v:Int×Bool):Option Sns:=
 bif !v.2 then some (false,(0,0)) else (BS2 t gr pl).bind fun g=>(Ak6 c v.1 g).bind fun a=>(Ak8 sp a).bind fun w=>some (true,w)
theorem EK9 (m:Mal)(s:A7):apN (AU1) s m=Ad9 s.c s.t s.U5 s.speed s.place (mv4 m):=by
 rw[J6];unfold AU1 Ad9;simp only[EK4,Option.bind_some]
 all_goals rfl
noncomputable def q8 (s:A7)(v1 v2 v3 v4:Int×Bool):Option (Fsd×(Cnt×Cnt)):=
 (Y4 s.k0 s.J4 s.c.1 v1).bind fun a=>(Y4 s.k1 s.J5 s.c.1 v2).bind fun b=>(Ad8 s.c v3).bind fun r=>(Ac5 s.c s.speed).bind fun pr=>
  (Ad9 s.c s.t s.U5 s.speed s.place v4).bind fun ac=>(AH2 pr (a.1,(b.1,r)) ac).bind fun f=>some (f,(a.2,b.2))
theorem EL0 (m:Mal)(s:A7):apN (AU7 m) s=(q8 s (mv1 m) (mv2 m) (mv3 m) (mv4 m)).bind fun y=>some (y.1,tuN {s with k0:=y.2.1,k1:=y.2.2}):=by
 rw[J6];unfold tuN AU7 q8;have h0:=EK6 m s;rw[J6] at h0;simp only[tuN] at h0;rw[h0];simp only[Option.bind_assoc,Option.bind_some];refine congrArg _ (funext fun a=> ?_)
 have h1:=EK7 m {s with k0:=a.2};rw[J6] at h1;simp only[tuN] at h1;rw[h1];simp only[Option.bind_assoc,Option.bind_some];refine congrArg _ (funext fun b=> ?_)
 have h2:=EK8 m {s with k0:=a.2,k1:=b.2};have h3:=EK9 m {s with k0:=a.2,k1:=b.2};rw[J6] at h2 h3;simp only at h2 h3;rw[h2,h3]
noncomputable def Ae0 (t:TkD)(speed:Spn)(G4:Int)(pl:Plc):Option (Bool×(Int×Plc)):=
 (AD5 speed).bind fun m=>(Al1 m).bind fun a=>(AG6 G4 a.1).bind fun d=>
  bif (bif a.2 then d.2 else false) then (bif pl.1 then (AH3 pl t speed).bind fun q=>some ((bif false then true else (q.2==(20:Int))),(d.1,q.1)) else some (false,(d.1,pl)))
  else (bif pl.1 then (AH3 pl t speed).bind fun q=>some ((bif true then true else (q.2==(20:Int))),(G4,q.1)) else some (true,(G4,pl)))
theorem EL1 (speed:Spn)(s:A7):apN (AU8 speed) s=(Ae0 s.t speed s.G4 s.place).bind fun y=>some (y.1,tuN {s with speed:=speed,G4:=y.2.1,place:=y.2.2}):=by
 rw[J6];unfold tuN AU8 Ae0;simp only[Option.bind_some,AD8,Option.bind_assoc]
 all_goals rfl
noncomputable def BB0 (c:Cfg)(t:TkD)(st:L3)(was:Plc)(speed:Spn)(g:Int):Option (List Int):=
 (Al5 was.2.2.1 speed).bind fun p=>bif !p.2 then some [] else AN0 c t st p.1 g
theorem EL2 (s:A7)(was:Plc)(speed:Spn)(g:Int):apN (AN1 was speed g) s=(BB0 s.c s.t s.place.2.2.2.2 was speed g).bind fun y=>some (y,tuN s):=by
 rw[J6];unfold tuN AN1 BB0;simp only[Option.bind_some,AD8,Option.bind_assoc]
 all_goals rfl
noncomputable def Ae1 (c:Cfg)(t:TkD)(pl was:Plc)(speed:Spn)(v:Int×Bool):Option Fnd:=
 bif !v.2 then some (0,([],(true,false))) else (AM9 t v.1).bind fun i=>bif !i.2 then some (0,([],(false,false))) else
  bif pl.1 then (BB0 c t pl.2.2.2.2 was speed i.1).bind fun l=>some (i.1,(l,(decide ((0:Int)<(l.length:Int)),decide ((0:Int)<(l.length:Int))))) else some (i.1,([],(true,true)))
theorem EL3 (m:Mal)(was:Plc)(speed:Spn)(s:A7):apN (AU9 m was speed) s=(Ae1 s.c s.t s.place was speed (mv5 m)).bind fun y=>some (y,tuN s):=by
 rw[J6];unfold tuN AU9 Ae1;have h0:∀g,_=_:=fun g=>(J6 (AN1 was speed g) s).symm.trans (EL2 s was speed g)
 simp only[tuN] at h0;simp only[EK5,Option.bind_some,AD8,Option.bind_assoc,h0]
 all_goals rfl
noncomputable def Ae2 (p:Int)(J4 J5:Spn)(k0 k1:Cnt)(p8 p9:Int)(pos origin:Spn)(at':Int):Option (Spn×Spn):=
 (AD0 at').bind fun a=>(AH1 pos a).bind fun w=>bif !w.2 then some (J4,J5) else (AU0 w.1 origin).bind fun z=>bif !z.2 then some (J4,J5) else
  (AD6 J4 z.1 p (IntKind.wrap .i64 (k0.2.2-p8))).bind fun a=>(AD6 J5 z.1 p (IntKind.wrap .i64 (k1.2.2-p9))).bind fun b=>some (a.1,b.1)
theorem EL4 (at':Int)(s:A7):apN (AV1 at') s=(Ae2 s.c.1 s.J4 s.J5 s.k0 s.k1 s.p8 s.p9 s.place.2.2.1 s.origin at').bind fun y=>some (tuN {s with J4:=y.1,J5:=y.2}):=by
 rw[J6];unfold tuN AV1 Ae2;simp only[Option.bind_some,AD8,Option.bind_assoc]
 all_goals rfl
noncomputable def U6 (x:Fnd)(speed:Spn)(s:A7):Option A7:=
 (Al6 s.c s.t x.1 speed).bind fun p=>
  bif (bif (bif s.place.1 then s.clean else false) then ((x.2.1.length:Int)==(1:Int)) else false) then
   chk none (true&&(decide ((0:Int)<(x.2.1.length:Int))))<|(Ae2 s.c.1 s.J4 s.J5 s.k0 s.k1 s.p8 s.p9 p.2.2.1 s.origin (x.2.1.getD (0:Int).toNat (0:Int))).bind fun y=>
    some {s with place:=p,J4:=y.1,J5:=y.2,clean:=true,origin:=p.2.2.1,p8:=s.k0.2.2,p9:=s.k1.2.2}
  else some {s with place:=p,clean:=true,origin:=p.2.2.1,p8:=s.k0.2.2,p9:=s.k1.2.2}
theorem EL5 (x:Fnd)(speed:Spn)(s:A7):apN (AV2 x speed) s=(U6 x speed s).bind fun y=>some (tuN y):=by
 rw[J6];unfold tuN AV2 U6;simp only[Option.bind_some,AD8,CB8,Option.bind_assoc];refine congrArg _ (funext fun p=> ?_)
 have h1:=EL4 (x.2.1.getD (0:Int).toNat (0:Int)) {s with place:=p};rw[J6] at h1;simp only[tuN] at h1;rw[h1];simp only[Option.bind_some,Option.bind_assoc]
 all_goals rfl
end Go.Proofs.YthfjpkdadjemcaaGreat

/- A unit's cycle by its parts. -/
set_option linter.unusedSimpArgs false
set_option linter.unusedVariables false
namespace Go.Proofs.YthfjpkdadjemcaaGreat
open Go Go.RowKit
noncomputable def BB1 (l:List RtD):Option (List (List Int)):=
 LP.lp (X:=(List (List Int))) (fun (s:((List (List Int))×Int))=>
  (bif (decide (s.2<(l.length:Int))) then
   chk none ((decide ((0:Int)≤s.2))&&(decide (s.2<(l.length:Int))))<|
   (Aa8 (l.getD s.2.toNat ((0:Int),((0:Int),((0:Int),((0:Int),((0:Int),((0:Int),((0:Int),((0:Int),((0:Int),((0:Int),((0:Int),((0:Int),(0:Int))))))))))))))).bind fun p=>
   chk none (decide ((s.1.length+([p]:List (List Int)).length)*24≤140737488355328))<|
   some (.inl (s.1++([p]:List (List Int)),IntKind.wrap .i64 (s.2+(1:Int))))
  else
   some (.inr s.1))) ([],(0:Int))
noncomputable def Y5 (s:A7)(f:Fsd)(cy:Int)(acc flt:Bool)(q:Int×(Int×(Int×Int))):Option E3:=
 (AD5 f.1).bind fun nm=>(Al8 s.watch s.place.1 f.2.1 f.2.2.2.1).bind fun md=>
  bif !s.place.1 then some (cy,(md,(0,((0,0),(0,(f.1,(nm,(s.G4,([],(f.2.1,(f.2.2.1,(f.2.2.2.1,(f.2.2.2.2,(acc,(flt,(s.still.2,(s.E7.2.1,(false,(s.E7.2.2,(s.c.2.2.2.2.2.2.1,((s.J4,s.J5),q)))))))))))))))))))))
  else chk none ((decide ((0:Int)≤s.place.2.1))&&(decide (s.place.2.1<(s.t.2.length:Int))))<|(BB1 s.place.2.2.2.2.2).bind fun rts=>(AN2 s.t s.ends s.place.2.2.2.2 s.place.2.2.1.2).bind fun fr=>
   bif fr.2 then (AN3 s.c fr.1).bind fun pm=>some (cy,(md,((s.t.2.getD s.place.2.1.toNat ((0:Int),((0:Int),((0:Int),((0:Int),(0:Int)))))).1,(s.place.2.2.1,(s.place.2.2.2.1,(f.1,(nm,(s.G4,(rts,(f.2.1,(f.2.2.1,(f.2.2.2.1,(f.2.2.2.2,(acc,(flt,(s.still.2,(s.E7.2.1,(decide (pm<f.1.2),(s.E7.2.2,(pm,((s.J4,s.J5),q)))))))))))))))))))))
   else some (cy,(md,((s.t.2.getD s.place.2.1.toNat ((0:Int),((0:Int),((0:Int),((0:Int),(0:Int)))))).1,(s.place.2.2.1,(s.place.2.2.2.1,(f.1,(nm,(s.G4,(rts,(f.2.1,(f.2.2.1,(f.2.2.2.1,(f.2.2.2.2,(acc,(flt,(s.still.2,(s.E7.2.1,(decide (s.c.2.2.2.2.2.2.1<f.1.2),(s.E7.2.2,(s.c.2.2.2.2.2.2.1,((s.J4,s.J5),q)))))))))))))))))))))
theorem BB2 (s:A7)(f:Fsd)(cy:Int)(acc flt:Bool)(q:Int×(Int×(Int×Int))):
  apN (AV4 f) s cy 4 0 0 0 0 0 0 0 0 [] 0 false false 0 0 acc flt false false false 0 0 0 0 0 0 0 q.1 q.2.1 q.2.2.1 q.2.2.2=(Y5 s f cy acc flt q).bind fun r=>some (s.c.1,s.c.2.1,s.c.2.2.1,s.c.2.2.2.1,s.c.2.2.2.2.1,s.c.2.2.2.2.2.1,s.c.2.2.2.2.2.2.1,s.c.2.2.2.2.2.2.2.1,s.c.2.2.2.2.2.2.2.2.1,s.c.2.2.2.2.2.2.2.2.2.1,s.c.2.2.2.2.2.2.2.2.2.2.1,s.c.2.2.2.2.2.2.2.2.2.2.2.1,s.c.2.2.2.2.2.2.2.2.2.2.2.2.1,s.c.2.2.2.2.2.2.2.2.2.2.2.2.2,s.t.1,s.t.2,s.broken,s.C5,s.U5.1,s.U5.2,s.ends,s.k0.1,s.k0.2.1,s.k0.2.2,s.k1.1,s.k1.2.1,s.k1.2.2,s.J4.1,s.J4.2,s.J5.1,s.J5.2,s.speed.1,s.speed.2,s.G4,s.place.1,s.place.2.1,s.place.2.2.1.1,s.place.2.2.1.2,s.place.2.2.2.1,s.place.2.2.2.2.1,s.place.2.2.2.2.2,s.clean,s.origin.1,s.origin.2,s.p8,s.p9,s.still.1,s.still.2,s.E7.1,s.E7.2.1,s.E7.2.2.1,s.E7.2.2.2,s.watch.1,s.watch.2.1,s.watch.2.2,r.1,r.2.1,r.2.2.1,r.2.2.2.1.1,r.2.2.2.1.2,r.2.2.2.2.1,r.2.2.2.2.2.1.1,r.2.2.2.2.2.1.2,r.2.2.2.2.2.2.1,r.2.2.2.2.2.2.2.1,r.2.2.2.2.2.2.2.2.1,r.2.2.2.2.2.2.2.2.2.1,r.2.2.2.2.2.2.2.2.2.2.1,r.2.2.2.2.2.2.2.2.2.2.2.1,r.2.2.2.2.2.2.2.2.2.2.2.2.1.1,r.2.2.2.2.2.2.2.2.2.2.2.2.1.2,r.2.2.2.2.2.2.2.2.2.2.2.2.2.1,r.2.2.2.2.2.2.2.2.2.2.2.2.2.2.1,r.2.2.2.2.2.2.2.2.2.2.2.2.2.2.2.1,r.2.2.2.2.2.2.2.2.2.2.2.2.2.2.2.2.1,r.2.2.2.2.2.2.2.2.2.2.2.2.2.2.2.2.2.1,r.2.2.2.2.2.2.2.2.2.2.2.2.2.2.2.2.2.2.1.1,r.2.2.2.2.2.2.2.2.2.2.2.2.2.2.2.2.2.2.1.2,r.2.2.2.2.2.2.2.2.2.2.2.2.2.2.2.2.2.2.2.1,r.2.2.2.2.2.2.2.2.2.2.2.2.2.2.2.2.2.2.2.2.1.1.1,r.2.2.2.2.2.2.2.2.2.2.2.2.2.2.2.2.2.2.2.2.1.1.2,r.2.2.2.2.2.2.2.2.2.2.2.2.2.2.2.2.2.2.2.2.1.2.1,r.2.2.2.2.2.2.2.2.2.2.2.2.2.2.2.2.2.2.2.2.1.2.2,r.2.2.2.2.2.2.2.2.2.2.2.2.2.2.2.2.2.2.2.2.2.1,r.2.2.2.2.2.2.2.2.2.2.2.2.2.2.2.2.2.2.2.2.2.2.1,r.2.2.2.2.2.2.2.2.2.2.2.2.2.2.2.2.2.2.2.2.2.2.2.1,r.2.2.2.2.2.2.2.2.2.2.2.2.2.2.2.2.2.2.2.2.2.2.2.2):=by
 rw[J6];unfold AV4 Y5 BB1;simp only[Option.bind_some,AD8,CB8,Option.bind_assoc]
 all_goals rfl
noncomputable def U7 (m:Mal)(cmd:Bool)(cy:Int)(s:A7):Option (E3×A7):=
 (q8 s (mv1 m) (mv2 m) (mv3 m) (mv4 m)).bind fun y=>(Ae0 s.t y.1.1 s.G4 s.place).bind fun z=>(Ae1 s.c s.t z.2.2 s.place y.1.1 (mv5 m)).bind fun x=>
  (bif x.2.2.2 then U6 x y.1.1 {s with k0:=y.2.1,k1:=y.2.2,clean:=bif s.clean then y.1.2.2.1 else false,speed:=y.1.1,G4:=z.2.1,place:=z.2.2} else some {s with k0:=y.2.1,k1:=y.2.2,clean:=bif s.clean then y.1.2.2.1 else false,speed:=y.1.1,G4:=z.2.1,place:=z.2.2}).bind fun s4=>
   (Ac8 s4.watch s4.c y.1.2.1 y.1.2.2.2.1 z.1 x.2.2.2).bind fun w=>
    (bif w.2.2 then some ((false,(0,((0,0),(0,(0,[]))))):Plc) else some s4.place).bind fun pl=>
     (Ac9 s4.still s4.c y.1.1 y.1.2.1).bind fun st=>(Ad0 s4.E7 s4.c st.2 cmd y.1.1).bind fun ro=>
      (Y5 {s4 with watch:=w,place:=pl,still:=st,E7:=ro} y.1 cy x.2.2.2 (!x.2.2.1) m.2.2).bind fun r=>some (r,{s4 with watch:=w,place:=pl,still:=st,E7:=ro})
def Am6 (cy:Int):E3:=(cy,((4:Int),((0:Int),(((0:Int),(0:Int)),((0:Int),(((0:Int),(0:Int)),((0:Int),((0:Int),([],((0:Int),(false,(false,(((0:Int),(0:Int)),(false,(false,(false,(false,(false,(((0:Int),(0:Int)),((0:Int),((((0:Int),(0:Int)),((0:Int),(0:Int))),((0:Int),((0:Int),((0:Int),(0:Int)))))))))))))))))))))))))
noncomputable def U8 (list:List (List Int))(cmd:Bool)(s:A7):Option (E3×A7):=
 bif s.broken then some (Am6 s.C5,{s with C5:=IntKind.wrap .i64 (s.C5+1)})
 else (AM3 s.C5 list).bind fun m=>U7 m cmd s.C5 {s with C5:=IntKind.wrap .i64 (s.C5+1)}
theorem EL6 (list:List (List Int))(cmd:Bool)(s:A7):apN (AV5 list cmd) s=(U8 list cmd s).bind fun y=>some (y.1,tuN y.2):=by
 rw[J6];unfold tuN AV5 U8;simp only[AD8,Option.bind_some,Option.bind_assoc];refine congrArg _ (congrArg _ (funext fun m=> ?_))
 unfold U7;have h1:=EL0 m {s with C5:=IntKind.wrap .i64 (s.C5+1)};rw[J6] at h1;simp only[tuN] at h1;rw[h1];simp only[Option.bind_some,Option.bind_assoc];have e0:∀a b,q8 {s with C5:=a} b=q8 s b:=fun _ _=>rfl
 refine congrArg _ (funext fun y=> ?_)
 have h2:=EL1 y.1.1 {s with C5:=IntKind.wrap .i64 (s.C5+1),k0:=y.2.1,k1:=y.2.2,clean:=bif s.clean then y.1.2.2.1 else false};rw[J6] at h2;simp only[tuN] at h2;rw[h2];simp only[Option.bind_some,Option.bind_assoc];refine congrArg _ (funext fun z=> ?_)
 have h3:=EL3 m s.place y.1.1 {s with C5:=IntKind.wrap .i64 (s.C5+1),k0:=y.2.1,k1:=y.2.2,clean:=bif s.clean then y.1.2.2.1 else false,speed:=y.1.1,G4:=z.2.1,place:=z.2.2};rw[J6] at h3;simp only[tuN] at h3;rw[h3];simp only[Option.bind_some,Option.bind_assoc];refine congrArg _ (funext fun x=> ?_)
 have h4:=EL5 x y.1.1 {s with C5:=IntKind.wrap .i64 (s.C5+1),k0:=y.2.1,k1:=y.2.2,clean:=bif s.clean then y.1.2.2.1 else false,speed:=y.1.1,G4:=z.2.1,place:=z.2.2};rw[J6] at h4;simp only[tuN] at h4;rw[h4];cases x.2.2.2 with
 |true=>
  simp only[cond_true,Option.bind_some,Option.bind_assoc];refine congrArg _ (funext fun s4=> ?_)
  refine congrArg _ (funext fun w=> ?_)
  obtain⟨wa,wb,wc⟩:=w;cases wc with
  |true=>
   simp only[cond_true,Option.bind_some,Option.bind_assoc];refine congrArg _ (funext fun st=> ?_)
   refine congrArg _ (funext fun ro=> ?_)
   have h5:=BB2 {s4 with watch:=(wa,wb,true),place:=(false,(0,((0,0),(0,(0,[]))))),still:=st,E7:=ro} y.1 s.C5 true (!x.2.2.1) m.2.2;rw[J6] at h5;simp only at h5;rw[h5];simp only[Option.bind_some,Option.bind_assoc]
   all_goals rfl
  |false=>
   simp only[cond_false,Option.bind_some,Option.bind_assoc];refine congrArg _ (funext fun st=> ?_)
   refine congrArg _ (funext fun ro=> ?_)
   have h5:=BB2 {s4 with watch:=(wa,wb,false),still:=st,E7:=ro} y.1 s.C5 true (!x.2.2.1) m.2.2;rw[J6] at h5;simp only at h5;rw[h5];simp only[Option.bind_some,Option.bind_assoc]
   all_goals rfl
 |false=>
  simp only[cond_false,Option.bind_some,Option.bind_assoc];refine congrArg _ (funext fun w=> ?_)
  obtain⟨wa,wb,wc⟩:=w;cases wc with
  |true=>
   simp only[cond_true,Option.bind_some,Option.bind_assoc];refine congrArg _ (funext fun st=> ?_)
   refine congrArg _ (funext fun ro=> ?_)
   have h5:=BB2 {s with C5:=IntKind.wrap .i64 (s.C5+1),k0:=y.2.1,k1:=y.2.2,clean:=bif s.clean then y.1.2.2.1 else false,speed:=y.1.1,G4:=z.2.1,watch:=(wa,wb,true),place:=(false,(0,((0,0),(0,(0,[]))))),still:=st,E7:=ro} y.1 s.C5 false (!x.2.2.1) m.2.2;rw[J6] at h5;simp only at h5;rw[h5];simp only[Option.bind_some,Option.bind_assoc]
   all_goals rfl
  |false=>
   simp only[cond_false,Option.bind_some,Option.bind_assoc];refine congrArg _ (funext fun st=> ?_)
   refine congrArg _ (funext fun ro=> ?_)
   have h5:=BB2 {s with C5:=IntKind.wrap .i64 (s.C5+1),k0:=y.2.1,k1:=y.2.2,clean:=bif s.clean then y.1.2.2.1 else false,speed:=y.1.1,G4:=z.2.1,place:=z.2.2,watch:=(wa,wb,false),still:=st,E7:=ro} y.1 s.C5 false (!x.2.2.1) m.2.2;rw[J6] at h5;simp only at h5;rw[h5];simp only[Option.bind_some,Option.bind_assoc]
   all_goals rfl
end Go.Proofs.YthfjpkdadjemcaaGreat

/- A unit's cycles, one behind the other. -/
set_option linter.unusedSimpArgs false
set_option linter.unusedVariables false
namespace Go.Proofs.YthfjpkdadjemcaaGreat
open Go Go.RowKit
abbrev Cyc:=List (List Int)×Bool
def BB3:A7:={c:=(0,0,0,0,0,0,0,0,0,0,0,0,0,0),t:=([],[]),broken:=true,C5:=0,U5:=(0,0),ends:=[],k0:=(false,0,0),k1:=(false,0,0),J4:=(0,0),J5:=(0,0),speed:=(0,0),G4:=0,place:=(false,0,(0,0),0,0,[]),clean:=false,origin:=(0,0),p8:=0,p9:=0,still:=(0,false),E7:=(false,false,0,0),watch:=(0,0,false)}
noncomputable def Am7 (c:Cfg)(img:List Int):Option A7:=
 (AK7 img).bind fun o=>(bif o.2==(0:Int) then (AK9 c o.1).bind fun e=>some e.1 else some o.2).bind fun e=>bif e != (0:Int) then some BB3
  else (AL2 o.1).bind fun g=>(AL3 o.1).bind fun en=>(AS3 c).bind fun a=>(AS3 c).bind fun b=>(Ab4 c).bind fun sp=>
   some {BB3 with c:=c,t:=o.1,broken:=false,U5:=g,ends:=en,J4:=a,J5:=b,speed:=sp}
theorem EL7 (c:Cfg)(img:List Int):AS4 c img=(Am7 c img).bind fun s=>some (tuN s):=by
 unfold tuN AS4 Am7;simp only[Option.bind_some,AD8,Option.bind_assoc]
 all_goals rfl
noncomputable def goN:A7→List Cyc→Option (List E3)
 |_,[]=>some []
 |s,x::xs=>(U8 x.1 x.2 s).bind fun y=>(goN y.2 xs).bind fun rs=>some (y.1::rs)
theorem CB9 {S:Type}{l:List Cyc}{f:S→Option (S ⊕ List E3)}(sh:A7→List E3→Int→S)(hl:l.length≤1000)
  (hstep:∀(k:Nat) (s:A7) (out:List E3) (y:E3×A7),k<l.length→out.length≤1000→U8 (l.getD k ([],false)).1 (l.getD k ([],false)).2 s=some y→f (sh s out (k:Int))=some (.inl (sh y.2 (out++[y.1]) ((k+1:Nat):Int))))
  (hend:∀(s:A7) (out:List E3),f (sh s out (l.length:Int))=some (.inr out)):
  ∀(xs:List Cyc) (k:Nat) (s:A7) (out rs:List E3),l.drop k=xs→k≤l.length→out.length=k→goN s xs=some rs→∃n,G3 f n (sh s out (k:Int))=some (out++rs)
 | [],k,s,out,rs,hd,hk,ho,hr=>by
  have hk2:k=l.length:=by have:=congrArg List.length hd;rw[List.length_drop] at this;simp at this;omega
  subst hk2;rw[goN] at hr;obtain rfl:=Option.some.inj hr;exact⟨1,by simp[G3,hend]⟩
 |x::xs,k,s,out,rs,hd,hk,ho,hr=>by
  have hlt:k<l.length:=by have:=congrArg List.length hd;rw[List.length_drop] at this;simp at this;omega
  have hx:l.getD k ([],false)=x:=by rw[List.drop_eq_getElem_cons hlt] at hd;have:=(List.cons.inj hd).1;simp[List.getD,hlt,this]
  have hd2:l.drop (k+1)=xs:=by rw[List.drop_eq_getElem_cons hlt] at hd;exact (List.cons.inj hd).2
  rw[goN] at hr;cases hy:U8 x.1 x.2 s with
  |none=>rw [hy] at hr;cases hr
  |some y=>
   rw[hy] at hr;simp only[Option.bind_some] at hr;cases hq:goN y.2 xs with
   |none=>rw [hq] at hr;cases hr
   |some qs=>
    rw[hq] at hr;obtain rfl:=Option.some.inj hr;obtain⟨n,hn⟩:=CB9 sh hl hstep hend xs (k+1) y.2 (out++[y.1]) qs hd2 (by omega) (by simp[ho]) hq
    refine⟨n+1,?_⟩;have h1:=hstep k s out y hlt (by omega) (by rw[hx];exact hy)
    simp only[G3,h1,hn];simp
theorem EL8 {S:Type}{l:List Cyc}{f:S→Option (S ⊕ List E3)}{s:A7}{init:S}{rs:List E3}(sh:A7→List E3→Int→S)(hl:l.length≤1000)(hi:init=sh s [] 0)
  (hstep:∀(k:Nat) (s:A7) (out:List E3) (y:E3×A7),k<l.length→out.length≤1000→U8 (l.getD k ([],false)).1 (l.getD k ([],false)).2 s=some y→f (sh s out (k:Int))=some (.inl (sh y.2 (out++[y.1]) ((k+1:Nat):Int))))
  (hend:∀(s:A7) (out:List E3),f (sh s out (l.length:Int))=some (.inr out)) (hr:goN s l=some rs):Option.bind (LP.lp f init) (fun r=>some r)=some rs:=by
 obtain⟨n,hn⟩:=CB9 sh hl hstep hend l 0 s [] rs rfl (by omega) rfl hr
 subst hi;show Option.bind (AJ1 f (sh s [] ((0:Nat):Int))) (fun r=>some r)=some rs
 rw[Ad2 hn];rfl
theorem q9 (k:Nat)(h:k≤1000):IntKind.wrap .i64 ((k:Int)+1)=((k+1:Nat):Int):=by rw[IntKind.wrap_i64];omega
set_option maxRecDepth 10000 in
theorem EL9 (c:Cfg)(t:TkD)(l:List Cyc)(hl:l.length≤1000){e:Int×Int}{img:List Int}{s:A7}{rs:List E3}(h1:AK3 c t=some e)(h2:e.1=0)(h3:AK4 t=some img)(h4:Am7 c img=some s)(h5:goN s l=some rs):S9 c t l=some rs:=by
 unfold S9;rw[h1];simp only[Option.bind_some,h2];rw[h3];simp only[Option.bind_some];rw[EL7,h4];simp only[Option.bind_some,tuN];refine EL8 (l:=l) (s:=s) (fun s out k=>(s.watch.2.1,s.c.2.2.2.2.2.2.2.1,s.broken,s.c.2.2.2.2.2.2.2.2.2.2.2.2.2,s.k1.2.1,s.k0.2.1,s.speed.1,s.place.2.2.2.2.2,s.E7.2.1,s.still.1,s.c.1,s.c.2.2.2.2.2.2.2.2.2.1,s.c.2.2.2.2.2.2.1,s.U5.1,s.t.2,s.k1.1,s.G4,s.origin.1,s.place.2.2.2.2.1,s.E7.1,s.c.2.2.1,s.c.2.2.2.2.2.2.2.2.2.2.2.1,s.c.2.2.2.2.2.2.2.2.1,s.C5,s.k1.2.2,s.place.2.1,s.speed.2,s.p8,s.clean,s.E7.2.2.1,s.c.2.2.2.2.1,s.c.2.1,s.c.2.2.2.2.2.2.2.2.2.2.1,s.U5.2,s.J4.2,s.place.2.2.1.2,s.place.1,s.origin.2,s.watch.1,s.c.2.2.2.1,s.c.2.2.2.2.2.2.2.2.2.2.2.2.1,s.k0.1,s.J5.2,s.J4.1,out,s.place.2.2.1.1,s.p9,k,s.watch.2.2,s.E7.2.2.2,s.c.2.2.2.2.2.1,s.t.1,s.k0.2.2,s.ends,s.J5.1,s.place.2.2.2.1,s.still.2)) hl rfl ?_ ?_ h5
 ·intro k s out y hk ho hy
  have e1:(decide ((k:Int)<(l.length:Int)))=true:=by simpa using hk
  have e2:(decide ((0:Int)≤(k:Int)))=true:=by simp
  have h8:=EL6 (l.getD k ([],false)).1 (l.getD k ([],false)).2 s;rw[hy] at h8;rw[J6] at h8;simp only[Option.bind_some,tuN] at h8;have e3:decide ((out.length+[y.1].length)*232≤140737488355328)=true:=by
   simp
   omega
  have e4:=q9 k (by omega)
  simp only[e1,e2,cond_true,Bool.and_self,P6,Int.toNat_natCast,h8,Option.bind_some,e3,e4]
 ·intro s out
  have e1:(decide ((l.length:Int)<(l.length:Int)))=false:=by simp
  simp only[e1,cond_false]
end Go.Proofs.YthfjpkdadjemcaaGreat
