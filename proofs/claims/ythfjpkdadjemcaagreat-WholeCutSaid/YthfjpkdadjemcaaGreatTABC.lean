/- A unit's state by its parts, and what is reckoned of it. -/
import Derived.Test.YthfjpkdadjemcaaGreatFnsF3
import Derived.Test.YthfjpkdadjemcaaGreatLoopF
set_option linter.unusedSimpArgs false
set_option linter.unusedVariables false
namespace Go.Proofs.YthfjpkdadjemcaaGreat
open Go Go.RowKit
abbrev Cfg:=Int×(Int×(Int×(Int×(Int×(Int×(Int×(Int×(Int×(Int×(Int×(Int×(Int×Int))))))))))))
abbrev Spn:=Int×Int
abbrev Sns:=Bool×Spn
abbrev Cnt:=Bool×(Int×Int)
abbrev Plc:=Bool×(Int×(Spn×(Int×K9)))
abbrev Fsd:=Spn×(Int×(Bool×(Bool×(Int×Int))))
abbrev Fnd:=Int×(List Int×(Bool×Bool))
abbrev Mal:=(Bool×(Bool×(Bool×(Bool×(Bool×Bool)))))×((Int×(Int×(Int×(Int×(Int×Int)))))×(Int×(Int×(Int×Int))))
abbrev H2:=Int×(Int×(Int×(Spn×(Int×(Spn×(Int×(Int×(List (List Int)×(Int×(Bool×(Bool×((Int×Int)×(Bool×(Bool×(Bool×(Bool×(Bool×(Spn×(Int×((Spn×Spn)×(Int×(Int×(Int×Int)))))))))))))))))))))))
structure E4 where
 c:Cfg
 t:TkD
 broken:Bool
 C6:Int
 D6:Spn
 ends:List Int
 k0:Cnt
 k1:Cnt
 A5:Spn
 A6:Spn
 speed:Spn
 A9:Int
 place:Plc
 clean:Bool
 origin:Spn
 H6:Int
 H7:Int
 still:Int×Bool
 A7:Bool×(Bool×Spn)
 watch:Int×(Int×Bool)
theorem AA3 {α β:Type}(c:Bool)(a b:Option α)(k:α→Option β):Option.bind (bif c then a else b) k=bif c then Option.bind a k else Option.bind b k:=by cases c <;> rfl
theorem Bt4 {α β:Type}(c:Bool)(a:Option α)(k:α→Option β):Option.bind (chk none c a) k=chk none c (Option.bind a k):=by cases c <;> rfl
theorem AD3 {α:Type}(a:Option α):chk none true a=a:=rfl
def mv1 (m:Mal):Int×Bool:=(m.2.1.2.1,m.1.2.1)
def mv2 (m:Mal):Int×Bool:=(m.2.1.2.2.1,m.1.2.2.1)
def mv3 (m:Mal):Int×Bool:=(m.2.1.2.2.2.1,m.1.2.2.2.1)
def mv4 (m:Mal):Int×Bool:=(m.2.1.2.2.2.2.1,m.1.2.2.2.2.1)
def mv5 (m:Mal):Int×Bool:=(m.2.1.2.2.2.2.2,m.1.2.2.2.2.2)
theorem Dy6 (m:Mal):z7 m 1=some (mv1 m):=rfl
theorem Dy7 (m:Mal):z7 m 2=some (mv2 m):=rfl
theorem Dy8 (m:Mal):z7 m 3=some (mv3 m):=rfl
theorem Dy9 (m:Mal):z7 m 4=some (mv4 m):=rfl
theorem Dz0 (m:Mal):z7 m 5=some (mv5 m):=rfl
noncomputable def AJ2 (k:Cnt)(circ:Spn)(p:Int)(v:Int×Bool):Option (Sns×Cnt):=
 (Ae2 k v.1 v.2).bind fun y=>bif !y.2.2 then some ((false,(0,0)),y.1) else (AI0 y.2.1 circ p).bind fun z=>some ((true,z.1),y.1)
theorem Dz1 (m:Mal)(s:E4):z8 0 m s.c.1 s.c.2.1 s.c.2.2.1 s.c.2.2.2.1 s.c.2.2.2.2.1 s.c.2.2.2.2.2.1 s.c.2.2.2.2.2.2.1 s.c.2.2.2.2.2.2.2.1 s.c.2.2.2.2.2.2.2.2.1 s.c.2.2.2.2.2.2.2.2.2.1 s.c.2.2.2.2.2.2.2.2.2.2.1 s.c.2.2.2.2.2.2.2.2.2.2.2.1 s.c.2.2.2.2.2.2.2.2.2.2.2.2.1 s.c.2.2.2.2.2.2.2.2.2.2.2.2.2 s.t.1 s.t.2 s.broken s.C6 s.D6.1 s.D6.2 s.ends s.k0.1 s.k0.2.1 s.k0.2.2 s.k1.1 s.k1.2.1 s.k1.2.2 s.A5.1 s.A5.2 s.A6.1 s.A6.2 s.speed.1 s.speed.2 s.A9 s.place.1 s.place.2.1 s.place.2.2.1.1 s.place.2.2.1.2 s.place.2.2.2.1 s.place.2.2.2.2.1 s.place.2.2.2.2.2 s.clean s.origin.1 s.origin.2 s.H6 s.H7 s.still.1 s.still.2 s.A7.1 s.A7.2.1 s.A7.2.2.1 s.A7.2.2.2 s.watch.1 s.watch.2.1 s.watch.2.2=(AJ2 s.k0 s.A5 s.c.1 (mv1 m)).bind fun y=>some (y.1,{s with k0:=y.2}.c.1,{s with k0:=y.2}.c.2.1,{s with k0:=y.2}.c.2.2.1,{s with k0:=y.2}.c.2.2.2.1,{s with k0:=y.2}.c.2.2.2.2.1,{s with k0:=y.2}.c.2.2.2.2.2.1,{s with k0:=y.2}.c.2.2.2.2.2.2.1,{s with k0:=y.2}.c.2.2.2.2.2.2.2.1,{s with k0:=y.2}.c.2.2.2.2.2.2.2.2.1,{s with k0:=y.2}.c.2.2.2.2.2.2.2.2.2.1,{s with k0:=y.2}.c.2.2.2.2.2.2.2.2.2.2.1,{s with k0:=y.2}.c.2.2.2.2.2.2.2.2.2.2.2.1,{s with k0:=y.2}.c.2.2.2.2.2.2.2.2.2.2.2.2.1,{s with k0:=y.2}.c.2.2.2.2.2.2.2.2.2.2.2.2.2,{s with k0:=y.2}.t.1,{s with k0:=y.2}.t.2,{s with k0:=y.2}.broken,{s with k0:=y.2}.C6,{s with k0:=y.2}.D6.1,{s with k0:=y.2}.D6.2,{s with k0:=y.2}.ends,{s with k0:=y.2}.k0.1,{s with k0:=y.2}.k0.2.1,{s with k0:=y.2}.k0.2.2,{s with k0:=y.2}.k1.1,{s with k0:=y.2}.k1.2.1,{s with k0:=y.2}.k1.2.2,{s with k0:=y.2}.A5.1,{s with k0:=y.2}.A5.2,{s with k0:=y.2}.A6.1,{s with k0:=y.2}.A6.2,{s with k0:=y.2}.speed.1,{s with k0:=y.2}.speed.2,{s with k0:=y.2}.A9,{s with k0:=y.2}.place.1,{s with k0:=y.2}.place.2.1,{s with k0:=y.2}.place.2.2.1.1,{s with k0:=y.2}.place.2.2.1.2,{s with k0:=y.2}.place.2.2.2.1,{s with k0:=y.2}.place.2.2.2.2.1,{s with k0:=y.2}.place.2.2.2.2.2,{s with k0:=y.2}.clean,{s with k0:=y.2}.origin.1,{s with k0:=y.2}.origin.2,{s with k0:=y.2}.H6,{s with k0:=y.2}.H7,{s with k0:=y.2}.still.1,{s with k0:=y.2}.still.2,{s with k0:=y.2}.A7.1,{s with k0:=y.2}.A7.2.1,{s with k0:=y.2}.A7.2.2.1,{s with k0:=y.2}.A7.2.2.2,{s with k0:=y.2}.watch.1,{s with k0:=y.2}.watch.2.1,{s with k0:=y.2}.watch.2.2):=by
 unfold z8 AJ2;simp only[show IntKind.wrap .i64 ((1:Int)+0)=1 by decide,Dy6,Option.bind_some,AA3,Option.bind_assoc]
 all_goals rfl
theorem Dz2 (m:Mal)(s:E4):z8 1 m s.c.1 s.c.2.1 s.c.2.2.1 s.c.2.2.2.1 s.c.2.2.2.2.1 s.c.2.2.2.2.2.1 s.c.2.2.2.2.2.2.1 s.c.2.2.2.2.2.2.2.1 s.c.2.2.2.2.2.2.2.2.1 s.c.2.2.2.2.2.2.2.2.2.1 s.c.2.2.2.2.2.2.2.2.2.2.1 s.c.2.2.2.2.2.2.2.2.2.2.2.1 s.c.2.2.2.2.2.2.2.2.2.2.2.2.1 s.c.2.2.2.2.2.2.2.2.2.2.2.2.2 s.t.1 s.t.2 s.broken s.C6 s.D6.1 s.D6.2 s.ends s.k0.1 s.k0.2.1 s.k0.2.2 s.k1.1 s.k1.2.1 s.k1.2.2 s.A5.1 s.A5.2 s.A6.1 s.A6.2 s.speed.1 s.speed.2 s.A9 s.place.1 s.place.2.1 s.place.2.2.1.1 s.place.2.2.1.2 s.place.2.2.2.1 s.place.2.2.2.2.1 s.place.2.2.2.2.2 s.clean s.origin.1 s.origin.2 s.H6 s.H7 s.still.1 s.still.2 s.A7.1 s.A7.2.1 s.A7.2.2.1 s.A7.2.2.2 s.watch.1 s.watch.2.1 s.watch.2.2=(AJ2 s.k1 s.A6 s.c.1 (mv2 m)).bind fun y=>some (y.1,{s with k1:=y.2}.c.1,{s with k1:=y.2}.c.2.1,{s with k1:=y.2}.c.2.2.1,{s with k1:=y.2}.c.2.2.2.1,{s with k1:=y.2}.c.2.2.2.2.1,{s with k1:=y.2}.c.2.2.2.2.2.1,{s with k1:=y.2}.c.2.2.2.2.2.2.1,{s with k1:=y.2}.c.2.2.2.2.2.2.2.1,{s with k1:=y.2}.c.2.2.2.2.2.2.2.2.1,{s with k1:=y.2}.c.2.2.2.2.2.2.2.2.2.1,{s with k1:=y.2}.c.2.2.2.2.2.2.2.2.2.2.1,{s with k1:=y.2}.c.2.2.2.2.2.2.2.2.2.2.2.1,{s with k1:=y.2}.c.2.2.2.2.2.2.2.2.2.2.2.2.1,{s with k1:=y.2}.c.2.2.2.2.2.2.2.2.2.2.2.2.2,{s with k1:=y.2}.t.1,{s with k1:=y.2}.t.2,{s with k1:=y.2}.broken,{s with k1:=y.2}.C6,{s with k1:=y.2}.D6.1,{s with k1:=y.2}.D6.2,{s with k1:=y.2}.ends,{s with k1:=y.2}.k0.1,{s with k1:=y.2}.k0.2.1,{s with k1:=y.2}.k0.2.2,{s with k1:=y.2}.k1.1,{s with k1:=y.2}.k1.2.1,{s with k1:=y.2}.k1.2.2,{s with k1:=y.2}.A5.1,{s with k1:=y.2}.A5.2,{s with k1:=y.2}.A6.1,{s with k1:=y.2}.A6.2,{s with k1:=y.2}.speed.1,{s with k1:=y.2}.speed.2,{s with k1:=y.2}.A9,{s with k1:=y.2}.place.1,{s with k1:=y.2}.place.2.1,{s with k1:=y.2}.place.2.2.1.1,{s with k1:=y.2}.place.2.2.1.2,{s with k1:=y.2}.place.2.2.2.1,{s with k1:=y.2}.place.2.2.2.2.1,{s with k1:=y.2}.place.2.2.2.2.2,{s with k1:=y.2}.clean,{s with k1:=y.2}.origin.1,{s with k1:=y.2}.origin.2,{s with k1:=y.2}.H6,{s with k1:=y.2}.H7,{s with k1:=y.2}.still.1,{s with k1:=y.2}.still.2,{s with k1:=y.2}.A7.1,{s with k1:=y.2}.A7.2.1,{s with k1:=y.2}.A7.2.2.1,{s with k1:=y.2}.A7.2.2.2,{s with k1:=y.2}.watch.1,{s with k1:=y.2}.watch.2.1,{s with k1:=y.2}.watch.2.2):=by
 unfold z8 AJ2;simp only[show IntKind.wrap .i64 ((1:Int)+1)=2 by decide,Dy7,Option.bind_some,AA3,Option.bind_assoc]
 all_goals rfl
noncomputable def Ah1 (c:Cfg)(v:Int×Bool):Option Sns:=bif !v.2 then some (false,(0,0)) else (AI2 c v.1).bind fun t=>some (true,t)
theorem Dz3 (m:Mal)(s:E4):AO9 s.c.1 s.c.2.1 s.c.2.2.1 s.c.2.2.2.1 s.c.2.2.2.2.1 s.c.2.2.2.2.2.1 s.c.2.2.2.2.2.2.1 s.c.2.2.2.2.2.2.2.1 s.c.2.2.2.2.2.2.2.2.1 s.c.2.2.2.2.2.2.2.2.2.1 s.c.2.2.2.2.2.2.2.2.2.2.1 s.c.2.2.2.2.2.2.2.2.2.2.2.1 s.c.2.2.2.2.2.2.2.2.2.2.2.2.1 s.c.2.2.2.2.2.2.2.2.2.2.2.2.2 s.t.1 s.t.2 s.broken s.C6 s.D6.1 s.D6.2 s.ends s.k0.1 s.k0.2.1 s.k0.2.2 s.k1.1 s.k1.2.1 s.k1.2.2 s.A5.1 s.A5.2 s.A6.1 s.A6.2 s.speed.1 s.speed.2 s.A9 s.place.1 s.place.2.1 s.place.2.2.1.1 s.place.2.2.1.2 s.place.2.2.2.1 s.place.2.2.2.2.1 s.place.2.2.2.2.2 s.clean s.origin.1 s.origin.2 s.H6 s.H7 s.still.1 s.still.2 s.A7.1 s.A7.2.1 s.A7.2.2.1 s.A7.2.2.2 s.watch.1 s.watch.2.1 s.watch.2.2 m=Ah1 s.c (mv3 m):=by
 unfold AO9 Ah1;simp only[Dy8,Option.bind_some]
 all_goals rfl
noncomputable def BK6 (t:TkD)(gr:Spn)(pl:Plc):Option Spn:=AP3 0 0 0 0 0 0 0 0 0 0 0 0 0 0 t.1 t.2 false 0 gr.1 gr.2 [] false 0 0 false 0 0 0 0 0 0 0 0 0 pl.1 pl.2.1 pl.2.2.1.1 pl.2.2.1.2 pl.2.2.2.1 pl.2.2.2.2.1 pl.2.2.2.2.2 false 0 0 0 0 0 false false false 0 0 0 0 false
noncomputable def Ah2 (c:Cfg)(t:TkD)(gr sp:Spn)(pl:Plc)(v:Int×Bool):Option Sns:=
 bif !v.2 then some (false,(0,0)) else (BK6 t gr pl).bind fun g=>(Ae7 c v.1 g).bind fun a=>(Ae9 sp a).bind fun w=>some (true,w)
theorem Dz4 (m:Mal)(s:E4):AP5 s.c.1 s.c.2.1 s.c.2.2.1 s.c.2.2.2.1 s.c.2.2.2.2.1 s.c.2.2.2.2.2.1 s.c.2.2.2.2.2.2.1 s.c.2.2.2.2.2.2.2.1 s.c.2.2.2.2.2.2.2.2.1 s.c.2.2.2.2.2.2.2.2.2.1 s.c.2.2.2.2.2.2.2.2.2.2.1 s.c.2.2.2.2.2.2.2.2.2.2.2.1 s.c.2.2.2.2.2.2.2.2.2.2.2.2.1 s.c.2.2.2.2.2.2.2.2.2.2.2.2.2 s.t.1 s.t.2 s.broken s.C6 s.D6.1 s.D6.2 s.ends s.k0.1 s.k0.2.1 s.k0.2.2 s.k1.1 s.k1.2.1 s.k1.2.2 s.A5.1 s.A5.2 s.A6.1 s.A6.2 s.speed.1 s.speed.2 s.A9 s.place.1 s.place.2.1 s.place.2.2.1.1 s.place.2.2.1.2 s.place.2.2.2.1 s.place.2.2.2.2.1 s.place.2.2.2.2.2 s.clean s.origin.1 s.origin.2 s.H6 s.H7 s.still.1 s.still.2 s.A7.1 s.A7.2.1 s.A7.2.2.1 s.A7.2.2.2 s.watch.1 s.watch.2.1 s.watch.2.2 m=Ah2 s.c s.t s.D6 s.speed s.place (mv4 m):=by
 unfold AP5 Ah2;simp only[Dy9,Option.bind_some]
 all_goals rfl
noncomputable def AR5 (s:E4)(v1 v2 v3 v4:Int×Bool):Option (Fsd×(Cnt×Cnt)):=
 (AJ2 s.k0 s.A5 s.c.1 v1).bind fun a=>(AJ2 s.k1 s.A6 s.c.1 v2).bind fun b=>(Ah1 s.c v3).bind fun r=>(Ae6 s.c s.speed).bind fun pr=>
  (Ah2 s.c s.t s.D6 s.speed s.place v4).bind fun ac=>(AI4 pr (a.1,(b.1,r)) ac).bind fun f=>some (f,(a.2,b.2))
theorem Dz5 (m:Mal)(s:E4):AQ1 m s.c.1 s.c.2.1 s.c.2.2.1 s.c.2.2.2.1 s.c.2.2.2.2.1 s.c.2.2.2.2.2.1 s.c.2.2.2.2.2.2.1 s.c.2.2.2.2.2.2.2.1 s.c.2.2.2.2.2.2.2.2.1 s.c.2.2.2.2.2.2.2.2.2.1 s.c.2.2.2.2.2.2.2.2.2.2.1 s.c.2.2.2.2.2.2.2.2.2.2.2.1 s.c.2.2.2.2.2.2.2.2.2.2.2.2.1 s.c.2.2.2.2.2.2.2.2.2.2.2.2.2 s.t.1 s.t.2 s.broken s.C6 s.D6.1 s.D6.2 s.ends s.k0.1 s.k0.2.1 s.k0.2.2 s.k1.1 s.k1.2.1 s.k1.2.2 s.A5.1 s.A5.2 s.A6.1 s.A6.2 s.speed.1 s.speed.2 s.A9 s.place.1 s.place.2.1 s.place.2.2.1.1 s.place.2.2.1.2 s.place.2.2.2.1 s.place.2.2.2.2.1 s.place.2.2.2.2.2 s.clean s.origin.1 s.origin.2 s.H6 s.H7 s.still.1 s.still.2 s.A7.1 s.A7.2.1 s.A7.2.2.1 s.A7.2.2.2 s.watch.1 s.watch.2.1 s.watch.2.2=(AR5 s (mv1 m) (mv2 m) (mv3 m) (mv4 m)).bind fun y=>some (y.1,{s with k0:=y.2.1,k1:=y.2.2}.c.1,{s with k0:=y.2.1,k1:=y.2.2}.c.2.1,{s with k0:=y.2.1,k1:=y.2.2}.c.2.2.1,{s with k0:=y.2.1,k1:=y.2.2}.c.2.2.2.1,{s with k0:=y.2.1,k1:=y.2.2}.c.2.2.2.2.1,{s with k0:=y.2.1,k1:=y.2.2}.c.2.2.2.2.2.1,{s with k0:=y.2.1,k1:=y.2.2}.c.2.2.2.2.2.2.1,{s with k0:=y.2.1,k1:=y.2.2}.c.2.2.2.2.2.2.2.1,{s with k0:=y.2.1,k1:=y.2.2}.c.2.2.2.2.2.2.2.2.1,{s with k0:=y.2.1,k1:=y.2.2}.c.2.2.2.2.2.2.2.2.2.1,{s with k0:=y.2.1,k1:=y.2.2}.c.2.2.2.2.2.2.2.2.2.2.1,{s with k0:=y.2.1,k1:=y.2.2}.c.2.2.2.2.2.2.2.2.2.2.2.1,{s with k0:=y.2.1,k1:=y.2.2}.c.2.2.2.2.2.2.2.2.2.2.2.2.1,{s with k0:=y.2.1,k1:=y.2.2}.c.2.2.2.2.2.2.2.2.2.2.2.2.2,{s with k0:=y.2.1,k1:=y.2.2}.t.1,{s with k0:=y.2.1,k1:=y.2.2}.t.2,{s with k0:=y.2.1,k1:=y.2.2}.broken,{s with k0:=y.2.1,k1:=y.2.2}.C6,{s with k0:=y.2.1,k1:=y.2.2}.D6.1,{s with k0:=y.2.1,k1:=y.2.2}.D6.2,{s with k0:=y.2.1,k1:=y.2.2}.ends,{s with k0:=y.2.1,k1:=y.2.2}.k0.1,{s with k0:=y.2.1,k1:=y.2.2}.k0.2.1,{s with k0:=y.2.1,k1:=y.2.2}.k0.2.2,{s with k0:=y.2.1,k1:=y.2.2}.k1.1,{s with k0:=y.2.1,k1:=y.2.2}.k1.2.1,{s with k0:=y.2.1,k1:=y.2.2}.k1.2.2,{s with k0:=y.2.1,k1:=y.2.2}.A5.1,{s with k0:=y.2.1,k1:=y.2.2}.A5.2,{s with k0:=y.2.1,k1:=y.2.2}.A6.1,{s with k0:=y.2.1,k1:=y.2.2}.A6.2,{s with k0:=y.2.1,k1:=y.2.2}.speed.1,{s with k0:=y.2.1,k1:=y.2.2}.speed.2,{s with k0:=y.2.1,k1:=y.2.2}.A9,{s with k0:=y.2.1,k1:=y.2.2}.place.1,{s with k0:=y.2.1,k1:=y.2.2}.place.2.1,{s with k0:=y.2.1,k1:=y.2.2}.place.2.2.1.1,{s with k0:=y.2.1,k1:=y.2.2}.place.2.2.1.2,{s with k0:=y.2.1,k1:=y.2.2}.place.2.2.2.1,{s with k0:=y.2.1,k1:=y.2.2}.place.2.2.2.2.1,{s with k0:=y.2.1,k1:=y.2.2}.place.2.2.2.2.2,{s with k0:=y.2.1,k1:=y.2.2}.clean,{s with k0:=y.2.1,k1:=y.2.2}.origin.1,{s with k0:=y.2.1,k1:=y.2.2}.origin.2,{s with k0:=y.2.1,k1:=y.2.2}.H6,{s with k0:=y.2.1,k1:=y.2.2}.H7,{s with k0:=y.2.1,k1:=y.2.2}.still.1,{s with k0:=y.2.1,k1:=y.2.2}.still.2,{s with k0:=y.2.1,k1:=y.2.2}.A7.1,{s with k0:=y.2.1,k1:=y.2.2}.A7.2.1,{s with k0:=y.2.1,k1:=y.2.2}.A7.2.2.1,{s with k0:=y.2.1,k1:=y.2.2}.A7.2.2.2,{s with k0:=y.2.1,k1:=y.2.2}.watch.1,{s with k0:=y.2.1,k1:=y.2.2}.watch.2.1,{s with k0:=y.2.1,k1:=y.2.2}.watch.2.2):=by
 unfold AQ1 AR5;simp only[Dz1,Option.bind_assoc,Option.bind_some];refine congrArg _ (funext fun a=> ?_)
 have h1:=Dz2 m {s with k0:=a.2};simp only at h1;rw[h1];simp only[Option.bind_assoc,Option.bind_some];refine congrArg _ (funext fun b=> ?_)
 have h2:=Dz3 m {s with k0:=a.2,k1:=b.2};have h3:=Dz4 m {s with k0:=a.2,k1:=b.2};simp only at h2 h3;rw[h2,h3]
noncomputable def Ah3 (t:TkD)(speed:Spn)(A9:Int)(pl:Plc):Option (Bool×(Int×Plc)):=
 (AA0 speed).bind fun m=>(Af2 m).bind fun a=>(AC6 A9 a.1).bind fun d=>
  bif (bif a.2 then d.2 else false) then (bif pl.1 then (AD0 pl t speed).bind fun q=>some ((bif false then true else (q.2==(20:Int))),(d.1,q.1)) else some (false,(d.1,pl)))
  else (bif pl.1 then (AD0 pl t speed).bind fun q=>some ((bif true then true else (q.2==(20:Int))),(A9,q.1)) else some (true,(A9,pl)))
theorem Dz6 (speed:Spn)(s:E4):AQ2 speed s.c.1 s.c.2.1 s.c.2.2.1 s.c.2.2.2.1 s.c.2.2.2.2.1 s.c.2.2.2.2.2.1 s.c.2.2.2.2.2.2.1 s.c.2.2.2.2.2.2.2.1 s.c.2.2.2.2.2.2.2.2.1 s.c.2.2.2.2.2.2.2.2.2.1 s.c.2.2.2.2.2.2.2.2.2.2.1 s.c.2.2.2.2.2.2.2.2.2.2.2.1 s.c.2.2.2.2.2.2.2.2.2.2.2.2.1 s.c.2.2.2.2.2.2.2.2.2.2.2.2.2 s.t.1 s.t.2 s.broken s.C6 s.D6.1 s.D6.2 s.ends s.k0.1 s.k0.2.1 s.k0.2.2 s.k1.1 s.k1.2.1 s.k1.2.2 s.A5.1 s.A5.2 s.A6.1 s.A6.2 s.speed.1 s.speed.2 s.A9 s.place.1 s.place.2.1 s.place.2.2.1.1 s.place.2.2.1.2 s.place.2.2.2.1 s.place.2.2.2.2.1 s.place.2.2.2.2.2 s.clean s.origin.1 s.origin.2 s.H6 s.H7 s.still.1 s.still.2 s.A7.1 s.A7.2.1 s.A7.2.2.1 s.A7.2.2.2 s.watch.1 s.watch.2.1 s.watch.2.2=(Ah3 s.t speed s.A9 s.place).bind fun y=>some (y.1,{s with speed:=speed,A9:=y.2.1,place:=y.2.2}.c.1,{s with speed:=speed,A9:=y.2.1,place:=y.2.2}.c.2.1,{s with speed:=speed,A9:=y.2.1,place:=y.2.2}.c.2.2.1,{s with speed:=speed,A9:=y.2.1,place:=y.2.2}.c.2.2.2.1,{s with speed:=speed,A9:=y.2.1,place:=y.2.2}.c.2.2.2.2.1,{s with speed:=speed,A9:=y.2.1,place:=y.2.2}.c.2.2.2.2.2.1,{s with speed:=speed,A9:=y.2.1,place:=y.2.2}.c.2.2.2.2.2.2.1,{s with speed:=speed,A9:=y.2.1,place:=y.2.2}.c.2.2.2.2.2.2.2.1,{s with speed:=speed,A9:=y.2.1,place:=y.2.2}.c.2.2.2.2.2.2.2.2.1,{s with speed:=speed,A9:=y.2.1,place:=y.2.2}.c.2.2.2.2.2.2.2.2.2.1,{s with speed:=speed,A9:=y.2.1,place:=y.2.2}.c.2.2.2.2.2.2.2.2.2.2.1,{s with speed:=speed,A9:=y.2.1,place:=y.2.2}.c.2.2.2.2.2.2.2.2.2.2.2.1,{s with speed:=speed,A9:=y.2.1,place:=y.2.2}.c.2.2.2.2.2.2.2.2.2.2.2.2.1,{s with speed:=speed,A9:=y.2.1,place:=y.2.2}.c.2.2.2.2.2.2.2.2.2.2.2.2.2,{s with speed:=speed,A9:=y.2.1,place:=y.2.2}.t.1,{s with speed:=speed,A9:=y.2.1,place:=y.2.2}.t.2,{s with speed:=speed,A9:=y.2.1,place:=y.2.2}.broken,{s with speed:=speed,A9:=y.2.1,place:=y.2.2}.C6,{s with speed:=speed,A9:=y.2.1,place:=y.2.2}.D6.1,{s with speed:=speed,A9:=y.2.1,place:=y.2.2}.D6.2,{s with speed:=speed,A9:=y.2.1,place:=y.2.2}.ends,{s with speed:=speed,A9:=y.2.1,place:=y.2.2}.k0.1,{s with speed:=speed,A9:=y.2.1,place:=y.2.2}.k0.2.1,{s with speed:=speed,A9:=y.2.1,place:=y.2.2}.k0.2.2,{s with speed:=speed,A9:=y.2.1,place:=y.2.2}.k1.1,{s with speed:=speed,A9:=y.2.1,place:=y.2.2}.k1.2.1,{s with speed:=speed,A9:=y.2.1,place:=y.2.2}.k1.2.2,{s with speed:=speed,A9:=y.2.1,place:=y.2.2}.A5.1,{s with speed:=speed,A9:=y.2.1,place:=y.2.2}.A5.2,{s with speed:=speed,A9:=y.2.1,place:=y.2.2}.A6.1,{s with speed:=speed,A9:=y.2.1,place:=y.2.2}.A6.2,{s with speed:=speed,A9:=y.2.1,place:=y.2.2}.speed.1,{s with speed:=speed,A9:=y.2.1,place:=y.2.2}.speed.2,{s with speed:=speed,A9:=y.2.1,place:=y.2.2}.A9,{s with speed:=speed,A9:=y.2.1,place:=y.2.2}.place.1,{s with speed:=speed,A9:=y.2.1,place:=y.2.2}.place.2.1,{s with speed:=speed,A9:=y.2.1,place:=y.2.2}.place.2.2.1.1,{s with speed:=speed,A9:=y.2.1,place:=y.2.2}.place.2.2.1.2,{s with speed:=speed,A9:=y.2.1,place:=y.2.2}.place.2.2.2.1,{s with speed:=speed,A9:=y.2.1,place:=y.2.2}.place.2.2.2.2.1,{s with speed:=speed,A9:=y.2.1,place:=y.2.2}.place.2.2.2.2.2,{s with speed:=speed,A9:=y.2.1,place:=y.2.2}.clean,{s with speed:=speed,A9:=y.2.1,place:=y.2.2}.origin.1,{s with speed:=speed,A9:=y.2.1,place:=y.2.2}.origin.2,{s with speed:=speed,A9:=y.2.1,place:=y.2.2}.H6,{s with speed:=speed,A9:=y.2.1,place:=y.2.2}.H7,{s with speed:=speed,A9:=y.2.1,place:=y.2.2}.still.1,{s with speed:=speed,A9:=y.2.1,place:=y.2.2}.still.2,{s with speed:=speed,A9:=y.2.1,place:=y.2.2}.A7.1,{s with speed:=speed,A9:=y.2.1,place:=y.2.2}.A7.2.1,{s with speed:=speed,A9:=y.2.1,place:=y.2.2}.A7.2.2.1,{s with speed:=speed,A9:=y.2.1,place:=y.2.2}.A7.2.2.2,{s with speed:=speed,A9:=y.2.1,place:=y.2.2}.watch.1,{s with speed:=speed,A9:=y.2.1,place:=y.2.2}.watch.2.1,{s with speed:=speed,A9:=y.2.1,place:=y.2.2}.watch.2.2):=by
 unfold AQ2 Ah3;simp only[Option.bind_some,AA3,Option.bind_assoc]
 all_goals rfl
noncomputable def Av0 (c:Cfg)(t:TkD)(st:K9)(was:Plc)(speed:Spn)(g:Int):Option (List Int):=
 (Af6 was.2.2.1 speed).bind fun p=>bif !p.2 then some [] else AI6 c t st p.1 g
theorem Dz7 (s:E4)(was:Plc)(speed:Spn)(g:Int):AQ3 was speed g s.c.1 s.c.2.1 s.c.2.2.1 s.c.2.2.2.1 s.c.2.2.2.2.1 s.c.2.2.2.2.2.1 s.c.2.2.2.2.2.2.1 s.c.2.2.2.2.2.2.2.1 s.c.2.2.2.2.2.2.2.2.1 s.c.2.2.2.2.2.2.2.2.2.1 s.c.2.2.2.2.2.2.2.2.2.2.1 s.c.2.2.2.2.2.2.2.2.2.2.2.1 s.c.2.2.2.2.2.2.2.2.2.2.2.2.1 s.c.2.2.2.2.2.2.2.2.2.2.2.2.2 s.t.1 s.t.2 s.broken s.C6 s.D6.1 s.D6.2 s.ends s.k0.1 s.k0.2.1 s.k0.2.2 s.k1.1 s.k1.2.1 s.k1.2.2 s.A5.1 s.A5.2 s.A6.1 s.A6.2 s.speed.1 s.speed.2 s.A9 s.place.1 s.place.2.1 s.place.2.2.1.1 s.place.2.2.1.2 s.place.2.2.2.1 s.place.2.2.2.2.1 s.place.2.2.2.2.2 s.clean s.origin.1 s.origin.2 s.H6 s.H7 s.still.1 s.still.2 s.A7.1 s.A7.2.1 s.A7.2.2.1 s.A7.2.2.2 s.watch.1 s.watch.2.1 s.watch.2.2=(Av0 s.c s.t s.place.2.2.2.2 was speed g).bind fun y=>some (y,s.c.1,s.c.2.1,s.c.2.2.1,s.c.2.2.2.1,s.c.2.2.2.2.1,s.c.2.2.2.2.2.1,s.c.2.2.2.2.2.2.1,s.c.2.2.2.2.2.2.2.1,s.c.2.2.2.2.2.2.2.2.1,s.c.2.2.2.2.2.2.2.2.2.1,s.c.2.2.2.2.2.2.2.2.2.2.1,s.c.2.2.2.2.2.2.2.2.2.2.2.1,s.c.2.2.2.2.2.2.2.2.2.2.2.2.1,s.c.2.2.2.2.2.2.2.2.2.2.2.2.2,s.t.1,s.t.2,s.broken,s.C6,s.D6.1,s.D6.2,s.ends,s.k0.1,s.k0.2.1,s.k0.2.2,s.k1.1,s.k1.2.1,s.k1.2.2,s.A5.1,s.A5.2,s.A6.1,s.A6.2,s.speed.1,s.speed.2,s.A9,s.place.1,s.place.2.1,s.place.2.2.1.1,s.place.2.2.1.2,s.place.2.2.2.1,s.place.2.2.2.2.1,s.place.2.2.2.2.2,s.clean,s.origin.1,s.origin.2,s.H6,s.H7,s.still.1,s.still.2,s.A7.1,s.A7.2.1,s.A7.2.2.1,s.A7.2.2.2,s.watch.1,s.watch.2.1,s.watch.2.2):=by
 unfold AQ3 Av0;simp only[Option.bind_some,AA3,Option.bind_assoc]
 all_goals rfl
noncomputable def Ah4 (c:Cfg)(t:TkD)(pl was:Plc)(speed:Spn)(v:Int×Bool):Option Fnd:=
 bif !v.2 then some (0,([],(true,false))) else (AI5 t v.1).bind fun i=>bif !i.2 then some (0,([],(false,false))) else
  bif pl.1 then (Av0 c t pl.2.2.2.2 was speed i.1).bind fun l=>some (i.1,(l,(decide ((0:Int)<(l.length:Int)),decide ((0:Int)<(l.length:Int))))) else some (i.1,([],(true,true)))
theorem Dz8 (m:Mal)(was:Plc)(speed:Spn)(s:E4):AQ4 m was speed s.c.1 s.c.2.1 s.c.2.2.1 s.c.2.2.2.1 s.c.2.2.2.2.1 s.c.2.2.2.2.2.1 s.c.2.2.2.2.2.2.1 s.c.2.2.2.2.2.2.2.1 s.c.2.2.2.2.2.2.2.2.1 s.c.2.2.2.2.2.2.2.2.2.1 s.c.2.2.2.2.2.2.2.2.2.2.1 s.c.2.2.2.2.2.2.2.2.2.2.2.1 s.c.2.2.2.2.2.2.2.2.2.2.2.2.1 s.c.2.2.2.2.2.2.2.2.2.2.2.2.2 s.t.1 s.t.2 s.broken s.C6 s.D6.1 s.D6.2 s.ends s.k0.1 s.k0.2.1 s.k0.2.2 s.k1.1 s.k1.2.1 s.k1.2.2 s.A5.1 s.A5.2 s.A6.1 s.A6.2 s.speed.1 s.speed.2 s.A9 s.place.1 s.place.2.1 s.place.2.2.1.1 s.place.2.2.1.2 s.place.2.2.2.1 s.place.2.2.2.2.1 s.place.2.2.2.2.2 s.clean s.origin.1 s.origin.2 s.H6 s.H7 s.still.1 s.still.2 s.A7.1 s.A7.2.1 s.A7.2.2.1 s.A7.2.2.2 s.watch.1 s.watch.2.1 s.watch.2.2=(Ah4 s.c s.t s.place was speed (mv5 m)).bind fun y=>some (y,s.c.1,s.c.2.1,s.c.2.2.1,s.c.2.2.2.1,s.c.2.2.2.2.1,s.c.2.2.2.2.2.1,s.c.2.2.2.2.2.2.1,s.c.2.2.2.2.2.2.2.1,s.c.2.2.2.2.2.2.2.2.1,s.c.2.2.2.2.2.2.2.2.2.1,s.c.2.2.2.2.2.2.2.2.2.2.1,s.c.2.2.2.2.2.2.2.2.2.2.2.1,s.c.2.2.2.2.2.2.2.2.2.2.2.2.1,s.c.2.2.2.2.2.2.2.2.2.2.2.2.2,s.t.1,s.t.2,s.broken,s.C6,s.D6.1,s.D6.2,s.ends,s.k0.1,s.k0.2.1,s.k0.2.2,s.k1.1,s.k1.2.1,s.k1.2.2,s.A5.1,s.A5.2,s.A6.1,s.A6.2,s.speed.1,s.speed.2,s.A9,s.place.1,s.place.2.1,s.place.2.2.1.1,s.place.2.2.1.2,s.place.2.2.2.1,s.place.2.2.2.2.1,s.place.2.2.2.2.2,s.clean,s.origin.1,s.origin.2,s.H6,s.H7,s.still.1,s.still.2,s.A7.1,s.A7.2.1,s.A7.2.2.1,s.A7.2.2.2,s.watch.1,s.watch.2.1,s.watch.2.2):=by
 unfold AQ4 Ah4;simp only[Dz0,Option.bind_some,AA3,Option.bind_assoc,Dz7]
 all_goals rfl
noncomputable def Ah5 (p:Int)(A5 A6:Spn)(k0 k1:Cnt)(H6 H7:Int)(pos origin:Spn)(at':Int):Option (Spn×Spn):=
 (u9 at').bind fun a=>(AC9 pos a).bind fun w=>bif !w.2 then some (A5,A6) else (AP4 w.1 origin).bind fun z=>bif !z.2 then some (A5,A6) else
  (AA1 A5 z.1 p (IntKind.wrap .i64 (k0.2.2-H6))).bind fun a=>(AA1 A6 z.1 p (IntKind.wrap .i64 (k1.2.2-H7))).bind fun b=>some (a.1,b.1)
theorem Dz9 (at':Int)(s:E4):AQ6 at' s.c.1 s.c.2.1 s.c.2.2.1 s.c.2.2.2.1 s.c.2.2.2.2.1 s.c.2.2.2.2.2.1 s.c.2.2.2.2.2.2.1 s.c.2.2.2.2.2.2.2.1 s.c.2.2.2.2.2.2.2.2.1 s.c.2.2.2.2.2.2.2.2.2.1 s.c.2.2.2.2.2.2.2.2.2.2.1 s.c.2.2.2.2.2.2.2.2.2.2.2.1 s.c.2.2.2.2.2.2.2.2.2.2.2.2.1 s.c.2.2.2.2.2.2.2.2.2.2.2.2.2 s.t.1 s.t.2 s.broken s.C6 s.D6.1 s.D6.2 s.ends s.k0.1 s.k0.2.1 s.k0.2.2 s.k1.1 s.k1.2.1 s.k1.2.2 s.A5.1 s.A5.2 s.A6.1 s.A6.2 s.speed.1 s.speed.2 s.A9 s.place.1 s.place.2.1 s.place.2.2.1.1 s.place.2.2.1.2 s.place.2.2.2.1 s.place.2.2.2.2.1 s.place.2.2.2.2.2 s.clean s.origin.1 s.origin.2 s.H6 s.H7 s.still.1 s.still.2 s.A7.1 s.A7.2.1 s.A7.2.2.1 s.A7.2.2.2 s.watch.1 s.watch.2.1 s.watch.2.2=(Ah5 s.c.1 s.A5 s.A6 s.k0 s.k1 s.H6 s.H7 s.place.2.2.1 s.origin at').bind fun y=>some ({s with A5:=y.1,A6:=y.2}.c.1,{s with A5:=y.1,A6:=y.2}.c.2.1,{s with A5:=y.1,A6:=y.2}.c.2.2.1,{s with A5:=y.1,A6:=y.2}.c.2.2.2.1,{s with A5:=y.1,A6:=y.2}.c.2.2.2.2.1,{s with A5:=y.1,A6:=y.2}.c.2.2.2.2.2.1,{s with A5:=y.1,A6:=y.2}.c.2.2.2.2.2.2.1,{s with A5:=y.1,A6:=y.2}.c.2.2.2.2.2.2.2.1,{s with A5:=y.1,A6:=y.2}.c.2.2.2.2.2.2.2.2.1,{s with A5:=y.1,A6:=y.2}.c.2.2.2.2.2.2.2.2.2.1,{s with A5:=y.1,A6:=y.2}.c.2.2.2.2.2.2.2.2.2.2.1,{s with A5:=y.1,A6:=y.2}.c.2.2.2.2.2.2.2.2.2.2.2.1,{s with A5:=y.1,A6:=y.2}.c.2.2.2.2.2.2.2.2.2.2.2.2.1,{s with A5:=y.1,A6:=y.2}.c.2.2.2.2.2.2.2.2.2.2.2.2.2,{s with A5:=y.1,A6:=y.2}.t.1,{s with A5:=y.1,A6:=y.2}.t.2,{s with A5:=y.1,A6:=y.2}.broken,{s with A5:=y.1,A6:=y.2}.C6,{s with A5:=y.1,A6:=y.2}.D6.1,{s with A5:=y.1,A6:=y.2}.D6.2,{s with A5:=y.1,A6:=y.2}.ends,{s with A5:=y.1,A6:=y.2}.k0.1,{s with A5:=y.1,A6:=y.2}.k0.2.1,{s with A5:=y.1,A6:=y.2}.k0.2.2,{s with A5:=y.1,A6:=y.2}.k1.1,{s with A5:=y.1,A6:=y.2}.k1.2.1,{s with A5:=y.1,A6:=y.2}.k1.2.2,{s with A5:=y.1,A6:=y.2}.A5.1,{s with A5:=y.1,A6:=y.2}.A5.2,{s with A5:=y.1,A6:=y.2}.A6.1,{s with A5:=y.1,A6:=y.2}.A6.2,{s with A5:=y.1,A6:=y.2}.speed.1,{s with A5:=y.1,A6:=y.2}.speed.2,{s with A5:=y.1,A6:=y.2}.A9,{s with A5:=y.1,A6:=y.2}.place.1,{s with A5:=y.1,A6:=y.2}.place.2.1,{s with A5:=y.1,A6:=y.2}.place.2.2.1.1,{s with A5:=y.1,A6:=y.2}.place.2.2.1.2,{s with A5:=y.1,A6:=y.2}.place.2.2.2.1,{s with A5:=y.1,A6:=y.2}.place.2.2.2.2.1,{s with A5:=y.1,A6:=y.2}.place.2.2.2.2.2,{s with A5:=y.1,A6:=y.2}.clean,{s with A5:=y.1,A6:=y.2}.origin.1,{s with A5:=y.1,A6:=y.2}.origin.2,{s with A5:=y.1,A6:=y.2}.H6,{s with A5:=y.1,A6:=y.2}.H7,{s with A5:=y.1,A6:=y.2}.still.1,{s with A5:=y.1,A6:=y.2}.still.2,{s with A5:=y.1,A6:=y.2}.A7.1,{s with A5:=y.1,A6:=y.2}.A7.2.1,{s with A5:=y.1,A6:=y.2}.A7.2.2.1,{s with A5:=y.1,A6:=y.2}.A7.2.2.2,{s with A5:=y.1,A6:=y.2}.watch.1,{s with A5:=y.1,A6:=y.2}.watch.2.1,{s with A5:=y.1,A6:=y.2}.watch.2.2):=by
 unfold AQ6 Ah5;simp only[Option.bind_some,AA3,Option.bind_assoc]
 all_goals rfl
noncomputable def Ah6 (x:Fnd)(speed:Spn)(s:E4):Option E4:=
 (Af7 s.c s.t x.1 speed).bind fun p=>
  bif (bif (bif s.place.1 then s.clean else false) then ((x.2.1.length:Int)==(1:Int)) else false) then
   chk none (true&&(decide ((0:Int)<(x.2.1.length:Int))))<|(Ah5 s.c.1 s.A5 s.A6 s.k0 s.k1 s.H6 s.H7 p.2.2.1 s.origin (x.2.1.getD (0:Int).toNat (0:Int))).bind fun y=>
    some {s with place:=p,A5:=y.1,A6:=y.2,clean:=true,origin:=p.2.2.1,H6:=s.k0.2.2,H7:=s.k1.2.2}
  else some {s with place:=p,clean:=true,origin:=p.2.2.1,H6:=s.k0.2.2,H7:=s.k1.2.2}
theorem EA0 (x:Fnd)(speed:Spn)(s:E4):AQ7 x speed s.c.1 s.c.2.1 s.c.2.2.1 s.c.2.2.2.1 s.c.2.2.2.2.1 s.c.2.2.2.2.2.1 s.c.2.2.2.2.2.2.1 s.c.2.2.2.2.2.2.2.1 s.c.2.2.2.2.2.2.2.2.1 s.c.2.2.2.2.2.2.2.2.2.1 s.c.2.2.2.2.2.2.2.2.2.2.1 s.c.2.2.2.2.2.2.2.2.2.2.2.1 s.c.2.2.2.2.2.2.2.2.2.2.2.2.1 s.c.2.2.2.2.2.2.2.2.2.2.2.2.2 s.t.1 s.t.2 s.broken s.C6 s.D6.1 s.D6.2 s.ends s.k0.1 s.k0.2.1 s.k0.2.2 s.k1.1 s.k1.2.1 s.k1.2.2 s.A5.1 s.A5.2 s.A6.1 s.A6.2 s.speed.1 s.speed.2 s.A9 s.place.1 s.place.2.1 s.place.2.2.1.1 s.place.2.2.1.2 s.place.2.2.2.1 s.place.2.2.2.2.1 s.place.2.2.2.2.2 s.clean s.origin.1 s.origin.2 s.H6 s.H7 s.still.1 s.still.2 s.A7.1 s.A7.2.1 s.A7.2.2.1 s.A7.2.2.2 s.watch.1 s.watch.2.1 s.watch.2.2=(Ah6 x speed s).bind fun y=>some (y.c.1,y.c.2.1,y.c.2.2.1,y.c.2.2.2.1,y.c.2.2.2.2.1,y.c.2.2.2.2.2.1,y.c.2.2.2.2.2.2.1,y.c.2.2.2.2.2.2.2.1,y.c.2.2.2.2.2.2.2.2.1,y.c.2.2.2.2.2.2.2.2.2.1,y.c.2.2.2.2.2.2.2.2.2.2.1,y.c.2.2.2.2.2.2.2.2.2.2.2.1,y.c.2.2.2.2.2.2.2.2.2.2.2.2.1,y.c.2.2.2.2.2.2.2.2.2.2.2.2.2,y.t.1,y.t.2,y.broken,y.C6,y.D6.1,y.D6.2,y.ends,y.k0.1,y.k0.2.1,y.k0.2.2,y.k1.1,y.k1.2.1,y.k1.2.2,y.A5.1,y.A5.2,y.A6.1,y.A6.2,y.speed.1,y.speed.2,y.A9,y.place.1,y.place.2.1,y.place.2.2.1.1,y.place.2.2.1.2,y.place.2.2.2.1,y.place.2.2.2.2.1,y.place.2.2.2.2.2,y.clean,y.origin.1,y.origin.2,y.H6,y.H7,y.still.1,y.still.2,y.A7.1,y.A7.2.1,y.A7.2.2.1,y.A7.2.2.2,y.watch.1,y.watch.2.1,y.watch.2.2):=by
 unfold AQ7 Ah6;simp only[Option.bind_some,AA3,Bt4,Option.bind_assoc];refine congrArg _ (funext fun p=> ?_)
 have h1:=Dz9 (x.2.1.getD (0:Int).toNat (0:Int)) {s with place:=p};simp only at h1;rw[h1];simp only[Option.bind_some,Option.bind_assoc]
 all_goals rfl
end Go.Proofs.YthfjpkdadjemcaaGreat

/- A unit's cycle by its parts. -/
set_option linter.unusedSimpArgs false
set_option linter.unusedVariables false
namespace Go.Proofs.YthfjpkdadjemcaaGreat
open Go Go.RowKit
noncomputable def Av1 (l:List RtD):Option (List (List Int)):=
 LP.lp (X:=(List (List Int))) (fun (s:((List (List Int))×Int))=>
  (bif (decide (s.2<(l.length:Int))) then
   chk none ((decide ((0:Int)≤s.2))&&(decide (s.2<(l.length:Int))))<|
   (AW1 (l.getD s.2.toNat ((0:Int),((0:Int),((0:Int),((0:Int),((0:Int),((0:Int),((0:Int),((0:Int),((0:Int),((0:Int),((0:Int),((0:Int),(0:Int))))))))))))))).bind fun p=>
   chk none (decide ((s.1.length+([p]:List (List Int)).length)*24≤140737488355328))<|
   some (.inl (s.1++([p]:List (List Int)),IntKind.wrap .i64 (s.2+(1:Int))))
  else
   some (.inr s.1))) ([],(0:Int))
noncomputable def Ah7 (s:E4)(f:Fsd)(cy:Int)(acc flt:Bool)(q:Int×(Int×(Int×Int))):Option H2:=
 (AA0 f.1).bind fun nm=>(Ag2 s.watch s.place.1 f.2.1 f.2.2.2.1).bind fun md=>
  bif !s.place.1 then some (cy,(md,(0,((0,0),(0,(f.1,(nm,(s.A9,([],(f.2.1,(f.2.2.1,(f.2.2.2.1,(f.2.2.2.2,(acc,(flt,(s.still.2,(s.A7.2.1,(false,(s.A7.2.2,(s.c.2.2.2.2.2.2.1,((s.A5,s.A6),q)))))))))))))))))))))
  else chk none ((decide ((0:Int)≤s.place.2.1))&&(decide (s.place.2.1<(s.t.2.length:Int))))<|(Av1 s.place.2.2.2.2.2).bind fun rts=>(AI7 s.t s.ends s.place.2.2.2.2 s.place.2.2.1.2).bind fun fr=>
   bif fr.2 then (AI8 s.c fr.1).bind fun pm=>some (cy,(md,((s.t.2.getD s.place.2.1.toNat ((0:Int),((0:Int),((0:Int),((0:Int),(0:Int)))))).1,(s.place.2.2.1,(s.place.2.2.2.1,(f.1,(nm,(s.A9,(rts,(f.2.1,(f.2.2.1,(f.2.2.2.1,(f.2.2.2.2,(acc,(flt,(s.still.2,(s.A7.2.1,(decide (pm<f.1.2),(s.A7.2.2,(pm,((s.A5,s.A6),q)))))))))))))))))))))
   else some (cy,(md,((s.t.2.getD s.place.2.1.toNat ((0:Int),((0:Int),((0:Int),((0:Int),(0:Int)))))).1,(s.place.2.2.1,(s.place.2.2.2.1,(f.1,(nm,(s.A9,(rts,(f.2.1,(f.2.2.1,(f.2.2.2.1,(f.2.2.2.2,(acc,(flt,(s.still.2,(s.A7.2.1,(decide (s.c.2.2.2.2.2.2.1<f.1.2),(s.A7.2.2,(s.c.2.2.2.2.2.2.1,((s.A5,s.A6),q)))))))))))))))))))))
theorem Av2 (s:E4)(f:Fsd)(cy:Int)(acc flt:Bool)(q:Int×(Int×(Int×Int))):
  AQ9 f s.c.1 s.c.2.1 s.c.2.2.1 s.c.2.2.2.1 s.c.2.2.2.2.1 s.c.2.2.2.2.2.1 s.c.2.2.2.2.2.2.1 s.c.2.2.2.2.2.2.2.1 s.c.2.2.2.2.2.2.2.2.1 s.c.2.2.2.2.2.2.2.2.2.1 s.c.2.2.2.2.2.2.2.2.2.2.1 s.c.2.2.2.2.2.2.2.2.2.2.2.1 s.c.2.2.2.2.2.2.2.2.2.2.2.2.1 s.c.2.2.2.2.2.2.2.2.2.2.2.2.2 s.t.1 s.t.2 s.broken s.C6 s.D6.1 s.D6.2 s.ends s.k0.1 s.k0.2.1 s.k0.2.2 s.k1.1 s.k1.2.1 s.k1.2.2 s.A5.1 s.A5.2 s.A6.1 s.A6.2 s.speed.1 s.speed.2 s.A9 s.place.1 s.place.2.1 s.place.2.2.1.1 s.place.2.2.1.2 s.place.2.2.2.1 s.place.2.2.2.2.1 s.place.2.2.2.2.2 s.clean s.origin.1 s.origin.2 s.H6 s.H7 s.still.1 s.still.2 s.A7.1 s.A7.2.1 s.A7.2.2.1 s.A7.2.2.2 s.watch.1 s.watch.2.1 s.watch.2.2 cy 4 0 0 0 0 0 0 0 0 [] 0 false false 0 0 acc flt false false false 0 0 0 0 0 0 0 q.1 q.2.1 q.2.2.1 q.2.2.2=(Ah7 s f cy acc flt q).bind fun r=>some (s.c.1,s.c.2.1,s.c.2.2.1,s.c.2.2.2.1,s.c.2.2.2.2.1,s.c.2.2.2.2.2.1,s.c.2.2.2.2.2.2.1,s.c.2.2.2.2.2.2.2.1,s.c.2.2.2.2.2.2.2.2.1,s.c.2.2.2.2.2.2.2.2.2.1,s.c.2.2.2.2.2.2.2.2.2.2.1,s.c.2.2.2.2.2.2.2.2.2.2.2.1,s.c.2.2.2.2.2.2.2.2.2.2.2.2.1,s.c.2.2.2.2.2.2.2.2.2.2.2.2.2,s.t.1,s.t.2,s.broken,s.C6,s.D6.1,s.D6.2,s.ends,s.k0.1,s.k0.2.1,s.k0.2.2,s.k1.1,s.k1.2.1,s.k1.2.2,s.A5.1,s.A5.2,s.A6.1,s.A6.2,s.speed.1,s.speed.2,s.A9,s.place.1,s.place.2.1,s.place.2.2.1.1,s.place.2.2.1.2,s.place.2.2.2.1,s.place.2.2.2.2.1,s.place.2.2.2.2.2,s.clean,s.origin.1,s.origin.2,s.H6,s.H7,s.still.1,s.still.2,s.A7.1,s.A7.2.1,s.A7.2.2.1,s.A7.2.2.2,s.watch.1,s.watch.2.1,s.watch.2.2,r.1,r.2.1,r.2.2.1,r.2.2.2.1.1,r.2.2.2.1.2,r.2.2.2.2.1,r.2.2.2.2.2.1.1,r.2.2.2.2.2.1.2,r.2.2.2.2.2.2.1,r.2.2.2.2.2.2.2.1,r.2.2.2.2.2.2.2.2.1,r.2.2.2.2.2.2.2.2.2.1,r.2.2.2.2.2.2.2.2.2.2.1,r.2.2.2.2.2.2.2.2.2.2.2.1,r.2.2.2.2.2.2.2.2.2.2.2.2.1.1,r.2.2.2.2.2.2.2.2.2.2.2.2.1.2,r.2.2.2.2.2.2.2.2.2.2.2.2.2.1,r.2.2.2.2.2.2.2.2.2.2.2.2.2.2.1,r.2.2.2.2.2.2.2.2.2.2.2.2.2.2.2.1,r.2.2.2.2.2.2.2.2.2.2.2.2.2.2.2.2.1,r.2.2.2.2.2.2.2.2.2.2.2.2.2.2.2.2.2.1,r.2.2.2.2.2.2.2.2.2.2.2.2.2.2.2.2.2.2.1.1,r.2.2.2.2.2.2.2.2.2.2.2.2.2.2.2.2.2.2.1.2,r.2.2.2.2.2.2.2.2.2.2.2.2.2.2.2.2.2.2.2.1,r.2.2.2.2.2.2.2.2.2.2.2.2.2.2.2.2.2.2.2.2.1.1.1,r.2.2.2.2.2.2.2.2.2.2.2.2.2.2.2.2.2.2.2.2.1.1.2,r.2.2.2.2.2.2.2.2.2.2.2.2.2.2.2.2.2.2.2.2.1.2.1,r.2.2.2.2.2.2.2.2.2.2.2.2.2.2.2.2.2.2.2.2.1.2.2,r.2.2.2.2.2.2.2.2.2.2.2.2.2.2.2.2.2.2.2.2.2.1,r.2.2.2.2.2.2.2.2.2.2.2.2.2.2.2.2.2.2.2.2.2.2.1,r.2.2.2.2.2.2.2.2.2.2.2.2.2.2.2.2.2.2.2.2.2.2.2.1,r.2.2.2.2.2.2.2.2.2.2.2.2.2.2.2.2.2.2.2.2.2.2.2.2):=by
 unfold AQ9 Ah7 Av1;simp only[Option.bind_some,AA3,Bt4,Option.bind_assoc]
 all_goals rfl
noncomputable def Av3 (m:Mal)(cmd:Bool)(cy:Int)(s:E4):Option (H2×E4):=
 (AR5 s (mv1 m) (mv2 m) (mv3 m) (mv4 m)).bind fun y=>(Ah3 s.t y.1.1 s.A9 s.place).bind fun z=>(Ah4 s.c s.t z.2.2 s.place y.1.1 (mv5 m)).bind fun x=>
  (bif x.2.2.2 then Ah6 x y.1.1 {s with k0:=y.2.1,k1:=y.2.2,clean:=bif s.clean then y.1.2.2.1 else false,speed:=y.1.1,A9:=z.2.1,place:=z.2.2} else some {s with k0:=y.2.1,k1:=y.2.2,clean:=bif s.clean then y.1.2.2.1 else false,speed:=y.1.1,A9:=z.2.1,place:=z.2.2}).bind fun s4=>
   (Af9 s4.watch s4.c y.1.2.1 y.1.2.2.2.1 z.1 x.2.2.2).bind fun w=>
    (bif w.2.2 then some ((false,(0,((0,0),(0,(0,[]))))):Plc) else some s4.place).bind fun pl=>
     (Ag0 s4.still s4.c y.1.1 y.1.2.1).bind fun st=>(Ag1 s4.A7 s4.c st.2 cmd y.1.1).bind fun ro=>
      (Ah7 {s4 with watch:=w,place:=pl,still:=st,A7:=ro} y.1 cy x.2.2.2 (!x.2.2.1) m.2.2).bind fun r=>some (r,{s4 with watch:=w,place:=pl,still:=st,A7:=ro})
def Av4 (cy:Int):H2:=(cy,((4:Int),((0:Int),(((0:Int),(0:Int)),((0:Int),(((0:Int),(0:Int)),((0:Int),((0:Int),([],((0:Int),(false,(false,(((0:Int),(0:Int)),(false,(false,(false,(false,(false,(((0:Int),(0:Int)),((0:Int),((((0:Int),(0:Int)),((0:Int),(0:Int))),((0:Int),((0:Int),((0:Int),(0:Int)))))))))))))))))))))))))
noncomputable def AD4 (list:List (List Int))(cmd:Bool)(s:E4):Option (H2×E4):=
 bif s.broken then some (Av4 s.C6,{s with C6:=IntKind.wrap .i64 (s.C6+1)})
 else (AH8 s.C6 list).bind fun m=>Av3 m cmd s.C6 {s with C6:=IntKind.wrap .i64 (s.C6+1)}
theorem EA1 (list:List (List Int))(cmd:Bool)(s:E4):AR0 list cmd s.c.1 s.c.2.1 s.c.2.2.1 s.c.2.2.2.1 s.c.2.2.2.2.1 s.c.2.2.2.2.2.1 s.c.2.2.2.2.2.2.1 s.c.2.2.2.2.2.2.2.1 s.c.2.2.2.2.2.2.2.2.1 s.c.2.2.2.2.2.2.2.2.2.1 s.c.2.2.2.2.2.2.2.2.2.2.1 s.c.2.2.2.2.2.2.2.2.2.2.2.1 s.c.2.2.2.2.2.2.2.2.2.2.2.2.1 s.c.2.2.2.2.2.2.2.2.2.2.2.2.2 s.t.1 s.t.2 s.broken s.C6 s.D6.1 s.D6.2 s.ends s.k0.1 s.k0.2.1 s.k0.2.2 s.k1.1 s.k1.2.1 s.k1.2.2 s.A5.1 s.A5.2 s.A6.1 s.A6.2 s.speed.1 s.speed.2 s.A9 s.place.1 s.place.2.1 s.place.2.2.1.1 s.place.2.2.1.2 s.place.2.2.2.1 s.place.2.2.2.2.1 s.place.2.2.2.2.2 s.clean s.origin.1 s.origin.2 s.H6 s.H7 s.still.1 s.still.2 s.A7.1 s.A7.2.1 s.A7.2.2.1 s.A7.2.2.2 s.watch.1 s.watch.2.1 s.watch.2.2=(AD4 list cmd s).bind fun y=>some (y.1,y.2.c.1,y.2.c.2.1,y.2.c.2.2.1,y.2.c.2.2.2.1,y.2.c.2.2.2.2.1,y.2.c.2.2.2.2.2.1,y.2.c.2.2.2.2.2.2.1,y.2.c.2.2.2.2.2.2.2.1,y.2.c.2.2.2.2.2.2.2.2.1,y.2.c.2.2.2.2.2.2.2.2.2.1,y.2.c.2.2.2.2.2.2.2.2.2.2.1,y.2.c.2.2.2.2.2.2.2.2.2.2.2.1,y.2.c.2.2.2.2.2.2.2.2.2.2.2.2.1,y.2.c.2.2.2.2.2.2.2.2.2.2.2.2.2,y.2.t.1,y.2.t.2,y.2.broken,y.2.C6,y.2.D6.1,y.2.D6.2,y.2.ends,y.2.k0.1,y.2.k0.2.1,y.2.k0.2.2,y.2.k1.1,y.2.k1.2.1,y.2.k1.2.2,y.2.A5.1,y.2.A5.2,y.2.A6.1,y.2.A6.2,y.2.speed.1,y.2.speed.2,y.2.A9,y.2.place.1,y.2.place.2.1,y.2.place.2.2.1.1,y.2.place.2.2.1.2,y.2.place.2.2.2.1,y.2.place.2.2.2.2.1,y.2.place.2.2.2.2.2,y.2.clean,y.2.origin.1,y.2.origin.2,y.2.H6,y.2.H7,y.2.still.1,y.2.still.2,y.2.A7.1,y.2.A7.2.1,y.2.A7.2.2.1,y.2.A7.2.2.2,y.2.watch.1,y.2.watch.2.1,y.2.watch.2.2):=by
 unfold AR0 AD4;simp only[AA3,Option.bind_some,Option.bind_assoc];refine congrArg _ (congrArg _ (funext fun m=> ?_))
 unfold Av3;have h1:=Dz5 m {s with C6:=IntKind.wrap .i64 (s.C6+1)};simp only at h1;rw[h1];simp only[Option.bind_some,Option.bind_assoc];have e0:∀a b,AR5 {s with C6:=a} b=AR5 s b:=fun _ _=>rfl
 refine congrArg _ (funext fun y=> ?_)
 have h2:=Dz6 y.1.1 {s with C6:=IntKind.wrap .i64 (s.C6+1),k0:=y.2.1,k1:=y.2.2,clean:=bif s.clean then y.1.2.2.1 else false};simp only at h2;rw[h2];simp only[Option.bind_some,Option.bind_assoc];refine congrArg _ (funext fun z=> ?_)
 have h3:=Dz8 m s.place y.1.1 {s with C6:=IntKind.wrap .i64 (s.C6+1),k0:=y.2.1,k1:=y.2.2,clean:=bif s.clean then y.1.2.2.1 else false,speed:=y.1.1,A9:=z.2.1,place:=z.2.2};simp only at h3;rw[h3];simp only[Option.bind_some,Option.bind_assoc];refine congrArg _ (funext fun x=> ?_)
 have h4:=EA0 x y.1.1 {s with C6:=IntKind.wrap .i64 (s.C6+1),k0:=y.2.1,k1:=y.2.2,clean:=bif s.clean then y.1.2.2.1 else false,speed:=y.1.1,A9:=z.2.1,place:=z.2.2};simp only at h4;rw[h4];cases x.2.2.2 with
 |true=>
  simp only[cond_true,Option.bind_some,Option.bind_assoc];refine congrArg _ (funext fun s4=> ?_)
  refine congrArg _ (funext fun w=> ?_)
  obtain⟨wa,wb,wc⟩:=w;cases wc with
  |true=>
   simp only[cond_true,Option.bind_some,Option.bind_assoc];refine congrArg _ (funext fun st=> ?_)
   refine congrArg _ (funext fun ro=> ?_)
   have h5:=Av2 {s4 with watch:=(wa,wb,true),place:=(false,(0,((0,0),(0,(0,[]))))),still:=st,A7:=ro} y.1 s.C6 true (!x.2.2.1) m.2.2;simp only at h5;rw[h5];simp only[Option.bind_some,Option.bind_assoc]
   all_goals rfl
  |false=>
   simp only[cond_false,Option.bind_some,Option.bind_assoc];refine congrArg _ (funext fun st=> ?_)
   refine congrArg _ (funext fun ro=> ?_)
   have h5:=Av2 {s4 with watch:=(wa,wb,false),still:=st,A7:=ro} y.1 s.C6 true (!x.2.2.1) m.2.2;simp only at h5;rw[h5];simp only[Option.bind_some,Option.bind_assoc]
   all_goals rfl
 |false=>
  simp only[cond_false,Option.bind_some,Option.bind_assoc];refine congrArg _ (funext fun w=> ?_)
  obtain⟨wa,wb,wc⟩:=w;cases wc with
  |true=>
   simp only[cond_true,Option.bind_some,Option.bind_assoc];refine congrArg _ (funext fun st=> ?_)
   refine congrArg _ (funext fun ro=> ?_)
   have h5:=Av2 {s with C6:=IntKind.wrap .i64 (s.C6+1),k0:=y.2.1,k1:=y.2.2,clean:=bif s.clean then y.1.2.2.1 else false,speed:=y.1.1,A9:=z.2.1,watch:=(wa,wb,true),place:=(false,(0,((0,0),(0,(0,[]))))),still:=st,A7:=ro} y.1 s.C6 false (!x.2.2.1) m.2.2;simp only at h5;rw[h5];simp only[Option.bind_some,Option.bind_assoc]
   all_goals rfl
  |false=>
   simp only[cond_false,Option.bind_some,Option.bind_assoc];refine congrArg _ (funext fun st=> ?_)
   refine congrArg _ (funext fun ro=> ?_)
   have h5:=Av2 {s with C6:=IntKind.wrap .i64 (s.C6+1),k0:=y.2.1,k1:=y.2.2,clean:=bif s.clean then y.1.2.2.1 else false,speed:=y.1.1,A9:=z.2.1,place:=z.2.2,watch:=(wa,wb,false),still:=st,A7:=ro} y.1 s.C6 false (!x.2.2.1) m.2.2;simp only at h5;rw[h5];simp only[Option.bind_some,Option.bind_assoc]
   all_goals rfl
end Go.Proofs.YthfjpkdadjemcaaGreat

/- A unit's cycles, one behind the other. -/
set_option linter.unusedSimpArgs false
set_option linter.unusedVariables false
namespace Go.Proofs.YthfjpkdadjemcaaGreat
open Go Go.RowKit
abbrev Cyc:=List (List Int)×Bool
def Av5:E4:={c:=(0,0,0,0,0,0,0,0,0,0,0,0,0,0),t:=([],[]),broken:=true,C6:=0,D6:=(0,0),ends:=[],k0:=(false,0,0),k1:=(false,0,0),A5:=(0,0),A6:=(0,0),speed:=(0,0),A9:=0,place:=(false,0,(0,0),0,0,[]),clean:=false,origin:=(0,0),H6:=0,H7:=0,still:=(0,false),A7:=(false,false,0,0),watch:=(0,0,false)}
noncomputable def Ah8 (c:Cfg)(img:List Int):Option E4:=
 (AG2 img).bind fun o=>(bif o.2==(0:Int) then (AG4 c o.1).bind fun e=>some e.1 else some o.2).bind fun e=>bif e != (0:Int) then some Av5
  else (AG7 o.1).bind fun g=>(AG8 o.1).bind fun en=>(AN7 c).bind fun a=>(AN7 c).bind fun b=>(AW7 c).bind fun sp=>
   some {Av5 with c:=c,t:=o.1,broken:=false,D6:=g,ends:=en,A5:=a,A6:=b,speed:=sp}
theorem EA2 (c:Cfg)(img:List Int):AN8 c img=(Ah8 c img).bind fun s=>some (s.c.1,s.c.2.1,s.c.2.2.1,s.c.2.2.2.1,s.c.2.2.2.2.1,s.c.2.2.2.2.2.1,s.c.2.2.2.2.2.2.1,s.c.2.2.2.2.2.2.2.1,s.c.2.2.2.2.2.2.2.2.1,s.c.2.2.2.2.2.2.2.2.2.1,s.c.2.2.2.2.2.2.2.2.2.2.1,s.c.2.2.2.2.2.2.2.2.2.2.2.1,s.c.2.2.2.2.2.2.2.2.2.2.2.2.1,s.c.2.2.2.2.2.2.2.2.2.2.2.2.2,s.t.1,s.t.2,s.broken,s.C6,s.D6.1,s.D6.2,s.ends,s.k0.1,s.k0.2.1,s.k0.2.2,s.k1.1,s.k1.2.1,s.k1.2.2,s.A5.1,s.A5.2,s.A6.1,s.A6.2,s.speed.1,s.speed.2,s.A9,s.place.1,s.place.2.1,s.place.2.2.1.1,s.place.2.2.1.2,s.place.2.2.2.1,s.place.2.2.2.2.1,s.place.2.2.2.2.2,s.clean,s.origin.1,s.origin.2,s.H6,s.H7,s.still.1,s.still.2,s.A7.1,s.A7.2.1,s.A7.2.2.1,s.A7.2.2.2,s.watch.1,s.watch.2.1,s.watch.2.2):=by
 unfold AN8 Ah8;simp only[Option.bind_some,AA3,Option.bind_assoc]
 all_goals rfl
noncomputable def goN:E4→List Cyc→Option (List H2)
 |_,[]=>some []
 |s,x::xs=>(AD4 x.1 x.2 s).bind fun y=>(goN y.2 xs).bind fun rs=>some (y.1::rs)
theorem Bt5 {S:Type}{l:List Cyc}{f:S→Option (S ⊕ List H2)}(sh:E4→List H2→Int→S)(hl:l.length≤1000)
  (hstep:∀(k:Nat) (s:E4) (out:List H2) (y:H2×E4),k<l.length→out.length≤1000→AD4 (l.getD k ([],false)).1 (l.getD k ([],false)).2 s=some y→f (sh s out (k:Int))=some (.inl (sh y.2 (out++[y.1]) ((k+1:Nat):Int))))
  (hend:∀(s:E4) (out:List H2),f (sh s out (l.length:Int))=some (.inr out)):
  ∀(xs:List Cyc) (k:Nat) (s:E4) (out rs:List H2),l.drop k=xs→k≤l.length→out.length=k→goN s xs=some rs→∃n,G3 f n (sh s out (k:Int))=some (out++rs)
 | [],k,s,out,rs,hd,hk,ho,hr=>by
  have hk2:k=l.length:=by have:=congrArg List.length hd;rw[List.length_drop] at this;simp at this;omega
  subst hk2;rw[goN] at hr;obtain rfl:=Option.some.inj hr;exact⟨1,by simp[G3,hend]⟩
 |x::xs,k,s,out,rs,hd,hk,ho,hr=>by
  have hlt:k<l.length:=by have:=congrArg List.length hd;rw[List.length_drop] at this;simp at this;omega
  have hx:l.getD k ([],false)=x:=by rw[List.drop_eq_getElem_cons hlt] at hd;have:=(List.cons.inj hd).1;simp[List.getD,hlt,this]
  have hd2:l.drop (k+1)=xs:=by rw[List.drop_eq_getElem_cons hlt] at hd;exact (List.cons.inj hd).2
  rw[goN] at hr;cases hy:AD4 x.1 x.2 s with
  |none=>rw [hy] at hr;cases hr
  |some y=>
   rw[hy] at hr;simp only[Option.bind_some] at hr;cases hq:goN y.2 xs with
   |none=>rw [hq] at hr;cases hr
   |some qs=>
    rw[hq] at hr;obtain rfl:=Option.some.inj hr;obtain⟨n,hn⟩:=Bt5 sh hl hstep hend xs (k+1) y.2 (out++[y.1]) qs hd2 (by omega) (by simp[ho]) hq
    refine⟨n+1,?_⟩;have h1:=hstep k s out y hlt (by omega) (by rw[hx];exact hy)
    simp only[G3,h1,hn];simp
theorem EA3 {S:Type}{l:List Cyc}{f:S→Option (S ⊕ List H2)}{s:E4}{init:S}{rs:List H2}(sh:E4→List H2→Int→S)(hl:l.length≤1000)(hi:init=sh s [] 0)
  (hstep:∀(k:Nat) (s:E4) (out:List H2) (y:H2×E4),k<l.length→out.length≤1000→AD4 (l.getD k ([],false)).1 (l.getD k ([],false)).2 s=some y→f (sh s out (k:Int))=some (.inl (sh y.2 (out++[y.1]) ((k+1:Nat):Int))))
  (hend:∀(s:E4) (out:List H2),f (sh s out (l.length:Int))=some (.inr out)) (hr:goN s l=some rs):Option.bind (LP.lp f init) (fun r=>some r)=some rs:=by
 obtain⟨n,hn⟩:=Bt5 sh hl hstep hend l 0 s [] rs rfl (by omega) rfl hr
 subst hi;show Option.bind (AE7 f (sh s [] ((0:Nat):Int))) (fun r=>some r)=some rs
 rw[AY0 hn];rfl
theorem Ah9 (k:Nat)(h:k≤1000):IntKind.wrap .i64 ((k:Int)+1)=((k+1:Nat):Int):=by rw[IntKind.wrap_i64];omega
set_option maxRecDepth 10000 in
theorem EA4 (c:Cfg)(t:TkD)(l:List Cyc)(hl:l.length≤1000){e:Int×Int}{img:List Int}{s:E4}{rs:List H2}(h1:AF8 c t=some e)(h2:e.1=0)(h3:AF9 t=some img)(h4:Ah8 c img=some s)(h5:goN s l=some rs):X7 c t l=some rs:=by
 unfold X7;rw[h1];simp only[Option.bind_some,h2];rw[h3];simp only[Option.bind_some];rw[EA2,h4];simp only[Option.bind_some];refine EA3 (l:=l) (s:=s) (fun s out k=>(s.watch.2.1,s.c.2.2.2.2.2.2.2.1,s.broken,s.c.2.2.2.2.2.2.2.2.2.2.2.2.2,s.k1.2.1,s.k0.2.1,s.speed.1,s.place.2.2.2.2.2,s.A7.2.1,s.still.1,s.c.1,s.c.2.2.2.2.2.2.2.2.2.1,s.c.2.2.2.2.2.2.1,s.D6.1,s.t.2,s.k1.1,s.A9,s.origin.1,s.place.2.2.2.2.1,s.A7.1,s.c.2.2.1,s.c.2.2.2.2.2.2.2.2.2.2.2.1,s.c.2.2.2.2.2.2.2.2.1,s.C6,s.k1.2.2,s.place.2.1,s.speed.2,s.H6,s.clean,s.A7.2.2.1,s.c.2.2.2.2.1,s.c.2.1,s.c.2.2.2.2.2.2.2.2.2.2.1,s.D6.2,s.A5.2,s.place.2.2.1.2,s.place.1,s.origin.2,s.watch.1,s.c.2.2.2.1,s.c.2.2.2.2.2.2.2.2.2.2.2.2.1,s.k0.1,s.A6.2,s.A5.1,out,s.place.2.2.1.1,s.H7,k,s.watch.2.2,s.A7.2.2.2,s.c.2.2.2.2.2.1,s.t.1,s.k0.2.2,s.ends,s.A6.1,s.place.2.2.2.1,s.still.2)) hl rfl ?_ ?_ h5
 ·intro k s out y hk ho hy
  have e1:(decide ((k:Int)<(l.length:Int)))=true:=by simpa using hk
  have e2:(decide ((0:Int)≤(k:Int)))=true:=by simp
  have h8:=EA1 (l.getD k ([],false)).1 (l.getD k ([],false)).2 s;rw[hy] at h8;simp only[Option.bind_some] at h8;have e3:decide ((out.length+[y.1].length)*232≤140737488355328)=true:=by
   simp
   omega
  have e4:=Ah9 k (by omega)
  simp only[e1,e2,cond_true,Bool.and_self,AD3,Int.toNat_natCast,h8,Option.bind_some,e3,e4]
 ·intro s out
  have e1:(decide ((l.length:Int)<(l.length:Int)))=false:=by simp
  simp only[e1,cond_false]
end Go.Proofs.YthfjpkdadjemcaaGreat
