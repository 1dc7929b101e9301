/- The functional reading of the code (printed). -/
import Derived.Test.YthfjpkdadjemcaaGreatFnsF
import Derived.Test.YthfjpkdadjemcaaGreatPlcC
set_option linter.unusedSimpArgs false
set_option linter.unusedVariables false
namespace Go.Proofs.YthfjpkdadjemcaaGreat
open Go
open Go.IntKind renaming wrap → FM8
open _root_.List renaming getD → FM9
noncomputable def AU4 [LP](a:Int)(b:(List Int))(c d e f g h:Bool)(i j k l m n o p q r:Int):Option Cy2:=
 (AT7 b).bind fun s=>
 Option.bind (
  (bif (s.2 != (0:Int)) then
   let t:=FM8 .i64 (o+1)
   some (t,c,i,f,l,r,e,h,n,k,q,d,g,j,p,m)
  else
   Option.bind (
    (bif (s.1.2.1 != a) then
     let u:=FM8 .i64 (p+1)
     some (u,c,i,f,l,o,r,e,h,n,k,q,d,g,j,m)
    else
     chk none ((decide ((0:Int)≤s.1.1))&&(decide (s.1.1<(6:Int))))<|
     let v:=(FM9 [c,d,e,f,g,h] s.1.1.toNat false)
     Option.bind (
      (bif v then
       let w:=FM8 .i64 (q+1)
       some (w,e,h,n,k,c,i,f,l,o,r,d,g,j,p,m)
      else
       chk none ((decide ((0:Int)≤s.1.1))&&(decide (s.1.1<(6:Int))))<|
       chk none ((decide ((0:Int)≤s.1.1))&&(decide (s.1.1<(6:Int))))<|
       some (q,(bif (s.1.1==(2:Int)) then true else e),(bif (s.1.1==(5:Int)) then true else h),(bif (s.1.1==(5:Int)) then s.1.2.2 else n),(bif (s.1.1==(2:Int)) then s.1.2.2 else k),(bif (s.1.1==(0:Int)) then true else c),(bif (s.1.1==(0:Int)) then s.1.2.2 else i),(bif (s.1.1==(3:Int)) then true else f),(bif (s.1.1==(3:Int)) then s.1.2.2 else l),o,r,(bif (s.1.1==(1:Int)) then true else d),(bif (s.1.1==(4:Int)) then true else g),(bif (s.1.1==(1:Int)) then s.1.2.2 else j),p,(bif (s.1.1==(4:Int)) then s.1.2.2 else m)))) fun y=>
     let pA:=y.2.2.2.2
     let pD:=pA.2.2.2.2
     let pG:=pD.2.2.2.2
     let a0:=y.1
     let a1:=y.2.1
     let a2:=y.2.2.1
     let a3:=y.2.2.2.1
     let a4:=pA.1
     let a5:=pA.2.1
     let a6:=pA.2.2.1
     let a7:=pA.2.2.2.1
     let a8:=pD.1
     let a9:=pD.2.1
     let b0:=pD.2.2.1
     let b1:=pD.2.2.2.1
     let b2:=pG.1
     let b3:=pG.2.1
     let b4:=pG.2.2.1
     let b5:=pG.2.2.2
     some (b4,a5,a6,a7,a8,a9,b0,a1,a2,a3,a4,a0,b1,b2,b3,b5))) fun b6=>
   let pB:=b6.2.2.2.2
   let pE:=pB.2.2.2.2
   let pH:=pE.2.2.2.2
   let b7:=b6.1
   let b8:=b6.2.1
   let b9:=b6.2.2.1
   let c0:=b6.2.2.2.1
   let c1:=pB.1
   let c2:=pB.2.1
   let c3:=pB.2.2.1
   let c4:=pB.2.2.2.1
   let c5:=pE.1
   let c6:=pE.2.1
   let c7:=pE.2.2.1
   let c8:=pE.2.2.2.1
   let c9:=pH.1
   let d0:=pH.2.1
   let d1:=pH.2.2.1
   let d2:=pH.2.2.2
   some (c2,b8,b9,c0,c1,c3,c4,c5,c6,c7,c8,c9,d0,d1,b7,d2))) fun d3=>
 let pC:=d3.2.2.2.2
 let pF:=pC.2.2.2.2
 let pI:=pF.2.2.2.2
 let d4:=d3.1
 let d5:=d3.2.1
 let d6:=d3.2.2.1
 let d7:=d3.2.2.2.1
 let d8:=pC.1
 let d9:=pC.2.1
 let e0:=pC.2.2.1
 let e1:=pC.2.2.2.1
 let e2:=pF.1
 let e3:=pF.2.1
 let e4:=pF.2.2.1
 let e5:=pF.2.2.2.1
 let e6:=pI.1
 let e7:=pI.2.1
 let e8:=pI.2.2.1
 let e9:=pI.2.2.2
 some (d5,e5,e0,d7,e6,e1,d6,e7,e3,d8,e9,e2,d4,e8,e4,d9)
noncomputable def Bu8:Con:={f:=65,ps:=[.ref 0 0,dI,.dat (.slice (.int .u8))],boxes:=[[.dat .bool,.dat .bool,.dat .bool,.dat .bool,.dat .bool,.dat .bool,dI,dI,dI,dI,dI,dI,dI,dI,dI,dI]],ins:=Cy4,nin:=18,outs:=Bi6,rs:=[],A2:=16,F:=fun x=>let a:=x.2.2.2.2.2.2.2.2;let b:=a.2.2.2.2.2.2.2.2;AU4 x.1 x.2.1 x.2.2.1 x.2.2.2.1 x.2.2.2.2.1 x.2.2.2.2.2.1 x.2.2.2.2.2.2.1 x.2.2.2.2.2.2.2.1 x.2.2.2.2.2.2.2.2.1 a.2.1 a.2.2.1 a.2.2.2.1 a.2.2.2.2.1 a.2.2.2.2.2.1 a.2.2.2.2.2.2.1 a.2.2.2.2.2.2.2.1 a.2.2.2.2.2.2.2.2.1 b.2}
theorem EA4:KO Bu8:=
 cgp (l:=[Bq2]) (.mk .plain [H0,(.mk .plain [(.mk .plain [H0,(.mk (.join (zP [30,36,35,32,31,34,33,42,39,45,48,54,51,57,60,63,14,17,23,20,26,38,41,47,44,50,53,59,56,62,16,13,19,22,25,40,37,43,46,52,49,55,61,58,15,21,18,24]) [(.normal,[kI 0 12,kB 0 0,kI 0 6,kB 0 3,kI 0 9,kI 0 15,kB 0 2,kB 0 5,kI 0 11,kI 0 8,kI 0 14,kB 0 1,kB 0 4,kI 0 7,kI 0 13,kI 0 10])]) [H0,(.mk .plain [H0,(.mk (.join (zP [46,42,45,48,47,44,43,54,51,57,60,63,14,17,23,20,26,50,53,59,56,62,16,13,19,22,25,52,49,55,61,58,15,21,18,24]) [(.normal,[kI 0 13,kB 0 0,kI 0 6,kB 0 3,kI 0 9,kI 0 12,kI 0 15,kB 0 2,kB 0 5,kI 0 11,kI 0 8,kI 0 14,kB 0 1,kB 0 4,kI 0 7,kI 0 10])]) [H0,(.mk .plain [H0,(.mk (.join (zP [61,58,57,60,63,59,62,16,13,19,22,25,14,17,23,20,26,15,21,18,24]) [(.normal,[kI 0 14,kB 0 2,kB 0 5,kI 0 11,kI 0 8,kB 0 0,kI 0 6,kB 0 3,kI 0 9,kI 0 12,kI 0 15,kB 0 1,kB 0 4,kI 0 7,kI 0 13,kI 0 10])]) [])])])])])])])]) (by simp[Dr2]) Tryz.func65
noncomputable def AN5 [LP](a:Int)(b:(List (List Int))):Option AF6:=
 let c:=(if (32:Int)<(b.length:Int) then (32:Int) else (b.length:Int))
 let d:=FM8 .i64 ((b.length:Int)-c)
 let e:AF6:=((false,(false,(false,(false,(false,false))))),(((0:Int),((0:Int),((0:Int),((0:Int),((0:Int),(0:Int)))))),((0:Int),((0:Int),((0:Int),d)))))
 chk none (true&&(decide ((0:Int)≤c))&&(decide (c≤(b.length:Int))))<|
 let f:(List (List Int)):=((b.take c.toNat).drop (0:Int).toNat)
 Option.bind (
  LP.lp (X:=Cd1) (fun (g:Cz9)=>
   let pA:=g.2.2.2.2
   let pD:=pA.2.2.2.2
   let pG:=pD.2.2.2.2
   let h:=g.1
   let i:=g.2.1
   let j:=g.2.2.1
   let k:=g.2.2.2.1
   let l:=pA.1
   let m:=pA.2.1
   let n:=pA.2.2.1
   let o:=pA.2.2.2.1
   let p:=pD.1
   let q:=pD.2.1
   let r:=pD.2.2.1
   let s:=pD.2.2.2.1
   let t:=pG.1
   let u:=pG.2.1
   let v:=pG.2.2.1
   let w:=pG.2.2.2.1
   let y:=pG.2.2.2.2
   let a0:=decide (y<f.length)
   (bif a0 then
    chk none (decide (0≤y)&&decide (y<f.length))<|
    let a1:(List Int):=(f.getD y.toNat [])
    let a2:=(bits .i64 .and a (255:Int))
    (AU4 a2 a1 s i n t h o v j q u l p w m r k).bind fun a3=>
    let pB:=a3.2.2.2.2
    let pE:=pB.2.2.2.2
    let pH:=pE.2.2.2.2
    let a4:=FM8 .i64 (y+1)
    some (.inl (pB.1,a3.2.1,pB.2.2.2.1,pH.2.2.2,pE.2.2.1,pH.2.1,a3.2.2.1,pB.2.1,pE.2.2.2.1,pE.1,pH.2.2.1,a3.1,a3.2.2.2.1,pE.2.1,pB.2.2.1,pH.1,a4))
   else
    some (.inr (h,i,j,k,l,m,n,o,p,q,r,s,t,u,v,w)))) (e.1.2.2.2.2.1,e.1.2.1,e.2.1.2.1,e.2.2.2.2.2,e.2.1.2.2.2.2.1,e.2.2.2.1,e.1.2.2.1,e.1.2.2.2.2.2,e.2.1.2.2.2.2.2,e.2.1.2.2.1,e.2.2.2.2.1,e.1.1,e.1.2.2.2.1,e.2.1.2.2.2.1,e.2.1.1,e.2.2.1,(0:Int))) fun a5=>
 let pC:=a5.2.2.2.2
 let pF:=pC.2.2.2.2
 let pI:=pF.2.2.2.2
 let a6:=a5.1
 let a7:=a5.2.1
 let a8:=a5.2.2.1
 let a9:=a5.2.2.2.1
 let b0:=pC.1
 let b1:=pC.2.1
 let b2:=pC.2.2.1
 let b3:=pC.2.2.2.1
 let b4:=pF.1
 let b5:=pF.2.1
 let b6:=pF.2.2.1
 let b7:=pF.2.2.2.1
 let b8:=pI.1
 let b9:=pI.2.1
 let c0:=pI.2.2.1
 let c1:=pI.2.2.2
 let c2:AF6:=((b7,(a7,(b2,(b8,(a6,b3))))),((c0,(a8,(b5,(b9,(b0,b4))))),(c1,(b1,(b6,a9)))))
 some c2
noncomputable def BO8:Con:={f:=39,ps:=[dI,.dat (.slice (.slice (.int .u8)))],boxes:=[],ins:=(.pair tI (.slice (.slice (.int .u8)))),nin:=2,outs:=(.agg X6),rs:=[.dat (.agg X6)],A2:=1,F:=fun x=>AN5 x.1 x.2}
theorem EA5:KO BO8:=
 cgp (l:=[Bu8]) (.mk .plain [H0,(.mk .plain [H0,(.mk .plain [H0,(.mk .plain [(.mk .plain [H0,(.mk .plain [(.mk (.loop [kB 1 4,kB 1 1,kI 1 7,kI 1 15,kI 1 10,kI 1 13,kB 1 2,kB 1 5,kI 1 11,kI 1 8,kI 1 14,kB 1 0,kB 1 3,kI 1 9,kI 1 6,kI 1 12,sI 21] (zP [28,22,25,8,23,26,29,24,27]) [(.exit 0,[kB 1 4,kB 1 1,kI 1 7,kI 1 15,kI 1 10,kI 1 13,kB 1 2,kB 1 5,kI 1 11,kI 1 8,kI 1 14,kB 1 0,kB 1 3,kI 1 9,kI 1 6,kI 1 12])]) [])])])])])])]) (by simp[EA4]) Tryz.func39
noncomputable def AD1 [LP](a:AF6)(b:Int):Option (Int×Bool):=
 let c:=decide (b<(0:Int))
 let d:=decide ((6:Int)≤b)
 let e:=(bif c then true else d)
 (bif e then
  some ((0:Int),false)
 else
  chk none ((decide ((0:Int)≤b))&&(decide (b<(6:Int))))<|
  let f:=(FM9 [a.2.1.1,a.2.1.2.1,a.2.1.2.2.1,a.2.1.2.2.2.1,a.2.1.2.2.2.2.1,a.2.1.2.2.2.2.2] b.toNat 0)
  chk none ((decide ((0:Int)≤b))&&(decide (b<(6:Int))))<|
  let g:=(FM9 [a.1.1,a.1.2.1,a.1.2.2.1,a.1.2.2.2.1,a.1.2.2.2.2.1,a.1.2.2.2.2.2] b.toNat false)
  some (f,g))
noncomputable def Am4:Con:={f:=75,ps:=[.dat (.agg X6),dI],boxes:=[],ins:=DA0,nin:=2,outs:=(.pair tI .bool),rs:=[dI,.dat .bool],A2:=2,F:=fun x=>AD1 x.1 x.2}
theorem Ay7:KO Am4:=
 cgp (l:=[]) H0 (by simp) Tryz.func75
noncomputable def Am5 [LP](a b:Int):Option Int:=
 let c:=FM8 .u16 (b-a)
 let d:=FM8 .i64 (FM8 .i16 c)
 some d
noncomputable def Bu9:Con:={f:=149,ps:=[.dat (.int .u16),.dat (.int .u16)],boxes:=[],ins:=(.pair (.int .u16) (.int .u16)),nin:=2,outs:=tI,rs:=[dI],A2:=1,F:=fun x=>Am5 x.1 x.2}
theorem EA6:KO Bu9:=
 cgp (l:=[]) H0 (by simp) Tryz.func149
noncomputable def AD2 [LP](a b:Int):Option (Int×Bool):=
 let c:=FM8 .i64 (a+b)
 let d:=decide ((0:Int)≤a)
 let e:=decide ((0:Int)≤b)
 let f:=decide ((0:Int)≤c)
 let g:=decide ((0:Int)≤a)
 let h:=(bif (d==e) then (!(f==g)) else false)
 (bif h then
  some ((0:Int),false)
 else
  some (c,true))
noncomputable def Am6:Con:={f:=73,ps:=[dI,dI],boxes:=[],ins:=(.pair tI tI),nin:=2,outs:=(.pair tI .bool),rs:=[dI,.dat .bool],A2:=2,F:=fun x=>AD2 x.1 x.2}
theorem Ay8:KO Am6:=
 cgp (l:=[]) H0 (by simp) Tryz.func73
noncomputable def Ac0 [LP](a:Int)(ok_2 b:Bool):Option Int:=
 (bif ok_2 then
  some a
 else
  (bif b then
   some (-9223372036854775808:Int)
  else
   some (9223372036854775807:Int)))
noncomputable def BO9:Con:={f:=160,ps:=[dI,.dat .bool,.dat .bool],boxes:=[],ins:=(.pair tI (.pair .bool .bool)),nin:=3,outs:=tI,rs:=[dI],A2:=1,F:=fun x=>Ac0 x.1 x.2.1 x.2.2}
theorem Bv0:KO BO9:=
 cgp (l:=[]) H0 (by simp) Tryz.func160
noncomputable def Ac1 [LP](a b:Int):Option Int:=
 (AD2 a b).bind fun c=>
 let d:=decide (a<(0:Int))
 (Ac0 c.1 c.2 d).bind fun e=>
 some e
noncomputable def BP0:Con:={f:=117,ps:=[dI,dI],boxes:=[],ins:=(.pair tI tI),nin:=2,outs:=tI,rs:=[dI],A2:=1,F:=fun x=>Ac1 x.1 x.2}
theorem Bv1:KO BP0:=
 cgp (l:=[Am6,BO9]) H0 (by simp[Ay8,Bv0]) Tryz.func117
noncomputable def Ac2 [LP](a:(Bool×(Int×Int)))(b:Int)(c:Bool):Option DA1:=
 (bif (!c) then
  let d:(Bool×(Int×Int)):=(false,a.2)
  some (d,(0:Int),false)
 else
  let e:=(FM8 .u16 b)
  (bif (!a.1) then
   let f:(Bool×(Int×Int)):=(true,(e,a.2.2))
   some (f,(0:Int),false)
  else
   (Am5 a.2.1 e).bind fun g=>
   (Ac1 a.2.2 g).bind fun h=>
   let i:(Bool×(Int×Int)):=(true,(e,h))
   some (i,g,true)))
noncomputable def Bv2:Con:={f:=99,ps:=[.dat (.agg (.pair .bool (.pair (.int .u16) tI))),dI,.dat .bool],boxes:=[],ins:=Bi8,nin:=3,outs:=Bi8,rs:=[.dat (.agg (.pair .bool (.pair (.int .u16) tI))),dI,.dat .bool],A2:=3,F:=fun x=>Ac2 x.1 x.2.1 x.2.2}
theorem EA7:KO Bv2:=
 cgp (l:=[Bu9,BP0]) H0 (by simp[EA6,Bv1]) Tryz.func99
noncomputable def AD3 [LP](a b c:Int):Option (Int×Int):=
 (AG3 a b c false).bind fun d=>
 some (d.1,d.2)
noncomputable def Ay9:Con:={f:=168,ps:=[dI,dI,dI],boxes:=[],ins:=(.pair tI (.pair tI tI)),nin:=3,outs:=(.pair tI tI),rs:=[dI,dI],A2:=2,F:=fun x=>AD3 x.1 x.2.1 x.2.2}
theorem BP1:KO Ay9:=
 cgp (l:=[BM8]) H0 (by simp[Bp0]) Tryz.func168
noncomputable def AG9 [LP](a:(Int×Int))(b c:Int):Option ((Int×Int)×Int):=
 (Q7 a).bind fun d=>
 let e:=decide (c<(1:Int))
 let f:=(bif (!d) then true else e)
 (bif f then
  let g:(Int×Int):=((0:Int),(0:Int))
  some (g,(10:Int))
 else
  let h:=decide (b<(0:Int))
  Option.bind (
   (bif h then
    some (a.2,a.1)
   else
    some (a.1,a.2))) fun i=>
  let j:=i.1
  let k:=i.2
  (AD3 b j c).bind fun l=>
  (bif (l.2 != (0:Int)) then
   let m:(Int×Int):=((0:Int),(0:Int))
   some (m,l.2)
  else
   (AC8 b k c).bind fun n=>
   (bif (n.2 != (0:Int)) then
    let o:(Int×Int):=((0:Int),(0:Int))
    some (o,n.2)
   else
    let p:(Int×Int):=(l.1,n.1)
    some (p,(0:Int)))))
noncomputable def Bv3:Con:={f:=150,ps:=[.dat (.agg (.pair tI tI)),dI,dI],boxes:=[],ins:=BL3,nin:=3,outs:=(.pair (.agg (.pair tI tI)) tI),rs:=[.dat (.agg (.pair tI tI)),dI],A2:=2,F:=fun x=>AG9 x.1 x.2.1 x.2.2}
theorem EA8:KO Bv3:=
 cgp (l:=[AC6,Ay9,Ax5]) (.mk .plain [H0,(.mk .plain [H0,(.mk .plain [H0,(.mk .plain [(.mk .plain [H0,(.mk (.join [(0,27),(0,28)] [(.normal,[sI 8,sI 9])]) [])])])])])]) (by simp[AF8,BP1,BM9]) Tryz.func150
noncomputable def AH0 [LP](a:Int)(b:(Int×Int))(c:Int):Option ((Int×Int)×Int):=
 let d:=decide (a<(-32768:Int))
 let e:=decide ((32767:Int)<a)
 let f:=(bif d then true else e)
 (bif f then
  let g:(Int×Int):=((0:Int),(0:Int))
  some (g,(10:Int))
 else
  let h:=FM8 .i64 (a-1)
  (AG9 b h c).bind fun i=>
  (bif (i.2 != (0:Int)) then
   let j:(Int×Int):=((0:Int),(0:Int))
   some (j,i.2)
  else
   let k:=FM8 .i64 (a+1)
   (AG9 b k c).bind fun l=>
   (bif (l.2 != (0:Int)) then
    let m:(Int×Int):=((0:Int),(0:Int))
    some (m,l.2)
   else
    (X7 i.1 l.1).bind fun n=>
    some (n,(0:Int)))))
noncomputable def Bv4:Con:={f:=100,ps:=[dI,.dat (.agg (.pair tI tI)),dI],boxes:=[],ins:=DA2,nin:=3,outs:=(.pair (.agg (.pair tI tI)) tI),rs:=[.dat (.agg (.pair tI tI)),dI],A2:=2,F:=fun x=>AH0 x.1 x.2.1 x.2.2}
theorem EA9:KO Bv4:=
 cgp (l:=[Bv3,Ab1]) H0 (by simp[EA8,Al8]) Tryz.func100
noncomputable def AD4 [LP](a:Int)(b:AF6)(c d e f g h i j k l m n o p:Int)(q:(List Yd1))(r:(List Yd3))(s:Bool)(t u v:Int)(w:(List Int))(y:Bool)(a0 a1:Int)(a2:Bool)(a3 a4 a5 a6 a7 a8 a9 b0 b1:Int)(b2:Bool)(b3 b4 b5 b6 b7:Int)(b8:(List G9))(b9:Bool)(c0 c1 c2 c3 c4:Int)(c5 c6 c7:Bool)(c8 c9 d0 d1:Int)(d2:Bool):Option DA4:=
 let d3:=FM8 .i64 ((1:Int)+a)
 (AD1 b d3).bind fun d4=>
 chk none ((decide ((0:Int)≤a))&&(decide (a<(2:Int))))<|
 let d5:(Bool×(Int×Int)):=(FM9 [(y,(a0,a1)),(a2,(a3,a4))] a.toNat (false,((0:Int),(0:Int))))
 (Ac2 d5 d4.1 d4.2).bind fun d6=>
 chk none ((decide ((0:Int)≤a))&&(decide (a<(2:Int))))<|
 (bif (!d6.2.2) then
  let d7:(Bool×(Int×Int)):=(false,((0:Int),(0:Int)))
  some (d7,c,d,e,f,g,h,i,j,k,l,m,n,o,p,q,r,s,t,u,v,w,(bif (a==(0:Int)) then d6.1.1 else y),(bif (a==(0:Int)) then d6.1.2.1 else a0),(bif (a==(0:Int)) then d6.1.2.2 else a1),(bif (a==(1:Int)) then d6.1.1 else a2),(bif (a==(1:Int)) then d6.1.2.1 else a3),(bif (a==(1:Int)) then d6.1.2.2 else a4),a5,a6,a7,a8,a9,b0,b1,b2,b3,b4,b5,b6,b7,b8,b9,c0,c1,c2,c3,c4,c5,c6,c7,c8,c9,d0,d1,d2)
 else
  chk none ((decide ((0:Int)≤a))&&(decide (a<(2:Int))))<|
  let d8:(Int×Int):=(FM9 [(a5,a6),(a7,a8)] a.toNat ((0:Int),(0:Int)))
  (AH0 d6.2.1 d8 c).bind fun d9=>
  let e0:(Bool×(Int×Int)):=(true,d9.1)
  some (e0,c,d,e,f,g,h,i,j,k,l,m,n,o,p,q,r,s,t,u,v,w,(bif (a==(0:Int)) then d6.1.1 else y),(bif (a==(0:Int)) then d6.1.2.1 else a0),(bif (a==(0:Int)) then d6.1.2.2 else a1),(bif (a==(1:Int)) then d6.1.1 else a2),(bif (a==(1:Int)) then d6.1.2.1 else a3),(bif (a==(1:Int)) then d6.1.2.2 else a4),a5,a6,a7,a8,a9,b0,b1,b2,b3,b4,b5,b6,b7,b8,b9,c0,c1,c2,c3,c4,c5,c6,c7,c8,c9,d0,d1,d2))
noncomputable def Bv5:Con:={f:=66,ps:=[.ref 0 0,dI,.dat (.agg X6)],boxes:=[[dI,dI,dI,dI,dI,dI,dI,dI,dI,dI,dI,dI,dI,dI,.dat (.slice (.agg Yt1)),.dat (.slice (.agg Yt3)),.dat .bool,dI,dI,dI,.dat (.slice tI),.dat .bool,.dat (.int .u16),dI,.dat .bool,.dat (.int .u16),dI,dI,dI,dI,dI,dI,dI,dI,.dat .bool,dI,dI,dI,dI,dI,.dat (.slice (.agg H8)),.dat .bool,dI,dI,dI,dI,dI,.dat .bool,.dat .bool,.dat .bool,dI,dI,dI,dI,.dat .bool]],ins:=DA5,nin:=57,outs:=DA3,rs:=[.dat (.agg (.pair .bool (.agg (.pair tI tI))))],A2:=56,F:=fun x=>let a:=x.2.2.2.2.2.2.2.2;let b:=a.2.2.2.2.2.2.2.2;let c:=b.2.2.2.2.2.2.2.2;let d:=c.2.2.2.2.2.2.2.2;let e:=d.2.2.2.2.2.2.2.2;let f:=e.2.2.2.2.2.2.2.2;AD4 x.1 x.2.1 x.2.2.1 x.2.2.2.1 x.2.2.2.2.1 x.2.2.2.2.2.1 x.2.2.2.2.2.2.1 x.2.2.2.2.2.2.2.1 x.2.2.2.2.2.2.2.2.1 a.2.1 a.2.2.1 a.2.2.2.1 a.2.2.2.2.1 a.2.2.2.2.2.1 a.2.2.2.2.2.2.1 a.2.2.2.2.2.2.2.1 a.2.2.2.2.2.2.2.2.1 b.2.1 b.2.2.1 b.2.2.2.1 b.2.2.2.2.1 b.2.2.2.2.2.1 b.2.2.2.2.2.2.1 b.2.2.2.2.2.2.2.1 b.2.2.2.2.2.2.2.2.1 c.2.1 c.2.2.1 c.2.2.2.1 c.2.2.2.2.1 c.2.2.2.2.2.1 c.2.2.2.2.2.2.1 c.2.2.2.2.2.2.2.1 c.2.2.2.2.2.2.2.2.1 d.2.1 d.2.2.1 d.2.2.2.1 d.2.2.2.2.1 d.2.2.2.2.2.1 d.2.2.2.2.2.2.1 d.2.2.2.2.2.2.2.1 d.2.2.2.2.2.2.2.2.1 e.2.1 e.2.2.1 e.2.2.2.1 e.2.2.2.2.1 e.2.2.2.2.2.1 e.2.2.2.2.2.2.1 e.2.2.2.2.2.2.2.1 e.2.2.2.2.2.2.2.2.1 f.2.1 f.2.2.1 f.2.2.2.1 f.2.2.2.2.1 f.2.2.2.2.2.1 f.2.2.2.2.2.2.1 f.2.2.2.2.2.2.2.1 f.2.2.2.2.2.2.2.2}
theorem EB0:KO Bv5:=
 cgp (l:=[Am4,Bv2,Bv4]) H0 (by simp[Ay7,EA7,EA9]) Tryz.func66
noncomputable def AN6 [LP](a:F2)(b:Int):Option Int:=
 let c:=FM8 .i64 (0-b)
 let d:=(if c>b then c else b)
 (AD3 d a.2.2.2.2.1 (1048576:Int)).bind fun e=>
 let f:=FM8 .i64 (a.2.2.2.1+e.1)
 some f
noncomputable def Bv6:Con:={f:=152,ps:=[.dat (.agg C4),dI],boxes:=[],ins:=BL4,nin:=2,outs:=tI,rs:=[dI],A2:=1,F:=fun x=>AN6 x.1 x.2}
theorem EB1:KO Bv6:=
 cgp (l:=[Ay9]) H0 (by simp[BP1]) Tryz.func152
noncomputable def AH1 [LP](a b:Int):Option (Int×Bool):=
 let c:=FM8 .i64 (a-b)
 let d:=decide ((0:Int)≤a)
 let e:=decide ((0:Int)≤b)
 let f:=decide ((0:Int)≤c)
 let g:=decide ((0:Int)≤a)
 let h:=(bif (!(d==e)) then (!(f==g)) else false)
 (bif h then
  some ((0:Int),false)
 else
  some (c,true))
noncomputable def Am7:Con:={f:=155,ps:=[dI,dI],boxes:=[],ins:=(.pair tI tI),nin:=2,outs:=(.pair tI .bool),rs:=[dI,.dat .bool],A2:=2,F:=fun x=>AH1 x.1 x.2}
theorem Az0:KO Am7:=
 cgp (l:=[]) H0 (by simp) Tryz.func155
noncomputable def AH2 [LP](a:Int)(b:Bool)(c:Int)(d:Bool):Option ((Int×Int)×Bool):=
 let e:=(bif (!b) then true else (!d))
 let f:=(bif e then true else (decide (c<a)))
 (bif f then
  let g:(Int×Int):=((0:Int),(0:Int))
  some (g,false)
 else
  let h:(Int×Int):=(a,c)
  some (h,true))
noncomputable def Am8:Con:={f:=126,ps:=[dI,.dat .bool,dI,.dat .bool],boxes:=[],ins:=DA6,nin:=4,outs:=(.pair (.agg (.pair tI tI)) .bool),rs:=[.dat (.agg (.pair tI tI)),.dat .bool],A2:=2,F:=fun x=>AH2 x.1 x.2.1 x.2.2.1 x.2.2.2}
theorem Az1:KO Am8:=
 cgp (l:=[]) H0 (by simp) Tryz.func126
noncomputable def AU5 [LP](a:(Int×Int))(b:Int):Option ((Int×Int)×Bool):=
 (Q7 a).bind fun c=>
 (bif (!c) then
  let d:(Int×Int):=((0:Int),(0:Int))
  some (d,false)
 else
  (AH1 a.1 b).bind fun e=>
  (AD2 a.2 b).bind fun f=>
  (AH2 e.1 e.2 f.1 f.2).bind fun g=>
  some (g.1,g.2))
noncomputable def Az2:Con:={f:=107,ps:=[.dat (.agg (.pair tI tI)),dI],boxes:=[],ins:=(.pair (.agg (.pair tI tI)) tI),nin:=2,outs:=(.pair (.agg (.pair tI tI)) .bool),rs:=[.dat (.agg (.pair tI tI)),.dat .bool],A2:=2,F:=fun x=>AU5 x.1 x.2}
theorem BP2:KO Az2:=
 cgp (l:=[AC6,Am7,Am6,Am8]) H0 (by simp[AF8,Az0,Ay8,Az1]) Tryz.func107
noncomputable def Ac3 [LP](a b:Int):Option ((Int×Int)×Bool):=
 (AA5 a).bind fun c=>
 (AU5 c b).bind fun d=>
 some (d.1,d.2)
noncomputable def BP3:Con:={f:=151,ps:=[dI,dI],boxes:=[],ins:=(.pair tI tI),nin:=2,outs:=(.pair (.agg (.pair tI tI)) .bool),rs:=[.dat (.agg (.pair tI tI)),.dat .bool],A2:=2,F:=fun x=>Ac3 x.1 x.2}
theorem Bv7:KO BP3:=
 cgp (l:=[Ab0,Az2]) H0 (by simp[Al7,BP2]) Tryz.func151
noncomputable def AH3 [LP](a:F2)(b:Int):Option (Int×Int):=
 (AN6 a b).bind fun c=>
 (Ac3 b c).bind fun d=>
 some d.1
noncomputable def Bv8:Con:={f:=101,ps:=[.dat (.agg C4),dI],boxes:=[],ins:=BL4,nin:=2,outs:=(.agg (.pair tI tI)),rs:=[.dat (.agg (.pair tI tI))],A2:=1,F:=fun x=>AH3 x.1 x.2}
theorem EB2:KO Bv8:=
 cgp (l:=[Bv6,BP3]) H0 (by simp[EB1,Bv7]) Tryz.func101
noncomputable def AU6 [LP](a b c d e f g h i j k l m n:Int)(o:(List Yd1))(p:(List Yd3))(q:Bool)(r s t:Int)(u:(List Int))(v:Bool)(w y:Int)(a0:Bool)(a1 a2 a3 a4 a5 a6 a7 a8 a9:Int)(b0:Bool)(b1 b2 b3 b4 b5:Int)(b6:(List G9))(b7:Bool)(b8 b9 c0 c1 c2:Int)(c3 c4 c5:Bool)(c6 c7 c8 c9:Int)(d0:Bool)(d1:AF6):Option (Bool×(Int×Int)):=
 (AD1 d1 (3:Int)).bind fun d2=>
 (bif (!d2.2) then
  let d3:(Bool×(Int×Int)):=(false,((0:Int),(0:Int)))
  some d3
 else
  let d4:F2:=(a,(b,(c,(d,(e,(f,(g,(h,(i,(j,(k,(l,(m,n)))))))))))))
  (AH3 d4 d2.1).bind fun d5=>
  let d6:(Bool×(Int×Int)):=(true,d5)
  some d6)
noncomputable def Bv9:Con:={f:=67,ps:=[.rp [dI,dI,dI,dI,dI,dI,dI,dI,dI,dI,dI,dI,dI,dI,.dat (.slice (.agg Yt1)),.dat (.slice (.agg Yt3)),.dat .bool,dI,dI,dI,.dat (.slice tI),.dat .bool,.dat (.int .u16),dI,.dat .bool,.dat (.int .u16),dI,dI,dI,dI,dI,dI,dI,dI,.dat .bool,dI,dI,dI,dI,dI,.dat (.slice (.agg H8)),.dat .bool,dI,dI,dI,dI,dI,.dat .bool,.dat .bool,.dat .bool,dI,dI,dI,dI,.dat .bool] 0,.dat (.agg X6)],boxes:=[],ins:=Bj0,nin:=56,outs:=(.agg (.pair .bool (.agg (.pair tI tI)))),rs:=[.dat (.agg (.pair .bool (.agg (.pair tI tI))))],A2:=1,F:=fun x=>let a:=x.2.2.2.2.2.2.2.2;let b:=a.2.2.2.2.2.2.2.2;let c:=b.2.2.2.2.2.2.2.2;let d:=c.2.2.2.2.2.2.2.2;let e:=d.2.2.2.2.2.2.2.2;let f:=e.2.2.2.2.2.2.2.2;AU6 x.1 x.2.1 x.2.2.1 x.2.2.2.1 x.2.2.2.2.1 x.2.2.2.2.2.1 x.2.2.2.2.2.2.1 x.2.2.2.2.2.2.2.1 x.2.2.2.2.2.2.2.2.1 a.2.1 a.2.2.1 a.2.2.2.1 a.2.2.2.2.1 a.2.2.2.2.2.1 a.2.2.2.2.2.2.1 a.2.2.2.2.2.2.2.1 a.2.2.2.2.2.2.2.2.1 b.2.1 b.2.2.1 b.2.2.2.1 b.2.2.2.2.1 b.2.2.2.2.2.1 b.2.2.2.2.2.2.1 b.2.2.2.2.2.2.2.1 b.2.2.2.2.2.2.2.2.1 c.2.1 c.2.2.1 c.2.2.2.1 c.2.2.2.2.1 c.2.2.2.2.2.1 c.2.2.2.2.2.2.1 c.2.2.2.2.2.2.2.1 c.2.2.2.2.2.2.2.2.1 d.2.1 d.2.2.1 d.2.2.2.1 d.2.2.2.2.1 d.2.2.2.2.2.1 d.2.2.2.2.2.2.1 d.2.2.2.2.2.2.2.1 d.2.2.2.2.2.2.2.2.1 e.2.1 e.2.2.1 e.2.2.2.1 e.2.2.2.2.1 e.2.2.2.2.2.1 e.2.2.2.2.2.2.1 e.2.2.2.2.2.2.2.1 e.2.2.2.2.2.2.2.2.1 f.2.1 f.2.2.1 f.2.2.2.1 f.2.2.2.2.1 f.2.2.2.2.2.1 f.2.2.2.2.2.2.1 f.2.2.2.2.2.2.2}
theorem EB3:KO Bv9:=
 cgp (l:=[Am4,Bv8]) H0 (by simp[Ay7,EB2]) Tryz.func67
noncomputable def R0 [LP](a b:(Int×Int)):Option ((Int×Int)×Bool):=
 let c:=(if b.1>a.1 then b.1 else a.1)
 let d:=(if b.2<a.2 then b.2 else a.2)
 (AH2 c true d true).bind fun e=>
 some (e.1,e.2)
noncomputable def AH4:Con:={f:=108,ps:=[.dat (.agg (.pair tI tI)),.dat (.agg (.pair tI tI))],boxes:=[],ins:=X4,nin:=2,outs:=(.pair (.agg (.pair tI tI)) .bool),rs:=[.dat (.agg (.pair tI tI)),.dat .bool],A2:=2,F:=fun x=>R0 x.1 x.2}
theorem AN7:KO AH4:=
 cgp (l:=[Am8]) H0 (by simp[Az1]) Tryz.func108
noncomputable def Ac4 [LP](a:F2)(b:(Int×Int)):Option (Int×Int):=
 (AU5 b a.2.2.2.2.2.2.2.1).bind fun c=>
 (AT5 a).bind fun d=>
 (R0 c.1 d).bind fun e=>
 some e.1
noncomputable def Bw0:Con:={f:=69,ps:=[.dat (.agg C4),.dat (.agg (.pair tI tI))],boxes:=[],ins:=Bj1,nin:=2,outs:=(.agg (.pair tI tI)),rs:=[.dat (.agg (.pair tI tI))],A2:=1,F:=fun x=>Ac4 x.1 x.2}
theorem EB4:KO Bw0:=
 cgp (l:=[Az2,Ax6,AH4]) H0 (by simp[BP2,Bp8,AN7]) Tryz.func69
noncomputable def AU7 [LP](a b c d:Int)(e:(List Yd1))(f:(List Yd3))(g:Bool)(h i:Int):Option Bj2:=
 chk none (decide (0≤a)&&decide (a<e.length))<|
 let j:Yd1:=(e.getD a.toNat ((0:Int),([],[])))
 let k:=FM8 .i64 (b+j.1)
 (R0 (c,d) (b,k)).bind fun l=>
 (bif (!l.2) then
  some (c,d,e,f,g,h,i)
 else
  chk none (decide (0≤a)&&decide (a<e.length))<|
  let m:Yd1:=(e.getD a.toNat ((0:Int),([],[])))
  let n:=FM8 .i64 (l.1.1-b)
  let o:=FM8 .i64 (l.1.2-b)
  (AM1 m.2.1 (n,o)).bind fun p=>
  Option.bind (
   (bif (!g) then
    some (p.1.1,p.1.2,true)
   else
    some (h,i,g))) fun q=>
  let r:=q.1
  let s:=q.2.1
  let t:=q.2.2
  (X7 (r,s) p.1).bind fun u=>
  some (c,d,e,f,t,u.1,u.2))
noncomputable def Bw1:Con:={f:=170,ps:=[dI,dI,.ref 0 0,.ref 1 0,.ref 2 0,.ref 3 0],boxes:=[[dI,dI],[.dat (.slice (.agg Yt1)),.dat (.slice (.agg Yt3))],[.dat .bool],[dI,dI]],ins:=DG8,nin:=9,outs:=Aw4,rs:=[],A2:=7,F:=fun x=>AU7 x.1 x.2.1 x.2.2.1 x.2.2.2.1 x.2.2.2.2.1 x.2.2.2.2.2.1 x.2.2.2.2.2.2.1 x.2.2.2.2.2.2.2.1 x.2.2.2.2.2.2.2.2}
theorem EB5:KO Bw1:=
 cgp (l:=[AH4,BN1,Ab1]) (.mk .plain [H0,(.mk .plain [H0,(.mk .plain [H0,(.mk .plain [(.mk .plain [H0,(.mk (.join [(0,50)] [(.normal,[kI 3 0,kI 3 1,kB 2 0])]) [])])])])])]) (by simp[AN7,Bp7,Al8]) Tryz.func170
noncomputable def AU8 [LP](a:AL0)(b:K7)(c d:Int)(e:(List Yd1))(f:(List Yd3))(g:Bool)(h i:Int):Option Bj2:=
 Option.bind (
  LP.lp (X:=Bh3) (fun (j:DG9)=>
   let pA:=j.2.2.2.2
   let k:=j.1
   let l:=j.2.1
   let m:=j.2.2.1
   let n:=j.2.2.2.1
   let o:(List Yd3):=pA.1
   let p:=pA.2.1
   let q:=pA.2.2.1
   let r:(List Yd1):=pA.2.2.2
   let s:=decide (m<a.2.length)
   (bif s then
    chk none (decide (0≤m)&&decide (m<a.2.length))<|
    let t:G9:=(a.2.getD m.toNat ((0:Int),((0:Int),((0:Int),((0:Int),((0:Int),((0:Int),((0:Int),((0:Int),((0:Int),((0:Int),((0:Int),((0:Int),(0:Int))))))))))))))
    let u:=FM8 .i64 (0-a.1)
    (Aa7 t).bind fun v=>
    Option.bind (
     LP.lp (X:=Cd7) (fun (w:DH6)=>
      let pB:=w.2.2.2.2
      let y:=w.1
      let a0:(List Yd3):=w.2.1
      let a1:=w.2.2.1
      let a2:=w.2.2.2.1
      let a3:=pB.1
      let a4:=pB.2.1
      let a5:(List Yd1):=pB.2.2.1
      let a6:=pB.2.2.2.1
      let a7:=pB.2.2.2.2
      let a8:=decide (a7<v.length)
      (bif a8 then
       chk none (decide (0≤a7)&&decide (a7<v.length))<|
       let a9:=(v.getD a7.toNat 0)
       (AU7 a9 a2 a1 a4 a5 a0 a6 y a3).bind fun b0=>
       let pC:=b0.2.2.2.2
       chk none (decide (0≤a9)&&decide (a9<b.1.length))<|
       let b1:Yd1:=(b.1.getD a9.toNat ((0:Int),([],[])))
       let b2:=FM8 .i64 (a2+b1.1)
       let b3:=FM8 .i64 (a7+1)
       some (.inl (pC.2.1,b0.2.2.2.1,b0.1,b2,pC.2.2,b0.2.1,b0.2.2.1,pC.1,b3))
      else
       some (.inr (y,a0,a1,a3,a4,a5,a6)))) (k,o,l,u,p,q,r,n,(0:Int))) fun b4=>
    let pD:=b4.2.2.2.2
    let b5:=b4.1
    let b6:(List Yd3):=b4.2.1
    let b7:=b4.2.2.1
    let b8:=b4.2.2.2.1
    let b9:=pD.1
    let c0:(List Yd1):=pD.2.1
    let c1:=pD.2.2
    let c2:=FM8 .i64 (m+1)
    some (.inl (b5,b7,c2,c1,b6,b8,b9,c0))
   else
    some (.inr (k,l,n,o,p,q,r)))) (h,c,(0:Int),g,f,i,d,e)) fun c3=>
 let pE:=c3.2.2.2.2
 let c4:=c3.1
 let c5:=c3.2.1
 let c6:=c3.2.2.1
 let c7:(List Yd3):=c3.2.2.2.1
 let c8:=pE.1
 let c9:=pE.2.1
 let d0:(List Yd1):=pE.2.2
 some (c5,c9,d0,c7,c6,c4,c8)
noncomputable def Bw2:Con:={f:=169,ps:=[.dat (.agg V5),.dat (.agg E1),.clo 170 [] [.ref 0 0,.ref 1 0,.ref 2 0,.ref 3 0]],boxes:=[[dI,dI],[.dat (.slice (.agg Yt1)),.dat (.slice (.agg Yt3))],[.dat .bool],[dI,dI]],ins:=DH8,nin:=9,outs:=Aw4,rs:=[],A2:=7,F:=fun x=>AU8 x.1 x.2.1 x.2.2.1 x.2.2.2.1 x.2.2.2.2.1 x.2.2.2.2.2.1 x.2.2.2.2.2.2.1 x.2.2.2.2.2.2.2.1 x.2.2.2.2.2.2.2.2}
theorem EB6:KO Bw2:=
 cgp (l:=[Aj4,Bw1]) (.mk .plain [H0,(.mk .plain [H0,(.mk .plain [(.mk (.loop [kI 3 0,kI 0 0,sI 14,kB 2 0,⟨.cell 1 1,(.slice (.agg Yt3)),none⟩,kI 3 1,kI 0 1,⟨.cell 1 0,(.slice (.agg Yt1)),none⟩] (zP [30,36,39,8,17,23,20,26,29,35,32,38,41,7,10,16,19,22,28,25,31,34,40,37,15,21,18,24,27,33]) [(.exit 0,[kI 3 0,kI 0 0,kB 2 0,⟨.cell 1 1,(.slice (.agg Yt3)),none⟩,kI 3 1,kI 0 1,⟨.cell 1 0,(.slice (.agg Yt1)),none⟩])]) [(.mk .plain [H0,(.mk .plain [H0,(.mk .plain [(.mk .plain [(.mk .plain [H0,(.mk .plain [H0,(.mk .plain [H0,(.mk .plain [(.mk (.loop [kI 3 0,⟨.cell 1 1,(.slice (.agg Yt3)),none⟩,kI 0 0,sI 8,kI 3 1,kI 0 1,⟨.cell 1 0,(.slice (.agg Yt1)),none⟩,kB 2 0,sI 24] (zP [30,36,10,39,28,25,31,34,40,37,26,29,35,32,38,27,33]) [(.exit 2,[kI 3 0,⟨.cell 1 1,(.slice (.agg Yt3)),none⟩,kI 0 0,kI 3 1,kI 0 1,⟨.cell 1 0,(.slice (.agg Yt1)),none⟩,kB 2 0])]) [])])])])])])])])])])])])]) (by simp[BL9,EB5]) Tryz.func169
noncomputable def AU9 [LP](a:AL0)(b:K7)(c:(Int×Int)):Option ((Int×Int)×Bool):=
 (AU8 a b c.1 c.2 b.1 b.2 false (0:Int) (0:Int)).bind fun d=>
 some (d.2.2.2.2.2,d.2.2.2.2.1)
noncomputable def Bw3:Con:={f:=156,ps:=[.dat (.agg V5),.dat (.agg E1),.dat (.agg (.pair tI tI))],boxes:=[],ins:=DH9,nin:=3,outs:=(.pair (.agg (.pair tI tI)) .bool),rs:=[.dat (.agg (.pair tI tI)),.dat .bool],A2:=2,F:=fun x=>AU9 x.1 x.2.1 x.2.2}
theorem EB7:KO Bw3:=
 cgp (l:=[Bw2]) H0 (by simp[EB6]) Tryz.func156
noncomputable def AV0 [LP](a b c d e f g h i j k l m n:Int)(o:(List Yd1))(p:(List Yd3))(q:Bool)(r s t:Int)(u:(List Int))(v:Bool)(w y:Int)(a0:Bool)(a1 a2 a3 a4 a5 a6 a7 a8 a9:Int)(b0:Bool)(b1 b2 b3 b4 b5:Int)(b6:(List G9))(b7:Bool)(b8 b9 c0 c1 c2:Int)(c3 c4 c5:Bool)(c6 c7 c8 c9:Int)(d0:Bool):Option (Int×Int):=
 (bif (!b0) then
  let d1:(Int×Int):=(s,t)
  some d1
 else
  Option.bind (α:=(Int×Int) ⊕ (Int×Int)) (
   LP.lp (X:=(Int×Int) ⊕ (Int×Int)) (fun (d2:(Int×(Int×Int)))=>
    let d3:=d2.1
    let d4:=d2.2.1
    let d5:=d2.2.2
    let d6:=decide (d5<b6.length)
    (bif d6 then
     chk none (decide (0≤d5)&&decide (d5<b6.length))<|
     let d7:G9:=(b6.getD d5.toNat ((0:Int),((0:Int),((0:Int),((0:Int),((0:Int),((0:Int),((0:Int),((0:Int),((0:Int),((0:Int),((0:Int),((0:Int),(0:Int))))))))))))))
     (S5 (b5,b6) (o,p) d7).bind fun d8=>
     (bif (d8==b3) then
      let d9:(Int×Int):=(s,t)
      some (.inr (.inl (d9.1,d9.2)))
     else
      let e0:=FM8 .i64 (d5+1)
      some (.inl (d3,d4,e0)))
    else
     some (.inr (.inr (d3,d4))))) ((0:Int),(0:Int),(0:Int))) fun z=>match z with
  | .inl e1=>
   let e2:=e1.1
   let e3:=e1.2
   some (e2,e3)
  | .inr e4=>
   let e5:=e4.1
   let e6:=e4.2
   (AU9 (b5,b6) (o,p) (b2,b3)).bind fun e7=>
   (bif e7.2 then
    some e7.1
   else
    let e8:(Int×Int):=(s,t)
    some e8))
noncomputable def Bw4:Con:={f:=111,ps:=[.rp [dI,dI,dI,dI,dI,dI,dI,dI,dI,dI,dI,dI,dI,dI,.dat (.slice (.agg Yt1)),.dat (.slice (.agg Yt3)),.dat .bool,dI,dI,dI,.dat (.slice tI),.dat .bool,.dat (.int .u16),dI,.dat .bool,.dat (.int .u16),dI,dI,dI,dI,dI,dI,dI,dI,.dat .bool,dI,dI,dI,dI,dI,.dat (.slice (.agg H8)),.dat .bool,dI,dI,dI,dI,dI,.dat .bool,.dat .bool,.dat .bool,dI,dI,dI,dI,.dat .bool] 0],boxes:=[],ins:=X5,nin:=55,outs:=(.agg (.pair tI tI)),rs:=[.dat (.agg (.pair tI tI))],A2:=1,F:=fun x=>let a:=x.2.2.2.2.2.2.2.2;let b:=a.2.2.2.2.2.2.2.2;let c:=b.2.2.2.2.2.2.2.2;let d:=c.2.2.2.2.2.2.2.2;let e:=d.2.2.2.2.2.2.2.2;let f:=e.2.2.2.2.2.2.2.2;AV0 x.1 x.2.1 x.2.2.1 x.2.2.2.1 x.2.2.2.2.1 x.2.2.2.2.2.1 x.2.2.2.2.2.2.1 x.2.2.2.2.2.2.2.1 x.2.2.2.2.2.2.2.2.1 a.2.1 a.2.2.1 a.2.2.2.1 a.2.2.2.2.1 a.2.2.2.2.2.1 a.2.2.2.2.2.2.1 a.2.2.2.2.2.2.2.1 a.2.2.2.2.2.2.2.2.1 b.2.1 b.2.2.1 b.2.2.2.1 b.2.2.2.2.1 b.2.2.2.2.2.1 b.2.2.2.2.2.2.1 b.2.2.2.2.2.2.2.1 b.2.2.2.2.2.2.2.2.1 c.2.1 c.2.2.1 c.2.2.2.1 c.2.2.2.2.1 c.2.2.2.2.2.1 c.2.2.2.2.2.2.1 c.2.2.2.2.2.2.2.1 c.2.2.2.2.2.2.2.2.1 d.2.1 d.2.2.1 d.2.2.2.1 d.2.2.2.2.1 d.2.2.2.2.2.1 d.2.2.2.2.2.2.1 d.2.2.2.2.2.2.2.1 d.2.2.2.2.2.2.2.2.1 e.2.1 e.2.2.1 e.2.2.2.1 e.2.2.2.2.1 e.2.2.2.2.2.1 e.2.2.2.2.2.2.1 e.2.2.2.2.2.2.2.1 e.2.2.2.2.2.2.2.2.1 f.2.1 f.2.2.1 f.2.2.2.1 f.2.2.2.2.1 f.2.2.2.2.2.1 f.2.2.2.2.2.2}
theorem EB8:KO Bw4:=
 cgp (l:=[Aw6,Bw3]) (.mk .plain [H0,(.mk .plain [H0,(.mk .plain [(.mk .plain [H0,(.mk .plain [(.mk (.loop [kI 0 0,kI 0 1,sI 24] (zP [30,36,42,39,45,48,26,29,35,32,38,41,47,44,4,28,25,31,34,40,37,43,46,49,27,33,50]) [(.ret,[kI 0 0,kI 0 1]),(.exit 0,[kI 0 0,kI 0 1])]) [])])])])])]) (by simp[BM0,EB7]) Tryz.func111
noncomputable def AN8 [LP](a b:(Int×Int)):Option ((Int×Int)×Bool):=
 (Q7 a).bind fun c=>
 (bif !(!c) then Q7 b else some false).bind fun d=>
 let e:=(bif (!c) then true else (!d))
 (bif e then
  let f:(Int×Int):=((0:Int),(0:Int))
  some (f,false)
 else
  (AH1 a.1 b.2).bind fun g=>
  (AH1 a.2 b.1).bind fun h=>
  (AH2 g.1 g.2 h.1 h.2).bind fun i=>
  some (i.1,i.2))
noncomputable def Az3:Con:={f:=124,ps:=[.dat (.agg (.pair tI tI)),.dat (.agg (.pair tI tI))],boxes:=[],ins:=X4,nin:=2,outs:=(.pair (.agg (.pair tI tI)) .bool),rs:=[.dat (.agg (.pair tI tI)),.dat .bool],A2:=2,F:=fun x=>AN8 x.1 x.2}
theorem BP4:KO Az3:=
 cgp (l:=[AC6,Am7,Am8]) H0 (by simp[AF8,Az0,Az1]) Tryz.func124
noncomputable def Ac5 [LP](a:F2)(b:Int)(c:(Int×Int)):Option (Int×Int):=
 (AA5 b).bind fun d=>
 (AN8 d c).bind fun e=>
 (AU5 e.1 a.2.2.2.2.2.1).bind fun f=>
 some f.1
noncomputable def Bw5:Con:={f:=110,ps:=[.dat (.agg C4),dI,.dat (.agg (.pair tI tI))],boxes:=[],ins:=DI0,nin:=3,outs:=(.agg (.pair tI tI)),rs:=[.dat (.agg (.pair tI tI))],A2:=1,F:=fun x=>Ac5 x.1 x.2.1 x.2.2}
theorem EB9:KO Bw5:=
 cgp (l:=[Ab0,Az3,Az2]) H0 (by simp[Al7,BP4,BP2]) Tryz.func110
noncomputable def AD5 [LP](a b:(Int×Int)):Option ((Int×Int)×Bool):=
 (Q7 a).bind fun c=>
 (bif !(!c) then Q7 b else some false).bind fun d=>
 let e:=(bif (!c) then true else (!d))
 (bif e then
  let f:(Int×Int):=((0:Int),(0:Int))
  some (f,false)
 else
  (AD2 a.1 b.1).bind fun g=>
  (AD2 a.2 b.2).bind fun h=>
  (AH2 g.1 g.2 h.1 h.2).bind fun i=>
  some (i.1,i.2))
noncomputable def Ac6:Con:={f:=82,ps:=[.dat (.agg (.pair tI tI)),.dat (.agg (.pair tI tI))],boxes:=[],ins:=X4,nin:=2,outs:=(.pair (.agg (.pair tI tI)) .bool),rs:=[.dat (.agg (.pair tI tI)),.dat .bool],A2:=2,F:=fun x=>AD5 x.1 x.2}
theorem Am9:KO Ac6:=
 cgp (l:=[AC6,Am6,Am8]) H0 (by simp[AF8,Ay8,Az1]) Tryz.func82
noncomputable def Ac7 [LP](a b:(Int×Int)):Option (Int×Int):=
 (AD5 a b).bind fun c=>
 some c.1
noncomputable def Bw6:Con:={f:=109,ps:=[.dat (.agg (.pair tI tI)),.dat (.agg (.pair tI tI))],boxes:=[],ins:=X4,nin:=2,outs:=(.agg (.pair tI tI)),rs:=[.dat (.agg (.pair tI tI))],A2:=1,F:=fun x=>Ac7 x.1 x.2}
theorem EC0:KO Bw6:=
 cgp (l:=[Ac6]) H0 (by simp[Am9]) Tryz.func109
noncomputable def AV1 [LP](a b c d e f g h i j k l m n:Int)(o:(List Yd1))(p:(List Yd3))(q:Bool)(r s t:Int)(u:(List Int))(v:Bool)(w y:Int)(a0:Bool)(a1 a2 a3 a4 a5 a6 a7 a8 a9:Int)(b0:Bool)(b1 b2 b3 b4 b5:Int)(b6:(List G9))(b7:Bool)(b8 b9 c0 c1 c2:Int)(c3 c4 c5:Bool)(c6 c7 c8 c9:Int)(d0:Bool)(d1:AF6):Option (Bool×(Int×Int)):=
 (AD1 d1 (4:Int)).bind fun d2=>
 (bif (!d2.2) then
  let d3:(Bool×(Int×Int)):=(false,((0:Int),(0:Int)))
  some d3
 else
  let d4:F2:=(a,(b,(c,(d,(e,(f,(g,(h,(i,(j,(k,(l,(m,n)))))))))))))
  (AV0 a b c d e f g h i j k l m n o p q r s t u v w y a0 a1 a2 a3 a4 a5 a6 a7 a8 a9 b0 b1 b2 b3 b4 b5 b6 b7 b8 b9 c0 c1 c2 c3 c4 c5 c6 c7 c8 c9 d0).bind fun d5=>
  (Ac5 d4 d2.1 d5).bind fun d6=>
  (Ac7 (a7,a8) d6).bind fun d7=>
  let d8:(Bool×(Int×Int)):=(true,d7)
  some d8)
noncomputable def Bw7:Con:={f:=70,ps:=[.rp [dI,dI,dI,dI,dI,dI,dI,dI,dI,dI,dI,dI,dI,dI,.dat (.slice (.agg Yt1)),.dat (.slice (.agg Yt3)),.dat .bool,dI,dI,dI,.dat (.slice tI),.dat .bool,.dat (.int .u16),dI,.dat .bool,.dat (.int .u16),dI,dI,dI,dI,dI,dI,dI,dI,.dat .bool,dI,dI,dI,dI,dI,.dat (.slice (.agg H8)),.dat .bool,dI,dI,dI,dI,dI,.dat .bool,.dat .bool,.dat .bool,dI,dI,dI,dI,.dat .bool] 0,.dat (.agg X6)],boxes:=[],ins:=Bj0,nin:=56,outs:=(.agg (.pair .bool (.agg (.pair tI tI)))),rs:=[.dat (.agg (.pair .bool (.agg (.pair tI tI))))],A2:=1,F:=fun x=>let a:=x.2.2.2.2.2.2.2.2;let b:=a.2.2.2.2.2.2.2.2;let c:=b.2.2.2.2.2.2.2.2;let d:=c.2.2.2.2.2.2.2.2;let e:=d.2.2.2.2.2.2.2.2;let f:=e.2.2.2.2.2.2.2.2;AV1 x.1 x.2.1 x.2.2.1 x.2.2.2.1 x.2.2.2.2.1 x.2.2.2.2.2.1 x.2.2.2.2.2.2.1 x.2.2.2.2.2.2.2.1 x.2.2.2.2.2.2.2.2.1 a.2.1 a.2.2.1 a.2.2.2.1 a.2.2.2.2.1 a.2.2.2.2.2.1 a.2.2.2.2.2.2.1 a.2.2.2.2.2.2.2.1 a.2.2.2.2.2.2.2.2.1 b.2.1 b.2.2.1 b.2.2.2.1 b.2.2.2.2.1 b.2.2.2.2.2.1 b.2.2.2.2.2.2.1 b.2.2.2.2.2.2.2.1 b.2.2.2.2.2.2.2.2.1 c.2.1 c.2.2.1 c.2.2.2.1 c.2.2.2.2.1 c.2.2.2.2.2.1 c.2.2.2.2.2.2.1 c.2.2.2.2.2.2.2.1 c.2.2.2.2.2.2.2.2.1 d.2.1 d.2.2.1 d.2.2.2.1 d.2.2.2.2.1 d.2.2.2.2.2.1 d.2.2.2.2.2.2.1 d.2.2.2.2.2.2.2.1 d.2.2.2.2.2.2.2.2.1 e.2.1 e.2.2.1 e.2.2.2.1 e.2.2.2.2.1 e.2.2.2.2.2.1 e.2.2.2.2.2.2.1 e.2.2.2.2.2.2.2.1 e.2.2.2.2.2.2.2.2.1 f.2.1 f.2.2.1 f.2.2.2.1 f.2.2.2.2.1 f.2.2.2.2.2.1 f.2.2.2.2.2.2.1 f.2.2.2.2.2.2.2}
theorem EC1:KO Bw7:=
 cgp (l:=[Am4,Bw4,Bw5,Bw6]) H0 (by simp[Ay7,EB8,EB9,EC0]) Tryz.func70
noncomputable def Az4 [LP](a:BL5):Option (List (Int×Int)):=
 Option.bind (
  (bif a.1.1 then
   let b:(List (Int×Int)):=([a.1.2]:List (Int×Int))
   chk none (decide ((([]:List (Int×Int)).length+b.length)*16≤140737488355328))<|
   let c:(List (Int×Int)):=b
   some c
  else
   some ([]))) fun d=>
 Option.bind (
  (bif a.2.1.1 then
   let e:(List (Int×Int)):=([a.2.1.2]:List (Int×Int))
   chk none (decide ((d.length+e.length)*16≤140737488355328))<|
   let f:(List (Int×Int)):=(d++e)
   some f
  else
   some d)) fun g=>
 Option.bind (
  (bif a.2.2.1 then
   let h:(List (Int×Int)):=([a.2.2.2]:List (Int×Int))
   chk none (decide ((g.length+h.length)*16≤140737488355328))<|
   let i:(List (Int×Int)):=(g++h)
   some i
  else
   some g)) fun j=>
 some j
noncomputable def Bw8:Con:={f:=102,ps:=[.dat (.agg Aj0)],boxes:=[],ins:=(.agg Aj0),nin:=1,outs:=(.slice (.agg (.pair tI tI))),rs:=[.dat (.slice (.agg (.pair tI tI)))],A2:=1,F:=fun x=>Az4 x}
theorem EC2:KO Bw8:=
 cgp (l:=[]) (.mk .plain [H0,(.mk .plain [H0,(.mk .plain [(.mk .plain [H0,(.mk .plain [(.mk (.AY1 4) [(.mk .plain [H0,(.mk .plain [H0,(.mk .plain [(.mk .plain [(.mk .plain [H0,(.mk .plain [H0,(.mk (.join (zP [12,15,16,14,13]) [(.normal,[⟨.slot 3,(.slice (.agg (.pair tI tI))),some 1600044⟩])]) [])])])])])])])])])])])])]) (by simp) Tryz.func102
noncomputable def AH5 [LP](a:(List (Int×Int))):Option ((Int×Int)×Bool):=
 let b:=((a.length:Int)==(0:Int))
 (bif b then
  let c:(Int×Int):=((0:Int),(0:Int))
  some (c,false)
 else
  chk none (true&&(decide ((0:Int)<(a.length:Int))))<|
  let d:(Int×Int):=(a.getD (0:Int).toNat ((0:Int),(0:Int)))
  Option.bind (α:=(Int×(Int×Bool)) ⊕ Yd2) (
   LP.lp (X:=(Int×(Int×Bool)) ⊕ Yd2) (fun (e:Yd3)=>
    let f:=e.1
    let g:=e.2.1
    let h:=e.2.2.1
    let i:=e.2.2.2.1
    let j:=e.2.2.2.2
    let k:=decide (j<a.length)
    (bif k then
     chk none (decide (0≤j)&&decide (j<a.length))<|
     let l:(Int×Int):=(a.getD j.toNat ((0:Int),(0:Int)))
     (R0 (i,f) l).bind fun m=>
     (bif (!m.2) then
      let n:(Int×Int):=((0:Int),(0:Int))
      some (.inr (.inl (n.1,n.2,false)))
     else
      let o:=FM8 .i64 (j+1)
      some (.inl (m.1.2,g,h,m.1.1,o)))
    else
     some (.inr (.inr (f,g,h,i))))) (d.2,(0:Int),(0:Int),d.1,(0:Int))) fun z=>match z with
  | .inl p=>
   let q:=p.1
   let r:=p.2.1
   let s:=p.2.2
   some ((q,r),s)
  | .inr t=>
   let u:=t.1
   let v:=t.2.1
   let w:=t.2.2.1
   let y:=t.2.2.2
   let a0:(Int×Int):=(y,u)
   some (a0,true))
noncomputable def Bw9:Con:={f:=153,ps:=[.dat (.slice (.agg (.pair tI tI)))],boxes:=[],ins:=(.slice (.agg (.pair tI tI))),nin:=1,outs:=(.pair (.agg (.pair tI tI)) .bool),rs:=[.dat (.agg (.pair tI tI)),.dat .bool],A2:=2,F:=fun x=>AH5 x}
theorem EC3:KO Bw9:=
 cgp (l:=[AH4]) (.mk .plain [H0,(.mk .plain [H0,(.mk .plain [H0,(.mk .plain [(.mk .plain [H0,(.mk .plain [(.mk (.loop [kI 1 1,kI 0 0,kI 0 1,kI 1 0,sI 17] (zP [7,19,22,28,25,23,20,26,29,3,6,21,18,24,27,30]) [(.ret,[kI 0 0,kI 0 1,sB 3]),(.exit 0,[kI 1 1,kI 0 0,kI 0 1,kI 1 0])]) [])])])])])])]) (by simp[AN7]) Tryz.func153
noncomputable def AH6 [LP](a:(List (Int×Int))):Option ((Int×Int)×Bool):=
 Option.bind (
  LP.lp (X:=(Bool×(Int×Int))) (fun (b:BK9)=>
   let c:=b.1
   let d:=b.2.1
   let e:=b.2.2.1
   let f:=b.2.2.2
   let g:=decide (d<a.length)
   (bif g then
    chk none (decide (0≤d)&&decide (d<a.length))<|
    let h:(Int×Int):=(a.getD d.toNat ((0:Int),(0:Int)))
    let i:=FM8 .i64 (d+1)
    chk none ((decide ((0:Int)≤i))&&(decide (i≤(a.length:Int)))&&(decide ((a.length:Int)≤(a.length:Int))))<|
    let j:(List (Int×Int)):=((a.take (a.length:Int).toNat).drop i.toNat)
    Option.bind (
     LP.lp (X:=(Bool×(Int×Int))) (fun (k:BK9)=>
      let l:=k.1
      let m:=k.2.1
      let n:=k.2.2.1
      let o:=k.2.2.2
      let p:=decide (o<j.length)
      (bif p then
       chk none (decide (0≤o)&&decide (o<j.length))<|
       let q:(Int×Int):=(j.getD o.toNat ((0:Int),(0:Int)))
       (R0 h q).bind fun r=>
       let s:=(bif r.2 then l else false)
       Option.bind (
        (bif s then
         (X7 (n,m) r.1).bind fun t=>
         some (t.2,t.1,l)
        else
         Option.bind (
          (bif r.2 then
           some (r.1.1,r.1.2,true)
          else
           some (n,m,l))) fun u=>
         let v:=u.1
         let w:=u.2.1
         let y:=u.2.2
         some (w,v,y))) fun a0=>
       let a1:=a0.1
       let a2:=a0.2.1
       let a3:=a0.2.2
       let a4:=FM8 .i64 (o+1)
       some (.inl (a3,a1,a2,a4))
      else
       some (.inr (l,m,n)))) (c,e,f,(0:Int))) fun a5=>
    let a6:=a5.1
    let a7:=a5.2.1
    let a8:=a5.2.2
    let a9:=FM8 .i64 (d+1)
    some (.inl (a6,a9,a7,a8))
   else
    some (.inr (c,e,f)))) (false,(0:Int),(0:Int),(0:Int))) fun b0=>
 let b1:=b0.1
 let b2:=b0.2.1
 let b3:=b0.2.2
 let b4:(Int×Int):=(b3,b2)
 some (b4,b1)
noncomputable def Bx0:Con:={f:=154,ps:=[.dat (.slice (.agg (.pair tI tI)))],boxes:=[],ins:=(.slice (.agg (.pair tI tI))),nin:=1,outs:=(.pair (.agg (.pair tI tI)) .bool),rs:=[.dat (.agg (.pair tI tI)),.dat .bool],A2:=2,F:=fun x=>AH6 x}
theorem EC4:KO Bx0:=
 cgp (l:=[AH4,Ab1]) (.mk .plain [H0,(.mk .plain [H0,(.mk .plain [H0,(.mk .plain [(.mk .plain [H0,(.mk .plain [(.mk (.loop [sB 5,sI 14,kI 1 1,kI 1 0] (zP [30,36,42,39,45,11,17,23,20,26,29,35,32,38,41,44,7,10,16,19,22,28,25,31,34,40,37,43,46,9,6,15,21,18,24,27,33]) [(.exit 0,[sB 5,kI 1 1,kI 1 0])]) [(.mk .plain [H0,(.mk .plain [H0,(.mk .plain [(.mk .plain [(.mk .plain [H0,(.mk .plain [H0,(.mk .plain [(.mk (.loop [sB 5,kI 1 1,kI 1 0,sI 24] (zP [30,36,42,39,45,11,26,29,35,32,38,41,44,10,28,25,31,34,40,37,43,9,27,33]) [(.exit 2,[sB 5,kI 1 1,kI 1 0])]) [(.mk .plain [H0,(.mk .plain [H0,(.mk .plain [(.mk .plain [(.mk .plain [H0,(.mk .plain [H0,(.mk .plain [(.mk .plain [H0,(.mk (.join (zP [41,39,40,42,44,43]) [(.normal,[kI 1 1,kI 1 0,sB 5])]) [H0,(.mk .plain [H0,(.mk (.join [(0,44)] [(.normal,[kI 1 0,kI 1 1,sB 5])]) [])])])])])])])])])])])])])])])])])])])])])])])])])]) (by simp[AN7,Al8]) Tryz.func154
noncomputable def AH7 [LP](a:(List (Int×Int))):Option DI4:=
 (AH5 a).bind fun b=>
 (bif b.2 then
  some (b.1,true,true)
 else
  let c:=(decide ((a.length:Int)<(3:Int)))
  (bif c then
   let d:(Int×Int):=((0:Int),(0:Int))
   some (d,false,false)
  else
   (AH6 a).bind fun e=>
   some (e.1,e.2,false)))
noncomputable def Bx1:Con:={f:=103,ps:=[.dat (.slice (.agg (.pair tI tI)))],boxes:=[],ins:=(.slice (.agg (.pair tI tI))),nin:=1,outs:=DI3,rs:=[.dat (.agg (.pair tI tI)),.dat .bool,.dat .bool],A2:=3,F:=fun x=>AH7 x}
theorem EC5:KO Bx1:=
 cgp (l:=[Bw9,Bx0]) H0 (by simp[EC3,EC4]) Tryz.func103
noncomputable def AN9 [LP](a:(Int×Int))(b c d:Int)(e f:Bool)(g h:Int):Option Cc4:=
 (R0 (b,c) a).bind fun i=>
 (bif (!i.2) then
  some (b,c,d,e,true,g,h)
 else
  some (i.1.1,i.1.2,d,e,f,g,h))
noncomputable def Bx2:Con:={f:=104,ps:=[.ref 0 0,.dat (.agg (.pair tI tI))],boxes:=[[dI,dI,dI,.dat .bool,.dat .bool,dI,dI]],ins:=DI5,nin:=8,outs:=Bh2,rs:=[],A2:=7,F:=fun x=>AN9 x.1 x.2.1 x.2.2.1 x.2.2.2.1 x.2.2.2.2.1 x.2.2.2.2.2.1 x.2.2.2.2.2.2.1 x.2.2.2.2.2.2.2}
theorem EC6:KO Bx2:=
 cgp (l:=[AH4]) H0 (by simp[AN7]) Tryz.func104
noncomputable def AH8 [LP](a:(Int×Int))(b:(List (Int×Int))):Option (List Int):=
 Option.bind (
  LP.lp (X:=(List Int)) (fun (c:((List Int)×Int))=>
   let d:(List Int):=c.1
   let e:=c.2
   let f:=decide (e<b.length)
   (bif f then
    chk none (decide (0≤e)&&decide (e<b.length))<|
    let g:(Int×Int):=(b.getD e.toNat ((0:Int),(0:Int)))
    (R0 a g).bind fun h=>
    Option.bind (
     (bif (!h.2) then
      chk none (decide ((d.length+([e]:List Int).length)*8≤140737488355328))<|
      let i:(List Int):=(d++([e]:List Int))
      some i
     else
      some d)) fun j=>
    let k:=FM8 .i64 (e+1)
    some (.inl (j,k))
   else
    some (.inr d))) ([],(0:Int))) fun l=>
 some l
noncomputable def Bx3:Con:={f:=105,ps:=[.dat (.agg (.pair tI tI)),.dat (.slice (.agg (.pair tI tI)))],boxes:=[],ins:=DI6,nin:=2,outs:=(.slice tI),rs:=[.dat (.slice tI)],A2:=1,F:=fun x=>AH8 x.1 x.2}
theorem EC7:KO Bx3:=
 cgp (l:=[AH4]) (.mk .plain [H0,(.mk .plain [H0,(.mk .plain [(.mk .plain [H0,(.mk .plain [(.mk (.loop [⟨.slot 5,(.slice tI),some 2800003⟩,sI 12] (zP [7,16,13,19,22,28,25,8,14,17,23,20,26,29,9,6,15,21,18,24,27]) [(.exit 0,[⟨.slot 5,(.slice tI),some 2800003⟩])]) [(.mk .plain [H0,(.mk .plain [H0,(.mk .plain [(.mk .plain [(.mk .plain [H0,(.mk .plain [H0,(.mk .plain [H0,(.mk (.join (zP [25,26,27,28]) [(.normal,[⟨.slot 5,(.slice tI),some 2800003⟩])]) [])])])])])])])])])])])])])]) (by simp[AN7]) Tryz.func105
noncomputable def An0 [LP](a b:Int):Option Int:=
 let c:=((bits .i64 .xor a b).fdiv (2 ^ 1))
 let d:=FM8 .i64 ((bits .i64 .and a b)+c)
 some d
noncomputable def Bx4:Con:={f:=113,ps:=[dI,dI],boxes:=[],ins:=(.pair tI tI),nin:=2,outs:=tI,rs:=[dI],A2:=1,F:=fun x=>An0 x.1 x.2}
theorem EC8:KO Bx4:=
 cgp (l:=[]) H0 (by simp) Tryz.func113
noncomputable def AA7 [LP](a:(Int×Int)):Option Int:=
 (An0 a.1 a.2).bind fun b=>
 some b
noncomputable def AV2:Con:={f:=72,ps:=[.dat (.agg (.pair tI tI))],boxes:=[],ins:=(.agg (.pair tI tI)),nin:=1,outs:=tI,rs:=[dI],A2:=1,F:=fun x=>AA7 x}
theorem An1:KO AV2:=
 cgp (l:=[Bx4]) H0 (by simp[EC8]) Tryz.func72
noncomputable def An2 [LP](a b:(Int×Int)):Option Int:=
 let c:=decide (b.2<a.1)
 (AA7 b).bind fun d=>
 let e:=decide (d<(0:Int))
 Option.bind (
  (bif e then
   let f:=decide (a.2<b.1)
   some f
  else
   some c)) fun g=>
 (bif g then
  some (1:Int)
 else
  some (-1:Int))
noncomputable def Bx5:Con:={f:=106,ps:=[.dat (.agg (.pair tI tI)),.dat (.agg (.pair tI tI))],boxes:=[],ins:=X4,nin:=2,outs:=tI,rs:=[dI],A2:=1,F:=fun x=>An2 x.1 x.2}
theorem EC9:KO Bx5:=
 cgp (l:=[AV2]) (.mk .plain [H0,(.mk .plain [H0,(.mk .plain [(.mk .plain [H0,(.mk (.join (zP [15,16,18,14,17]) [(.normal,[sB 5])]) [])])])])]) (by simp[An1]) Tryz.func106
noncomputable def AA8 [LP](a:(Int×Int))(b:BL5)(c:(Bool×(Int×Int))):Option Aj1:=
 (Az4 b).bind fun d=>
 let e:Aj1:=(a,((d.length:Int),(false,(false,((0:Int),(0:Int))))))
 let pA:=e.2.2.2.2
 (AH7 d).bind fun f=>
 let g:=((d.length:Int)==(3:Int))
 let h:=(bif f.2.2 then g else false)
 Option.bind (
  (bif f.2.1 then
   (AN9 f.1 e.1.1 e.1.2 e.2.1 h e.2.2.2.1 pA.1 pA.2).bind fun i=>
   let pB:=i.2.2.2.2
   some (pB.2.1,pB.1,i.2.1,i.1,pB.2.2,i.2.2.2.1,i.2.2.1)
  else
   let j:=(decide ((0:Int)<(d.length:Int)))
   Option.bind (
    (bif j then
     some true
    else
     some e.2.2.2.1)) fun k=>
   some (pA.1,k,e.1.2,e.1.1,pA.2,h,e.2.1))) fun l=>
 let pC:=l.2.2.2.2
 let m:=l.1
 let n:=l.2.1
 let o:=l.2.2.1
 let p:=l.2.2.2.1
 let q:=pC.1
 let r:=pC.2.1
 let s:=pC.2.2
 Option.bind (
  (bif c.1 then
   (AN9 c.2 p o s r n m q).bind fun t=>
   let pD:=t.2.2.2.2
   some (pD.2.1,pD.1,t.2.1,t.1,pD.2.2,t.2.2.2.1,t.2.2.1)
  else
   some (m,n,o,p,q,r,s))) fun u=>
 let pE:=u.2.2.2.2
 let v:=u.1
 let w:=u.2.1
 let y:=u.2.2.1
 let a0:=u.2.2.2.1
 let a1:=pE.1
 let a2:=pE.2.1
 let a3:=pE.2.2
 let a4:=(bif f.2.1 then (!f.2.2) else false)
 Option.bind (
  (bif a4 then
   let a5:(List (Int×Int)):=([b.1.2,b.2.1.2]:List (Int×Int))
   (AH8 f.1 a5).bind fun a6=>
   Option.bind (
    LP.lp (X:=Ce7) (fun (a7:DJ1)=>
     let pF:=a7.2.2.2.2
     let a8:=a7.1
     let a9:=a7.2.1
     let b0:=a7.2.2.1
     let b1:=a7.2.2.2.1
     let b2:=pF.1
     let b3:=pF.2.1
     let b4:=pF.2.2.1
     let b5:=pF.2.2.2
     let b6:=decide (b5<a6.length)
     (bif b6 then
      chk none (decide (0≤b5)&&decide (b5<a6.length))<|
      let b7:=(a6.getD b5.toNat 0)
      chk none ((decide ((0:Int)≤b7))&&(decide (b7<(3:Int))))<|
      let b8:(Int×Int):=(FM9 [b.1.2,b.2.1.2,b.2.2.2] b7.toNat ((0:Int),(0:Int)))
      (An2 b8 f.1).bind fun b9=>
      chk none ((decide ((0:Int)≤b7))&&(decide (b7<(2:Int))))<|
      let c0:=FM8 .i64 (b5+1)
      some (.inl (a8,a9,b0,(bif (b7==(0:Int)) then b9 else b1),b2,(bif (b7==(1:Int)) then b9 else b3),b4,c0))
     else
      some (.inr (a8,a9,b0,b1,b2,b3,b4)))) (w,y,a3,v,a0,a1,a2,(0:Int))) fun c1=>
   let pG:=c1.2.2.2.2
   let c2:=c1.1
   let c3:=c1.2.1
   let c4:=c1.2.2.1
   let c5:=c1.2.2.2.1
   let c6:=pG.1
   let c7:=pG.2.1
   let c8:=pG.2.2
   some (c2,c3,c4,c5,c6,c7,c8)
  else
   some (w,y,a3,v,a0,a1,a2))) fun c9=>
 let pH:=c9.2.2.2.2
 let d0:=c9.1
 let d1:=c9.2.1
 let d2:=c9.2.2.1
 let d3:=c9.2.2.2.1
 let d4:=pH.1
 let d5:=pH.2.1
 let d6:=pH.2.2
 let d7:Aj1:=((d4,d1),(d2,(d6,(d0,(d3,d5)))))
 some d7
noncomputable def Bx6:Con:={f:=68,ps:=[.dat (.agg (.pair tI tI)),.dat (.agg Aj0),.dat (.agg (.pair .bool (.agg (.pair tI tI))))],boxes:=[],ins:=DJ3,nin:=3,outs:=(.agg AR5),rs:=[.dat (.agg AR5)],A2:=1,F:=fun x=>AA8 x.1 x.2.1 x.2.2}
theorem ED0:KO Bx6:=
 cgp (l:=[Bw8,Bx1,Bx2,Bx3,Bx5]) (.mk .plain [H0,(.mk .plain [H0,(.mk .plain [H0,(.mk .plain [H0,(.mk .plain [H0,(.mk .plain [(.mk .plain [(.mk .plain [H0,(.mk (.join (zP [36,35,41,39,40,37,38]) [(.normal,[kI 4 5,kB 4 4,kI 4 1,kI 4 0,kI 4 6,kB 4 3,kI 4 2])]) [H0,(.mk .plain [H0,(.mk (.join [(0,41)] [(.normal,[kB 4 4])]) [])])])])]),(.mk .plain [(.mk .plain [H0,(.mk (.join (zP [46,45,44]) [(.normal,[kI 4 5,kB 4 4,kI 4 1,kI 4 0,kI 4 6,kB 4 3,kI 4 2])]) [])]),(.mk .plain [(.mk .plain [H0,(.mk (.join (zP [68,65,71,74,13,54,57,60,66,63,69,72,75,52,55,61,58,64,67,73,70,53,59,56,62]) [(.normal,[kB 4 4,kI 4 1,kI 4 2,kI 4 5,kI 4 0,kI 4 6,kB 4 3])]) [(.mk .plain [H0,(.mk .plain [(.mk (.loop [kB 4 4,kI 4 1,kI 4 2,kI 4 5,kI 4 0,kI 4 6,kB 4 3,sI 62] (zP [68,65,71,74,13,66,63,69,72,75,64,67,73,70]) [(.exit 1,[kB 4 4,kI 4 1,kI 4 2,kI 4 5,kI 4 0,kI 4 6,kB 4 3])]) [])])])])])])])])])])])])]) (by simp[EC2,EC5,EC6,EC7,EC9]) Tryz.func68
noncomputable def AV3 [LP](a:AF6)(b c d e f g h i j k l m n o:Int)(p:(List Yd1))(q:(List Yd3))(r:Bool)(s t u:Int)(v:(List Int))(w:Bool)(y a0:Int)(a1:Bool)(a2 a3 a4 a5 a6 a7 a8 a9 b0:Int)(b1:Bool)(b2 b3 b4 b5 b6:Int)(b7:(List G9))(b8:Bool)(b9 c0 c1 c2 c3:Int)(c4 c5 c6:Bool)(c7 c8 c9 d0:Int)(d1:Bool):Option DJ5:=
 (AD4 (0:Int) a b c d e f g h i j k l m n o p q r s t u v w y a0 a1 a2 a3 a4 a5 a6 a7 a8 a9 b0 b1 b2 b3 b4 b5 b6 b7 b8 b9 c0 c1 c2 c3 c4 c5 c6 c7 c8 c9 d0 d1).bind fun d2=>
 let pA:=d2.2.2.2.2
 let pC:=pA.2.2.2.2
 let pE:=pC.2.2.2.2
 let pG:=pE.2.2.2.2
 let pI:=pG.2.2.2.2
 let pK:=pI.2.2.2.2
 let pM:=pK.2.2.2.2
 let pO:=pM.2.2.2.2
 let pQ:=pO.2.2.2.2
 let pS:=pQ.2.2.2.2
 let pU:=pS.2.2.2.2
 let pW:=pU.2.2.2.2
 let pY:=pW.2.2.2.2
 (AD4 (1:Int) a d2.2.1 d2.2.2.1 d2.2.2.2.1 pA.1 pA.2.1 pA.2.2.1 pA.2.2.2.1 pC.1 pC.2.1 pC.2.2.1 pC.2.2.2.1 pE.1 pE.2.1 pE.2.2.1 pE.2.2.2.1 pG.1 pG.2.1 pG.2.2.1 pG.2.2.2.1 pI.1 pI.2.1 pI.2.2.1 pI.2.2.2.1 pK.1 pK.2.1 pK.2.2.1 pK.2.2.2.1 pM.1 pM.2.1 pM.2.2.1 pM.2.2.2.1 pO.1 pO.2.1 pO.2.2.1 pO.2.2.2.1 pQ.1 pQ.2.1 pQ.2.2.1 pQ.2.2.2.1 pS.1 pS.2.1 pS.2.2.1 pS.2.2.2.1 pU.1 pU.2.1 pU.2.2.1 pU.2.2.2.1 pW.1 pW.2.1 pW.2.2.1 pW.2.2.2.1 pY.1 pY.2.1 pY.2.2.1 pY.2.2.2).bind fun d3=>
 let pB:=d3.2.2.2.2
 let pD:=pB.2.2.2.2
 let pF:=pD.2.2.2.2
 let pH:=pF.2.2.2.2
 let pJ:=pH.2.2.2.2
 let pL:=pJ.2.2.2.2
 let pN:=pL.2.2.2.2
 let pP:=pN.2.2.2.2
 let pR:=pP.2.2.2.2
 let pT:=pR.2.2.2.2
 let pV:=pT.2.2.2.2
 let pX:=pV.2.2.2.2
 let pZ:=pX.2.2.2.2
 (AU6 d3.2.1 d3.2.2.1 d3.2.2.2.1 pB.1 pB.2.1 pB.2.2.1 pB.2.2.2.1 pD.1 pD.2.1 pD.2.2.1 pD.2.2.2.1 pF.1 pF.2.1 pF.2.2.1 pF.2.2.2.1 pH.1 pH.2.1 pH.2.2.1 pH.2.2.2.1 pJ.1 pJ.2.1 pJ.2.2.1 pJ.2.2.2.1 pL.1 pL.2.1 pL.2.2.1 pL.2.2.2.1 pN.1 pN.2.1 pN.2.2.1 pN.2.2.2.1 pP.1 pP.2.1 pP.2.2.1 pP.2.2.2.1 pR.1 pR.2.1 pR.2.2.1 pR.2.2.2.1 pT.1 pT.2.1 pT.2.2.1 pT.2.2.2.1 pV.1 pV.2.1 pV.2.2.1 pV.2.2.2.1 pX.1 pX.2.1 pX.2.2.1 pX.2.2.2.1 pZ.1 pZ.2.1 pZ.2.2.1 pZ.2.2.2 a).bind fun d4=>
 let d5:BL5:=(d2.1,(d3.1,d4))
 let d6:F2:=(d3.2.1,(d3.2.2.1,(d3.2.2.2.1,(pB.1,(pB.2.1,(pB.2.2.1,(pB.2.2.2.1,(pD.1,(pD.2.1,(pD.2.2.1,(pD.2.2.2.1,(pF.1,(pF.2.1,pF.2.2.1)))))))))))))
 let d7:(Int×Int):=(pP.1,pP.2.1)
 (Ac4 d6 d7).bind fun d8=>
 (AV1 d3.2.1 d3.2.2.1 d3.2.2.2.1 pB.1 pB.2.1 pB.2.2.1 pB.2.2.2.1 pD.1 pD.2.1 pD.2.2.1 pD.2.2.2.1 pF.1 pF.2.1 pF.2.2.1 pF.2.2.2.1 pH.1 pH.2.1 pH.2.2.1 pH.2.2.2.1 pJ.1 pJ.2.1 pJ.2.2.1 pJ.2.2.2.1 pL.1 pL.2.1 pL.2.2.1 pL.2.2.2.1 pN.1 pN.2.1 pN.2.2.1 pN.2.2.2.1 pP.1 pP.2.1 pP.2.2.1 pP.2.2.2.1 pR.1 pR.2.1 pR.2.2.1 pR.2.2.2.1 pT.1 pT.2.1 pT.2.2.1 pT.2.2.2.1 pV.1 pV.2.1 pV.2.2.1 pV.2.2.2.1 pX.1 pX.2.1 pX.2.2.1 pX.2.2.2.1 pZ.1 pZ.2.1 pZ.2.2.1 pZ.2.2.2 a).bind fun d9=>
 (AA8 d8 d5 d9).bind fun e0=>
 some (e0,d3.2.1,d3.2.2.1,d3.2.2.2.1,pB.1,pB.2.1,pB.2.2.1,pB.2.2.2.1,pD.1,pD.2.1,pD.2.2.1,pD.2.2.2.1,pF.1,pF.2.1,pF.2.2.1,pF.2.2.2.1,pH.1,pH.2.1,pH.2.2.1,pH.2.2.2.1,pJ.1,pJ.2.1,pJ.2.2.1,pJ.2.2.2.1,pL.1,pL.2.1,pL.2.2.1,pL.2.2.2.1,pN.1,pN.2.1,pN.2.2.1,pN.2.2.2.1,pP.1,pP.2.1,pP.2.2.1,pP.2.2.2.1,pR.1,pR.2.1,pR.2.2.1,pR.2.2.2.1,pT.1,pT.2.1,pT.2.2.1,pT.2.2.2.1,pV.1,pV.2.1,pV.2.2.1,pV.2.2.2.1,pX.1,pX.2.1,pX.2.2.1,pX.2.2.2.1,pZ.1,pZ.2.1,pZ.2.2.1,pZ.2.2.2)
noncomputable def BP5:Con:={f:=40,ps:=[.ref 0 0,.dat (.agg X6)],boxes:=[[dI,dI,dI,dI,dI,dI,dI,dI,dI,dI,dI,dI,dI,dI,.dat (.slice (.agg Yt1)),.dat (.slice (.agg Yt3)),.dat .bool,dI,dI,dI,.dat (.slice tI),.dat .bool,.dat (.int .u16),dI,.dat .bool,.dat (.int .u16),dI,dI,dI,dI,dI,dI,dI,dI,.dat .bool,dI,dI,dI,dI,dI,.dat (.slice (.agg H8)),.dat .bool,dI,dI,dI,dI,dI,.dat .bool,.dat .bool,.dat .bool,dI,dI,dI,dI,.dat .bool]],ins:=Bi9,nin:=56,outs:=DJ4,rs:=[.dat (.agg AR5)],A2:=56,F:=fun x=>let a:=x.2.2.2.2.2.2.2.2;let b:=a.2.2.2.2.2.2.2.2;let c:=b.2.2.2.2.2.2.2.2;let d:=c.2.2.2.2.2.2.2.2;let e:=d.2.2.2.2.2.2.2.2;let f:=e.2.2.2.2.2.2.2.2;AV3 x.1 x.2.1 x.2.2.1 x.2.2.2.1 x.2.2.2.2.1 x.2.2.2.2.2.1 x.2.2.2.2.2.2.1 x.2.2.2.2.2.2.2.1 x.2.2.2.2.2.2.2.2.1 a.2.1 a.2.2.1 a.2.2.2.1 a.2.2.2.2.1 a.2.2.2.2.2.1 a.2.2.2.2.2.2.1 a.2.2.2.2.2.2.2.1 a.2.2.2.2.2.2.2.2.1 b.2.1 b.2.2.1 b.2.2.2.1 b.2.2.2.2.1 b.2.2.2.2.2.1 b.2.2.2.2.2.2.1 b.2.2.2.2.2.2.2.1 b.2.2.2.2.2.2.2.2.1 c.2.1 c.2.2.1 c.2.2.2.1 c.2.2.2.2.1 c.2.2.2.2.2.1 c.2.2.2.2.2.2.1 c.2.2.2.2.2.2.2.1 c.2.2.2.2.2.2.2.2.1 d.2.1 d.2.2.1 d.2.2.2.1 d.2.2.2.2.1 d.2.2.2.2.2.1 d.2.2.2.2.2.2.1 d.2.2.2.2.2.2.2.1 d.2.2.2.2.2.2.2.2.1 e.2.1 e.2.2.1 e.2.2.2.1 e.2.2.2.2.1 e.2.2.2.2.2.1 e.2.2.2.2.2.2.1 e.2.2.2.2.2.2.2.1 e.2.2.2.2.2.2.2.2.1 f.2.1 f.2.2.1 f.2.2.2.1 f.2.2.2.2.1 f.2.2.2.2.2.1 f.2.2.2.2.2.2.1 f.2.2.2.2.2.2.2}
theorem ED1:KO BP5:=
 cgp (l:=[Bv5,Bv9,Bw0,Bw7,Bx6]) H0 (by simp[EB0,EB3,EB4,EC1,ED0]) Tryz.func40
noncomputable def An3 [LP](a:Int):Option (Int×Bool):=
 (AH1 (0:Int) a).bind fun b=>
 some (b.1,b.2)
noncomputable def Bx7:Con:={f:=112,ps:=[dI],boxes:=[],ins:=tI,nin:=1,outs:=(.pair tI .bool),rs:=[dI,.dat .bool],A2:=2,F:=fun x=>An3 x}
theorem ED2:KO Bx7:=
 cgp (l:=[Am7]) H0 (by simp[Az0]) Tryz.func112
noncomputable def Ac8 [LP](a:Int):Option (Int×Bool):=
 let b:=decide (a<(0:Int))
 (bif b then
  (An3 a).bind fun c=>
  some (c.1,c.2)
 else
  some (a,true))
noncomputable def Bx8:Con:={f:=71,ps:=[dI],boxes:=[],ins:=tI,nin:=1,outs:=(.pair tI .bool),rs:=[dI,.dat .bool],A2:=2,F:=fun x=>Ac8 x}
theorem ED3:KO Bx8:=
 cgp (l:=[Bx7]) H0 (by simp[ED2]) Tryz.func71
noncomputable def Ac9 [LP](a b:(Int×Int)):Option Bool:=
 (Q7 a).bind fun c=>
 let d:=(bif (decide (b.1≤a.1)) then (decide (a.2≤b.2)) else false)
 let e:=(bif (!c) then true else d)
 some e
noncomputable def BP6:Con:={f:=114,ps:=[.dat (.agg (.pair tI tI)),.dat (.agg (.pair tI tI))],boxes:=[],ins:=X4,nin:=2,outs:=.bool,rs:=[.dat .bool],A2:=1,F:=fun x=>Ac9 x.1 x.2}
theorem Bx9:KO BP6:=
 cgp (l:=[AC6]) H0 (by simp[AF8]) Tryz.func114
noncomputable def An4 [LP](a b c:Int):Option Int:=
 let d:=(if c<a then c else a)
 let e:=(if d>b then d else b)
 some e
noncomputable def By0:Con:={f:=116,ps:=[dI,dI,dI],boxes:=[],ins:=(.pair tI (.pair tI tI)),nin:=3,outs:=tI,rs:=[dI],A2:=1,F:=fun x=>An4 x.1 x.2.1 x.2.2}
theorem ED4:KO By0:=
 cgp (l:=[]) H0 (by simp) Tryz.func116
noncomputable def AH9 [LP](a:AF7)(b:K7)(c:(Int×Int)):Option DK3:=
 (bif (!a.1) then
  some ((false,((0:Int),(((0:Int),(0:Int)),((0:Int),((0:Int),[]))))),(12:Int))
 else
  (AD5 a.2.2.1 c).bind fun d=>
  let e:(Int×Int):=((-17592186044416:Int),(17592186044416:Int))
  (bif !(!d.2) then Ac9 d.1 e else some false).bind fun f=>
  let g:=(bif (!d.2) then true else (!f))
  (bif g then
   some ((false,((0:Int),(((0:Int),(0:Int)),((0:Int),((0:Int),[]))))),(20:Int))
  else
   (AG8 a.2.2.2.2 b d.1).bind fun h=>
   (bif (h.2 != (0:Int)) then
    some ((false,((0:Int),(((0:Int),(0:Int)),((0:Int),((0:Int),[]))))),h.2)
   else
    (AA7 c).bind fun i=>
    (Ac1 a.2.2.2.1 i).bind fun j=>
    (An4 j d.1.1 d.1.2).bind fun k=>
    let l:AF7:=(a.1,(a.2.1,(d.1,(k,h.1))))
    some (l,(0:Int)))))
noncomputable def By1:Con:={f:=74,ps:=[.dat (.agg Z6),.dat (.agg E1),.dat (.agg (.pair tI tI))],boxes:=[],ins:=DK4,nin:=3,outs:=DK2,rs:=[.dat (.agg Z6),dI],A2:=2,F:=fun x=>AH9 x.1 x.2.1 x.2.2}
theorem ED5:KO By1:=
 cgp (l:=[Ac6,BP6,BO5,AV2,BP0,By0]) H0 (by simp[Am9,Bx9,Dz0,An1,Bv1,ED4]) Tryz.func74
noncomputable def AV4 [LP](a:(Int×Int))(b c d e f g h i j k l m n o:Int)(p:(List Yd1))(q:(List Yd3))(r:Bool)(s t u:Int)(v:(List Int))(w:Bool)(y a0:Int)(a1:Bool)(a2 a3 a4 a5 a6 a7 a8 a9 b0:Int)(b1:Bool)(b2 b3 b4 b5 b6:Int)(b7:(List G9))(b8:Bool)(b9 c0 c1 c2 c3:Int)(c4 c5 c6:Bool)(c7 c8 c9 d0:Int)(d1:Bool):Option DK5:=
 (AA7 a).bind fun d2=>
 (Ac8 d2).bind fun d3=>
 (AD2 b0 d3.1).bind fun d4=>
 let d5:=(bif d3.2 then d4.2 else false)
 Option.bind (
  (bif d5 then
   some (d4.1,false)
  else
   some (b0,true))) fun d6=>
 let d7:=d6.1
 let d8:=d6.2
 Option.bind (
  (bif b1 then
   let d9:AF7:=(b1,(b2,((b3,b4),(b5,(b6,b7)))))
   (AH9 d9 (p,q) a).bind fun e0=>
   let e1:=(bif d8 then true else (e0.2==(20:Int)))
   some (e0.1.2.2.1.2,e0.1.1,e0.1.2.2.2.2.2,e1,e0.1.2.2.2.2.1,e0.1.2.2.1.1,e0.1.2.1,e0.1.2.2.2.1)
  else
   some (b4,b1,b7,d8,b6,b3,b2,b5))) fun e2=>
 let pA:=e2.2.2.2.2
 let e3:=e2.1
 let e4:=e2.2.1
 let e5:(List G9):=e2.2.2.1
 let e6:=e2.2.2.2.1
 let e7:=pA.1
 let e8:=pA.2.1
 let e9:=pA.2.2.1
 let f0:=pA.2.2.2
 some (e6,b,c,d,e,f,g,h,i,j,k,l,m,n,o,p,q,r,s,t,u,v,w,y,a0,a1,a2,a3,a4,a5,a6,a7,a.1,a.2,d7,e4,e9,e8,e3,f0,e7,e5,b8,b9,c0,c1,c2,c3,c4,c5,c6,c7,c8,c9,d0,d1)
noncomputable def BP7:Con:={f:=41,ps:=[.ref 0 0,.dat (.agg (.pair tI tI))],boxes:=[[dI,dI,dI,dI,dI,dI,dI,dI,dI,dI,dI,dI,dI,dI,.dat (.slice (.agg Yt1)),.dat (.slice (.agg Yt3)),.dat .bool,dI,dI,dI,.dat (.slice tI),.dat .bool,.dat (.int .u16),dI,.dat .bool,.dat (.int .u16),dI,dI,dI,dI,dI,dI,dI,dI,.dat .bool,dI,dI,dI,dI,dI,.dat (.slice (.agg H8)),.dat .bool,dI,dI,dI,dI,dI,.dat .bool,.dat .bool,.dat .bool,dI,dI,dI,dI,.dat .bool]],ins:=BL6,nin:=56,outs:=Bj4,rs:=[.dat .bool],A2:=56,F:=fun x=>let a:=x.2.2.2.2.2.2.2.2;let b:=a.2.2.2.2.2.2.2.2;let c:=b.2.2.2.2.2.2.2.2;let d:=c.2.2.2.2.2.2.2.2;let e:=d.2.2.2.2.2.2.2.2;let f:=e.2.2.2.2.2.2.2.2;AV4 x.1 x.2.1 x.2.2.1 x.2.2.2.1 x.2.2.2.2.1 x.2.2.2.2.2.1 x.2.2.2.2.2.2.1 x.2.2.2.2.2.2.2.1 x.2.2.2.2.2.2.2.2.1 a.2.1 a.2.2.1 a.2.2.2.1 a.2.2.2.2.1 a.2.2.2.2.2.1 a.2.2.2.2.2.2.1 a.2.2.2.2.2.2.2.1 a.2.2.2.2.2.2.2.2.1 b.2.1 b.2.2.1 b.2.2.2.1 b.2.2.2.2.1 b.2.2.2.2.2.1 b.2.2.2.2.2.2.1 b.2.2.2.2.2.2.2.1 b.2.2.2.2.2.2.2.2.1 c.2.1 c.2.2.1 c.2.2.2.1 c.2.2.2.2.1 c.2.2.2.2.2.1 c.2.2.2.2.2.2.1 c.2.2.2.2.2.2.2.1 c.2.2.2.2.2.2.2.2.1 d.2.1 d.2.2.1 d.2.2.2.1 d.2.2.2.2.1 d.2.2.2.2.2.1 d.2.2.2.2.2.2.1 d.2.2.2.2.2.2.2.1 d.2.2.2.2.2.2.2.2.1 e.2.1 e.2.2.1 e.2.2.2.1 e.2.2.2.2.1 e.2.2.2.2.2.1 e.2.2.2.2.2.2.1 e.2.2.2.2.2.2.2.1 e.2.2.2.2.2.2.2.2.1 f.2.1 f.2.2.1 f.2.2.2.1 f.2.2.2.2.1 f.2.2.2.2.2.1 f.2.2.2.2.2.2.1 f.2.2.2.2.2.2.2}
theorem ED6:KO BP7:=
 cgp (l:=[AV2,Bx8,Am6,By1]) (.mk .plain [H0,(.mk .plain [H0,(.mk .plain [H0,(.mk .plain [H0,(.mk .plain [H0,(.mk .plain [(.mk .plain [H0,(.mk (.join (zP [36,35,37,38]) [(.normal,[kI 0 33,sB 5])]) [])]),(.mk .plain [(.mk .plain [H0,(.mk (.join (zP [45,48,54,51,57,60,63,11,47,44,50,53,59,56,62,65,10,46,52,49,55,61,58,64]) [(.normal,[kI 0 37,kB 0 34,⟨.cell 0 40,(.slice (.agg H8)),none⟩,sB 5,kI 0 39,kI 0 36,kI 0 35,kI 0 38])]) [])])])])])])])])]) (by simp[An1,ED3,Ay8,ED5]) Tryz.func41
noncomputable def Ad0 [LP](a:Int):Option Bool:=
 some (a != a)
noncomputable def By2:Con:={f:=161,ps:=[dI],boxes:=[],ins:=tI,nin:=1,outs:=.bool,rs:=[.dat .bool],A2:=1,F:=fun x=>Ad0 x}
theorem ED7:KO By2:=
 cgp (l:=[]) H0 (by simp) Tryz.func161
noncomputable def An5 [LP](a b:Int):Option Int:=
 (Ad0 a).bind fun c=>
 (Ad0 b).bind fun d=>
 (bif c then
  (bif d then
   some (0:Int)
  else
   some (-1:Int))
 else
  (bif d then
   some (1:Int)
  else
   (bif (decide (a<b)) then
    some (-1:Int)
   else
    (bif (decide (b<a)) then
     some (1:Int)
    else
     some (0:Int)))))
noncomputable def By3:Con:={f:=120,ps:=[dI,dI],boxes:=[],ins:=(.pair tI tI),nin:=2,outs:=tI,rs:=[dI],A2:=1,F:=fun x=>An5 x.1 x.2}
theorem ED8:KO By3:=
 cgp (l:=[By2]) H0 (by simp[ED7]) Tryz.func120
noncomputable def Ad1 [LP](a:Yd3)(b:Int):Option Int:=
 (An5 a.1 b).bind fun c=>
 some c
noncomputable def By4:Con:={f:=119,ps:=[.dat (.agg Yt3),dI],boxes:=[],ins:=DK6,nin:=2,outs:=tI,rs:=[dI],A2:=1,F:=fun x=>Ad1 x.1 x.2}
theorem ED9:KO By4:=
 cgp (l:=[By3]) H0 (by simp[ED8]) Tryz.func119
noncomputable def Ad2 [LP](a:(List Yd3))(b:Int):Option (Int×Bool):=
 Option.bind (
  LP.lp (X:=Int) (fun (c:(Int×Int))=>
   let d:=c.1
   let e:=c.2
   (bif (decide (e<d)) then
    let f:=FM8 .i64 (e+d)
    let g:=(FM8 .u64 f)
    let h:=FM8 .i64 (g.fdiv (2 ^ 1))
    chk none (decide (0≤h)&&decide (h<a.length))<|
    let i:Yd3:=(a.getD h.toNat ((0:Int),((0:Int),((0:Int),((0:Int),(0:Int))))))
    (Ad1 i b).bind fun j=>
    let k:=decide (j<(0:Int))
    Option.bind (
     (bif k then
      let l:=FM8 .i64 (h+1)
      some (l,d)
     else
      some (e,h))) fun m=>
    let n:=m.1
    let o:=m.2
    some (.inl (o,n))
   else
    some (.inr e))) ((a.length:Int),(0:Int))) fun p=>
 let q:=decide (p<a.length)
 chk none ((decide (0≤p)&&decide (p<a.length))|| !q)<|
 let r:Yd3:=(a.getD p.toNat ((0:Int),((0:Int),((0:Int),((0:Int),(0:Int))))))
 (bif q then Ad1 r b else some (0:Int)).bind fun s=>
 let t:=(bif q then (s==(0:Int)) else false)
 some (p,t)
noncomputable def By5:Con:={f:=118,ps:=[.dat (.slice (.agg Yt3)),dI,.clo 119 [] []],boxes:=[],ins:=DK7,nin:=2,outs:=(.pair tI .bool),rs:=[dI,.dat .bool],A2:=2,F:=fun x=>Ad2 x.1 x.2}
theorem EE0:KO By5:=
 cgp (l:=[By4]) (.mk .plain [H0,(.mk .plain [H0,(.mk .plain [H0,(.mk .plain [(.mk .plain [(.mk (.loop [sI 10,sI 9] (zP [30,16,19,22,28,25,31,34,11,17,23,20,26,29,32,15,21,18,24,27,33]) [(.exit 0,[sI 9])]) [(.mk .plain [H0,(.mk .plain [(.mk .plain [H0,(.mk .plain [H0,(.mk (.join (zP [32,33,34]) [(.normal,[sI 9,sI 10])]) [])])])])])])])])])])]) (by simp[ED9]) Tryz.func118
noncomputable def AO0 [LP](a:K7)(b:Int):Option (Int×Bool):=
 (Ad2 a.2 b).bind fun c=>
 some (c.1,c.2)
noncomputable def By6:Con:={f:=76,ps:=[.dat (.agg E1),dI],boxes:=[],ins:=Bi4,nin:=2,outs:=(.pair tI .bool),rs:=[dI,.dat .bool],A2:=2,F:=fun x=>AO0 x.1 x.2}
theorem EE1:KO By6:=
 cgp (l:=[By5]) H0 (by simp[EE0]) Tryz.func76
noncomputable def Ad3 [LP](a b:(Int×Int)):Option ((Int×Int)×Bool):=
 let c:=(if b.1<(0:Int) then b.1 else (0:Int))
 let d:=(if b.2>(0:Int) then b.2 else (0:Int))
 (AD5 a (c,d)).bind fun e=>
 some (e.1,e.2)
noncomputable def By7:Con:={f:=121,ps:=[.dat (.agg (.pair tI tI)),.dat (.agg (.pair tI tI))],boxes:=[],ins:=X4,nin:=2,outs:=(.pair (.agg (.pair tI tI)) .bool),rs:=[.dat (.agg (.pair tI tI)),.dat .bool],A2:=2,F:=fun x=>Ad3 x.1 x.2}
theorem EE2:KO By7:=
 cgp (l:=[Ac6]) H0 (by simp[Am9]) Tryz.func121
noncomputable def An6 [LP](a:F2)(b:Yd3):Option Int:=
 let c:=FM8 .i64 (b.2.2.2.1+a.2.2.2.2.2.2.2.2.1)
 let d:=FM8 .i64 (c+b.2.2.2.2)
 some d
noncomputable def By8:Con:={f:=163,ps:=[.dat (.agg C4),.dat (.agg Yt3)],boxes:=[],ins:=Bi5,nin:=2,outs:=tI,rs:=[dI],A2:=1,F:=fun x=>An6 x.1 x.2}
theorem EE3:KO By8:=
 cgp (l:=[]) H0 (by simp) Tryz.func163
noncomputable def AO1 [LP](a:F2)(b:K7)(c:AL0)(d:(Int×Int))(e:Int):Option (List Int):=
 (Ab9 c b e).bind fun f=>
 Option.bind (
  LP.lp (X:=(List Int)) (fun (g:((List Int)×Int))=>
   let h:(List Int):=g.1
   let i:=g.2
   let j:=decide (i<f.length)
   (bif j then
    chk none (decide (0≤i)&&decide (i<f.length))<|
    let k:=(f.getD i.toNat 0)
    chk none (decide (0≤e)&&decide (e<b.2.length))<|
    let l:Yd3:=(b.2.getD e.toNat ((0:Int),((0:Int),((0:Int),((0:Int),(0:Int))))))
    (An6 a l).bind fun m=>
    (Ac3 k m).bind fun n=>
    (R0 n.1 d).bind fun o=>
    let p:=(bif n.2 then o.2 else false)
    Option.bind (
     (bif p then
      chk none (decide ((h.length+([k]:List Int).length)*8≤140737488355328))<|
      let q:(List Int):=(h++([k]:List Int))
      some q
     else
      some h)) fun r=>
    let s:=FM8 .i64 (i+1)
    some (.inl (r,s))
   else
    some (.inr h))) ([],(0:Int))) fun t=>
 some t
noncomputable def By9:Con:={f:=122,ps:=[.dat (.agg C4),.dat (.agg E1),.dat (.agg V5),.dat (.agg (.pair tI tI)),dI],boxes:=[],ins:=DL0,nin:=5,outs:=(.slice tI),rs:=[.dat (.slice tI)],A2:=1,F:=fun x=>AO1 x.1 x.2.1 x.2.2.1 x.2.2.2.1 x.2.2.2.2}
theorem EE4:KO By9:=
 cgp (l:=[Bu5,By8,BP3,AH4]) (.mk .plain [H0,(.mk .plain [H0,(.mk .plain [(.mk .plain [H0,(.mk .plain [(.mk (.loop [⟨.slot 11,(.slice tI),some 5200002⟩,sI 23] (zP [30,36,42,39,45,48,51,14,17,26,29,35,32,38,41,47,44,50,53,16,13,28,25,31,34,40,37,43,46,52,49,15,24,27,33]) [(.exit 0,[⟨.slot 11,(.slice tI),some 5200002⟩])]) [(.mk .plain [H0,(.mk .plain [H0,(.mk .plain [(.mk .plain [(.mk .plain [H0,(.mk .plain [H0,(.mk .plain [H0,(.mk .plain [H0,(.mk (.join (zP [52,49,50,51]) [(.normal,[⟨.slot 11,(.slice tI),some 5200002⟩])]) [])])])])])])])])])])])])])])]) (by simp[EA3,EE3,Bv7,AN7]) Tryz.func122
noncomputable def AO2 [LP](a:AF7)(b:(Int×Int))(c d e f g h i j k l m n o p q:Int)(r:(List Yd1))(s:(List Yd3))(t:Bool)(u v w:Int)(y:(List Int))(a0:Bool)(a1 a2:Int)(a3:Bool)(a4 a5 a6 a7 a8 a9 b0 b1 b2:Int)(b3:Bool)(b4 b5 b6 b7 b8:Int)(b9:(List G9))(c0:Bool)(c1 c2 c3 c4 c5:Int)(c6 c7 c8:Bool)(c9 d0 d1 d2:Int)(d3:Bool):Option DL2:=
 (Ad3 a.2.2.1 b).bind fun d4=>
 (bif (!d4.2) then
  some ([],d,e,f,g,h,i,j,k,l,m,n,o,p,q,r,s,t,u,v,w,y,a0,a1,a2,a3,a4,a5,a6,a7,a8,a9,b0,b1,b2,b3,b4,b5,b6,b7,b8,b9,c0,c1,c2,c3,c4,c5,c6,c7,c8,c9,d0,d1,d2,d3)
 else
  let d5:F2:=(d,(e,(f,(g,(h,(i,(j,(k,(l,(m,(n,(o,(p,q)))))))))))))
  (AO1 d5 (r,s) (b8,b9) d4.1 c).bind fun d6=>
  some (d6,d,e,f,g,h,i,j,k,l,m,n,o,p,q,r,s,t,u,v,w,y,a0,a1,a2,a3,a4,a5,a6,a7,a8,a9,b0,b1,b2,b3,b4,b5,b6,b7,b8,b9,c0,c1,c2,c3,c4,c5,c6,c7,c8,c9,d0,d1,d2,d3))
noncomputable def Bz0:Con:={f:=77,ps:=[.ref 0 0,.dat (.agg Z6),.dat (.agg (.pair tI tI)),dI],boxes:=[[dI,dI,dI,dI,dI,dI,dI,dI,dI,dI,dI,dI,dI,dI,.dat (.slice (.agg Yt1)),.dat (.slice (.agg Yt3)),.dat .bool,dI,dI,dI,.dat (.slice tI),.dat .bool,.dat (.int .u16),dI,.dat .bool,.dat (.int .u16),dI,dI,dI,dI,dI,dI,dI,dI,.dat .bool,dI,dI,dI,dI,dI,.dat (.slice (.agg H8)),.dat .bool,dI,dI,dI,dI,dI,.dat .bool,.dat .bool,.dat .bool,dI,dI,dI,dI,.dat .bool]],ins:=DL4,nin:=58,outs:=DL1,rs:=[.dat (.slice tI)],A2:=56,F:=fun x=>let a:=x.2.2.2.2.2.2.2.2;let b:=a.2.2.2.2.2.2.2.2;let c:=b.2.2.2.2.2.2.2.2;let d:=c.2.2.2.2.2.2.2.2;let e:=d.2.2.2.2.2.2.2.2;let f:=e.2.2.2.2.2.2.2.2;let g:=f.2.2.2.2.2.2.2.2;AO2 x.1 x.2.1 x.2.2.1 x.2.2.2.1 x.2.2.2.2.1 x.2.2.2.2.2.1 x.2.2.2.2.2.2.1 x.2.2.2.2.2.2.2.1 x.2.2.2.2.2.2.2.2.1 a.2.1 a.2.2.1 a.2.2.2.1 a.2.2.2.2.1 a.2.2.2.2.2.1 a.2.2.2.2.2.2.1 a.2.2.2.2.2.2.2.1 a.2.2.2.2.2.2.2.2.1 b.2.1 b.2.2.1 b.2.2.2.1 b.2.2.2.2.1 b.2.2.2.2.2.1 b.2.2.2.2.2.2.1 b.2.2.2.2.2.2.2.1 b.2.2.2.2.2.2.2.2.1 c.2.1 c.2.2.1 c.2.2.2.1 c.2.2.2.2.1 c.2.2.2.2.2.1 c.2.2.2.2.2.2.1 c.2.2.2.2.2.2.2.1 c.2.2.2.2.2.2.2.2.1 d.2.1 d.2.2.1 d.2.2.2.1 d.2.2.2.2.1 d.2.2.2.2.2.1 d.2.2.2.2.2.2.1 d.2.2.2.2.2.2.2.1 d.2.2.2.2.2.2.2.2.1 e.2.1 e.2.2.1 e.2.2.2.1 e.2.2.2.2.1 e.2.2.2.2.2.1 e.2.2.2.2.2.2.1 e.2.2.2.2.2.2.2.1 e.2.2.2.2.2.2.2.2.1 f.2.1 f.2.2.1 f.2.2.2.1 f.2.2.2.2.1 f.2.2.2.2.2.1 f.2.2.2.2.2.2.1 f.2.2.2.2.2.2.2.1 f.2.2.2.2.2.2.2.2.1 g.2}
theorem EE5:KO Bz0:=
 cgp (l:=[By7,By9]) H0 (by simp[EE2,EE4]) Tryz.func77
noncomputable def AV5 [LP](a:AF6)(b:AF7)(c:(Int×Int))(d e f g h i j k l m n o p q:Int)(r:(List Yd1))(s:(List Yd3))(t:Bool)(u v w:Int)(y:(List Int))(a0:Bool)(a1 a2:Int)(a3:Bool)(a4 a5 a6 a7 a8 a9 b0 b1 b2:Int)(b3:Bool)(b4 b5 b6 b7 b8:Int)(b9:(List G9))(c0:Bool)(c1 c2 c3 c4 c5:Int)(c6 c7 c8:Bool)(c9 d0 d1 d2:Int)(d3:Bool):Option DL6:=
 (AD1 a (5:Int)).bind fun d4=>
 (bif (!d4.2) then
  some (((0:Int),([],(true,false))),d,e,f,g,h,i,j,k,l,m,n,o,p,q,r,s,t,u,v,w,y,a0,a1,a2,a3,a4,a5,a6,a7,a8,a9,b0,b1,b2,b3,b4,b5,b6,b7,b8,b9,c0,c1,c2,c3,c4,c5,c6,c7,c8,c9,d0,d1,d2,d3)
 else
  (AO0 (r,s) d4.1).bind fun d5=>
  (bif (!d5.2) then
   some (((0:Int),([],(false,false))),d,e,f,g,h,i,j,k,l,m,n,o,p,q,r,s,t,u,v,w,y,a0,a1,a2,a3,a4,a5,a6,a7,a8,a9,b0,b1,b2,b3,b4,b5,b6,b7,b8,b9,c0,c1,c2,c3,c4,c5,c6,c7,c8,c9,d0,d1,d2,d3)
  else
   Option.bind (
    (bif b3 then
     (AO2 b c d5.1 d e f g h i j k l m n o p q r s t u v w y a0 a1 a2 a3 a4 a5 a6 a7 a8 a9 b0 b1 b2 b3 b4 b5 b6 b7 b8 b9 c0 c1 c2 c3 c4 c5 c6 c7 c8 c9 d0 d1 d2 d3).bind fun d6=>
     let pA:=d6.2.2.2.2
     let pC:=pA.2.2.2.2
     let pE:=pC.2.2.2.2
     let pG:=pE.2.2.2.2
     let pI:=pG.2.2.2.2
     let pK:=pI.2.2.2.2
     let pM:=pK.2.2.2.2
     let pO:=pM.2.2.2.2
     let pQ:=pO.2.2.2.2
     let pS:=pQ.2.2.2.2
     let pU:=pS.2.2.2.2
     let pW:=pU.2.2.2.2
     let pY:=pW.2.2.2.2
     let d7:=(decide ((0:Int)<(d6.1.length:Int)))
     some (pO.1,pS.2.1,pW.2.2.1,d6.2.1,pC.2.2.1,pG.2.2.2.1,d7,pG.1,pK.2.1,pO.2.2.1,pS.2.2.2.1,pY.1,pW.2.1,d6.2.2.2.1,pE.1,pC.2.1,pI.2.1,pG.2.2.1,pK.2.2.2.1,pQ.1,pU.2.1,pS.2.2.1,pW.2.2.2.1,pA.2.1,pE.2.2.1,pC.2.2.2.1,pI.1,d7,pM.2.1,pQ.2.2.1,pO.2.2.2.1,pU.2.2.2.1,pU.1,pY.2.1,pA.2.2.2.1,pA.1,pE.2.1,pI.2.2.1,pM.2.2.2.1,pM.1,pS.1,pQ.2.1,pU.2.2.1,pY.2.2.2,pA.2.2.1,d6.1,pE.2.2.2.1,pK.1,pO.2.1,pM.2.2.1,pQ.2.2.2.1,pW.1,d6.2.2.1,pY.2.2.1,pC.1,pG.2.1,pK.2.2.1,pI.2.2.2.1)
    else
     some (b0,b9,c8,d,m,v,true,s,a3,b2,c1,d0,c7,f,o,l,y,u,a5,b4,c3,c0,c9,h,q,n,w,true,a7,b6,b3,c5,c2,d1,j,g,p,a0,a9,a6,b8,b5,c4,d3,i,[],r,a2,b1,a8,b7,c6,e,d2,k,t,a4,a1))) fun d8=>
   let pB:=d8.2.2.2.2
   let pD:=pB.2.2.2.2
   let pF:=pD.2.2.2.2
   let pH:=pF.2.2.2.2
   let pJ:=pH.2.2.2.2
   let pL:=pJ.2.2.2.2
   let pN:=pL.2.2.2.2
   let pP:=pN.2.2.2.2
   let pR:=pP.2.2.2.2
   let pT:=pR.2.2.2.2
   let pV:=pT.2.2.2.2
   let pX:=pV.2.2.2.2
   let pZ:=pX.2.2.2.2
   let d9:=d8.1
   let e0:(List G9):=d8.2.1
   let e1:=d8.2.2.1
   let e2:=d8.2.2.2.1
   let e3:=pB.1
   let e4:=pB.2.1
   let e5:=pB.2.2.1
   let e6:(List Yd3):=pB.2.2.2.1
   let e7:=pD.1
   let e8:=pD.2.1
   let e9:=pD.2.2.1
   let f0:=pD.2.2.2.1
   let f1:=pF.1
   let f2:=pF.2.1
   let f3:=pF.2.2.1
   let f4:=pF.2.2.2.1
   let f5:(List Int):=pH.1
   let f6:=pH.2.1
   let f7:=pH.2.2.1
   let f8:=pH.2.2.2.1
   let f9:=pJ.1
   let g0:=pJ.2.1
   let g1:=pJ.2.2.1
   let g2:=pJ.2.2.2.1
   let g3:=pL.1
   let g4:=pL.2.1
   let g5:=pL.2.2.1
   let g6:=pL.2.2.2.1
   let g7:=pN.1
   let g8:=pN.2.1
   let g9:=pN.2.2.1
   let h0:=pN.2.2.2.1
   let h1:=pP.1
   let h2:=pP.2.1
   let h3:=pP.2.2.1
   let h4:=pP.2.2.2.1
   let h5:=pR.1
   let h6:=pR.2.1
   let h7:=pR.2.2.1
   let h8:=pR.2.2.2.1
   let h9:=pT.1
   let i0:=pT.2.1
   let i1:=pT.2.2.1
   let i2:=pT.2.2.2.1
   let i3:=pV.1
   let i4:(List Int):=pV.2.1
   let i5:(List Yd1):=pV.2.2.1
   let i6:=pV.2.2.2.1
   let i7:=pX.1
   let i8:=pX.2.1
   let i9:=pX.2.2.1
   let j0:=pX.2.2.2.1
   let j1:=pZ.1
   let j2:=pZ.2.1
   let j3:=pZ.2.2.1
   let j4:=pZ.2.2.2.1
   let j5:=pZ.2.2.2.2.1
   let j6:=pZ.2.2.2.2.2
   let j7:BL7:=(d5.1,(i4,(e5,g6)))
   some (j7,e2,j1,f2,h4,g2,i3,h3,j3,f4,e3,g4,f3,h5,g3,i5,e6,j4,f6,e4,g5,f5,h6,j6,i6,e7,j5,f7,h8,g7,i8,h7,d9,i7,e8,g9,f8,i0,g8,i9,h9,e0,g0,e9,h1,f9,i1,h0,j0,f1,e1,g1,f0,h2,j2,i2)))
noncomputable def BP8:Con:={f:=42,ps:=[.ref 0 0,.dat (.agg X6),.dat (.agg Z6),.dat (.agg (.pair tI tI))],boxes:=[[dI,dI,dI,dI,dI,dI,dI,dI,dI,dI,dI,dI,dI,dI,.dat (.slice (.agg Yt1)),.dat (.slice (.agg Yt3)),.dat .bool,dI,dI,dI,.dat (.slice tI),.dat .bool,.dat (.int .u16),dI,.dat .bool,.dat (.int .u16),dI,dI,dI,dI,dI,dI,dI,dI,.dat .bool,dI,dI,dI,dI,dI,.dat (.slice (.agg H8)),.dat .bool,dI,dI,dI,dI,dI,.dat .bool,.dat .bool,.dat .bool,dI,dI,dI,dI,.dat .bool]],ins:=DL8,nin:=58,outs:=DL5,rs:=[.dat (.agg Aj2)],A2:=56,F:=fun x=>let a:=x.2.2.2.2.2.2.2.2;let b:=a.2.2.2.2.2.2.2.2;let c:=b.2.2.2.2.2.2.2.2;let d:=c.2.2.2.2.2.2.2.2;let e:=d.2.2.2.2.2.2.2.2;let f:=e.2.2.2.2.2.2.2.2;let g:=f.2.2.2.2.2.2.2.2;AV5 x.1 x.2.1 x.2.2.1 x.2.2.2.1 x.2.2.2.2.1 x.2.2.2.2.2.1 x.2.2.2.2.2.2.1 x.2.2.2.2.2.2.2.1 x.2.2.2.2.2.2.2.2.1 a.2.1 a.2.2.1 a.2.2.2.1 a.2.2.2.2.1 a.2.2.2.2.2.1 a.2.2.2.2.2.2.1 a.2.2.2.2.2.2.2.1 a.2.2.2.2.2.2.2.2.1 b.2.1 b.2.2.1 b.2.2.2.1 b.2.2.2.2.1 b.2.2.2.2.2.1 b.2.2.2.2.2.2.1 b.2.2.2.2.2.2.2.1 b.2.2.2.2.2.2.2.2.1 c.2.1 c.2.2.1 c.2.2.2.1 c.2.2.2.2.1 c.2.2.2.2.2.1 c.2.2.2.2.2.2.1 c.2.2.2.2.2.2.2.1 c.2.2.2.2.2.2.2.2.1 d.2.1 d.2.2.1 d.2.2.2.1 d.2.2.2.2.1 d.2.2.2.2.2.1 d.2.2.2.2.2.2.1 d.2.2.2.2.2.2.2.1 d.2.2.2.2.2.2.2.2.1 e.2.1 e.2.2.1 e.2.2.2.1 e.2.2.2.2.1 e.2.2.2.2.2.1 e.2.2.2.2.2.2.1 e.2.2.2.2.2.2.2.1 e.2.2.2.2.2.2.2.2.1 f.2.1 f.2.2.1 f.2.2.2.1 f.2.2.2.2.1 f.2.2.2.2.2.1 f.2.2.2.2.2.2.1 f.2.2.2.2.2.2.2.1 f.2.2.2.2.2.2.2.2.1 g.2}
theorem EE6:KO BP8:=
 cgp (l:=[Am4,By6,Bz0]) (.mk .plain [H0,(.mk .plain [H0,(.mk .plain [H0,(.mk .plain [H0,(.mk .plain [H0,(.mk .plain [H0,(.mk .plain [(.mk .plain [H0,(.mk (.join (zP [45,54,51,47,44,53,46,42,48,41,50,43,52,49]) [(.normal,[kI 0 31,⟨.cell 0 40,(.slice (.agg H8)),none⟩,kB 0 49,kI 0 0,kI 0 9,kI 0 18,kB 5 2,⟨.cell 0 15,(.slice (.agg Yt3)),none⟩,kB 0 24,kI 0 33,kI 0 42,kI 0 51,kB 0 48,kI 0 2,kI 0 11,kI 0 8,⟨.cell 0 20,(.slice tI),none⟩,kI 0 17,kI 0 26,kI 0 35,kI 0 44,kB 0 41,kI 0 50,kI 0 4,kI 0 13,kI 0 10,kI 0 19,kB 5 3,kI 0 28,kI 0 37,kB 0 34,kI 0 46,kI 0 43,kI 0 52,kI 0 6,kI 0 3,kI 0 12,kB 0 21,kI 0 30,kI 0 27,kI 0 39,kI 0 36,kI 0 45,kB 0 54,kI 0 5,⟨.cell 5 1,(.slice tI),none⟩,⟨.cell 0 14,(.slice (.agg Yt1)),none⟩,kI 0 23,kI 0 32,kI 0 29,kI 0 38,kB 0 47,kI 0 1,kI 0 53,kI 0 7,kB 0 16,⟨.cell 0 25,(.int .u16),none⟩,⟨.cell 0 22,(.int .u16),none⟩])]) [])])])])])])])])]) (by simp[Ay7,EE1,EE5]) Tryz.func42
noncomputable def Ad4 [LP](a b:Int):Option AL0:=
 let c:G9:=((1:Int),((0:Int),((0:Int),((0:Int),((0:Int),((0:Int),((0:Int),((0:Int),((0:Int),((0:Int),((0:Int),((0:Int),(0:Int)))))))))))))
 let d:G9:=(c.1,(a,c.2.2))
 let e:AL0:=(b,([d]:List G9))
 some e
noncomputable def Bz1:Con:={f:=123,ps:=[dI,dI],boxes:=[],ins:=(.pair tI tI),nin:=2,outs:=(.agg V5),rs:=[.dat (.agg V5)],A2:=1,F:=fun x=>Ad4 x.1 x.2}
theorem EE7:KO Bz1:=
 cgp (l:=[]) H0 (by simp) Tryz.func123
noncomputable def An7 [LP](a:F2)(b:K7)(c:Int)(d:(Int×Int)):Option AF7:=
 chk none (decide (0≤c)&&decide (c<b.2.length))<|
 let e:Yd3:=(b.2.getD c.toNat ((0:Int),((0:Int),((0:Int),((0:Int),(0:Int))))))
 let f:=FM8 .i64 (e.2.2.2.1+a.2.2.2.2.2.2.2.2.1)
 let g:=FM8 .i64 (0-f)
 let h:=(if d.1<(0:Int) then d.1 else (0:Int))
 let i:=FM8 .i64 (g+h)
 let j:=(if d.2>(0:Int) then d.2 else (0:Int))
 let k:=FM8 .i64 (f+j)
 let l:(Int×Int):=(i,k)
 (AA7 l).bind fun m=>
 (Ad4 e.2.1 e.2.2.1).bind fun n=>
 let o:AF7:=(true,(c,(l,(m,n))))
 some o
noncomputable def Bz2:Con:={f:=78,ps:=[.dat (.agg C4),.dat (.agg E1),dI,.dat (.agg (.pair tI tI))],boxes:=[],ins:=DM0,nin:=4,outs:=(.agg Z6),rs:=[.dat (.agg Z6)],A2:=1,F:=fun x=>An7 x.1 x.2.1 x.2.2.1 x.2.2.2}
theorem EE8:KO Bz2:=
 cgp (l:=[AV2,Bz1]) H0 (by simp[An1,EE7]) Tryz.func78
noncomputable def AO3 [LP](a:(Int×Int))(b c:Int):Option ((Int×Int)×Bool):=
 let d:=decide (a.1≤(0:Int))
 (bif !d then Q7 a else some false).bind fun e=>
 let f:=(bif d then true else (!e))
 let g:=decide (c<(2:Int))
 let h:=(bif f then true else g)
 (bif h then
  let i:(Int×Int):=((0:Int),(0:Int))
  some (i,false)
 else
  let j:=FM8 .i64 (c+1)
  (AD3 a.1 b j).bind fun k=>
  let l:=FM8 .i64 (c-1)
  (AC8 a.2 b l).bind fun m=>
  let n:=(bif (k.2==(0:Int)) then (m.2==(0:Int)) else false)
  let o:(Int×Int):=(k.1,m.1)
  some (o,n))
noncomputable def Bz3:Con:={f:=164,ps:=[.dat (.agg (.pair tI tI)),dI,dI],boxes:=[],ins:=BL3,nin:=3,outs:=(.pair (.agg (.pair tI tI)) .bool),rs:=[.dat (.agg (.pair tI tI)),.dat .bool],A2:=2,F:=fun x=>AO3 x.1 x.2.1 x.2.2}
theorem EE9:KO Bz3:=
 cgp (l:=[AC6,Ay9,Ax5]) H0 (by simp[AF8,BP1,BM9]) Tryz.func164
noncomputable def AA9 [LP](a b:(Int×Int))(c d:Int):Option ((Int×Int)×Bool):=
 let e:=decide (d<(0:Int))
 let f:=decide ((-4611686018427387904:Int)<d)
 let g:=(bif e then f else false)
 Option.bind (α:=(Int×(Bool×Int)) ⊕ Yd3) (
  (bif g then
   (AN8 ((0:Int),(0:Int)) b).bind fun h=>
   (bif (!h.2) then
    some (.inl (a.2,false,a.1))
   else
    let i:=FM8 .i64 (0-d)
    some (.inr ((0:Int),(0:Int),h.1.2,i,h.1.1)))
  else
   some (.inr ((0:Int),(0:Int),b.2,d,b.1)))) fun z=>match z with
 | .inl j=>
  let k:=j.1
  let l:=j.2.1
  let m:=j.2.2
  some ((m,k),l)
 | .inr n=>
  let o:=n.1
  let p:=n.2.1
  let q:=n.2.2.1
  let r:=n.2.2.2.1
  let s:=n.2.2.2.2
  (AO3 (s,q) c r).bind fun t=>
  (bif (!t.2) then
   some (a,false)
  else
   (R0 a t.1).bind fun u=>
   (bif (!u.2) then
    some (a,false)
   else
    some (u.1,true)))
noncomputable def Bz4:Con:={f:=125,ps:=[.dat (.agg (.pair tI tI)),.dat (.agg (.pair tI tI)),dI,dI],boxes:=[],ins:=DM1,nin:=4,outs:=(.pair (.agg (.pair tI tI)) .bool),rs:=[.dat (.agg (.pair tI tI)),.dat .bool],A2:=2,F:=fun x=>AA9 x.1 x.2.1 x.2.2.1 x.2.2.2}
theorem EF0:KO Bz4:=
 cgp (l:=[Az3,Bz3,AH4]) (.mk .plain [H0,(.mk .plain [(.mk .plain [H0,(.mk (.join [(0,10),(0,22),(0,28),(0,25),(0,11),(0,23),(0,26),(0,29),(0,9),(0,21),(0,24),(0,27),(0,30),(2,1),(0,31),(0,3),(2,0),(0,32)] [(.ret,[kI 2 1,sB 9,kI 2 0]),(.normal,[kI 2 1,kI 2 0,kI 1 1,sI 3,kI 1 0])]) [])])])]) (by simp[BP4,EE9,AN7]) Tryz.func125
end Go.Proofs.YthfjpkdadjemcaaGreat
