/- The functional reading of the code (printed). -/
import Derived.Test.YthfjpkdadjemcaaGreatFnsF
import Derived.Test.YthfjpkdadjemcaaGreatPlcC
set_option linter.unusedSimpArgs false
set_option linter.unusedVariables false
namespace Go.Proofs.YthfjpkdadjemcaaGreat
open Go
noncomputable def AT2 [LP](a:Int)(b:(List Int))(c d e f g h:Bool)(i j k l m n o p q r:Int):Option Cv2:=
 (AS5 b).bind fun s=>
 Option.bind (
  (bif (s.2 != (0:Int)) then
   let t:=IntKind.wrap .i64 (o+1)
   some (t,c,i,f,l,r,e,h,n,k,q,d,g,j,p,m)
  else
   Option.bind (
    (bif (s.1.2.1 != a) then
     let u:=IntKind.wrap .i64 (p+1)
     some (u,c,i,f,l,o,r,e,h,n,k,q,d,g,j,m)
    else
     chk none ((decide ((0:Int)≤s.1.1))&&(decide (s.1.1<(6:Int))))<|
     let v:=(List.getD [c,d,e,f,g,h] s.1.1.toNat false)
     Option.bind (
      (bif v then
       let w:=IntKind.wrap .i64 (q+1)
       some (w,e,h,n,k,c,i,f,l,o,r,d,g,j,p,m)
      else
       chk none ((decide ((0:Int)≤s.1.1))&&(decide (s.1.1<(6:Int))))<|
       chk none ((decide ((0:Int)≤s.1.1))&&(decide (s.1.1<(6:Int))))<|
       some (q,(bif (s.1.1==(2:Int)) then true else e),(bif (s.1.1==(5:Int)) then true else h),(bif (s.1.1==(5:Int)) then s.1.2.2 else n),(bif (s.1.1==(2:Int)) then s.1.2.2 else k),(bif (s.1.1==(0:Int)) then true else c),(bif (s.1.1==(0:Int)) then s.1.2.2 else i),(bif (s.1.1==(3:Int)) then true else f),(bif (s.1.1==(3:Int)) then s.1.2.2 else l),o,r,(bif (s.1.1==(1:Int)) then true else d),(bif (s.1.1==(4:Int)) then true else g),(bif (s.1.1==(1:Int)) then s.1.2.2 else j),p,(bif (s.1.1==(4:Int)) then s.1.2.2 else m)))) fun y=>
     let pA:=y.2.2.2.2
     let pD:=pA.2.2.2.2
     let pG:=pD.2.2.2.2
     let a0:=y.1
     let a1:=y.2.1
     let a2:=y.2.2.1
     let a3:=y.2.2.2.1
     let a4:=pA.1
     let a5:=pA.2.1
     let a6:=pA.2.2.1
     let a7:=pA.2.2.2.1
     let a8:=pD.1
     let a9:=pD.2.1
     let b0:=pD.2.2.1
     let b1:=pD.2.2.2.1
     let b2:=pG.1
     let b3:=pG.2.1
     let b4:=pG.2.2.1
     let b5:=pG.2.2.2
     some (b4,a5,a6,a7,a8,a9,b0,a1,a2,a3,a4,a0,b1,b2,b3,b5))) fun b6=>
   let pB:=b6.2.2.2.2
   let pE:=pB.2.2.2.2
   let pH:=pE.2.2.2.2
   let b7:=b6.1
   let b8:=b6.2.1
   let b9:=b6.2.2.1
   let c0:=b6.2.2.2.1
   let c1:=pB.1
   let c2:=pB.2.1
   let c3:=pB.2.2.1
   let c4:=pB.2.2.2.1
   let c5:=pE.1
   let c6:=pE.2.1
   let c7:=pE.2.2.1
   let c8:=pE.2.2.2.1
   let c9:=pH.1
   let d0:=pH.2.1
   let d1:=pH.2.2.1
   let d2:=pH.2.2.2
   some (c2,b8,b9,c0,c1,c3,c4,c5,c6,c7,c8,c9,d0,d1,b7,d2))) fun d3=>
 let pC:=d3.2.2.2.2
 let pF:=pC.2.2.2.2
 let pI:=pF.2.2.2.2
 let d4:=d3.1
 let d5:=d3.2.1
 let d6:=d3.2.2.1
 let d7:=d3.2.2.2.1
 let d8:=pC.1
 let d9:=pC.2.1
 let e0:=pC.2.2.1
 let e1:=pC.2.2.2.1
 let e2:=pF.1
 let e3:=pF.2.1
 let e4:=pF.2.2.1
 let e5:=pF.2.2.2.1
 let e6:=pI.1
 let e7:=pI.2.1
 let e8:=pI.2.2.1
 let e9:=pI.2.2.2
 some (d5,e5,e0,d7,e6,e1,d6,e7,e3,d8,e9,e2,d4,e8,e4,d9)
noncomputable def Bv2:Con:={f:=65,ps:=[.ref 0 0,dI,.dat (.slice (.int .u8))],boxes:=[[.dat .bool,.dat .bool,.dat .bool,.dat .bool,.dat .bool,.dat .bool,dI,dI,dI,dI,dI,dI,dI,dI,dI,dI]],ins:=Cv4,nin:=18,outs:=Bj4,rs:=[],A2:=16,F:=fun x=>let a:=x.2.2.2.2.2.2.2.2;let b:=a.2.2.2.2.2.2.2.2;AT2 x.1 x.2.1 x.2.2.1 x.2.2.2.1 x.2.2.2.2.1 x.2.2.2.2.2.1 x.2.2.2.2.2.2.1 x.2.2.2.2.2.2.2.1 x.2.2.2.2.2.2.2.2.1 a.2.1 a.2.2.1 a.2.2.2.1 a.2.2.2.2.1 a.2.2.2.2.2.1 a.2.2.2.2.2.2.1 a.2.2.2.2.2.2.2.1 a.2.2.2.2.2.2.2.2.1 b.2}
theorem Dx9:A3 Tryz.prog Bv2:=
 cgo (l:=[Bq6]) (o:=[]) (.mk .plain [H0,(.mk .plain [(.mk .plain [H0,(.mk (.join (zP [30,36,35,32,31,34,33,42,39,45,48,54,51,57,60,63,14,17,23,20,26,38,41,47,44,50,53,59,56,62,16,13,19,22,25,40,37,43,46,52,49,55,61,58,15,21,18,24]) [(.normal,[kI 0 12,kB 0 0,kI 0 6,kB 0 3,kI 0 9,kI 0 15,kB 0 2,kB 0 5,kI 0 11,kI 0 8,kI 0 14,kB 0 1,kB 0 4,kI 0 7,kI 0 13,kI 0 10])]) [H0,(.mk .plain [H0,(.mk (.join (zP [46,42,45,48,47,44,43,54,51,57,60,63,14,17,23,20,26,50,53,59,56,62,16,13,19,22,25,52,49,55,61,58,15,21,18,24]) [(.normal,[kI 0 13,kB 0 0,kI 0 6,kB 0 3,kI 0 9,kI 0 12,kI 0 15,kB 0 2,kB 0 5,kI 0 11,kI 0 8,kI 0 14,kB 0 1,kB 0 4,kI 0 7,kI 0 10])]) [H0,(.mk .plain [H0,(.mk (.join (zP [61,58,57,60,63,59,62,16,13,19,22,25,14,17,23,20,26,15,21,18,24]) [(.normal,[kI 0 14,kB 0 2,kB 0 5,kI 0 11,kI 0 8,kB 0 0,kI 0 6,kB 0 3,kI 0 9,kI 0 12,kI 0 15,kB 0 1,kB 0 4,kI 0 7,kI 0 13,kI 0 10])]) [])])])])])])])]) (by simp[Do7]) (by simp) Tryz.func65 rfl (by kernel_rfl) (by funext x;kernel_rfl)
noncomputable def AM3 [LP](a:Int)(b:(List (List Int))):Option V7:=
 let c:=(if (32:Int)<(b.length:Int) then (32:Int) else (b.length:Int))
 let d:=IntKind.wrap .i64 ((b.length:Int)-c)
 let e:V7:=((false,(false,(false,(false,(false,false))))),(((0:Int),((0:Int),((0:Int),((0:Int),((0:Int),(0:Int)))))),((0:Int),((0:Int),((0:Int),d)))))
 chk none (true&&(decide ((0:Int)≤c))&&(decide (c≤(b.length:Int))))<|
 let f:(List (List Int)):=((b.take c.toNat).drop (0:Int).toNat)
 Option.bind (
  LP.lp (X:=Ca1) (fun (g:Cw9)=>
   let pA:=g.2.2.2.2
   let pD:=pA.2.2.2.2
   let pG:=pD.2.2.2.2
   let h:=g.1
   let i:=g.2.1
   let j:=g.2.2.1
   let k:=g.2.2.2.1
   let l:=pA.1
   let m:=pA.2.1
   let n:=pA.2.2.1
   let o:=pA.2.2.2.1
   let p:=pD.1
   let q:=pD.2.1
   let r:=pD.2.2.1
   let s:=pD.2.2.2.1
   let t:=pG.1
   let u:=pG.2.1
   let v:=pG.2.2.1
   let w:=pG.2.2.2.1
   let y:=pG.2.2.2.2
   let a0:=decide (y<f.length)
   (bif a0 then
    chk none (decide (0≤y)&&decide (y<f.length))<|
    let a1:(List Int):=(f.getD y.toNat [])
    let a2:=(bits .i64 .and a (255:Int))
    (AT2 a2 a1 s i n t h o v j q u l p w m r k).bind fun a3=>
    let pB:=a3.2.2.2.2
    let pE:=pB.2.2.2.2
    let pH:=pE.2.2.2.2
    let a4:=IntKind.wrap .i64 (y+1)
    some (.inl (pB.1,a3.2.1,pB.2.2.2.1,pH.2.2.2,pE.2.2.1,pH.2.1,a3.2.2.1,pB.2.1,pE.2.2.2.1,pE.1,pH.2.2.1,a3.1,a3.2.2.2.1,pE.2.1,pB.2.2.1,pH.1,a4))
   else
    some (.inr (h,i,j,k,l,m,n,o,p,q,r,s,t,u,v,w)))) (e.1.2.2.2.2.1,e.1.2.1,e.2.1.2.1,e.2.2.2.2.2,e.2.1.2.2.2.2.1,e.2.2.2.1,e.1.2.2.1,e.1.2.2.2.2.2,e.2.1.2.2.2.2.2,e.2.1.2.2.1,e.2.2.2.2.1,e.1.1,e.1.2.2.2.1,e.2.1.2.2.2.1,e.2.1.1,e.2.2.1,(0:Int))) fun a5=>
 let pC:=a5.2.2.2.2
 let pF:=pC.2.2.2.2
 let pI:=pF.2.2.2.2
 let a6:=a5.1
 let a7:=a5.2.1
 let a8:=a5.2.2.1
 let a9:=a5.2.2.2.1
 let b0:=pC.1
 let b1:=pC.2.1
 let b2:=pC.2.2.1
 let b3:=pC.2.2.2.1
 let b4:=pF.1
 let b5:=pF.2.1
 let b6:=pF.2.2.1
 let b7:=pF.2.2.2.1
 let b8:=pI.1
 let b9:=pI.2.1
 let c0:=pI.2.2.1
 let c1:=pI.2.2.2
 let c2:V7:=((b7,(a7,(b2,(b8,(a6,b3))))),((c0,(a8,(b5,(b9,(b0,b4))))),(c1,(b1,(b6,a9)))))
 some c2
noncomputable def BP7:Con:={f:=39,ps:=[dI,.dat (.slice (.slice (.int .u8)))],boxes:=[],ins:=(.pair (.int .i64) (.slice (.slice (.int .u8)))),nin:=2,outs:=(.agg X9),rs:=[.dat (.agg X9)],A2:=1,F:=fun x=>AM3 x.1 x.2}
theorem Dy0:A3 Tryz.prog BP7:=
 cgo (l:=[Bv2]) (o:=[]) (.mk .plain [H0,(.mk .plain [H0,(.mk .plain [H0,(.mk .plain [(.mk .plain [H0,(.mk .plain [(.mk (.loop [kB 1 4,kB 1 1,kI 1 7,kI 1 15,kI 1 10,kI 1 13,kB 1 2,kB 1 5,kI 1 11,kI 1 8,kI 1 14,kB 1 0,kB 1 3,kI 1 9,kI 1 6,kI 1 12,sI 21] (zP [28,22,25,8,23,26,29,24,27]) [(.exit 0,[kB 1 4,kB 1 1,kI 1 7,kI 1 15,kI 1 10,kI 1 13,kB 1 2,kB 1 5,kI 1 11,kI 1 8,kI 1 14,kB 1 0,kB 1 3,kI 1 9,kI 1 6,kI 1 12])]) [])])])])])])]) (by simp[Dx9]) (by simp) Tryz.func39 rfl (by kernel_rfl) (by funext x;kernel_rfl)
noncomputable def AD3 [LP](a:V7)(b:Int):Option (Int×Bool):=
 let c:=decide (b<(0:Int))
 let d:=decide ((6:Int)≤b)
 let e:=(bif c then true else d)
 (bif e then
  some ((0:Int),false)
 else
  chk none ((decide ((0:Int)≤b))&&(decide (b<(6:Int))))<|
  let f:=(List.getD [a.2.1.1,a.2.1.2.1,a.2.1.2.2.1,a.2.1.2.2.2.1,a.2.1.2.2.2.2.1,a.2.1.2.2.2.2.2] b.toNat 0)
  chk none ((decide ((0:Int)≤b))&&(decide (b<(6:Int))))<|
  let g:=(List.getD [a.1.1,a.1.2.1,a.1.2.2.1,a.1.2.2.2.1,a.1.2.2.2.2.1,a.1.2.2.2.2.2] b.toNat false)
  some (f,g))
noncomputable def Ak0:Con:={f:=75,ps:=[.dat (.agg X9),dI],boxes:=[],ins:=Cx0,nin:=2,outs:=(.pair (.int .i64) .bool),rs:=[dI,.dat .bool],A2:=2,F:=fun x=>AD3 x.1 x.2}
theorem Ay5:A3 Tryz.prog Ak0:=
 cgo (l:=[]) (o:=[]) H0 (by simp) (by simp) Tryz.func75 rfl (by kernel_rfl) (by funext x;kernel_rfl)
noncomputable def AM4 [LP](a b:Int):Option Int:=
 let c:=IntKind.wrap .u16 (b-a)
 let d:=IntKind.wrap .i64 (IntKind.wrap .i16 c)
 some d
noncomputable def Bv3:Con:={f:=149,ps:=[.dat (.int .u16),.dat (.int .u16)],boxes:=[],ins:=(.pair (.int .u16) (.int .u16)),nin:=2,outs:=(.int .i64),rs:=[dI],A2:=1,F:=fun x=>AM4 x.1 x.2}
theorem Dy1:A3 Tryz.prog Bv3:=
 cgo (l:=[]) (o:=[]) H0 (by simp) (by simp) Tryz.func149 rfl (by kernel_rfl) (by funext x;kernel_rfl)
noncomputable def AG6 [LP](a b:Int):Option (Int×Bool):=
 let c:=IntKind.wrap .i64 (a+b)
 let d:=decide ((0:Int)≤a)
 let e:=decide ((0:Int)≤b)
 let f:=decide ((0:Int)≤c)
 let g:=decide ((0:Int)≤a)
 let h:=(bif (d==e) then (!(f==g)) else false)
 (bif h then
  some ((0:Int),false)
 else
  some (c,true))
noncomputable def Ak1:Con:={f:=73,ps:=[dI,dI],boxes:=[],ins:=(.pair (.int .i64) (.int .i64)),nin:=2,outs:=(.pair (.int .i64) .bool),rs:=[dI,.dat .bool],A2:=2,F:=fun x=>AG6 x.1 x.2}
theorem Ay6:A3 Tryz.prog Ak1:=
 cgo (l:=[]) (o:=[]) H0 (by simp) (by simp) Tryz.func73 rfl (by kernel_rfl) (by funext x;kernel_rfl)
noncomputable def Ak2 [LP](a:Int)(ok_2 b:Bool):Option Int:=
 (bif ok_2 then
  some a
 else
  (bif b then
   some (-9223372036854775808:Int)
  else
   some (9223372036854775807:Int)))
noncomputable def BP8:Con:={f:=160,ps:=[dI,.dat .bool,.dat .bool],boxes:=[],ins:=(.pair (.int .i64) (.pair .bool .bool)),nin:=3,outs:=(.int .i64),rs:=[dI],A2:=1,F:=fun x=>Ak2 x.1 x.2.1 x.2.2}
theorem Bv4:A3 Tryz.prog BP8:=
 cgo (l:=[]) (o:=[]) H0 (by simp) (by simp) Tryz.func160 rfl (by kernel_rfl) (by funext x;kernel_rfl)
noncomputable def Ac3 [LP](a b:Int):Option Int:=
 (AG6 a b).bind fun c=>
 let d:=decide (a<(0:Int))
 (Ak2 c.1 c.2 d).bind fun e=>
 some e
noncomputable def BP9:Con:={f:=117,ps:=[dI,dI],boxes:=[],ins:=(.pair (.int .i64) (.int .i64)),nin:=2,outs:=(.int .i64),rs:=[dI],A2:=1,F:=fun x=>Ac3 x.1 x.2}
theorem Bv5:A3 Tryz.prog BP9:=
 cgo (l:=[Ak1,BP8]) (o:=[]) H0 (by simp[Ay6,Bv4]) (by simp) Tryz.func117 rfl (by kernel_rfl) (by funext x;kernel_rfl)
noncomputable def AG7 [LP](a:(Bool×(Int×Int)))(b:Int)(c:Bool):Option Cx1:=
 (bif (!c) then
  let d:(Bool×(Int×Int)):=(false,a.2)
  some (d,(0:Int),false)
 else
  let e:=(IntKind.wrap .u16 b)
  (bif (!a.1) then
   let f:(Bool×(Int×Int)):=(true,(e,a.2.2))
   some (f,(0:Int),false)
  else
   (AM4 a.2.1 e).bind fun g=>
   (Ac3 a.2.2 g).bind fun h=>
   let i:(Bool×(Int×Int)):=(true,(e,h))
   some (i,g,true)))
noncomputable def Bv6:Con:={f:=99,ps:=[.dat (.agg (.pair .bool (.pair (.int .u16) (.int .i64)))),dI,.dat .bool],boxes:=[],ins:=Bj6,nin:=3,outs:=Bj6,rs:=[.dat (.agg (.pair .bool (.pair (.int .u16) (.int .i64)))),dI,.dat .bool],A2:=3,F:=fun x=>AG7 x.1 x.2.1 x.2.2}
theorem Dy2:A3 Tryz.prog Bv6:=
 cgo (l:=[Bv3,BP9]) (o:=[]) H0 (by simp[Dy1,Bv5]) (by simp) Tryz.func99 rfl (by kernel_rfl) (by funext x;kernel_rfl)
noncomputable def AG8 [LP](a b c:Int):Option (Int×Int):=
 (AK8 a b c false).bind fun d=>
 some (d.1,d.2)
noncomputable def Ay7:Con:={f:=168,ps:=[dI,dI,dI],boxes:=[],ins:=(.pair (.int .i64) (.pair (.int .i64) (.int .i64))),nin:=3,outs:=(.pair (.int .i64) (.int .i64)),rs:=[dI,dI],A2:=2,F:=fun x=>AG8 x.1 x.2.1 x.2.2}
theorem BQ0:A3 Tryz.prog Ay7:=
 cgo (l:=[BN7]) (o:=[]) H0 (by simp[Bp5]) (by simp) Tryz.func168 rfl (by kernel_rfl) (by funext x;kernel_rfl)
noncomputable def AM5 [LP](a:(Int×Int))(b c:Int):Option ((Int×Int)×Int):=
 (T8 a).bind fun d=>
 let e:=decide (c<(1:Int))
 let f:=(bif (!d) then true else e)
 (bif f then
  let g:(Int×Int):=((0:Int),(0:Int))
  some (g,(10:Int))
 else
  let h:=decide (b<(0:Int))
  Option.bind (
   (bif h then
    some (a.2,a.1)
   else
    some (a.1,a.2))) fun i=>
  let j:=i.1
  let k:=i.2
  (AG8 b j c).bind fun l=>
  (bif (l.2 != (0:Int)) then
   let m:(Int×Int):=((0:Int),(0:Int))
   some (m,l.2)
  else
   (AG0 b k c).bind fun n=>
   (bif (n.2 != (0:Int)) then
    let o:(Int×Int):=((0:Int),(0:Int))
    some (o,n.2)
   else
    let p:(Int×Int):=(l.1,n.1)
    some (p,(0:Int)))))
noncomputable def Bv7:Con:={f:=150,ps:=[.dat (.agg (.pair (.int .i64) (.int .i64))),dI,dI],boxes:=[],ins:=BM0,nin:=3,outs:=(.pair (.agg (.pair (.int .i64) (.int .i64))) (.int .i64)),rs:=[.dat (.agg (.pair (.int .i64) (.int .i64))),dI],A2:=2,F:=fun x=>AM5 x.1 x.2.1 x.2.2}
theorem Dy3:A3 Tryz.prog Bv7:=
 cgo (l:=[AC8,Ay7,Ax0]) (o:=[]) (.mk .plain [H0,(.mk .plain [H0,(.mk .plain [H0,(.mk .plain [(.mk .plain [H0,(.mk (.join [(0,27),(0,28)] [(.normal,[sI 8,sI 9])]) [])])])])])]) (by simp[AF7,BQ0,BN8]) (by simp) Tryz.func150 rfl (by kernel_rfl) (by funext x;kernel_rfl)
noncomputable def AG9 [LP](a:Int)(b:(Int×Int))(c:Int):Option ((Int×Int)×Int):=
 let d:=decide (a<(-32768:Int))
 let e:=decide ((32767:Int)<a)
 let f:=(bif d then true else e)
 (bif f then
  let g:(Int×Int):=((0:Int),(0:Int))
  some (g,(10:Int))
 else
  let h:=IntKind.wrap .i64 (a-1)
  (AM5 b h c).bind fun i=>
  (bif (i.2 != (0:Int)) then
   let j:(Int×Int):=((0:Int),(0:Int))
   some (j,i.2)
  else
   let k:=IntKind.wrap .i64 (a+1)
   (AM5 b k c).bind fun l=>
   (bif (l.2 != (0:Int)) then
    let m:(Int×Int):=((0:Int),(0:Int))
    some (m,l.2)
   else
    (AL0 i.1 l.1).bind fun n=>
    some (n,(0:Int)))))
noncomputable def Bv8:Con:={f:=100,ps:=[dI,.dat (.agg (.pair (.int .i64) (.int .i64))),dI],boxes:=[],ins:=Cx2,nin:=3,outs:=(.pair (.agg (.pair (.int .i64) (.int .i64))) (.int .i64)),rs:=[.dat (.agg (.pair (.int .i64) (.int .i64))),dI],A2:=2,F:=fun x=>AG9 x.1 x.2.1 x.2.2}
theorem Dy4:A3 Tryz.prog Bv8:=
 cgo (l:=[Bv7,Ab3]) (o:=[]) H0 (by simp[Dy3,Aj3]) (by simp) Tryz.func100 rfl (by kernel_rfl) (by funext x;kernel_rfl)
noncomputable def AD4 [LP](a:Int)(b:V7)(c d e f g h i j k l m n o p:Int)(q:(List Yd1))(r:(List Yd3))(s:Bool)(t u v:Int)(w:(List Int))(y:Bool)(a0 a1:Int)(a2:Bool)(a3 a4 a5 a6 a7 a8 a9 b0 b1:Int)(b2:Bool)(b3 b4 b5 b6 b7:Int)(b8:(List E2))(b9:Bool)(c0 c1 c2 c3 c4:Int)(c5 c6 c7:Bool)(c8 c9 d0 d1:Int)(d2:Bool):Option Cx4:=
 let d3:=IntKind.wrap .i64 ((1:Int)+a)
 (AD3 b d3).bind fun d4=>
 chk none ((decide ((0:Int)≤a))&&(decide (a<(2:Int))))<|
 let d5:(Bool×(Int×Int)):=(List.getD [(y,(a0,a1)),(a2,(a3,a4))] a.toNat (false,((0:Int),(0:Int))))
 (AG7 d5 d4.1 d4.2).bind fun d6=>
 chk none ((decide ((0:Int)≤a))&&(decide (a<(2:Int))))<|
 (bif (!d6.2.2) then
  let d7:(Bool×(Int×Int)):=(false,((0:Int),(0:Int)))
  some (d7,c,d,e,f,g,h,i,j,k,l,m,n,o,p,q,r,s,t,u,v,w,(bif (a==(0:Int)) then d6.1.1 else y),(bif (a==(0:Int)) then d6.1.2.1 else a0),(bif (a==(0:Int)) then d6.1.2.2 else a1),(bif (a==(1:Int)) then d6.1.1 else a2),(bif (a==(1:Int)) then d6.1.2.1 else a3),(bif (a==(1:Int)) then d6.1.2.2 else a4),a5,a6,a7,a8,a9,b0,b1,b2,b3,b4,b5,b6,b7,b8,b9,c0,c1,c2,c3,c4,c5,c6,c7,c8,c9,d0,d1,d2)
 else
  chk none ((decide ((0:Int)≤a))&&(decide (a<(2:Int))))<|
  let d8:(Int×Int):=(List.getD [(a5,a6),(a7,a8)] a.toNat ((0:Int),(0:Int)))
  (AG9 d6.2.1 d8 c).bind fun d9=>
  let e0:(Bool×(Int×Int)):=(true,d9.1)
  some (e0,c,d,e,f,g,h,i,j,k,l,m,n,o,p,q,r,s,t,u,v,w,(bif (a==(0:Int)) then d6.1.1 else y),(bif (a==(0:Int)) then d6.1.2.1 else a0),(bif (a==(0:Int)) then d6.1.2.2 else a1),(bif (a==(1:Int)) then d6.1.1 else a2),(bif (a==(1:Int)) then d6.1.2.1 else a3),(bif (a==(1:Int)) then d6.1.2.2 else a4),a5,a6,a7,a8,a9,b0,b1,b2,b3,b4,b5,b6,b7,b8,b9,c0,c1,c2,c3,c4,c5,c6,c7,c8,c9,d0,d1,d2))
noncomputable def Bv9:Con:={f:=66,ps:=[.ref 0 0,dI,.dat (.agg X9)],boxes:=[[dI,dI,dI,dI,dI,dI,dI,dI,dI,dI,dI,dI,dI,dI,.dat (.slice (.agg Yt1)),.dat (.slice (.agg Yt3)),.dat .bool,dI,dI,dI,.dat (.slice (.int .i64)),.dat .bool,.dat (.int .u16),dI,.dat .bool,.dat (.int .u16),dI,dI,dI,dI,dI,dI,dI,dI,.dat .bool,dI,dI,dI,dI,dI,.dat (.slice (.agg I3)),.dat .bool,dI,dI,dI,dI,dI,.dat .bool,.dat .bool,.dat .bool,dI,dI,dI,dI,.dat .bool]],ins:=Cx5,nin:=57,outs:=Cx3,rs:=[.dat (.agg (.pair .bool (.agg (.pair (.int .i64) (.int .i64)))))],A2:=56,F:=fun x=>let a:=x.2.2.2.2.2.2.2.2;let b:=a.2.2.2.2.2.2.2.2;let c:=b.2.2.2.2.2.2.2.2;let d:=c.2.2.2.2.2.2.2.2;let e:=d.2.2.2.2.2.2.2.2;let f:=e.2.2.2.2.2.2.2.2;AD4 x.1 x.2.1 x.2.2.1 x.2.2.2.1 x.2.2.2.2.1 x.2.2.2.2.2.1 x.2.2.2.2.2.2.1 x.2.2.2.2.2.2.2.1 x.2.2.2.2.2.2.2.2.1 a.2.1 a.2.2.1 a.2.2.2.1 a.2.2.2.2.1 a.2.2.2.2.2.1 a.2.2.2.2.2.2.1 a.2.2.2.2.2.2.2.1 a.2.2.2.2.2.2.2.2.1 b.2.1 b.2.2.1 b.2.2.2.1 b.2.2.2.2.1 b.2.2.2.2.2.1 b.2.2.2.2.2.2.1 b.2.2.2.2.2.2.2.1 b.2.2.2.2.2.2.2.2.1 c.2.1 c.2.2.1 c.2.2.2.1 c.2.2.2.2.1 c.2.2.2.2.2.1 c.2.2.2.2.2.2.1 c.2.2.2.2.2.2.2.1 c.2.2.2.2.2.2.2.2.1 d.2.1 d.2.2.1 d.2.2.2.1 d.2.2.2.2.1 d.2.2.2.2.2.1 d.2.2.2.2.2.2.1 d.2.2.2.2.2.2.2.1 d.2.2.2.2.2.2.2.2.1 e.2.1 e.2.2.1 e.2.2.2.1 e.2.2.2.2.1 e.2.2.2.2.2.1 e.2.2.2.2.2.2.1 e.2.2.2.2.2.2.2.1 e.2.2.2.2.2.2.2.2.1 f.2.1 f.2.2.1 f.2.2.2.1 f.2.2.2.2.1 f.2.2.2.2.2.1 f.2.2.2.2.2.2.1 f.2.2.2.2.2.2.2.1 f.2.2.2.2.2.2.2.2}
theorem Dy5:A3 Tryz.prog Bv9:=
 cgo (l:=[Ak0,Bv6,Bv8]) (o:=[]) H0 (by simp[Ay5,Dy2,Dy4]) (by simp) Tryz.func66 rfl (by kernel_rfl) (by funext x;kernel_rfl)
noncomputable def AT3 [LP](a:C8)(b:Int):Option Int:=
 let c:=IntKind.wrap .i64 (0-b)
 let d:=(if c>b then c else b)
 (AG8 d a.2.2.2.2.1 (1048576:Int)).bind fun e=>
 let f:=IntKind.wrap .i64 (a.2.2.2.1+e.1)
 some f
noncomputable def Bw0:Con:={f:=152,ps:=[.dat (.agg C7),dI],boxes:=[],ins:=BM1,nin:=2,outs:=(.int .i64),rs:=[dI],A2:=1,F:=fun x=>AT3 x.1 x.2}
theorem Dy6:A3 Tryz.prog Bw0:=
 cgo (l:=[Ay7]) (o:=[]) H0 (by simp[BQ0]) (by simp) Tryz.func152 rfl (by kernel_rfl) (by funext x;kernel_rfl)
noncomputable def AM6 [LP](a b:Int):Option (Int×Bool):=
 let c:=IntKind.wrap .i64 (a-b)
 let d:=decide ((0:Int)≤a)
 let e:=decide ((0:Int)≤b)
 let f:=decide ((0:Int)≤c)
 let g:=decide ((0:Int)≤a)
 let h:=(bif (!(d==e)) then (!(f==g)) else false)
 (bif h then
  some ((0:Int),false)
 else
  some (c,true))
noncomputable def Ak3:Con:={f:=155,ps:=[dI,dI],boxes:=[],ins:=(.pair (.int .i64) (.int .i64)),nin:=2,outs:=(.pair (.int .i64) .bool),rs:=[dI,.dat .bool],A2:=2,F:=fun x=>AM6 x.1 x.2}
theorem Ay8:A3 Tryz.prog Ak3:=
 cgo (l:=[]) (o:=[]) H0 (by simp) (by simp) Tryz.func155 rfl (by kernel_rfl) (by funext x;kernel_rfl)
noncomputable def AT4 [LP](a:Int)(b:Bool)(c:Int)(d:Bool):Option ((Int×Int)×Bool):=
 let e:=(bif (!b) then true else (!d))
 let f:=(bif e then true else (decide (c<a)))
 (bif f then
  let g:(Int×Int):=((0:Int),(0:Int))
  some (g,false)
 else
  let h:(Int×Int):=(a,c)
  some (h,true))
noncomputable def Ak4:Con:={f:=126,ps:=[dI,.dat .bool,dI,.dat .bool],boxes:=[],ins:=Cx6,nin:=4,outs:=(.pair (.agg (.pair (.int .i64) (.int .i64))) .bool),rs:=[.dat (.agg (.pair (.int .i64) (.int .i64))),.dat .bool],A2:=2,F:=fun x=>AT4 x.1 x.2.1 x.2.2.1 x.2.2.2}
theorem Ay9:A3 Tryz.prog Ak4:=
 cgo (l:=[]) (o:=[]) H0 (by simp) (by simp) Tryz.func126 rfl (by kernel_rfl) (by funext x;kernel_rfl)
noncomputable def Ac4 [LP](a:(Int×Int))(b:Int):Option ((Int×Int)×Bool):=
 (T8 a).bind fun c=>
 (bif (!c) then
  let d:(Int×Int):=((0:Int),(0:Int))
  some (d,false)
 else
  (AM6 a.1 b).bind fun e=>
  (AG6 a.2 b).bind fun f=>
  (AT4 e.1 e.2 f.1 f.2).bind fun g=>
  some (g.1,g.2))
noncomputable def Az0:Con:={f:=107,ps:=[.dat (.agg (.pair (.int .i64) (.int .i64))),dI],boxes:=[],ins:=(.pair (.agg (.pair (.int .i64) (.int .i64))) (.int .i64)),nin:=2,outs:=(.pair (.agg (.pair (.int .i64) (.int .i64))) .bool),rs:=[.dat (.agg (.pair (.int .i64) (.int .i64))),.dat .bool],A2:=2,F:=fun x=>Ac4 x.1 x.2}
theorem BQ1:A3 Tryz.prog Az0:=
 cgo (l:=[AC8,Ak3,Ak1,Ak4]) (o:=[]) H0 (by simp[AF7,Ay8,Ay6,Ay9]) (by simp) Tryz.func107 rfl (by kernel_rfl) (by funext x;kernel_rfl)
noncomputable def Ak5 [LP](a b:Int):Option ((Int×Int)×Bool):=
 (AD0 a).bind fun c=>
 (Ac4 c b).bind fun d=>
 some (d.1,d.2)
noncomputable def BQ2:Con:={f:=151,ps:=[dI,dI],boxes:=[],ins:=(.pair (.int .i64) (.int .i64)),nin:=2,outs:=(.pair (.agg (.pair (.int .i64) (.int .i64))) .bool),rs:=[.dat (.agg (.pair (.int .i64) (.int .i64))),.dat .bool],A2:=2,F:=fun x=>Ak5 x.1 x.2}
theorem Bw1:A3 Tryz.prog BQ2:=
 cgo (l:=[Ab2,Az0]) (o:=[]) H0 (by simp[Aj2,BQ1]) (by simp) Tryz.func151 rfl (by kernel_rfl) (by funext x;kernel_rfl)
noncomputable def AM7 [LP](a:C8)(b:Int):Option (Int×Int):=
 (AT3 a b).bind fun c=>
 (Ak5 b c).bind fun d=>
 some d.1
noncomputable def Bw2:Con:={f:=101,ps:=[.dat (.agg C7),dI],boxes:=[],ins:=BM1,nin:=2,outs:=(.agg (.pair (.int .i64) (.int .i64))),rs:=[.dat (.agg (.pair (.int .i64) (.int .i64)))],A2:=1,F:=fun x=>AM7 x.1 x.2}
theorem Dy7:A3 Tryz.prog Bw2:=
 cgo (l:=[Bw0,BQ2]) (o:=[]) H0 (by simp[Dy6,Bw1]) (by simp) Tryz.func101 rfl (by kernel_rfl) (by funext x;kernel_rfl)
noncomputable def AT5 [LP](a b c d e f g h i j k l m n:Int)(o:(List Yd1))(p:(List Yd3))(q:Bool)(r s t:Int)(u:(List Int))(v:Bool)(w y:Int)(a0:Bool)(a1 a2 a3 a4 a5 a6 a7 a8 a9:Int)(b0:Bool)(b1 b2 b3 b4 b5:Int)(b6:(List E2))(b7:Bool)(b8 b9 c0 c1 c2:Int)(c3 c4 c5:Bool)(c6 c7 c8 c9:Int)(d0:Bool)(d1:V7):Option (Bool×(Int×Int)):=
 (AD3 d1 (3:Int)).bind fun d2=>
 (bif (!d2.2) then
  let d3:(Bool×(Int×Int)):=(false,((0:Int),(0:Int)))
  some d3
 else
  let d4:C8:=(a,(b,(c,(d,(e,(f,(g,(h,(i,(j,(k,(l,(m,n)))))))))))))
  (AM7 d4 d2.1).bind fun d5=>
  let d6:(Bool×(Int×Int)):=(true,d5)
  some d6)
noncomputable def Bw3:Con:={f:=67,ps:=[.rp [dI,dI,dI,dI,dI,dI,dI,dI,dI,dI,dI,dI,dI,dI,.dat (.slice (.agg Yt1)),.dat (.slice (.agg Yt3)),.dat .bool,dI,dI,dI,.dat (.slice (.int .i64)),.dat .bool,.dat (.int .u16),dI,.dat .bool,.dat (.int .u16),dI,dI,dI,dI,dI,dI,dI,dI,.dat .bool,dI,dI,dI,dI,dI,.dat (.slice (.agg I3)),.dat .bool,dI,dI,dI,dI,dI,.dat .bool,.dat .bool,.dat .bool,dI,dI,dI,dI,.dat .bool] 0,.dat (.agg X9)],boxes:=[],ins:=Bj8,nin:=56,outs:=(.agg (.pair .bool (.agg (.pair (.int .i64) (.int .i64))))),rs:=[.dat (.agg (.pair .bool (.agg (.pair (.int .i64) (.int .i64)))))],A2:=1,F:=fun x=>let a:=x.2.2.2.2.2.2.2.2;let b:=a.2.2.2.2.2.2.2.2;let c:=b.2.2.2.2.2.2.2.2;let d:=c.2.2.2.2.2.2.2.2;let e:=d.2.2.2.2.2.2.2.2;let f:=e.2.2.2.2.2.2.2.2;AT5 x.1 x.2.1 x.2.2.1 x.2.2.2.1 x.2.2.2.2.1 x.2.2.2.2.2.1 x.2.2.2.2.2.2.1 x.2.2.2.2.2.2.2.1 x.2.2.2.2.2.2.2.2.1 a.2.1 a.2.2.1 a.2.2.2.1 a.2.2.2.2.1 a.2.2.2.2.2.1 a.2.2.2.2.2.2.1 a.2.2.2.2.2.2.2.1 a.2.2.2.2.2.2.2.2.1 b.2.1 b.2.2.1 b.2.2.2.1 b.2.2.2.2.1 b.2.2.2.2.2.1 b.2.2.2.2.2.2.1 b.2.2.2.2.2.2.2.1 b.2.2.2.2.2.2.2.2.1 c.2.1 c.2.2.1 c.2.2.2.1 c.2.2.2.2.1 c.2.2.2.2.2.1 c.2.2.2.2.2.2.1 c.2.2.2.2.2.2.2.1 c.2.2.2.2.2.2.2.2.1 d.2.1 d.2.2.1 d.2.2.2.1 d.2.2.2.2.1 d.2.2.2.2.2.1 d.2.2.2.2.2.2.1 d.2.2.2.2.2.2.2.1 d.2.2.2.2.2.2.2.2.1 e.2.1 e.2.2.1 e.2.2.2.1 e.2.2.2.2.1 e.2.2.2.2.2.1 e.2.2.2.2.2.2.1 e.2.2.2.2.2.2.2.1 e.2.2.2.2.2.2.2.2.1 f.2.1 f.2.2.1 f.2.2.2.1 f.2.2.2.2.1 f.2.2.2.2.2.1 f.2.2.2.2.2.2.1 f.2.2.2.2.2.2.2}
theorem Dy8:A3 Tryz.prog Bw3:=
 cgo (l:=[Ak0,Bw2]) (o:=[]) H0 (by simp[Ay5,Dy7]) (by simp) Tryz.func67 rfl (by kernel_rfl) (by funext x;kernel_rfl)
noncomputable def AA9 [LP](a b:(Int×Int)):Option ((Int×Int)×Bool):=
 let c:=(if b.1>a.1 then b.1 else a.1)
 let d:=(if b.2<a.2 then b.2 else a.2)
 (AT4 c true d true).bind fun e=>
 some (e.1,e.2)
noncomputable def AH0:Con:={f:=108,ps:=[.dat (.agg (.pair (.int .i64) (.int .i64))),.dat (.agg (.pair (.int .i64) (.int .i64)))],boxes:=[],ins:=X6,nin:=2,outs:=(.pair (.agg (.pair (.int .i64) (.int .i64))) .bool),rs:=[.dat (.agg (.pair (.int .i64) (.int .i64))),.dat .bool],A2:=2,F:=fun x=>AA9 x.1 x.2}
theorem AM8:A3 Tryz.prog AH0:=
 cgo (l:=[Ak4]) (o:=[]) H0 (by simp[Ay9]) (by simp) Tryz.func108 rfl (by kernel_rfl) (by funext x;kernel_rfl)
noncomputable def Ac5 [LP](a:C8)(b:(Int×Int)):Option (Int×Int):=
 (Ac4 b a.2.2.2.2.2.2.2.1).bind fun c=>
 (Ab4 a).bind fun d=>
 (AA9 c.1 d).bind fun e=>
 some e.1
noncomputable def Bw4:Con:={f:=69,ps:=[.dat (.agg C7),.dat (.agg (.pair (.int .i64) (.int .i64)))],boxes:=[],ins:=Bj9,nin:=2,outs:=(.agg (.pair (.int .i64) (.int .i64))),rs:=[.dat (.agg (.pair (.int .i64) (.int .i64)))],A2:=1,F:=fun x=>Ac5 x.1 x.2}
theorem Dy9:A3 Tryz.prog Bw4:=
 cgo (l:=[Az0,Ax4,AH0]) (o:=[]) H0 (by simp[BQ1,Bq3,AM8]) (by simp) Tryz.func69 rfl (by kernel_rfl) (by funext x;kernel_rfl)
noncomputable def AT6 [LP](a b c d:Int)(e:(List Yd1))(f:(List Yd3))(g:Bool)(h i:Int):Option Bk0:=
 chk none (decide (0≤a)&&decide (a<e.length))<|
 let j:Yd1:=(e.getD a.toNat ((0:Int),([],[])))
 let k:=IntKind.wrap .i64 (b+j.1)
 (AA9 (c,d) (b,k)).bind fun l=>
 (bif (!l.2) then
  some (c,d,e,f,g,h,i)
 else
  chk none (decide (0≤a)&&decide (a<e.length))<|
  let m:Yd1:=(e.getD a.toNat ((0:Int),([],[])))
  let n:=IntKind.wrap .i64 (l.1.1-b)
  let o:=IntKind.wrap .i64 (l.1.2-b)
  (AL1 m.2.1 (n,o)).bind fun p=>
  Option.bind (
   (bif (!g) then
    some (p.1.1,p.1.2,true)
   else
    some (h,i,g))) fun q=>
  let r:=q.1
  let s:=q.2.1
  let t:=q.2.2
  (AL0 (r,s) p.1).bind fun u=>
  some (c,d,e,f,t,u.1,u.2))
noncomputable def Bw5:Con:={f:=170,ps:=[dI,dI,.ref 0 0,.ref 1 0,.ref 2 0,.ref 3 0],boxes:=[[dI,dI],[.dat (.slice (.agg Yt1)),.dat (.slice (.agg Yt3))],[.dat .bool],[dI,dI]],ins:=DD8,nin:=9,outs:=Au3,rs:=[],A2:=7,F:=fun x=>AT6 x.1 x.2.1 x.2.2.1 x.2.2.2.1 x.2.2.2.2.1 x.2.2.2.2.2.1 x.2.2.2.2.2.2.1 x.2.2.2.2.2.2.2.1 x.2.2.2.2.2.2.2.2}
theorem Dz0:A3 Tryz.prog Bw5:=
 cgo (l:=[AH0,BO0,Ab3]) (o:=[]) (.mk .plain [H0,(.mk .plain [H0,(.mk .plain [H0,(.mk .plain [(.mk .plain [H0,(.mk (.join [(0,50)] [(.normal,[kI 3 0,kI 3 1,kB 2 0])]) [])])])])])]) (by simp[AM8,Bq2,Aj3]) (by simp) Tryz.func170 rfl (by kernel_rfl) (by funext x;kernel_rfl)
noncomputable def AT7 [LP](a:X7)(b:E6)(c d:Int)(e:(List Yd1))(f:(List Yd3))(g:Bool)(h i:Int):Option Bk0:=
 Option.bind (
  LP.lp (X:=Bi1) (fun (j:DD9)=>
   let pA:=j.2.2.2.2
   let k:=j.1
   let l:=j.2.1
   let m:=j.2.2.1
   let n:=j.2.2.2.1
   let o:(List Yd3):=pA.1
   let p:=pA.2.1
   let q:=pA.2.2.1
   let r:(List Yd1):=pA.2.2.2
   let s:=decide (m<a.2.length)
   (bif s then
    chk none (decide (0≤m)&&decide (m<a.2.length))<|
    let t:E2:=(a.2.getD m.toNat ((0:Int),((0:Int),((0:Int),((0:Int),((0:Int),((0:Int),((0:Int),((0:Int),((0:Int),((0:Int),((0:Int),((0:Int),(0:Int))))))))))))))
    let u:=IntKind.wrap .i64 (0-a.1)
    (Aa8 t).bind fun v=>
    Option.bind (
     LP.lp (X:=Ca7) (fun (w:DE6)=>
      let pB:=w.2.2.2.2
      let y:=w.1
      let a0:(List Yd3):=w.2.1
      let a1:=w.2.2.1
      let a2:=w.2.2.2.1
      let a3:=pB.1
      let a4:=pB.2.1
      let a5:(List Yd1):=pB.2.2.1
      let a6:=pB.2.2.2.1
      let a7:=pB.2.2.2.2
      let a8:=decide (a7<v.length)
      (bif a8 then
       chk none (decide (0≤a7)&&decide (a7<v.length))<|
       let a9:=(v.getD a7.toNat 0)
       (AT6 a9 a2 a1 a4 a5 a0 a6 y a3).bind fun b0=>
       let pC:=b0.2.2.2.2
       chk none (decide (0≤a9)&&decide (a9<b.1.length))<|
       let b1:Yd1:=(b.1.getD a9.toNat ((0:Int),([],[])))
       let b2:=IntKind.wrap .i64 (a2+b1.1)
       let b3:=IntKind.wrap .i64 (a7+1)
       some (.inl (pC.2.1,b0.2.2.2.1,b0.1,b2,pC.2.2,b0.2.1,b0.2.2.1,pC.1,b3))
      else
       some (.inr (y,a0,a1,a3,a4,a5,a6)))) (k,o,l,u,p,q,r,n,(0:Int))) fun b4=>
    let pD:=b4.2.2.2.2
    let b5:=b4.1
    let b6:(List Yd3):=b4.2.1
    let b7:=b4.2.2.1
    let b8:=b4.2.2.2.1
    let b9:=pD.1
    let c0:(List Yd1):=pD.2.1
    let c1:=pD.2.2
    let c2:=IntKind.wrap .i64 (m+1)
    some (.inl (b5,b7,c2,c1,b6,b8,b9,c0))
   else
    some (.inr (k,l,n,o,p,q,r)))) (h,c,(0:Int),g,f,i,d,e)) fun c3=>
 let pE:=c3.2.2.2.2
 let c4:=c3.1
 let c5:=c3.2.1
 let c6:=c3.2.2.1
 let c7:(List Yd3):=c3.2.2.2.1
 let c8:=pE.1
 let c9:=pE.2.1
 let d0:(List Yd1):=pE.2.2
 some (c5,c9,d0,c7,c6,c4,c8)
noncomputable def Bw6:Con:={f:=169,ps:=[.dat (.agg V6),.dat (.agg E1),.clo 170 [] [.ref 0 0,.ref 1 0,.ref 2 0,.ref 3 0]],boxes:=[[dI,dI],[.dat (.slice (.agg Yt1)),.dat (.slice (.agg Yt3))],[.dat .bool],[dI,dI]],ins:=DE8,nin:=9,outs:=Au3,rs:=[],A2:=7,F:=fun x=>AT7 x.1 x.2.1 x.2.2.1 x.2.2.2.1 x.2.2.2.2.1 x.2.2.2.2.2.1 x.2.2.2.2.2.2.1 x.2.2.2.2.2.2.2.1 x.2.2.2.2.2.2.2.2}
theorem Dz1:A3 Tryz.prog Bw6:=
 cgo (l:=[Ai8,Bw5]) (o:=[]) (.mk .plain [H0,(.mk .plain [H0,(.mk .plain [(.mk (.loop [kI 3 0,kI 0 0,sI 14,kB 2 0,⟨.cell 1 1,(.slice (.agg Yt3)),none⟩,kI 3 1,kI 0 1,⟨.cell 1 0,(.slice (.agg Yt1)),none⟩] (zP [30,36,39,8,17,23,20,26,29,35,32,38,41,7,10,16,19,22,28,25,31,34,40,37,15,21,18,24,27,33]) [(.exit 0,[kI 3 0,kI 0 0,kB 2 0,⟨.cell 1 1,(.slice (.agg Yt3)),none⟩,kI 3 1,kI 0 1,⟨.cell 1 0,(.slice (.agg Yt1)),none⟩])]) [(.mk .plain [H0,(.mk .plain [H0,(.mk .plain [(.mk .plain [(.mk .plain [H0,(.mk .plain [H0,(.mk .plain [H0,(.mk .plain [(.mk (.loop [kI 3 0,⟨.cell 1 1,(.slice (.agg Yt3)),none⟩,kI 0 0,sI 8,kI 3 1,kI 0 1,⟨.cell 1 0,(.slice (.agg Yt1)),none⟩,kB 2 0,sI 24] (zP [30,36,10,39,28,25,31,34,40,37,26,29,35,32,38,27,33]) [(.exit 2,[kI 3 0,⟨.cell 1 1,(.slice (.agg Yt3)),none⟩,kI 0 0,kI 3 1,kI 0 1,⟨.cell 1 0,(.slice (.agg Yt1)),none⟩,kB 2 0])]) [])])])])])])])])])])])])]) (by simp[BM4,Dz0]) (by simp) Tryz.func169 rfl (by kernel_rfl) (by funext x;kernel_rfl)
noncomputable def AT8 [LP](a:X7)(b:E6)(c:(Int×Int)):Option ((Int×Int)×Bool):=
 (AT7 a b c.1 c.2 b.1 b.2 false (0:Int) (0:Int)).bind fun d=>
 some (d.2.2.2.2.2,d.2.2.2.2.1)
noncomputable def Bw7:Con:={f:=156,ps:=[.dat (.agg V6),.dat (.agg E1),.dat (.agg (.pair (.int .i64) (.int .i64)))],boxes:=[],ins:=DE9,nin:=3,outs:=(.pair (.agg (.pair (.int .i64) (.int .i64))) .bool),rs:=[.dat (.agg (.pair (.int .i64) (.int .i64))),.dat .bool],A2:=2,F:=fun x=>AT8 x.1 x.2.1 x.2.2}
theorem Dz2:A3 Tryz.prog Bw7:=
 cgo (l:=[Bw6]) (o:=[]) H0 (by simp[Dz1]) (by simp) Tryz.func156 rfl (by kernel_rfl) (by funext x;kernel_rfl)
noncomputable def AT9 [LP](a b c d e f g h i j k l m n:Int)(o:(List Yd1))(p:(List Yd3))(q:Bool)(r s t:Int)(u:(List Int))(v:Bool)(w y:Int)(a0:Bool)(a1 a2 a3 a4 a5 a6 a7 a8 a9:Int)(b0:Bool)(b1 b2 b3 b4 b5:Int)(b6:(List E2))(b7:Bool)(b8 b9 c0 c1 c2:Int)(c3 c4 c5:Bool)(c6 c7 c8 c9:Int)(d0:Bool):Option (Int×Int):=
 (bif (!b0) then
  let d1:(Int×Int):=(s,t)
  some d1
 else
  Option.bind (α:=(Int×Int) ⊕ (Int×Int)) (
   LP.lp (X:=(Int×Int) ⊕ (Int×Int)) (fun (d2:(Int×(Int×Int)))=>
    let d3:=d2.1
    let d4:=d2.2.1
    let d5:=d2.2.2
    let d6:=decide (d5<b6.length)
    (bif d6 then
     chk none (decide (0≤d5)&&decide (d5<b6.length))<|
     let d7:E2:=(b6.getD d5.toNat ((0:Int),((0:Int),((0:Int),((0:Int),((0:Int),((0:Int),((0:Int),((0:Int),((0:Int),((0:Int),((0:Int),((0:Int),(0:Int))))))))))))))
     (S3 (b5,b6) (o,p) d7).bind fun d8=>
     (bif (d8==b3) then
      let d9:(Int×Int):=(s,t)
      some (.inr (.inl (d9.1,d9.2)))
     else
      let e0:=IntKind.wrap .i64 (d5+1)
      some (.inl (d3,d4,e0)))
    else
     some (.inr (.inr (d3,d4))))) ((0:Int),(0:Int),(0:Int))) fun z=>match z with
  | .inl e1=>
   let e2:=e1.1
   let e3:=e1.2
   some (e2,e3)
  | .inr e4=>
   let e5:=e4.1
   let e6:=e4.2
   (AT8 (b5,b6) (o,p) (b2,b3)).bind fun e7=>
   (bif e7.2 then
    some e7.1
   else
    let e8:(Int×Int):=(s,t)
    some e8))
noncomputable def Bw8:Con:={f:=111,ps:=[.rp [dI,dI,dI,dI,dI,dI,dI,dI,dI,dI,dI,dI,dI,dI,.dat (.slice (.agg Yt1)),.dat (.slice (.agg Yt3)),.dat .bool,dI,dI,dI,.dat (.slice (.int .i64)),.dat .bool,.dat (.int .u16),dI,.dat .bool,.dat (.int .u16),dI,dI,dI,dI,dI,dI,dI,dI,.dat .bool,dI,dI,dI,dI,dI,.dat (.slice (.agg I3)),.dat .bool,dI,dI,dI,dI,dI,.dat .bool,.dat .bool,.dat .bool,dI,dI,dI,dI,.dat .bool] 0],boxes:=[],ins:=X8,nin:=55,outs:=(.agg (.pair (.int .i64) (.int .i64))),rs:=[.dat (.agg (.pair (.int .i64) (.int .i64)))],A2:=1,F:=fun x=>let a:=x.2.2.2.2.2.2.2.2;let b:=a.2.2.2.2.2.2.2.2;let c:=b.2.2.2.2.2.2.2.2;let d:=c.2.2.2.2.2.2.2.2;let e:=d.2.2.2.2.2.2.2.2;let f:=e.2.2.2.2.2.2.2.2;AT9 x.1 x.2.1 x.2.2.1 x.2.2.2.1 x.2.2.2.2.1 x.2.2.2.2.2.1 x.2.2.2.2.2.2.1 x.2.2.2.2.2.2.2.1 x.2.2.2.2.2.2.2.2.1 a.2.1 a.2.2.1 a.2.2.2.1 a.2.2.2.2.1 a.2.2.2.2.2.1 a.2.2.2.2.2.2.1 a.2.2.2.2.2.2.2.1 a.2.2.2.2.2.2.2.2.1 b.2.1 b.2.2.1 b.2.2.2.1 b.2.2.2.2.1 b.2.2.2.2.2.1 b.2.2.2.2.2.2.1 b.2.2.2.2.2.2.2.1 b.2.2.2.2.2.2.2.2.1 c.2.1 c.2.2.1 c.2.2.2.1 c.2.2.2.2.1 c.2.2.2.2.2.1 c.2.2.2.2.2.2.1 c.2.2.2.2.2.2.2.1 c.2.2.2.2.2.2.2.2.1 d.2.1 d.2.2.1 d.2.2.2.1 d.2.2.2.2.1 d.2.2.2.2.2.1 d.2.2.2.2.2.2.1 d.2.2.2.2.2.2.2.1 d.2.2.2.2.2.2.2.2.1 e.2.1 e.2.2.1 e.2.2.2.1 e.2.2.2.2.1 e.2.2.2.2.2.1 e.2.2.2.2.2.2.1 e.2.2.2.2.2.2.2.1 e.2.2.2.2.2.2.2.2.1 f.2.1 f.2.2.1 f.2.2.2.1 f.2.2.2.2.1 f.2.2.2.2.2.1 f.2.2.2.2.2.2}
theorem Dz3:A3 Tryz.prog Bw8:=
 cgo (l:=[Au7,Bw7]) (o:=[]) (.mk .plain [H0,(.mk .plain [H0,(.mk .plain [(.mk .plain [H0,(.mk .plain [(.mk (.loop [kI 0 0,kI 0 1,sI 24] (zP [30,36,42,39,45,48,26,29,35,32,38,41,47,44,4,28,25,31,34,40,37,43,46,49,27,33,50]) [(.ret,[kI 0 0,kI 0 1]),(.exit 0,[kI 0 0,kI 0 1])]) [])])])])])]) (by simp[BM5,Dz2]) (by simp) Tryz.func111 rfl (by kernel_rfl) (by funext x;kernel_rfl)
noncomputable def AU0 [LP](a b:(Int×Int)):Option ((Int×Int)×Bool):=
 (T8 a).bind fun c=>
 (bif !(!c) then T8 b else some false).bind fun d=>
 let e:=(bif (!c) then true else (!d))
 (bif e then
  let f:(Int×Int):=((0:Int),(0:Int))
  some (f,false)
 else
  (AM6 a.1 b.2).bind fun g=>
  (AM6 a.2 b.1).bind fun h=>
  (AT4 g.1 g.2 h.1 h.2).bind fun i=>
  some (i.1,i.2))
noncomputable def Az1:Con:={f:=124,ps:=[.dat (.agg (.pair (.int .i64) (.int .i64))),.dat (.agg (.pair (.int .i64) (.int .i64)))],boxes:=[],ins:=X6,nin:=2,outs:=(.pair (.agg (.pair (.int .i64) (.int .i64))) .bool),rs:=[.dat (.agg (.pair (.int .i64) (.int .i64))),.dat .bool],A2:=2,F:=fun x=>AU0 x.1 x.2}
theorem BQ3:A3 Tryz.prog Az1:=
 cgo (l:=[AC8,Ak3,Ak4]) (o:=[]) H0 (by simp[AF7,Ay8,Ay9]) (by simp) Tryz.func124 rfl (by kernel_rfl) (by funext x;kernel_rfl)
noncomputable def Ak6 [LP](a:C8)(b:Int)(c:(Int×Int)):Option (Int×Int):=
 (AD0 b).bind fun d=>
 (AU0 d c).bind fun e=>
 (Ac4 e.1 a.2.2.2.2.2.1).bind fun f=>
 some f.1
noncomputable def Bw9:Con:={f:=110,ps:=[.dat (.agg C7),dI,.dat (.agg (.pair (.int .i64) (.int .i64)))],boxes:=[],ins:=DF0,nin:=3,outs:=(.agg (.pair (.int .i64) (.int .i64))),rs:=[.dat (.agg (.pair (.int .i64) (.int .i64)))],A2:=1,F:=fun x=>Ak6 x.1 x.2.1 x.2.2}
theorem Dz4:A3 Tryz.prog Bw9:=
 cgo (l:=[Ab2,Az1,Az0]) (o:=[]) H0 (by simp[Aj2,BQ3,BQ1]) (by simp) Tryz.func110 rfl (by kernel_rfl) (by funext x;kernel_rfl)
noncomputable def AH1 [LP](a b:(Int×Int)):Option ((Int×Int)×Bool):=
 (T8 a).bind fun c=>
 (bif !(!c) then T8 b else some false).bind fun d=>
 let e:=(bif (!c) then true else (!d))
 (bif e then
  let f:(Int×Int):=((0:Int),(0:Int))
  some (f,false)
 else
  (AG6 a.1 b.1).bind fun g=>
  (AG6 a.2 b.2).bind fun h=>
  (AT4 g.1 g.2 h.1 h.2).bind fun i=>
  some (i.1,i.2))
noncomputable def Ac6:Con:={f:=82,ps:=[.dat (.agg (.pair (.int .i64) (.int .i64))),.dat (.agg (.pair (.int .i64) (.int .i64)))],boxes:=[],ins:=X6,nin:=2,outs:=(.pair (.agg (.pair (.int .i64) (.int .i64))) .bool),rs:=[.dat (.agg (.pair (.int .i64) (.int .i64))),.dat .bool],A2:=2,F:=fun x=>AH1 x.1 x.2}
theorem Ak7:A3 Tryz.prog Ac6:=
 cgo (l:=[AC8,Ak1,Ak4]) (o:=[]) H0 (by simp[AF7,Ay6,Ay9]) (by simp) Tryz.func82 rfl (by kernel_rfl) (by funext x;kernel_rfl)
noncomputable def Ak8 [LP](a b:(Int×Int)):Option (Int×Int):=
 (AH1 a b).bind fun c=>
 some c.1
noncomputable def Bx0:Con:={f:=109,ps:=[.dat (.agg (.pair (.int .i64) (.int .i64))),.dat (.agg (.pair (.int .i64) (.int .i64)))],boxes:=[],ins:=X6,nin:=2,outs:=(.agg (.pair (.int .i64) (.int .i64))),rs:=[.dat (.agg (.pair (.int .i64) (.int .i64)))],A2:=1,F:=fun x=>Ak8 x.1 x.2}
theorem Dz5:A3 Tryz.prog Bx0:=
 cgo (l:=[Ac6]) (o:=[]) H0 (by simp[Ak7]) (by simp) Tryz.func109 rfl (by kernel_rfl) (by funext x;kernel_rfl)
noncomputable def AU1 [LP](a b c d e f g h i j k l m n:Int)(o:(List Yd1))(p:(List Yd3))(q:Bool)(r s t:Int)(u:(List Int))(v:Bool)(w y:Int)(a0:Bool)(a1 a2 a3 a4 a5 a6 a7 a8 a9:Int)(b0:Bool)(b1 b2 b3 b4 b5:Int)(b6:(List E2))(b7:Bool)(b8 b9 c0 c1 c2:Int)(c3 c4 c5:Bool)(c6 c7 c8 c9:Int)(d0:Bool)(d1:V7):Option (Bool×(Int×Int)):=
 (AD3 d1 (4:Int)).bind fun d2=>
 (bif (!d2.2) then
  let d3:(Bool×(Int×Int)):=(false,((0:Int),(0:Int)))
  some d3
 else
  let d4:C8:=(a,(b,(c,(d,(e,(f,(g,(h,(i,(j,(k,(l,(m,n)))))))))))))
  (AT9 a b c d e f g h i j k l m n o p q r s t u v w y a0 a1 a2 a3 a4 a5 a6 a7 a8 a9 b0 b1 b2 b3 b4 b5 b6 b7 b8 b9 c0 c1 c2 c3 c4 c5 c6 c7 c8 c9 d0).bind fun d5=>
  (Ak6 d4 d2.1 d5).bind fun d6=>
  (Ak8 (a7,a8) d6).bind fun d7=>
  let d8:(Bool×(Int×Int)):=(true,d7)
  some d8)
noncomputable def Bx1:Con:={f:=70,ps:=[.rp [dI,dI,dI,dI,dI,dI,dI,dI,dI,dI,dI,dI,dI,dI,.dat (.slice (.agg Yt1)),.dat (.slice (.agg Yt3)),.dat .bool,dI,dI,dI,.dat (.slice (.int .i64)),.dat .bool,.dat (.int .u16),dI,.dat .bool,.dat (.int .u16),dI,dI,dI,dI,dI,dI,dI,dI,.dat .bool,dI,dI,dI,dI,dI,.dat (.slice (.agg I3)),.dat .bool,dI,dI,dI,dI,dI,.dat .bool,.dat .bool,.dat .bool,dI,dI,dI,dI,.dat .bool] 0,.dat (.agg X9)],boxes:=[],ins:=Bj8,nin:=56,outs:=(.agg (.pair .bool (.agg (.pair (.int .i64) (.int .i64))))),rs:=[.dat (.agg (.pair .bool (.agg (.pair (.int .i64) (.int .i64)))))],A2:=1,F:=fun x=>let a:=x.2.2.2.2.2.2.2.2;let b:=a.2.2.2.2.2.2.2.2;let c:=b.2.2.2.2.2.2.2.2;let d:=c.2.2.2.2.2.2.2.2;let e:=d.2.2.2.2.2.2.2.2;let f:=e.2.2.2.2.2.2.2.2;AU1 x.1 x.2.1 x.2.2.1 x.2.2.2.1 x.2.2.2.2.1 x.2.2.2.2.2.1 x.2.2.2.2.2.2.1 x.2.2.2.2.2.2.2.1 x.2.2.2.2.2.2.2.2.1 a.2.1 a.2.2.1 a.2.2.2.1 a.2.2.2.2.1 a.2.2.2.2.2.1 a.2.2.2.2.2.2.1 a.2.2.2.2.2.2.2.1 a.2.2.2.2.2.2.2.2.1 b.2.1 b.2.2.1 b.2.2.2.1 b.2.2.2.2.1 b.2.2.2.2.2.1 b.2.2.2.2.2.2.1 b.2.2.2.2.2.2.2.1 b.2.2.2.2.2.2.2.2.1 c.2.1 c.2.2.1 c.2.2.2.1 c.2.2.2.2.1 c.2.2.2.2.2.1 c.2.2.2.2.2.2.1 c.2.2.2.2.2.2.2.1 c.2.2.2.2.2.2.2.2.1 d.2.1 d.2.2.1 d.2.2.2.1 d.2.2.2.2.1 d.2.2.2.2.2.1 d.2.2.2.2.2.2.1 d.2.2.2.2.2.2.2.1 d.2.2.2.2.2.2.2.2.1 e.2.1 e.2.2.1 e.2.2.2.1 e.2.2.2.2.1 e.2.2.2.2.2.1 e.2.2.2.2.2.2.1 e.2.2.2.2.2.2.2.1 e.2.2.2.2.2.2.2.2.1 f.2.1 f.2.2.1 f.2.2.2.1 f.2.2.2.2.1 f.2.2.2.2.2.1 f.2.2.2.2.2.2.1 f.2.2.2.2.2.2.2}
theorem Dz6:A3 Tryz.prog Bx1:=
 cgo (l:=[Ak0,Bw8,Bw9,Bx0]) (o:=[]) H0 (by simp[Ay5,Dz3,Dz4,Dz5]) (by simp) Tryz.func70 rfl (by kernel_rfl) (by funext x;kernel_rfl)
noncomputable def BQ4 [LP](a:Au4):Option (List (Int×Int)):=
 Option.bind (
  (bif a.1.1 then
   let b:(List (Int×Int)):=([a.1.2]:List (Int×Int))
   chk none (decide ((([]:List (Int×Int)).length+b.length)*16≤140737488355328))<|
   let c:(List (Int×Int)):=b
   some c
  else
   some ([]))) fun d=>
 Option.bind (
  (bif a.2.1.1 then
   let e:(List (Int×Int)):=([a.2.1.2]:List (Int×Int))
   chk none (decide ((d.length+e.length)*16≤140737488355328))<|
   let f:(List (Int×Int)):=(d++e)
   some f
  else
   some d)) fun g=>
 Option.bind (
  (bif a.2.2.1 then
   let h:(List (Int×Int)):=([a.2.2.2]:List (Int×Int))
   chk none (decide ((g.length+h.length)*16≤140737488355328))<|
   let i:(List (Int×Int)):=(g++h)
   some i
  else
   some g)) fun j=>
 some j
noncomputable def Bx2:Con:={f:=102,ps:=[.dat (.agg Ai5)],boxes:=[],ins:=(.agg Ai5),nin:=1,outs:=(.slice (.agg (.pair (.int .i64) (.int .i64)))),rs:=[.dat (.slice (.agg (.pair (.int .i64) (.int .i64))))],A2:=1,F:=fun x=>BQ4 x}
theorem Dz7:A3 Tryz.prog Bx2:=
 cgo (l:=[]) (o:=[]) (.mk .plain [H0,(.mk .plain [H0,(.mk .plain [(.mk .plain [H0,(.mk .plain [(.mk (.AX7 4) [(.mk .plain [H0,(.mk .plain [H0,(.mk .plain [(.mk .plain [(.mk .plain [H0,(.mk .plain [H0,(.mk (.join (zP [12,15,16,14,13]) [(.normal,[⟨.slot 3,(.slice (.agg (.pair (.int .i64) (.int .i64)))),some 1600044⟩])]) [])])])])])])])])])])])])]) (by simp) (by simp) Tryz.func102 rfl (by kernel_rfl) (by funext x;kernel_rfl)
noncomputable def AU2 [LP](a:(List (Int×Int))):Option ((Int×Int)×Bool):=
 let b:=((a.length:Int)==(0:Int))
 (bif b then
  let c:(Int×Int):=((0:Int),(0:Int))
  some (c,false)
 else
  chk none (true&&(decide ((0:Int)<(a.length:Int))))<|
  let d:(Int×Int):=(a.getD (0:Int).toNat ((0:Int),(0:Int)))
  Option.bind (α:=(Int×(Int×Bool)) ⊕ Yd2) (
   LP.lp (X:=(Int×(Int×Bool)) ⊕ Yd2) (fun (e:Yd3)=>
    let f:=e.1
    let g:=e.2.1
    let h:=e.2.2.1
    let i:=e.2.2.2.1
    let j:=e.2.2.2.2
    let k:=decide (j<a.length)
    (bif k then
     chk none (decide (0≤j)&&decide (j<a.length))<|
     let l:(Int×Int):=(a.getD j.toNat ((0:Int),(0:Int)))
     (AA9 (i,f) l).bind fun m=>
     (bif (!m.2) then
      let n:(Int×Int):=((0:Int),(0:Int))
      some (.inr (.inl (n.1,n.2,false)))
     else
      let o:=IntKind.wrap .i64 (j+1)
      some (.inl (m.1.2,g,h,m.1.1,o)))
    else
     some (.inr (.inr (f,g,h,i))))) (d.2,(0:Int),(0:Int),d.1,(0:Int))) fun z=>match z with
  | .inl p=>
   let q:=p.1
   let r:=p.2.1
   let s:=p.2.2
   some ((q,r),s)
  | .inr t=>
   let u:=t.1
   let v:=t.2.1
   let w:=t.2.2.1
   let y:=t.2.2.2
   let a0:(Int×Int):=(y,u)
   some (a0,true))
noncomputable def Bx3:Con:={f:=153,ps:=[.dat (.slice (.agg (.pair (.int .i64) (.int .i64))))],boxes:=[],ins:=(.slice (.agg (.pair (.int .i64) (.int .i64)))),nin:=1,outs:=(.pair (.agg (.pair (.int .i64) (.int .i64))) .bool),rs:=[.dat (.agg (.pair (.int .i64) (.int .i64))),.dat .bool],A2:=2,F:=fun x=>AU2 x}
theorem Dz8:A3 Tryz.prog Bx3:=
 cgo (l:=[AH0]) (o:=[]) (.mk .plain [H0,(.mk .plain [H0,(.mk .plain [H0,(.mk .plain [(.mk .plain [H0,(.mk .plain [(.mk (.loop [kI 1 1,kI 0 0,kI 0 1,kI 1 0,sI 17] (zP [7,19,22,28,25,23,20,26,29,3,6,21,18,24,27,30]) [(.ret,[kI 0 0,kI 0 1,sB 3]),(.exit 0,[kI 1 1,kI 0 0,kI 0 1,kI 1 0])]) [])])])])])])]) (by simp[AM8]) (by simp) Tryz.func153 rfl (by kernel_rfl) (by funext x;kernel_rfl)
noncomputable def AU3 [LP](a:(List (Int×Int))):Option ((Int×Int)×Bool):=
 Option.bind (
  LP.lp (X:=(Bool×(Int×Int))) (fun (b:BL6)=>
   let c:=b.1
   let d:=b.2.1
   let e:=b.2.2.1
   let f:=b.2.2.2
   let g:=decide (d<a.length)
   (bif g then
    chk none (decide (0≤d)&&decide (d<a.length))<|
    let h:(Int×Int):=(a.getD d.toNat ((0:Int),(0:Int)))
    let i:=IntKind.wrap .i64 (d+1)
    chk none ((decide ((0:Int)≤i))&&(decide (i≤(a.length:Int)))&&(decide ((a.length:Int)≤(a.length:Int))))<|
    let j:(List (Int×Int)):=((a.take (a.length:Int).toNat).drop i.toNat)
    Option.bind (
     LP.lp (X:=(Bool×(Int×Int))) (fun (k:BL6)=>
      let l:=k.1
      let m:=k.2.1
      let n:=k.2.2.1
      let o:=k.2.2.2
      let p:=decide (o<j.length)
      (bif p then
       chk none (decide (0≤o)&&decide (o<j.length))<|
       let q:(Int×Int):=(j.getD o.toNat ((0:Int),(0:Int)))
       (AA9 h q).bind fun r=>
       let s:=(bif r.2 then l else false)
       Option.bind (
        (bif s then
         (AL0 (n,m) r.1).bind fun t=>
         some (t.2,t.1,l)
        else
         Option.bind (
          (bif r.2 then
           some (r.1.1,r.1.2,true)
          else
           some (n,m,l))) fun u=>
         let v:=u.1
         let w:=u.2.1
         let y:=u.2.2
         some (w,v,y))) fun a0=>
       let a1:=a0.1
       let a2:=a0.2.1
       let a3:=a0.2.2
       let a4:=IntKind.wrap .i64 (o+1)
       some (.inl (a3,a1,a2,a4))
      else
       some (.inr (l,m,n)))) (c,e,f,(0:Int))) fun a5=>
    let a6:=a5.1
    let a7:=a5.2.1
    let a8:=a5.2.2
    let a9:=IntKind.wrap .i64 (d+1)
    some (.inl (a6,a9,a7,a8))
   else
    some (.inr (c,e,f)))) (false,(0:Int),(0:Int),(0:Int))) fun b0=>
 let b1:=b0.1
 let b2:=b0.2.1
 let b3:=b0.2.2
 let b4:(Int×Int):=(b3,b2)
 some (b4,b1)
noncomputable def Bx4:Con:={f:=154,ps:=[.dat (.slice (.agg (.pair (.int .i64) (.int .i64))))],boxes:=[],ins:=(.slice (.agg (.pair (.int .i64) (.int .i64)))),nin:=1,outs:=(.pair (.agg (.pair (.int .i64) (.int .i64))) .bool),rs:=[.dat (.agg (.pair (.int .i64) (.int .i64))),.dat .bool],A2:=2,F:=fun x=>AU3 x}
theorem Dz9:A3 Tryz.prog Bx4:=
 cgo (l:=[AH0,Ab3]) (o:=[]) (.mk .plain [H0,(.mk .plain [H0,(.mk .plain [H0,(.mk .plain [(.mk .plain [H0,(.mk .plain [(.mk (.loop [sB 5,sI 14,kI 1 1,kI 1 0] (zP [30,36,42,39,45,11,17,23,20,26,29,35,32,38,41,44,7,10,16,19,22,28,25,31,34,40,37,43,46,9,6,15,21,18,24,27,33]) [(.exit 0,[sB 5,kI 1 1,kI 1 0])]) [(.mk .plain [H0,(.mk .plain [H0,(.mk .plain [(.mk .plain [(.mk .plain [H0,(.mk .plain [H0,(.mk .plain [(.mk (.loop [sB 5,kI 1 1,kI 1 0,sI 24] (zP [30,36,42,39,45,11,26,29,35,32,38,41,44,10,28,25,31,34,40,37,43,9,27,33]) [(.exit 2,[sB 5,kI 1 1,kI 1 0])]) [(.mk .plain [H0,(.mk .plain [H0,(.mk .plain [(.mk .plain [(.mk .plain [H0,(.mk .plain [H0,(.mk .plain [(.mk .plain [H0,(.mk (.join (zP [41,39,40,42,44,43]) [(.normal,[kI 1 1,kI 1 0,sB 5])]) [H0,(.mk .plain [H0,(.mk (.join [(0,44)] [(.normal,[kI 1 0,kI 1 1,sB 5])]) [])])])])])])])])])])])])])])])])])])])])])])])])])]) (by simp[AM8,Aj3]) (by simp) Tryz.func154 rfl (by kernel_rfl) (by funext x;kernel_rfl)
noncomputable def AU4 [LP](a:(List (Int×Int))):Option DF4:=
 (AU2 a).bind fun b=>
 (bif b.2 then
  some (b.1,true,true)
 else
  let c:=(decide ((a.length:Int)<(3:Int)))
  (bif c then
   let d:(Int×Int):=((0:Int),(0:Int))
   some (d,false,false)
  else
   (AU3 a).bind fun e=>
   some (e.1,e.2,false)))
noncomputable def Bx5:Con:={f:=103,ps:=[.dat (.slice (.agg (.pair (.int .i64) (.int .i64))))],boxes:=[],ins:=(.slice (.agg (.pair (.int .i64) (.int .i64)))),nin:=1,outs:=DF3,rs:=[.dat (.agg (.pair (.int .i64) (.int .i64))),.dat .bool,.dat .bool],A2:=3,F:=fun x=>AU4 x}
theorem EA0:A3 Tryz.prog Bx5:=
 cgo (l:=[Bx3,Bx4]) (o:=[]) H0 (by simp[Dz8,Dz9]) (by simp) Tryz.func103 rfl (by kernel_rfl) (by funext x;kernel_rfl)
noncomputable def Ak9 [LP](a:(Int×Int))(b c d:Int)(e f:Bool)(g h:Int):Option CZ4:=
 (AA9 (b,c) a).bind fun i=>
 (bif (!i.2) then
  some (b,c,d,e,true,g,h)
 else
  some (i.1.1,i.1.2,d,e,f,g,h))
noncomputable def Bx6:Con:={f:=104,ps:=[.ref 0 0,.dat (.agg (.pair (.int .i64) (.int .i64)))],boxes:=[[dI,dI,dI,.dat .bool,.dat .bool,dI,dI]],ins:=DF5,nin:=8,outs:=Bi0,rs:=[],A2:=7,F:=fun x=>Ak9 x.1 x.2.1 x.2.2.1 x.2.2.2.1 x.2.2.2.2.1 x.2.2.2.2.2.1 x.2.2.2.2.2.2.1 x.2.2.2.2.2.2.2}
theorem EA1:A3 Tryz.prog Bx6:=
 cgo (l:=[AH0]) (o:=[]) H0 (by simp[AM8]) (by simp) Tryz.func104 rfl (by kernel_rfl) (by funext x;kernel_rfl)
noncomputable def AU5 [LP](a:(Int×Int))(b:(List (Int×Int))):Option (List Int):=
 Option.bind (
  LP.lp (X:=(List Int)) (fun (c:((List Int)×Int))=>
   let d:(List Int):=c.1
   let e:=c.2
   let f:=decide (e<b.length)
   (bif f then
    chk none (decide (0≤e)&&decide (e<b.length))<|
    let g:(Int×Int):=(b.getD e.toNat ((0:Int),(0:Int)))
    (AA9 a g).bind fun h=>
    Option.bind (
     (bif (!h.2) then
      chk none (decide ((d.length+([e]:List Int).length)*8≤140737488355328))<|
      let i:(List Int):=(d++([e]:List Int))
      some i
     else
      some d)) fun j=>
    let k:=IntKind.wrap .i64 (e+1)
    some (.inl (j,k))
   else
    some (.inr d))) ([],(0:Int))) fun l=>
 some l
noncomputable def Bx7:Con:={f:=105,ps:=[.dat (.agg (.pair (.int .i64) (.int .i64))),.dat (.slice (.agg (.pair (.int .i64) (.int .i64))))],boxes:=[],ins:=DF6,nin:=2,outs:=(.slice (.int .i64)),rs:=[.dat (.slice (.int .i64))],A2:=1,F:=fun x=>AU5 x.1 x.2}
theorem EA2:A3 Tryz.prog Bx7:=
 cgo (l:=[AH0]) (o:=[]) (.mk .plain [H0,(.mk .plain [H0,(.mk .plain [(.mk .plain [H0,(.mk .plain [(.mk (.loop [⟨.slot 5,(.slice (.int .i64)),some 2800003⟩,sI 12] (zP [7,16,13,19,22,28,25,8,14,17,23,20,26,29,9,6,15,21,18,24,27]) [(.exit 0,[⟨.slot 5,(.slice (.int .i64)),some 2800003⟩])]) [(.mk .plain [H0,(.mk .plain [H0,(.mk .plain [(.mk .plain [(.mk .plain [H0,(.mk .plain [H0,(.mk .plain [H0,(.mk (.join (zP [25,26,27,28]) [(.normal,[⟨.slot 5,(.slice (.int .i64)),some 2800003⟩])]) [])])])])])])])])])])])])])]) (by simp[AM8]) (by simp) Tryz.func105 rfl (by kernel_rfl) (by funext x;kernel_rfl)
noncomputable def Az2 [LP](a b:Int):Option Int:=
 let c:=((bits .i64 .xor a b).fdiv (2 ^ 1))
 let d:=IntKind.wrap .i64 ((bits .i64 .and a b)+c)
 some d
noncomputable def Bx8:Con:={f:=113,ps:=[dI,dI],boxes:=[],ins:=(.pair (.int .i64) (.int .i64)),nin:=2,outs:=(.int .i64),rs:=[dI],A2:=1,F:=fun x=>Az2 x.1 x.2}
theorem EA3:A3 Tryz.prog Bx8:=
 cgo (l:=[]) (o:=[]) H0 (by simp) (by simp) Tryz.func113 rfl (by kernel_rfl) (by funext x;kernel_rfl)
noncomputable def AD5 [LP](a:(Int×Int)):Option Int:=
 (Az2 a.1 a.2).bind fun b=>
 some b
noncomputable def AU6:Con:={f:=72,ps:=[.dat (.agg (.pair (.int .i64) (.int .i64)))],boxes:=[],ins:=(.agg (.pair (.int .i64) (.int .i64))),nin:=1,outs:=(.int .i64),rs:=[dI],A2:=1,F:=fun x=>AD5 x}
theorem Al0:A3 Tryz.prog AU6:=
 cgo (l:=[Bx8]) (o:=[]) H0 (by simp[EA3]) (by simp) Tryz.func72 rfl (by kernel_rfl) (by funext x;kernel_rfl)
noncomputable def Az3 [LP](a b:(Int×Int)):Option Int:=
 let c:=decide (b.2<a.1)
 (AD5 b).bind fun d=>
 let e:=decide (d<(0:Int))
 Option.bind (
  (bif e then
   let f:=decide (a.2<b.1)
   some f
  else
   some c)) fun g=>
 (bif g then
  some (1:Int)
 else
  some (-1:Int))
noncomputable def Bx9:Con:={f:=106,ps:=[.dat (.agg (.pair (.int .i64) (.int .i64))),.dat (.agg (.pair (.int .i64) (.int .i64)))],boxes:=[],ins:=X6,nin:=2,outs:=(.int .i64),rs:=[dI],A2:=1,F:=fun x=>Az3 x.1 x.2}
theorem EA4:A3 Tryz.prog Bx9:=
 cgo (l:=[AU6]) (o:=[]) (.mk .plain [H0,(.mk .plain [H0,(.mk .plain [(.mk .plain [H0,(.mk (.join (zP [15,16,18,14,17]) [(.normal,[sB 5])]) [])])])])]) (by simp[Al0]) (by simp) Tryz.func106 rfl (by kernel_rfl) (by funext x;kernel_rfl)
noncomputable def AH2 [LP](a:(Int×Int))(b:Au4)(c:(Bool×(Int×Int))):Option Aa6:=
 (BQ4 b).bind fun d=>
 let e:Aa6:=(a,((d.length:Int),(false,(false,((0:Int),(0:Int))))))
 let pA:=e.2.2.2.2
 (AU4 d).bind fun f=>
 let g:=((d.length:Int)==(3:Int))
 let h:=(bif f.2.2 then g else false)
 Option.bind (
  (bif f.2.1 then
   (Ak9 f.1 e.1.1 e.1.2 e.2.1 h e.2.2.2.1 pA.1 pA.2).bind fun i=>
   let pB:=i.2.2.2.2
   some (pB.2.1,pB.1,i.2.1,i.1,pB.2.2,i.2.2.2.1,i.2.2.1)
  else
   let j:=(decide ((0:Int)<(d.length:Int)))
   Option.bind (
    (bif j then
     some true
    else
     some e.2.2.2.1)) fun k=>
   some (pA.1,k,e.1.2,e.1.1,pA.2,h,e.2.1))) fun l=>
 let pC:=l.2.2.2.2
 let m:=l.1
 let n:=l.2.1
 let o:=l.2.2.1
 let p:=l.2.2.2.1
 let q:=pC.1
 let r:=pC.2.1
 let s:=pC.2.2
 Option.bind (
  (bif c.1 then
   (Ak9 c.2 p o s r n m q).bind fun t=>
   let pD:=t.2.2.2.2
   some (pD.2.1,pD.1,t.2.1,t.1,pD.2.2,t.2.2.2.1,t.2.2.1)
  else
   some (m,n,o,p,q,r,s))) fun u=>
 let pE:=u.2.2.2.2
 let v:=u.1
 let w:=u.2.1
 let y:=u.2.2.1
 let a0:=u.2.2.2.1
 let a1:=pE.1
 let a2:=pE.2.1
 let a3:=pE.2.2
 let a4:=(bif f.2.1 then (!f.2.2) else false)
 Option.bind (
  (bif a4 then
   let a5:(List (Int×Int)):=([b.1.2,b.2.1.2]:List (Int×Int))
   (AU5 f.1 a5).bind fun a6=>
   Option.bind (
    LP.lp (X:=Cb7) (fun (a7:DG1)=>
     let pF:=a7.2.2.2.2
     let a8:=a7.1
     let a9:=a7.2.1
     let b0:=a7.2.2.1
     let b1:=a7.2.2.2.1
     let b2:=pF.1
     let b3:=pF.2.1
     let b4:=pF.2.2.1
     let b5:=pF.2.2.2
     let b6:=decide (b5<a6.length)
     (bif b6 then
      chk none (decide (0≤b5)&&decide (b5<a6.length))<|
      let b7:=(a6.getD b5.toNat 0)
      chk none ((decide ((0:Int)≤b7))&&(decide (b7<(3:Int))))<|
      let b8:(Int×Int):=(List.getD [b.1.2,b.2.1.2,b.2.2.2] b7.toNat ((0:Int),(0:Int)))
      (Az3 b8 f.1).bind fun b9=>
      chk none ((decide ((0:Int)≤b7))&&(decide (b7<(2:Int))))<|
      let c0:=IntKind.wrap .i64 (b5+1)
      some (.inl (a8,a9,b0,(bif (b7==(0:Int)) then b9 else b1),b2,(bif (b7==(1:Int)) then b9 else b3),b4,c0))
     else
      some (.inr (a8,a9,b0,b1,b2,b3,b4)))) (w,y,a3,v,a0,a1,a2,(0:Int))) fun c1=>
   let pG:=c1.2.2.2.2
   let c2:=c1.1
   let c3:=c1.2.1
   let c4:=c1.2.2.1
   let c5:=c1.2.2.2.1
   let c6:=pG.1
   let c7:=pG.2.1
   let c8:=pG.2.2
   some (c2,c3,c4,c5,c6,c7,c8)
  else
   some (w,y,a3,v,a0,a1,a2))) fun c9=>
 let pH:=c9.2.2.2.2
 let d0:=c9.1
 let d1:=c9.2.1
 let d2:=c9.2.2.1
 let d3:=c9.2.2.2.1
 let d4:=pH.1
 let d5:=pH.2.1
 let d6:=pH.2.2
 let d7:Aa6:=((d4,d1),(d2,(d6,(d0,(d3,d5)))))
 some d7
noncomputable def By0:Con:={f:=68,ps:=[.dat (.agg (.pair (.int .i64) (.int .i64))),.dat (.agg Ai5),.dat (.agg (.pair .bool (.agg (.pair (.int .i64) (.int .i64)))))],boxes:=[],ins:=DG3,nin:=3,outs:=(.agg AQ1),rs:=[.dat (.agg AQ1)],A2:=1,F:=fun x=>AH2 x.1 x.2.1 x.2.2}
theorem EA5:A3 Tryz.prog By0:=
 cgo (l:=[Bx2,Bx5,Bx6,Bx7,Bx9]) (o:=[]) (.mk .plain [H0,(.mk .plain [H0,(.mk .plain [H0,(.mk .plain [H0,(.mk .plain [H0,(.mk .plain [(.mk .plain [(.mk .plain [H0,(.mk (.join (zP [36,35,41,39,40,37,38]) [(.normal,[kI 4 5,kB 4 4,kI 4 1,kI 4 0,kI 4 6,kB 4 3,kI 4 2])]) [H0,(.mk .plain [H0,(.mk (.join [(0,41)] [(.normal,[kB 4 4])]) [])])])])]),(.mk .plain [(.mk .plain [H0,(.mk (.join (zP [46,45,44]) [(.normal,[kI 4 5,kB 4 4,kI 4 1,kI 4 0,kI 4 6,kB 4 3,kI 4 2])]) [])]),(.mk .plain [(.mk .plain [H0,(.mk (.join (zP [68,65,71,74,13,54,57,60,66,63,69,72,75,52,55,61,58,64,67,73,70,53,59,56,62]) [(.normal,[kB 4 4,kI 4 1,kI 4 2,kI 4 5,kI 4 0,kI 4 6,kB 4 3])]) [(.mk .plain [H0,(.mk .plain [(.mk (.loop [kB 4 4,kI 4 1,kI 4 2,kI 4 5,kI 4 0,kI 4 6,kB 4 3,sI 62] (zP [68,65,71,74,13,66,63,69,72,75,64,67,73,70]) [(.exit 1,[kB 4 4,kI 4 1,kI 4 2,kI 4 5,kI 4 0,kI 4 6,kB 4 3])]) [])])])])])])])])])])])])]) (by simp[Dz7,EA0,EA1,EA2,EA4]) (by simp) Tryz.func68 rfl (by kernel_rfl) (by funext x;kernel_rfl)
noncomputable def AU7 [LP](a:V7)(b c d e f g h i j k l m n o:Int)(p:(List Yd1))(q:(List Yd3))(r:Bool)(s t u:Int)(v:(List Int))(w:Bool)(y a0:Int)(a1:Bool)(a2 a3 a4 a5 a6 a7 a8 a9 b0:Int)(b1:Bool)(b2 b3 b4 b5 b6:Int)(b7:(List E2))(b8:Bool)(b9 c0 c1 c2 c3:Int)(c4 c5 c6:Bool)(c7 c8 c9 d0:Int)(d1:Bool):Option DG5:=
 (AD4 (0:Int) a b c d e f g h i j k l m n o p q r s t u v w y a0 a1 a2 a3 a4 a5 a6 a7 a8 a9 b0 b1 b2 b3 b4 b5 b6 b7 b8 b9 c0 c1 c2 c3 c4 c5 c6 c7 c8 c9 d0 d1).bind fun d2=>
 let pA:=d2.2.2.2.2
 let pC:=pA.2.2.2.2
 let pE:=pC.2.2.2.2
 let pG:=pE.2.2.2.2
 let pI:=pG.2.2.2.2
 let pK:=pI.2.2.2.2
 let pM:=pK.2.2.2.2
 let pO:=pM.2.2.2.2
 let pQ:=pO.2.2.2.2
 let pS:=pQ.2.2.2.2
 let pU:=pS.2.2.2.2
 let pW:=pU.2.2.2.2
 let pY:=pW.2.2.2.2
 (AD4 (1:Int) a d2.2.1 d2.2.2.1 d2.2.2.2.1 pA.1 pA.2.1 pA.2.2.1 pA.2.2.2.1 pC.1 pC.2.1 pC.2.2.1 pC.2.2.2.1 pE.1 pE.2.1 pE.2.2.1 pE.2.2.2.1 pG.1 pG.2.1 pG.2.2.1 pG.2.2.2.1 pI.1 pI.2.1 pI.2.2.1 pI.2.2.2.1 pK.1 pK.2.1 pK.2.2.1 pK.2.2.2.1 pM.1 pM.2.1 pM.2.2.1 pM.2.2.2.1 pO.1 pO.2.1 pO.2.2.1 pO.2.2.2.1 pQ.1 pQ.2.1 pQ.2.2.1 pQ.2.2.2.1 pS.1 pS.2.1 pS.2.2.1 pS.2.2.2.1 pU.1 pU.2.1 pU.2.2.1 pU.2.2.2.1 pW.1 pW.2.1 pW.2.2.1 pW.2.2.2.1 pY.1 pY.2.1 pY.2.2.1 pY.2.2.2).bind fun d3=>
 let pB:=d3.2.2.2.2
 let pD:=pB.2.2.2.2
 let pF:=pD.2.2.2.2
 let pH:=pF.2.2.2.2
 let pJ:=pH.2.2.2.2
 let pL:=pJ.2.2.2.2
 let pN:=pL.2.2.2.2
 let pP:=pN.2.2.2.2
 let pR:=pP.2.2.2.2
 let pT:=pR.2.2.2.2
 let pV:=pT.2.2.2.2
 let pX:=pV.2.2.2.2
 let pZ:=pX.2.2.2.2
 (AT5 d3.2.1 d3.2.2.1 d3.2.2.2.1 pB.1 pB.2.1 pB.2.2.1 pB.2.2.2.1 pD.1 pD.2.1 pD.2.2.1 pD.2.2.2.1 pF.1 pF.2.1 pF.2.2.1 pF.2.2.2.1 pH.1 pH.2.1 pH.2.2.1 pH.2.2.2.1 pJ.1 pJ.2.1 pJ.2.2.1 pJ.2.2.2.1 pL.1 pL.2.1 pL.2.2.1 pL.2.2.2.1 pN.1 pN.2.1 pN.2.2.1 pN.2.2.2.1 pP.1 pP.2.1 pP.2.2.1 pP.2.2.2.1 pR.1 pR.2.1 pR.2.2.1 pR.2.2.2.1 pT.1 pT.2.1 pT.2.2.1 pT.2.2.2.1 pV.1 pV.2.1 pV.2.2.1 pV.2.2.2.1 pX.1 pX.2.1 pX.2.2.1 pX.2.2.2.1 pZ.1 pZ.2.1 pZ.2.2.1 pZ.2.2.2 a).bind fun d4=>
 let d5:Au4:=(d2.1,(d3.1,d4))
 let d6:C8:=(d3.2.1,(d3.2.2.1,(d3.2.2.2.1,(pB.1,(pB.2.1,(pB.2.2.1,(pB.2.2.2.1,(pD.1,(pD.2.1,(pD.2.2.1,(pD.2.2.2.1,(pF.1,(pF.2.1,pF.2.2.1)))))))))))))
 let d7:(Int×Int):=(pP.1,pP.2.1)
 (Ac5 d6 d7).bind fun d8=>
 (AU1 d3.2.1 d3.2.2.1 d3.2.2.2.1 pB.1 pB.2.1 pB.2.2.1 pB.2.2.2.1 pD.1 pD.2.1 pD.2.2.1 pD.2.2.2.1 pF.1 pF.2.1 pF.2.2.1 pF.2.2.2.1 pH.1 pH.2.1 pH.2.2.1 pH.2.2.2.1 pJ.1 pJ.2.1 pJ.2.2.1 pJ.2.2.2.1 pL.1 pL.2.1 pL.2.2.1 pL.2.2.2.1 pN.1 pN.2.1 pN.2.2.1 pN.2.2.2.1 pP.1 pP.2.1 pP.2.2.1 pP.2.2.2.1 pR.1 pR.2.1 pR.2.2.1 pR.2.2.2.1 pT.1 pT.2.1 pT.2.2.1 pT.2.2.2.1 pV.1 pV.2.1 pV.2.2.1 pV.2.2.2.1 pX.1 pX.2.1 pX.2.2.1 pX.2.2.2.1 pZ.1 pZ.2.1 pZ.2.2.1 pZ.2.2.2 a).bind fun d9=>
 (AH2 d8 d5 d9).bind fun e0=>
 some (e0,d3.2.1,d3.2.2.1,d3.2.2.2.1,pB.1,pB.2.1,pB.2.2.1,pB.2.2.2.1,pD.1,pD.2.1,pD.2.2.1,pD.2.2.2.1,pF.1,pF.2.1,pF.2.2.1,pF.2.2.2.1,pH.1,pH.2.1,pH.2.2.1,pH.2.2.2.1,pJ.1,pJ.2.1,pJ.2.2.1,pJ.2.2.2.1,pL.1,pL.2.1,pL.2.2.1,pL.2.2.2.1,pN.1,pN.2.1,pN.2.2.1,pN.2.2.2.1,pP.1,pP.2.1,pP.2.2.1,pP.2.2.2.1,pR.1,pR.2.1,pR.2.2.1,pR.2.2.2.1,pT.1,pT.2.1,pT.2.2.1,pT.2.2.2.1,pV.1,pV.2.1,pV.2.2.1,pV.2.2.2.1,pX.1,pX.2.1,pX.2.2.1,pX.2.2.2.1,pZ.1,pZ.2.1,pZ.2.2.1,pZ.2.2.2)
noncomputable def BQ5:Con:={f:=40,ps:=[.ref 0 0,.dat (.agg X9)],boxes:=[[dI,dI,dI,dI,dI,dI,dI,dI,dI,dI,dI,dI,dI,dI,.dat (.slice (.agg Yt1)),.dat (.slice (.agg Yt3)),.dat .bool,dI,dI,dI,.dat (.slice (.int .i64)),.dat .bool,.dat (.int .u16),dI,.dat .bool,.dat (.int .u16),dI,dI,dI,dI,dI,dI,dI,dI,.dat .bool,dI,dI,dI,dI,dI,.dat (.slice (.agg I3)),.dat .bool,dI,dI,dI,dI,dI,.dat .bool,.dat .bool,.dat .bool,dI,dI,dI,dI,.dat .bool]],ins:=Bj7,nin:=56,outs:=DG4,rs:=[.dat (.agg AQ1)],A2:=56,F:=fun x=>let a:=x.2.2.2.2.2.2.2.2;let b:=a.2.2.2.2.2.2.2.2;let c:=b.2.2.2.2.2.2.2.2;let d:=c.2.2.2.2.2.2.2.2;let e:=d.2.2.2.2.2.2.2.2;let f:=e.2.2.2.2.2.2.2.2;AU7 x.1 x.2.1 x.2.2.1 x.2.2.2.1 x.2.2.2.2.1 x.2.2.2.2.2.1 x.2.2.2.2.2.2.1 x.2.2.2.2.2.2.2.1 x.2.2.2.2.2.2.2.2.1 a.2.1 a.2.2.1 a.2.2.2.1 a.2.2.2.2.1 a.2.2.2.2.2.1 a.2.2.2.2.2.2.1 a.2.2.2.2.2.2.2.1 a.2.2.2.2.2.2.2.2.1 b.2.1 b.2.2.1 b.2.2.2.1 b.2.2.2.2.1 b.2.2.2.2.2.1 b.2.2.2.2.2.2.1 b.2.2.2.2.2.2.2.1 b.2.2.2.2.2.2.2.2.1 c.2.1 c.2.2.1 c.2.2.2.1 c.2.2.2.2.1 c.2.2.2.2.2.1 c.2.2.2.2.2.2.1 c.2.2.2.2.2.2.2.1 c.2.2.2.2.2.2.2.2.1 d.2.1 d.2.2.1 d.2.2.2.1 d.2.2.2.2.1 d.2.2.2.2.2.1 d.2.2.2.2.2.2.1 d.2.2.2.2.2.2.2.1 d.2.2.2.2.2.2.2.2.1 e.2.1 e.2.2.1 e.2.2.2.1 e.2.2.2.2.1 e.2.2.2.2.2.1 e.2.2.2.2.2.2.1 e.2.2.2.2.2.2.2.1 e.2.2.2.2.2.2.2.2.1 f.2.1 f.2.2.1 f.2.2.2.1 f.2.2.2.2.1 f.2.2.2.2.2.1 f.2.2.2.2.2.2.1 f.2.2.2.2.2.2.2}
theorem EA6:A3 Tryz.prog BQ5:=
 cgo (l:=[Bv9,Bw3,Bw4,Bx1,By0]) (o:=[]) H0 (by simp[Dy5,Dy8,Dy9,Dz6,EA5]) (by simp) Tryz.func40 rfl (by kernel_rfl) (by funext x;kernel_rfl)
noncomputable def Az4 [LP](a:Int):Option (Int×Bool):=
 (AM6 (0:Int) a).bind fun b=>
 some (b.1,b.2)
noncomputable def By1:Con:={f:=112,ps:=[dI],boxes:=[],ins:=(.int .i64),nin:=1,outs:=(.pair (.int .i64) .bool),rs:=[dI,.dat .bool],A2:=2,F:=fun x=>Az4 x}
theorem EA7:A3 Tryz.prog By1:=
 cgo (l:=[Ak3]) (o:=[]) H0 (by simp[Ay8]) (by simp) Tryz.func112 rfl (by kernel_rfl) (by funext x;kernel_rfl)
noncomputable def Al1 [LP](a:Int):Option (Int×Bool):=
 let b:=decide (a<(0:Int))
 (bif b then
  (Az4 a).bind fun c=>
  some (c.1,c.2)
 else
  some (a,true))
noncomputable def By2:Con:={f:=71,ps:=[dI],boxes:=[],ins:=(.int .i64),nin:=1,outs:=(.pair (.int .i64) .bool),rs:=[dI,.dat .bool],A2:=2,F:=fun x=>Al1 x}
theorem EA8:A3 Tryz.prog By2:=
 cgo (l:=[By1]) (o:=[]) H0 (by simp[EA7]) (by simp) Tryz.func71 rfl (by kernel_rfl) (by funext x;kernel_rfl)
noncomputable def Al2 [LP](a b:(Int×Int)):Option Bool:=
 (T8 a).bind fun c=>
 let d:=(bif (decide (b.1≤a.1)) then (decide (a.2≤b.2)) else false)
 let e:=(bif (!c) then true else d)
 some e
noncomputable def BQ6:Con:={f:=114,ps:=[.dat (.agg (.pair (.int .i64) (.int .i64))),.dat (.agg (.pair (.int .i64) (.int .i64)))],boxes:=[],ins:=X6,nin:=2,outs:=.bool,rs:=[.dat .bool],A2:=1,F:=fun x=>Al2 x.1 x.2}
theorem By3:A3 Tryz.prog BQ6:=
 cgo (l:=[AC8]) (o:=[]) H0 (by simp[AF7]) (by simp) Tryz.func114 rfl (by kernel_rfl) (by funext x;kernel_rfl)
noncomputable def Az5 [LP](a b c:Int):Option Int:=
 let d:=(if c<a then c else a)
 let e:=(if d>b then d else b)
 some e
noncomputable def By4:Con:={f:=116,ps:=[dI,dI,dI],boxes:=[],ins:=(.pair (.int .i64) (.pair (.int .i64) (.int .i64))),nin:=3,outs:=(.int .i64),rs:=[dI],A2:=1,F:=fun x=>Az5 x.1 x.2.1 x.2.2}
theorem EA9:A3 Tryz.prog By4:=
 cgo (l:=[]) (o:=[]) H0 (by simp) (by simp) Tryz.func116 rfl (by kernel_rfl) (by funext x;kernel_rfl)
noncomputable def AH3 [LP](a:l6)(b:E6)(c:(Int×Int)):Option DH3:=
 (bif (!a.1) then
  some ((false,((0:Int),(((0:Int),(0:Int)),((0:Int),((0:Int),[]))))),(12:Int))
 else
  (AH1 a.2.2.1 c).bind fun d=>
  let e:(Int×Int):=((-17592186044416:Int),(17592186044416:Int))
  (bif !(!d.2) then Al2 d.1 e else some false).bind fun f=>
  let g:=(bif (!d.2) then true else (!f))
  (bif g then
   some ((false,((0:Int),(((0:Int),(0:Int)),((0:Int),((0:Int),[]))))),(20:Int))
  else
   (AG5 a.2.2.2.2 b d.1).bind fun h=>
   (bif (h.2 != (0:Int)) then
    some ((false,((0:Int),(((0:Int),(0:Int)),((0:Int),((0:Int),[]))))),h.2)
   else
    (AD5 c).bind fun i=>
    (Ac3 a.2.2.2.1 i).bind fun j=>
    (Az5 j d.1.1 d.1.2).bind fun k=>
    let l:l6:=(a.1,(a.2.1,(d.1,(k,h.1))))
    some (l,(0:Int)))))
noncomputable def By5:Con:={f:=74,ps:=[.dat (.agg Z9),.dat (.agg E1),.dat (.agg (.pair (.int .i64) (.int .i64)))],boxes:=[],ins:=DH4,nin:=3,outs:=DH2,rs:=[.dat (.agg Z9),dI],A2:=2,F:=fun x=>AH3 x.1 x.2.1 x.2.2}
theorem EB0:A3 Tryz.prog By5:=
 cgo (l:=[Ac6,BQ6,BP4,AU6,BP9,By4]) (o:=[]) H0 (by simp[Ak7,By3,Dw5,Al0,Bv5,EA9]) (by simp) Tryz.func74 rfl (by kernel_rfl) (by funext x;kernel_rfl)
noncomputable def AU8 [LP](a:(Int×Int))(b c d e f g h i j k l m n o:Int)(p:(List Yd1))(q:(List Yd3))(r:Bool)(s t u:Int)(v:(List Int))(w:Bool)(y a0:Int)(a1:Bool)(a2 a3 a4 a5 a6 a7 a8 a9 b0:Int)(b1:Bool)(b2 b3 b4 b5 b6:Int)(b7:(List E2))(b8:Bool)(b9 c0 c1 c2 c3:Int)(c4 c5 c6:Bool)(c7 c8 c9 d0:Int)(d1:Bool):Option DH5:=
 (AD5 a).bind fun d2=>
 (Al1 d2).bind fun d3=>
 (AG6 b0 d3.1).bind fun d4=>
 let d5:=(bif d3.2 then d4.2 else false)
 Option.bind (
  (bif d5 then
   some (d4.1,false)
  else
   some (b0,true))) fun d6=>
 let d7:=d6.1
 let d8:=d6.2
 Option.bind (
  (bif b1 then
   let d9:l6:=(b1,(b2,((b3,b4),(b5,(b6,b7)))))
   (AH3 d9 (p,q) a).bind fun e0=>
   let e1:=(bif d8 then true else (e0.2==(20:Int)))
   some (e0.1.2.2.1.2,e0.1.1,e0.1.2.2.2.2.2,e1,e0.1.2.2.2.2.1,e0.1.2.2.1.1,e0.1.2.1,e0.1.2.2.2.1)
  else
   some (b4,b1,b7,d8,b6,b3,b2,b5))) fun e2=>
 let pA:=e2.2.2.2.2
 let e3:=e2.1
 let e4:=e2.2.1
 let e5:(List E2):=e2.2.2.1
 let e6:=e2.2.2.2.1
 let e7:=pA.1
 let e8:=pA.2.1
 let e9:=pA.2.2.1
 let f0:=pA.2.2.2
 some (e6,b,c,d,e,f,g,h,i,j,k,l,m,n,o,p,q,r,s,t,u,v,w,y,a0,a1,a2,a3,a4,a5,a6,a7,a.1,a.2,d7,e4,e9,e8,e3,f0,e7,e5,b8,b9,c0,c1,c2,c3,c4,c5,c6,c7,c8,c9,d0,d1)
noncomputable def BQ7:Con:={f:=41,ps:=[.ref 0 0,.dat (.agg (.pair (.int .i64) (.int .i64)))],boxes:=[[dI,dI,dI,dI,dI,dI,dI,dI,dI,dI,dI,dI,dI,dI,.dat (.slice (.agg Yt1)),.dat (.slice (.agg Yt3)),.dat .bool,dI,dI,dI,.dat (.slice (.int .i64)),.dat .bool,.dat (.int .u16),dI,.dat .bool,.dat (.int .u16),dI,dI,dI,dI,dI,dI,dI,dI,.dat .bool,dI,dI,dI,dI,dI,.dat (.slice (.agg I3)),.dat .bool,dI,dI,dI,dI,dI,.dat .bool,.dat .bool,.dat .bool,dI,dI,dI,dI,.dat .bool]],ins:=BM2,nin:=56,outs:=Bk2,rs:=[.dat .bool],A2:=56,F:=fun x=>let a:=x.2.2.2.2.2.2.2.2;let b:=a.2.2.2.2.2.2.2.2;let c:=b.2.2.2.2.2.2.2.2;let d:=c.2.2.2.2.2.2.2.2;let e:=d.2.2.2.2.2.2.2.2;let f:=e.2.2.2.2.2.2.2.2;AU8 x.1 x.2.1 x.2.2.1 x.2.2.2.1 x.2.2.2.2.1 x.2.2.2.2.2.1 x.2.2.2.2.2.2.1 x.2.2.2.2.2.2.2.1 x.2.2.2.2.2.2.2.2.1 a.2.1 a.2.2.1 a.2.2.2.1 a.2.2.2.2.1 a.2.2.2.2.2.1 a.2.2.2.2.2.2.1 a.2.2.2.2.2.2.2.1 a.2.2.2.2.2.2.2.2.1 b.2.1 b.2.2.1 b.2.2.2.1 b.2.2.2.2.1 b.2.2.2.2.2.1 b.2.2.2.2.2.2.1 b.2.2.2.2.2.2.2.1 b.2.2.2.2.2.2.2.2.1 c.2.1 c.2.2.1 c.2.2.2.1 c.2.2.2.2.1 c.2.2.2.2.2.1 c.2.2.2.2.2.2.1 c.2.2.2.2.2.2.2.1 c.2.2.2.2.2.2.2.2.1 d.2.1 d.2.2.1 d.2.2.2.1 d.2.2.2.2.1 d.2.2.2.2.2.1 d.2.2.2.2.2.2.1 d.2.2.2.2.2.2.2.1 d.2.2.2.2.2.2.2.2.1 e.2.1 e.2.2.1 e.2.2.2.1 e.2.2.2.2.1 e.2.2.2.2.2.1 e.2.2.2.2.2.2.1 e.2.2.2.2.2.2.2.1 e.2.2.2.2.2.2.2.2.1 f.2.1 f.2.2.1 f.2.2.2.1 f.2.2.2.2.1 f.2.2.2.2.2.1 f.2.2.2.2.2.2.1 f.2.2.2.2.2.2.2}
theorem EB1:A3 Tryz.prog BQ7:=
 cgo (l:=[AU6,By2,Ak1,By5]) (o:=[]) (.mk .plain [H0,(.mk .plain [H0,(.mk .plain [H0,(.mk .plain [H0,(.mk .plain [H0,(.mk .plain [(.mk .plain [H0,(.mk (.join (zP [36,35,37,38]) [(.normal,[kI 0 33,sB 5])]) [])]),(.mk .plain [(.mk .plain [H0,(.mk (.join (zP [45,48,54,51,57,60,63,11,47,44,50,53,59,56,62,65,10,46,52,49,55,61,58,64]) [(.normal,[kI 0 37,kB 0 34,⟨.cell 0 40,(.slice (.agg I3)),none⟩,sB 5,kI 0 39,kI 0 36,kI 0 35,kI 0 38])]) [])])])])])])])])]) (by simp[Al0,EA8,Ay6,EB0]) (by simp) Tryz.func41 rfl (by kernel_rfl) (by funext x;kernel_rfl)
noncomputable def Al3 [LP](a:Int):Option Bool:=
 some (a != a)
noncomputable def By6:Con:={f:=161,ps:=[dI],boxes:=[],ins:=(.int .i64),nin:=1,outs:=.bool,rs:=[.dat .bool],A2:=1,F:=fun x=>Al3 x}
theorem EB2:A3 Tryz.prog By6:=
 cgo (l:=[]) (o:=[]) H0 (by simp) (by simp) Tryz.func161 rfl (by kernel_rfl) (by funext x;kernel_rfl)
noncomputable def Az6 [LP](a b:Int):Option Int:=
 (Al3 a).bind fun c=>
 (Al3 b).bind fun d=>
 (bif c then
  (bif d then
   some (0:Int)
  else
   some (-1:Int))
 else
  (bif d then
   some (1:Int)
  else
   (bif (decide (a<b)) then
    some (-1:Int)
   else
    (bif (decide (b<a)) then
     some (1:Int)
    else
     some (0:Int)))))
noncomputable def By7:Con:={f:=120,ps:=[dI,dI],boxes:=[],ins:=(.pair (.int .i64) (.int .i64)),nin:=2,outs:=(.int .i64),rs:=[dI],A2:=1,F:=fun x=>Az6 x.1 x.2}
theorem EB3:A3 Tryz.prog By7:=
 cgo (l:=[By6]) (o:=[]) H0 (by simp[EB2]) (by simp) Tryz.func120 rfl (by kernel_rfl) (by funext x;kernel_rfl)
noncomputable def Al4 [LP](a:Yd3)(b:Int):Option Int:=
 (Az6 a.1 b).bind fun c=>
 some c
noncomputable def By8:Con:={f:=119,ps:=[.dat (.agg Yt3),dI],boxes:=[],ins:=DH6,nin:=2,outs:=(.int .i64),rs:=[dI],A2:=1,F:=fun x=>Al4 x.1 x.2}
theorem EB4:A3 Tryz.prog By8:=
 cgo (l:=[By7]) (o:=[]) H0 (by simp[EB3]) (by simp) Tryz.func119 rfl (by kernel_rfl) (by funext x;kernel_rfl)
noncomputable def Ac7 [LP](a:(List Yd3))(b:Int):Option (Int×Bool):=
 Option.bind (
  LP.lp (X:=Int) (fun (c:(Int×Int))=>
   let d:=c.1
   let e:=c.2
   (bif (decide (e<d)) then
    let f:=IntKind.wrap .i64 (e+d)
    let g:=(IntKind.wrap .u64 f)
    let h:=IntKind.wrap .i64 (g.fdiv (2 ^ 1))
    chk none (decide (0≤h)&&decide (h<a.length))<|
    let i:Yd3:=(a.getD h.toNat ((0:Int),((0:Int),((0:Int),((0:Int),(0:Int))))))
    (Al4 i b).bind fun j=>
    let k:=decide (j<(0:Int))
    Option.bind (
     (bif k then
      let l:=IntKind.wrap .i64 (h+1)
      some (l,d)
     else
      some (e,h))) fun m=>
    let n:=m.1
    let o:=m.2
    some (.inl (o,n))
   else
    some (.inr e))) ((a.length:Int),(0:Int))) fun p=>
 let q:=decide (p<a.length)
 chk none ((decide (0≤p)&&decide (p<a.length))|| !q)<|
 let r:Yd3:=(a.getD p.toNat ((0:Int),((0:Int),((0:Int),((0:Int),(0:Int))))))
 (bif q then Al4 r b else some (0:Int)).bind fun s=>
 let t:=(bif q then (s==(0:Int)) else false)
 some (p,t)
noncomputable def By9:Con:={f:=118,ps:=[.dat (.slice (.agg Yt3)),dI,.clo 119 [] []],boxes:=[],ins:=DH7,nin:=2,outs:=(.pair (.int .i64) .bool),rs:=[dI,.dat .bool],A2:=2,F:=fun x=>Ac7 x.1 x.2}
theorem EB5:A3 Tryz.prog By9:=
 cgo (l:=[By8]) (o:=[]) (.mk .plain [H0,(.mk .plain [H0,(.mk .plain [H0,(.mk .plain [(.mk .plain [(.mk (.loop [sI 10,sI 9] (zP [30,16,19,22,28,25,31,34,11,17,23,20,26,29,32,15,21,18,24,27,33]) [(.exit 0,[sI 9])]) [(.mk .plain [H0,(.mk .plain [(.mk .plain [H0,(.mk .plain [H0,(.mk (.join (zP [32,33,34]) [(.normal,[sI 9,sI 10])]) [])])])])])])])])])])]) (by simp[EB4]) (by simp) Tryz.func118 rfl (by kernel_rfl) (by funext x;kernel_rfl)
noncomputable def AM9 [LP](a:E6)(b:Int):Option (Int×Bool):=
 (Ac7 a.2 b).bind fun c=>
 some (c.1,c.2)
noncomputable def Bz0:Con:={f:=76,ps:=[.dat (.agg E1),dI],boxes:=[],ins:=Bj2,nin:=2,outs:=(.pair (.int .i64) .bool),rs:=[dI,.dat .bool],A2:=2,F:=fun x=>AM9 x.1 x.2}
theorem EB6:A3 Tryz.prog Bz0:=
 cgo (l:=[By9]) (o:=[]) H0 (by simp[EB5]) (by simp) Tryz.func76 rfl (by kernel_rfl) (by funext x;kernel_rfl)
noncomputable def Al5 [LP](a b:(Int×Int)):Option ((Int×Int)×Bool):=
 let c:=(if b.1<(0:Int) then b.1 else (0:Int))
 let d:=(if b.2>(0:Int) then b.2 else (0:Int))
 (AH1 a (c,d)).bind fun e=>
 some (e.1,e.2)
noncomputable def Bz1:Con:={f:=121,ps:=[.dat (.agg (.pair (.int .i64) (.int .i64))),.dat (.agg (.pair (.int .i64) (.int .i64)))],boxes:=[],ins:=X6,nin:=2,outs:=(.pair (.agg (.pair (.int .i64) (.int .i64))) .bool),rs:=[.dat (.agg (.pair (.int .i64) (.int .i64))),.dat .bool],A2:=2,F:=fun x=>Al5 x.1 x.2}
theorem EB7:A3 Tryz.prog Bz1:=
 cgo (l:=[Ac6]) (o:=[]) H0 (by simp[Ak7]) (by simp) Tryz.func121 rfl (by kernel_rfl) (by funext x;kernel_rfl)
noncomputable def Az7 [LP](a:C8)(b:Yd3):Option Int:=
 let c:=IntKind.wrap .i64 (b.2.2.2.1+a.2.2.2.2.2.2.2.2.1)
 let d:=IntKind.wrap .i64 (c+b.2.2.2.2)
 some d
noncomputable def Bz2:Con:={f:=163,ps:=[.dat (.agg C7),.dat (.agg Yt3)],boxes:=[],ins:=Bj3,nin:=2,outs:=(.int .i64),rs:=[dI],A2:=1,F:=fun x=>Az7 x.1 x.2}
theorem EB8:A3 Tryz.prog Bz2:=
 cgo (l:=[]) (o:=[]) H0 (by simp) (by simp) Tryz.func163 rfl (by kernel_rfl) (by funext x;kernel_rfl)
noncomputable def AN0 [LP](a:C8)(b:E6)(c:X7)(d:(Int×Int))(e:Int):Option (List Int):=
 (Ac2 c b e).bind fun f=>
 Option.bind (
  LP.lp (X:=(List Int)) (fun (g:((List Int)×Int))=>
   let h:(List Int):=g.1
   let i:=g.2
   let j:=decide (i<f.length)
   (bif j then
    chk none (decide (0≤i)&&decide (i<f.length))<|
    let k:=(f.getD i.toNat 0)
    chk none (decide (0≤e)&&decide (e<b.2.length))<|
    let l:Yd3:=(b.2.getD e.toNat ((0:Int),((0:Int),((0:Int),((0:Int),(0:Int))))))
    (Az7 a l).bind fun m=>
    (Ak5 k m).bind fun n=>
    (AA9 n.1 d).bind fun o=>
    let p:=(bif n.2 then o.2 else false)
    Option.bind (
     (bif p then
      chk none (decide ((h.length+([k]:List Int).length)*8≤140737488355328))<|
      let q:(List Int):=(h++([k]:List Int))
      some q
     else
      some h)) fun r=>
    let s:=IntKind.wrap .i64 (i+1)
    some (.inl (r,s))
   else
    some (.inr h))) ([],(0:Int))) fun t=>
 some t
noncomputable def Bz3:Con:={f:=122,ps:=[.dat (.agg C7),.dat (.agg E1),.dat (.agg V6),.dat (.agg (.pair (.int .i64) (.int .i64))),dI],boxes:=[],ins:=DI0,nin:=5,outs:=(.slice (.int .i64)),rs:=[.dat (.slice (.int .i64))],A2:=1,F:=fun x=>AN0 x.1 x.2.1 x.2.2.1 x.2.2.2.1 x.2.2.2.2}
theorem EB9:A3 Tryz.prog Bz3:=
 cgo (l:=[Bu9,Bz2,BQ2,AH0]) (o:=[]) (.mk .plain [H0,(.mk .plain [H0,(.mk .plain [(.mk .plain [H0,(.mk .plain [(.mk (.loop [⟨.slot 11,(.slice (.int .i64)),some 5200002⟩,sI 23] (zP [30,36,42,39,45,48,51,14,17,26,29,35,32,38,41,47,44,50,53,16,13,28,25,31,34,40,37,43,46,52,49,15,24,27,33]) [(.exit 0,[⟨.slot 11,(.slice (.int .i64)),some 5200002⟩])]) [(.mk .plain [H0,(.mk .plain [H0,(.mk .plain [(.mk .plain [(.mk .plain [H0,(.mk .plain [H0,(.mk .plain [H0,(.mk .plain [H0,(.mk (.join (zP [52,49,50,51]) [(.normal,[⟨.slot 11,(.slice (.int .i64)),some 5200002⟩])]) [])])])])])])])])])])])])])])]) (by simp[Dx8,EB8,Bw1,AM8]) (by simp) Tryz.func122 rfl (by kernel_rfl) (by funext x;kernel_rfl)
noncomputable def AN1 [LP](a:l6)(b:(Int×Int))(c d e f g h i j k l m n o p q:Int)(r:(List Yd1))(s:(List Yd3))(t:Bool)(u v w:Int)(y:(List Int))(a0:Bool)(a1 a2:Int)(a3:Bool)(a4 a5 a6 a7 a8 a9 b0 b1 b2:Int)(b3:Bool)(b4 b5 b6 b7 b8:Int)(b9:(List E2))(c0:Bool)(c1 c2 c3 c4 c5:Int)(c6 c7 c8:Bool)(c9 d0 d1 d2:Int)(d3:Bool):Option DI2:=
 (Al5 a.2.2.1 b).bind fun d4=>
 (bif (!d4.2) then
  some ([],d,e,f,g,h,i,j,k,l,m,n,o,p,q,r,s,t,u,v,w,y,a0,a1,a2,a3,a4,a5,a6,a7,a8,a9,b0,b1,b2,b3,b4,b5,b6,b7,b8,b9,c0,c1,c2,c3,c4,c5,c6,c7,c8,c9,d0,d1,d2,d3)
 else
  let d5:C8:=(d,(e,(f,(g,(h,(i,(j,(k,(l,(m,(n,(o,(p,q)))))))))))))
  (AN0 d5 (r,s) (b8,b9) d4.1 c).bind fun d6=>
  some (d6,d,e,f,g,h,i,j,k,l,m,n,o,p,q,r,s,t,u,v,w,y,a0,a1,a2,a3,a4,a5,a6,a7,a8,a9,b0,b1,b2,b3,b4,b5,b6,b7,b8,b9,c0,c1,c2,c3,c4,c5,c6,c7,c8,c9,d0,d1,d2,d3))
noncomputable def Bz4:Con:={f:=77,ps:=[.ref 0 0,.dat (.agg Z9),.dat (.agg (.pair (.int .i64) (.int .i64))),dI],boxes:=[[dI,dI,dI,dI,dI,dI,dI,dI,dI,dI,dI,dI,dI,dI,.dat (.slice (.agg Yt1)),.dat (.slice (.agg Yt3)),.dat .bool,dI,dI,dI,.dat (.slice (.int .i64)),.dat .bool,.dat (.int .u16),dI,.dat .bool,.dat (.int .u16),dI,dI,dI,dI,dI,dI,dI,dI,.dat .bool,dI,dI,dI,dI,dI,.dat (.slice (.agg I3)),.dat .bool,dI,dI,dI,dI,dI,.dat .bool,.dat .bool,.dat .bool,dI,dI,dI,dI,.dat .bool]],ins:=DI4,nin:=58,outs:=DI1,rs:=[.dat (.slice (.int .i64))],A2:=56,F:=fun x=>let a:=x.2.2.2.2.2.2.2.2;let b:=a.2.2.2.2.2.2.2.2;let c:=b.2.2.2.2.2.2.2.2;let d:=c.2.2.2.2.2.2.2.2;let e:=d.2.2.2.2.2.2.2.2;let f:=e.2.2.2.2.2.2.2.2;let g:=f.2.2.2.2.2.2.2.2;AN1 x.1 x.2.1 x.2.2.1 x.2.2.2.1 x.2.2.2.2.1 x.2.2.2.2.2.1 x.2.2.2.2.2.2.1 x.2.2.2.2.2.2.2.1 x.2.2.2.2.2.2.2.2.1 a.2.1 a.2.2.1 a.2.2.2.1 a.2.2.2.2.1 a.2.2.2.2.2.1 a.2.2.2.2.2.2.1 a.2.2.2.2.2.2.2.1 a.2.2.2.2.2.2.2.2.1 b.2.1 b.2.2.1 b.2.2.2.1 b.2.2.2.2.1 b.2.2.2.2.2.1 b.2.2.2.2.2.2.1 b.2.2.2.2.2.2.2.1 b.2.2.2.2.2.2.2.2.1 c.2.1 c.2.2.1 c.2.2.2.1 c.2.2.2.2.1 c.2.2.2.2.2.1 c.2.2.2.2.2.2.1 c.2.2.2.2.2.2.2.1 c.2.2.2.2.2.2.2.2.1 d.2.1 d.2.2.1 d.2.2.2.1 d.2.2.2.2.1 d.2.2.2.2.2.1 d.2.2.2.2.2.2.1 d.2.2.2.2.2.2.2.1 d.2.2.2.2.2.2.2.2.1 e.2.1 e.2.2.1 e.2.2.2.1 e.2.2.2.2.1 e.2.2.2.2.2.1 e.2.2.2.2.2.2.1 e.2.2.2.2.2.2.2.1 e.2.2.2.2.2.2.2.2.1 f.2.1 f.2.2.1 f.2.2.2.1 f.2.2.2.2.1 f.2.2.2.2.2.1 f.2.2.2.2.2.2.1 f.2.2.2.2.2.2.2.1 f.2.2.2.2.2.2.2.2.1 g.2}
theorem EC0:A3 Tryz.prog Bz4:=
 cgo (l:=[Bz1,Bz3]) (o:=[]) H0 (by simp[EB7,EB9]) (by simp) Tryz.func77 rfl (by kernel_rfl) (by funext x;kernel_rfl)
noncomputable def AU9 [LP](a:V7)(b:l6)(c:(Int×Int))(d e f g h i j k l m n o p q:Int)(r:(List Yd1))(s:(List Yd3))(t:Bool)(u v w:Int)(y:(List Int))(a0:Bool)(a1 a2:Int)(a3:Bool)(a4 a5 a6 a7 a8 a9 b0 b1 b2:Int)(b3:Bool)(b4 b5 b6 b7 b8:Int)(b9:(List E2))(c0:Bool)(c1 c2 c3 c4 c5:Int)(c6 c7 c8:Bool)(c9 d0 d1 d2:Int)(d3:Bool):Option DI6:=
 (AD3 a (5:Int)).bind fun d4=>
 (bif (!d4.2) then
  some (((0:Int),([],(true,false))),d,e,f,g,h,i,j,k,l,m,n,o,p,q,r,s,t,u,v,w,y,a0,a1,a2,a3,a4,a5,a6,a7,a8,a9,b0,b1,b2,b3,b4,b5,b6,b7,b8,b9,c0,c1,c2,c3,c4,c5,c6,c7,c8,c9,d0,d1,d2,d3)
 else
  (AM9 (r,s) d4.1).bind fun d5=>
  (bif (!d5.2) then
   some (((0:Int),([],(false,false))),d,e,f,g,h,i,j,k,l,m,n,o,p,q,r,s,t,u,v,w,y,a0,a1,a2,a3,a4,a5,a6,a7,a8,a9,b0,b1,b2,b3,b4,b5,b6,b7,b8,b9,c0,c1,c2,c3,c4,c5,c6,c7,c8,c9,d0,d1,d2,d3)
  else
   Option.bind (
    (bif b3 then
     (AN1 b c d5.1 d e f g h i j k l m n o p q r s t u v w y a0 a1 a2 a3 a4 a5 a6 a7 a8 a9 b0 b1 b2 b3 b4 b5 b6 b7 b8 b9 c0 c1 c2 c3 c4 c5 c6 c7 c8 c9 d0 d1 d2 d3).bind fun d6=>
     let pA:=d6.2.2.2.2
     let pC:=pA.2.2.2.2
     let pE:=pC.2.2.2.2
     let pG:=pE.2.2.2.2
     let pI:=pG.2.2.2.2
     let pK:=pI.2.2.2.2
     let pM:=pK.2.2.2.2
     let pO:=pM.2.2.2.2
     let pQ:=pO.2.2.2.2
     let pS:=pQ.2.2.2.2
     let pU:=pS.2.2.2.2
     let pW:=pU.2.2.2.2
     let pY:=pW.2.2.2.2
     let d7:=(decide ((0:Int)<(d6.1.length:Int)))
     some (pO.1,pS.2.1,pW.2.2.1,d6.2.1,pC.2.2.1,pG.2.2.2.1,d7,pG.1,pK.2.1,pO.2.2.1,pS.2.2.2.1,pY.1,pW.2.1,d6.2.2.2.1,pE.1,pC.2.1,pI.2.1,pG.2.2.1,pK.2.2.2.1,pQ.1,pU.2.1,pS.2.2.1,pW.2.2.2.1,pA.2.1,pE.2.2.1,pC.2.2.2.1,pI.1,d7,pM.2.1,pQ.2.2.1,pO.2.2.2.1,pU.2.2.2.1,pU.1,pY.2.1,pA.2.2.2.1,pA.1,pE.2.1,pI.2.2.1,pM.2.2.2.1,pM.1,pS.1,pQ.2.1,pU.2.2.1,pY.2.2.2,pA.2.2.1,d6.1,pE.2.2.2.1,pK.1,pO.2.1,pM.2.2.1,pQ.2.2.2.1,pW.1,d6.2.2.1,pY.2.2.1,pC.1,pG.2.1,pK.2.2.1,pI.2.2.2.1)
    else
     some (b0,b9,c8,d,m,v,true,s,a3,b2,c1,d0,c7,f,o,l,y,u,a5,b4,c3,c0,c9,h,q,n,w,true,a7,b6,b3,c5,c2,d1,j,g,p,a0,a9,a6,b8,b5,c4,d3,i,[],r,a2,b1,a8,b7,c6,e,d2,k,t,a4,a1))) fun d8=>
   let pB:=d8.2.2.2.2
   let pD:=pB.2.2.2.2
   let pF:=pD.2.2.2.2
   let pH:=pF.2.2.2.2
   let pJ:=pH.2.2.2.2
   let pL:=pJ.2.2.2.2
   let pN:=pL.2.2.2.2
   let pP:=pN.2.2.2.2
   let pR:=pP.2.2.2.2
   let pT:=pR.2.2.2.2
   let pV:=pT.2.2.2.2
   let pX:=pV.2.2.2.2
   let pZ:=pX.2.2.2.2
   let d9:=d8.1
   let e0:(List E2):=d8.2.1
   let e1:=d8.2.2.1
   let e2:=d8.2.2.2.1
   let e3:=pB.1
   let e4:=pB.2.1
   let e5:=pB.2.2.1
   let e6:(List Yd3):=pB.2.2.2.1
   let e7:=pD.1
   let e8:=pD.2.1
   let e9:=pD.2.2.1
   let f0:=pD.2.2.2.1
   let f1:=pF.1
   let f2:=pF.2.1
   let f3:=pF.2.2.1
   let f4:=pF.2.2.2.1
   let f5:(List Int):=pH.1
   let f6:=pH.2.1
   let f7:=pH.2.2.1
   let f8:=pH.2.2.2.1
   let f9:=pJ.1
   let g0:=pJ.2.1
   let g1:=pJ.2.2.1
   let g2:=pJ.2.2.2.1
   let g3:=pL.1
   let g4:=pL.2.1
   let g5:=pL.2.2.1
   let g6:=pL.2.2.2.1
   let g7:=pN.1
   let g8:=pN.2.1
   let g9:=pN.2.2.1
   let h0:=pN.2.2.2.1
   let h1:=pP.1
   let h2:=pP.2.1
   let h3:=pP.2.2.1
   let h4:=pP.2.2.2.1
   let h5:=pR.1
   let h6:=pR.2.1
   let h7:=pR.2.2.1
   let h8:=pR.2.2.2.1
   let h9:=pT.1
   let i0:=pT.2.1
   let i1:=pT.2.2.1
   let i2:=pT.2.2.2.1
   let i3:=pV.1
   let i4:(List Int):=pV.2.1
   let i5:(List Yd1):=pV.2.2.1
   let i6:=pV.2.2.2.1
   let i7:=pX.1
   let i8:=pX.2.1
   let i9:=pX.2.2.1
   let j0:=pX.2.2.2.1
   let j1:=pZ.1
   let j2:=pZ.2.1
   let j3:=pZ.2.2.1
   let j4:=pZ.2.2.2.1
   let j5:=pZ.2.2.2.2.1
   let j6:=pZ.2.2.2.2.2
   let j7:Au5:=(d5.1,(i4,(e5,g6)))
   some (j7,e2,j1,f2,h4,g2,i3,h3,j3,f4,e3,g4,f3,h5,g3,i5,e6,j4,f6,e4,g5,f5,h6,j6,i6,e7,j5,f7,h8,g7,i8,h7,d9,i7,e8,g9,f8,i0,g8,i9,h9,e0,g0,e9,h1,f9,i1,h0,j0,f1,e1,g1,f0,h2,j2,i2)))
noncomputable def BQ8:Con:={f:=42,ps:=[.ref 0 0,.dat (.agg X9),.dat (.agg Z9),.dat (.agg (.pair (.int .i64) (.int .i64)))],boxes:=[[dI,dI,dI,dI,dI,dI,dI,dI,dI,dI,dI,dI,dI,dI,.dat (.slice (.agg Yt1)),.dat (.slice (.agg Yt3)),.dat .bool,dI,dI,dI,.dat (.slice (.int .i64)),.dat .bool,.dat (.int .u16),dI,.dat .bool,.dat (.int .u16),dI,dI,dI,dI,dI,dI,dI,dI,.dat .bool,dI,dI,dI,dI,dI,.dat (.slice (.agg I3)),.dat .bool,dI,dI,dI,dI,dI,.dat .bool,.dat .bool,.dat .bool,dI,dI,dI,dI,.dat .bool]],ins:=DI8,nin:=58,outs:=DI5,rs:=[.dat (.agg Ai6)],A2:=56,F:=fun x=>let a:=x.2.2.2.2.2.2.2.2;let b:=a.2.2.2.2.2.2.2.2;let c:=b.2.2.2.2.2.2.2.2;let d:=c.2.2.2.2.2.2.2.2;let e:=d.2.2.2.2.2.2.2.2;let f:=e.2.2.2.2.2.2.2.2;let g:=f.2.2.2.2.2.2.2.2;AU9 x.1 x.2.1 x.2.2.1 x.2.2.2.1 x.2.2.2.2.1 x.2.2.2.2.2.1 x.2.2.2.2.2.2.1 x.2.2.2.2.2.2.2.1 x.2.2.2.2.2.2.2.2.1 a.2.1 a.2.2.1 a.2.2.2.1 a.2.2.2.2.1 a.2.2.2.2.2.1 a.2.2.2.2.2.2.1 a.2.2.2.2.2.2.2.1 a.2.2.2.2.2.2.2.2.1 b.2.1 b.2.2.1 b.2.2.2.1 b.2.2.2.2.1 b.2.2.2.2.2.1 b.2.2.2.2.2.2.1 b.2.2.2.2.2.2.2.1 b.2.2.2.2.2.2.2.2.1 c.2.1 c.2.2.1 c.2.2.2.1 c.2.2.2.2.1 c.2.2.2.2.2.1 c.2.2.2.2.2.2.1 c.2.2.2.2.2.2.2.1 c.2.2.2.2.2.2.2.2.1 d.2.1 d.2.2.1 d.2.2.2.1 d.2.2.2.2.1 d.2.2.2.2.2.1 d.2.2.2.2.2.2.1 d.2.2.2.2.2.2.2.1 d.2.2.2.2.2.2.2.2.1 e.2.1 e.2.2.1 e.2.2.2.1 e.2.2.2.2.1 e.2.2.2.2.2.1 e.2.2.2.2.2.2.1 e.2.2.2.2.2.2.2.1 e.2.2.2.2.2.2.2.2.1 f.2.1 f.2.2.1 f.2.2.2.1 f.2.2.2.2.1 f.2.2.2.2.2.1 f.2.2.2.2.2.2.1 f.2.2.2.2.2.2.2.1 f.2.2.2.2.2.2.2.2.1 g.2}
theorem EC1:A3 Tryz.prog BQ8:=
 cgo (l:=[Ak0,Bz0,Bz4]) (o:=[]) (.mk .plain [H0,(.mk .plain [H0,(.mk .plain [H0,(.mk .plain [H0,(.mk .plain [H0,(.mk .plain [H0,(.mk .plain [(.mk .plain [H0,(.mk (.join (zP [45,54,51,47,44,53,46,42,48,41,50,43,52,49]) [(.normal,[kI 0 31,⟨.cell 0 40,(.slice (.agg I3)),none⟩,kB 0 49,kI 0 0,kI 0 9,kI 0 18,kB 5 2,⟨.cell 0 15,(.slice (.agg Yt3)),none⟩,kB 0 24,kI 0 33,kI 0 42,kI 0 51,kB 0 48,kI 0 2,kI 0 11,kI 0 8,⟨.cell 0 20,(.slice (.int .i64)),none⟩,kI 0 17,kI 0 26,kI 0 35,kI 0 44,kB 0 41,kI 0 50,kI 0 4,kI 0 13,kI 0 10,kI 0 19,kB 5 3,kI 0 28,kI 0 37,kB 0 34,kI 0 46,kI 0 43,kI 0 52,kI 0 6,kI 0 3,kI 0 12,kB 0 21,kI 0 30,kI 0 27,kI 0 39,kI 0 36,kI 0 45,kB 0 54,kI 0 5,⟨.cell 5 1,(.slice (.int .i64)),none⟩,⟨.cell 0 14,(.slice (.agg Yt1)),none⟩,kI 0 23,kI 0 32,kI 0 29,kI 0 38,kB 0 47,kI 0 1,kI 0 53,kI 0 7,kB 0 16,⟨.cell 0 25,(.int .u16),none⟩,⟨.cell 0 22,(.int .u16),none⟩])]) [])])])])])])])])]) (by simp[Ay5,EB6,EC0]) (by simp) Tryz.func42 rfl (by kernel_rfl) (by funext x;kernel_rfl)
noncomputable def BQ9 [LP](a b:Int):Option X7:=
 let c:E2:=((1:Int),((0:Int),((0:Int),((0:Int),((0:Int),((0:Int),((0:Int),((0:Int),((0:Int),((0:Int),((0:Int),((0:Int),(0:Int)))))))))))))
 let d:E2:=(c.1,(a,c.2.2))
 let e:X7:=(b,([d]:List E2))
 some e
noncomputable def Bz5:Con:={f:=123,ps:=[dI,dI],boxes:=[],ins:=(.pair (.int .i64) (.int .i64)),nin:=2,outs:=(.agg V6),rs:=[.dat (.agg V6)],A2:=1,F:=fun x=>BQ9 x.1 x.2}
theorem EC2:A3 Tryz.prog Bz5:=
 cgo (l:=[]) (o:=[]) H0 (by simp) (by simp) Tryz.func123 rfl (by kernel_rfl) (by funext x;kernel_rfl)
noncomputable def Al6 [LP](a:C8)(b:E6)(c:Int)(d:(Int×Int)):Option l6:=
 chk none (decide (0≤c)&&decide (c<b.2.length))<|
 let e:Yd3:=(b.2.getD c.toNat ((0:Int),((0:Int),((0:Int),((0:Int),(0:Int))))))
 let f:=IntKind.wrap .i64 (e.2.2.2.1+a.2.2.2.2.2.2.2.2.1)
 let g:=IntKind.wrap .i64 (0-f)
 let h:=(if d.1<(0:Int) then d.1 else (0:Int))
 let i:=IntKind.wrap .i64 (g+h)
 let j:=(if d.2>(0:Int) then d.2 else (0:Int))
 let k:=IntKind.wrap .i64 (f+j)
 let l:(Int×Int):=(i,k)
 (AD5 l).bind fun m=>
 (BQ9 e.2.1 e.2.2.1).bind fun n=>
 let o:l6:=(true,(c,(l,(m,n))))
 some o
noncomputable def Bz6:Con:={f:=78,ps:=[.dat (.agg C7),.dat (.agg E1),dI,.dat (.agg (.pair (.int .i64) (.int .i64)))],boxes:=[],ins:=DJ0,nin:=4,outs:=(.agg Z9),rs:=[.dat (.agg Z9)],A2:=1,F:=fun x=>Al6 x.1 x.2.1 x.2.2.1 x.2.2.2}
theorem EC3:A3 Tryz.prog Bz6:=
 cgo (l:=[AU6,Bz5]) (o:=[]) H0 (by simp[Al0,EC2]) (by simp) Tryz.func78 rfl (by kernel_rfl) (by funext x;kernel_rfl)
noncomputable def AV0 [LP](a:(Int×Int))(b c:Int):Option ((Int×Int)×Bool):=
 let d:=decide (a.1≤(0:Int))
 (bif !d then T8 a else some false).bind fun e=>
 let f:=(bif d then true else (!e))
 let g:=decide (c<(2:Int))
 let h:=(bif f then true else g)
 (bif h then
  let i:(Int×Int):=((0:Int),(0:Int))
  some (i,false)
 else
  let j:=IntKind.wrap .i64 (c+1)
  (AG8 a.1 b j).bind fun k=>
  let l:=IntKind.wrap .i64 (c-1)
  (AG0 a.2 b l).bind fun m=>
  let n:=(bif (k.2==(0:Int)) then (m.2==(0:Int)) else false)
  let o:(Int×Int):=(k.1,m.1)
  some (o,n))
noncomputable def Bz7:Con:={f:=164,ps:=[.dat (.agg (.pair (.int .i64) (.int .i64))),dI,dI],boxes:=[],ins:=BM0,nin:=3,outs:=(.pair (.agg (.pair (.int .i64) (.int .i64))) .bool),rs:=[.dat (.agg (.pair (.int .i64) (.int .i64))),.dat .bool],A2:=2,F:=fun x=>AV0 x.1 x.2.1 x.2.2}
theorem EC4:A3 Tryz.prog Bz7:=
 cgo (l:=[AC8,Ay7,Ax0]) (o:=[]) H0 (by simp[AF7,BQ0,BN8]) (by simp) Tryz.func164 rfl (by kernel_rfl) (by funext x;kernel_rfl)
noncomputable def AD6 [LP](a b:(Int×Int))(c d:Int):Option ((Int×Int)×Bool):=
 let e:=decide (d<(0:Int))
 let f:=decide ((-4611686018427387904:Int)<d)
 let g:=(bif e then f else false)
 Option.bind (α:=(Int×(Bool×Int)) ⊕ Yd3) (
  (bif g then
   (AU0 ((0:Int),(0:Int)) b).bind fun h=>
   (bif (!h.2) then
    some (.inl (a.2,false,a.1))
   else
    let i:=IntKind.wrap .i64 (0-d)
    some (.inr ((0:Int),(0:Int),h.1.2,i,h.1.1)))
  else
   some (.inr ((0:Int),(0:Int),b.2,d,b.1)))) fun z=>match z with
 | .inl j=>
  let k:=j.1
  let l:=j.2.1
  let m:=j.2.2
  some ((m,k),l)
 | .inr n=>
  let o:=n.1
  let p:=n.2.1
  let q:=n.2.2.1
  let r:=n.2.2.2.1
  let s:=n.2.2.2.2
  (AV0 (s,q) c r).bind fun t=>
  (bif (!t.2) then
   some (a,false)
  else
   (AA9 a t.1).bind fun u=>
   (bif (!u.2) then
    some (a,false)
   else
    some (u.1,true)))
noncomputable def Bz8:Con:={f:=125,ps:=[.dat (.agg (.pair (.int .i64) (.int .i64))),.dat (.agg (.pair (.int .i64) (.int .i64))),dI,dI],boxes:=[],ins:=DJ1,nin:=4,outs:=(.pair (.agg (.pair (.int .i64) (.int .i64))) .bool),rs:=[.dat (.agg (.pair (.int .i64) (.int .i64))),.dat .bool],A2:=2,F:=fun x=>AD6 x.1 x.2.1 x.2.2.1 x.2.2.2}
theorem EC5:A3 Tryz.prog Bz8:=
 cgo (l:=[Az1,Bz7,AH0]) (o:=[]) (.mk .plain [H0,(.mk .plain [(.mk .plain [H0,(.mk (.join [(0,10),(0,22),(0,28),(0,25),(0,11),(0,23),(0,26),(0,29),(0,9),(0,21),(0,24),(0,27),(0,30),(2,1),(0,31),(0,3),(2,0),(0,32)] [(.ret,[kI 2 1,sB 9,kI 2 0]),(.normal,[kI 2 1,kI 2 0,kI 1 1,sI 3,kI 1 0])]) [])])])]) (by simp[BQ3,EC4,AM8]) (by simp) Tryz.func125 rfl (by kernel_rfl) (by funext x;kernel_rfl)
end Go.Proofs.YthfjpkdadjemcaaGreat
