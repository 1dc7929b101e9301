/- The functional reading of the code (printed). -/
import Derived.Test.YthfjpkdadjemcaaGreatFnsF
import Derived.Test.YthfjpkdadjemcaaGreatPlcC
set_option linter.unusedSimpArgs false
set_option linter.unusedVariables false
namespace Go.Proofs.YthfjpkdadjemcaaGreat
open Go
noncomputable def AO6 [LP](a:Int)(b:(List Int))(c d e f g h:Bool)(i j k l m n o p q r:Int):Option Ck9:=
 (AN9 b).bind fun s=>
 Option.bind (
  (bif (s.2 != (0:Int)) then
   let t:=IntKind.wrap .i64 (o+1)
   some (t,c,i,f,l,r,e,h,n,k,q,d,g,j,p,m)
  else
   Option.bind (
    (bif (s.1.2.1 != a) then
     let u:=IntKind.wrap .i64 (p+1)
     some (u,c,i,f,l,o,r,e,h,n,k,q,d,g,j,m)
    else
     chk none ((decide ((0:Int)≤s.1.1))&&(decide (s.1.1<(6:Int))))<|
     let v:=(List.getD [c,d,e,f,g,h] s.1.1.toNat false)
     Option.bind (
      (bif v then
       let w:=IntKind.wrap .i64 (q+1)
       some (w,e,h,n,k,c,i,f,l,o,r,d,g,j,p,m)
      else
       chk none ((decide ((0:Int)≤s.1.1))&&(decide (s.1.1<(6:Int))))<|
       chk none ((decide ((0:Int)≤s.1.1))&&(decide (s.1.1<(6:Int))))<|
       some (q,(bif (s.1.1==(2:Int)) then true else e),(bif (s.1.1==(5:Int)) then true else h),(bif (s.1.1==(5:Int)) then s.1.2.2 else n),(bif (s.1.1==(2:Int)) then s.1.2.2 else k),(bif (s.1.1==(0:Int)) then true else c),(bif (s.1.1==(0:Int)) then s.1.2.2 else i),(bif (s.1.1==(3:Int)) then true else f),(bif (s.1.1==(3:Int)) then s.1.2.2 else l),o,r,(bif (s.1.1==(1:Int)) then true else d),(bif (s.1.1==(4:Int)) then true else g),(bif (s.1.1==(1:Int)) then s.1.2.2 else j),p,(bif (s.1.1==(4:Int)) then s.1.2.2 else m)))) fun y=>
     let pA:=y.2.2.2.2
     let pD:=pA.2.2.2.2
     let pG:=pD.2.2.2.2
     let z:=y.1
     let a0:=y.2.1
     let a1:=y.2.2.1
     let a2:=y.2.2.2.1
     let a3:=pA.1
     let a4:=pA.2.1
     let a5:=pA.2.2.1
     let a6:=pA.2.2.2.1
     let a7:=pD.1
     let a8:=pD.2.1
     let a9:=pD.2.2.1
     let b0:=pD.2.2.2.1
     let b1:=pG.1
     let b2:=pG.2.1
     let b3:=pG.2.2.1
     let b4:=pG.2.2.2
     some (b3,a4,a5,a6,a7,a8,a9,a0,a1,a2,a3,z,b0,b1,b2,b4))) fun b5=>
   let pB:=b5.2.2.2.2
   let pE:=pB.2.2.2.2
   let pH:=pE.2.2.2.2
   let b6:=b5.1
   let b7:=b5.2.1
   let b8:=b5.2.2.1
   let b9:=b5.2.2.2.1
   let c0:=pB.1
   let c1:=pB.2.1
   let c2:=pB.2.2.1
   let c3:=pB.2.2.2.1
   let c4:=pE.1
   let c5:=pE.2.1
   let c6:=pE.2.2.1
   let c7:=pE.2.2.2.1
   let c8:=pH.1
   let c9:=pH.2.1
   let d0:=pH.2.2.1
   let d1:=pH.2.2.2
   some (c1,b7,b8,b9,c0,c2,c3,c4,c5,c6,c7,c8,c9,d0,b6,d1))) fun d2=>
 let pC:=d2.2.2.2.2
 let pF:=pC.2.2.2.2
 let pI:=pF.2.2.2.2
 let d3:=d2.1
 let d4:=d2.2.1
 let d5:=d2.2.2.1
 let d6:=d2.2.2.2.1
 let d7:=pC.1
 let d8:=pC.2.1
 let d9:=pC.2.2.1
 let e0:=pC.2.2.2.1
 let e1:=pF.1
 let e2:=pF.2.1
 let e3:=pF.2.2.1
 let e4:=pF.2.2.2.1
 let e5:=pI.1
 let e6:=pI.2.1
 let e7:=pI.2.2.1
 let e8:=pI.2.2.2
 some (d4,e4,d9,d6,e5,e0,d5,e6,e2,d7,e8,e1,d3,e7,e3,d8)
noncomputable def Bm6:Con:={f:=65,ps:=[.ref 0 0,dI,.dat (.slice (.int .u8))],boxes:=[[.dat .bool,.dat .bool,.dat .bool,.dat .bool,.dat .bool,.dat .bool,dI,dI,dI,dI,dI,dI,dI,dI,dI,dI]],ins:=Cl1,nin:=18,outs:=Ba7,rs:=[],A2:=16,F:=fun x=>let a:=x.2.2.2.2.2.2.2.2;let b:=a.2.2.2.2.2.2.2.2;AO6 x.1 x.2.1 x.2.2.1 x.2.2.2.1 x.2.2.2.2.1 x.2.2.2.2.2.1 x.2.2.2.2.2.2.1 x.2.2.2.2.2.2.2.1 x.2.2.2.2.2.2.2.2.1 a.2.1 a.2.2.1 a.2.2.2.1 a.2.2.2.2.1 a.2.2.2.2.2.1 a.2.2.2.2.2.2.1 a.2.2.2.2.2.2.2.1 a.2.2.2.2.2.2.2.2.1 b.2}
theorem Dm6:A3 Tryz.prog Bm6:=
 cgo (l:=[Bi0]) (o:=[]) (.mk .plain [H0,(.mk .plain [(.mk .plain [H0,(.mk (.join (zP [30,36,35,32,31,34,33,42,39,45,48,54,51,57,60,63,14,17,23,20,26,38,41,47,44,50,53,59,56,62,16,13,19,22,25,40,37,43,46,52,49,55,61,58,15,21,18,24]) [(.normal,[kI 0 12,kB 0 0,kI 0 6,kB 0 3,kI 0 9,kI 0 15,kB 0 2,kB 0 5,kI 0 11,kI 0 8,kI 0 14,kB 0 1,kB 0 4,kI 0 7,kI 0 13,kI 0 10])]) [H0,(.mk .plain [H0,(.mk (.join (zP [46,42,45,48,47,44,43,54,51,57,60,63,14,17,23,20,26,50,53,59,56,62,16,13,19,22,25,52,49,55,61,58,15,21,18,24]) [(.normal,[kI 0 13,kB 0 0,kI 0 6,kB 0 3,kI 0 9,kI 0 12,kI 0 15,kB 0 2,kB 0 5,kI 0 11,kI 0 8,kI 0 14,kB 0 1,kB 0 4,kI 0 7,kI 0 10])]) [H0,(.mk .plain [H0,(.mk (.join (zP [61,58,57,60,63,59,62,16,13,19,22,25,14,17,23,20,26,15,21,18,24]) [(.normal,[kI 0 14,kB 0 2,kB 0 5,kI 0 11,kI 0 8,kB 0 0,kI 0 6,kB 0 3,kI 0 9,kI 0 12,kI 0 15,kB 0 1,kB 0 4,kI 0 7,kI 0 13,kI 0 10])]) [])])])])])])])]) (by simp[De3]) (by simp) Tryz.func65 rfl (by kernel_rfl) (by funext x;kernel_rfl)
noncomputable def AH8 [LP](a:Int)(b:(List (List Int))):Option T7:=
 let c:=(if (32:Int)<(b.length:Int) then (32:Int) else (b.length:Int))
 let d:=IntKind.wrap .i64 ((b.length:Int)-c)
 let e:T7:=((false,(false,(false,(false,(false,false))))),(((0:Int),((0:Int),((0:Int),((0:Int),((0:Int),(0:Int)))))),((0:Int),((0:Int),((0:Int),d)))))
 chk none (true&&(decide ((0:Int)≤c))&&(decide (c≤(b.length:Int))))<|
 let f:(List (List Int)):=((b.take c.toNat).drop (0:Int).toNat)
 Option.bind (
  LP.lp (X:=CP8) (fun (g:Cm6)=>
   let pA:=g.2.2.2.2
   let pD:=pA.2.2.2.2
   let pG:=pD.2.2.2.2
   let h:=g.1
   let i:=g.2.1
   let j:=g.2.2.1
   let k:=g.2.2.2.1
   let l:=pA.1
   let m:=pA.2.1
   let n:=pA.2.2.1
   let o:=pA.2.2.2.1
   let p:=pD.1
   let q:=pD.2.1
   let r:=pD.2.2.1
   let s:=pD.2.2.2.1
   let t:=pG.1
   let u:=pG.2.1
   let v:=pG.2.2.1
   let w:=pG.2.2.2.1
   let y:=pG.2.2.2.2
   let z:=decide (y<f.length)
   (bif z then
    chk none (decide (0≤y)&&decide (y<f.length))<|
    let a0:(List Int):=(f.getD y.toNat [])
    let a1:=(bits .i64 .and a (255:Int))
    (AO6 a1 a0 s i n t h o v j q u l p w m r k).bind fun a2=>
    let pB:=a2.2.2.2.2
    let pE:=pB.2.2.2.2
    let pH:=pE.2.2.2.2
    let a3:=IntKind.wrap .i64 (y+1)
    some (.inl (pB.1,a2.2.1,pB.2.2.2.1,pH.2.2.2,pE.2.2.1,pH.2.1,a2.2.2.1,pB.2.1,pE.2.2.2.1,pE.1,pH.2.2.1,a2.1,a2.2.2.2.1,pE.2.1,pB.2.2.1,pH.1,a3))
   else
    some (.inr (h,i,j,k,l,m,n,o,p,q,r,s,t,u,v,w)))) (e.1.2.2.2.2.1,e.1.2.1,e.2.1.2.1,e.2.2.2.2.2,e.2.1.2.2.2.2.1,e.2.2.2.1,e.1.2.2.1,e.1.2.2.2.2.2,e.2.1.2.2.2.2.2,e.2.1.2.2.1,e.2.2.2.2.1,e.1.1,e.1.2.2.2.1,e.2.1.2.2.2.1,e.2.1.1,e.2.2.1,(0:Int))) fun a4=>
 let pC:=a4.2.2.2.2
 let pF:=pC.2.2.2.2
 let pI:=pF.2.2.2.2
 let a5:=a4.1
 let a6:=a4.2.1
 let a7:=a4.2.2.1
 let a8:=a4.2.2.2.1
 let a9:=pC.1
 let b0:=pC.2.1
 let b1:=pC.2.2.1
 let b2:=pC.2.2.2.1
 let b3:=pF.1
 let b4:=pF.2.1
 let b5:=pF.2.2.1
 let b6:=pF.2.2.2.1
 let b7:=pI.1
 let b8:=pI.2.1
 let b9:=pI.2.2.1
 let c0:=pI.2.2.2
 let c1:T7:=((b6,(a6,(b1,(b7,(a5,b2))))),((b9,(a7,(b4,(b8,(a9,b3))))),(c0,(b0,(b5,a8)))))
 some c1
noncomputable def BI3:Con:={f:=39,ps:=[dI,.dat (.slice (.slice (.int .u8)))],boxes:=[],ins:=(.pair (.int .i64) (.slice (.slice (.int .u8)))),nin:=2,outs:=(.agg V7),rs:=[.dat (.agg V7)],A2:=1,F:=fun x=>AH8 x.1 x.2}
theorem Dm7:A3 Tryz.prog BI3:=
 cgo (l:=[Bm6]) (o:=[]) (.mk .plain [H0,(.mk .plain [H0,(.mk .plain [H0,(.mk .plain [(.mk .plain [H0,(.mk .plain [(.mk (.loop [kB 1 4,kB 1 1,kI 1 7,kI 1 15,kI 1 10,kI 1 13,kB 1 2,kB 1 5,kI 1 11,kI 1 8,kI 1 14,kB 1 0,kB 1 3,kI 1 9,kI 1 6,kI 1 12,sI 21] (zP [28,22,25,8,23,26,29,24,27]) [(.exit 0,[kB 1 4,kB 1 1,kI 1 7,kI 1 15,kI 1 10,kI 1 13,kB 1 2,kB 1 5,kI 1 11,kI 1 8,kI 1 14,kB 1 0,kB 1 3,kI 1 9,kI 1 6,kI 1 12])]) [])])])])])])]) (by simp[Dm6]) (by simp) Tryz.func39 rfl (by kernel_rfl) (by funext x;kernel_rfl)
noncomputable def z7 [LP](a:T7)(b:Int):Option (Int×Bool):=
 let c:=decide (b<(0:Int))
 let d:=decide ((6:Int)≤b)
 let e:=(bif c then true else d)
 (bif e then
  some ((0:Int),false)
 else
  chk none ((decide ((0:Int)≤b))&&(decide (b<(6:Int))))<|
  let f:=(List.getD [a.2.1.1,a.2.1.2.1,a.2.1.2.2.1,a.2.1.2.2.2.1,a.2.1.2.2.2.2.1,a.2.1.2.2.2.2.2] b.toNat 0)
  chk none ((decide ((0:Int)≤b))&&(decide (b<(6:Int))))<|
  let g:=(List.getD [a.1.1,a.1.2.1,a.1.2.2.1,a.1.2.2.2.1,a.1.2.2.2.2.1,a.1.2.2.2.2.2] b.toNat false)
  some (f,g))
noncomputable def Ad8:Con:={f:=75,ps:=[.dat (.agg V7),dI],boxes:=[],ins:=Cm7,nin:=2,outs:=(.pair (.int .i64) .bool),rs:=[dI,.dat .bool],A2:=2,F:=fun x=>z7 x.1 x.2}
theorem As9:A3 Tryz.prog Ad8:=
 cgo (l:=[]) (o:=[]) H0 (by simp) (by simp) Tryz.func75 rfl (by kernel_rfl) (by funext x;kernel_rfl)
noncomputable def At0 [LP](a b:Int):Option Int:=
 let c:=IntKind.wrap .u16 (b-a)
 let d:=IntKind.wrap .i64 (IntKind.wrap .i16 c)
 some d
noncomputable def Bm7:Con:={f:=149,ps:=[.dat (.int .u16),.dat (.int .u16)],boxes:=[],ins:=(.pair (.int .u16) (.int .u16)),nin:=2,outs:=(.int .i64),rs:=[dI],A2:=1,F:=fun x=>At0 x.1 x.2}
theorem Dm8:A3 Tryz.prog Bm7:=
 cgo (l:=[]) (o:=[]) H0 (by simp) (by simp) Tryz.func149 rfl (by kernel_rfl) (by funext x;kernel_rfl)
noncomputable def AC6 [LP](a b:Int):Option (Int×Bool):=
 let c:=IntKind.wrap .i64 (a+b)
 let d:=decide ((0:Int)≤a)
 let e:=decide ((0:Int)≤b)
 let f:=decide ((0:Int)≤c)
 let g:=decide ((0:Int)≤a)
 let h:=(bif (d==e) then (!(f==g)) else false)
 (bif h then
  some ((0:Int),false)
 else
  some (c,true))
noncomputable def Ad9:Con:={f:=73,ps:=[dI,dI],boxes:=[],ins:=(.pair (.int .i64) (.int .i64)),nin:=2,outs:=(.pair (.int .i64) .bool),rs:=[dI,.dat .bool],A2:=2,F:=fun x=>AC6 x.1 x.2}
theorem At1:A3 Tryz.prog Ad9:=
 cgo (l:=[]) (o:=[]) H0 (by simp) (by simp) Tryz.func73 rfl (by kernel_rfl) (by funext x;kernel_rfl)
noncomputable def Ae0 [LP](a:Int)(ok_2 b:Bool):Option Int:=
 (bif ok_2 then
  some a
 else
  (bif b then
   some (-9223372036854775808:Int)
  else
   some (9223372036854775807:Int)))
noncomputable def BI4:Con:={f:=160,ps:=[dI,.dat .bool,.dat .bool],boxes:=[],ins:=(.pair (.int .i64) (.pair .bool .bool)),nin:=3,outs:=(.int .i64),rs:=[dI],A2:=1,F:=fun x=>Ae0 x.1 x.2.1 x.2.2}
theorem Bm8:A3 Tryz.prog BI4:=
 cgo (l:=[]) (o:=[]) H0 (by simp) (by simp) Tryz.func160 rfl (by kernel_rfl) (by funext x;kernel_rfl)
noncomputable def Ae1 [LP](a b:Int):Option Int:=
 (AC6 a b).bind fun c=>
 let d:=decide (a<(0:Int))
 (Ae0 c.1 c.2 d).bind fun e=>
 some e
noncomputable def BI5:Con:={f:=117,ps:=[dI,dI],boxes:=[],ins:=(.pair (.int .i64) (.int .i64)),nin:=2,outs:=(.int .i64),rs:=[dI],A2:=1,F:=fun x=>Ae1 x.1 x.2}
theorem Bm9:A3 Tryz.prog BI5:=
 cgo (l:=[Ad9,BI4]) (o:=[]) H0 (by simp[At1,Bm8]) (by simp) Tryz.func117 rfl (by kernel_rfl) (by funext x;kernel_rfl)
noncomputable def Ae2 [LP](a:(Bool×(Int×Int)))(b:Int)(c:Bool):Option Cm8:=
 (bif (!c) then
  let d:(Bool×(Int×Int)):=(false,a.2)
  some (d,(0:Int),false)
 else
  let e:=(IntKind.wrap .u16 b)
  (bif (!a.1) then
   let f:(Bool×(Int×Int)):=(true,(e,a.2.2))
   some (f,(0:Int),false)
  else
   (At0 a.2.1 e).bind fun g=>
   (Ae1 a.2.2 g).bind fun h=>
   let i:(Bool×(Int×Int)):=(true,(e,h))
   some (i,g,true)))
noncomputable def Bn0:Con:={f:=99,ps:=[.dat (.agg (.pair .bool (.pair (.int .u16) (.int .i64)))),dI,.dat .bool],boxes:=[],ins:=Ba9,nin:=3,outs:=Ba9,rs:=[.dat (.agg (.pair .bool (.pair (.int .u16) (.int .i64)))),dI,.dat .bool],A2:=3,F:=fun x=>Ae2 x.1 x.2.1 x.2.2}
theorem Dm9:A3 Tryz.prog Bn0:=
 cgo (l:=[Bm7,BI5]) (o:=[]) H0 (by simp[Dm8,Bm9]) (by simp) Tryz.func99 rfl (by kernel_rfl) (by funext x;kernel_rfl)
noncomputable def AC7 [LP](a b c:Int):Option (Int×Int):=
 (AG3 a b c false).bind fun d=>
 some (d.1,d.2)
noncomputable def At2:Con:={f:=168,ps:=[dI,dI,dI],boxes:=[],ins:=(.pair (.int .i64) (.pair (.int .i64) (.int .i64))),nin:=3,outs:=(.pair (.int .i64) (.int .i64)),rs:=[dI,dI],A2:=2,F:=fun x=>AC7 x.1 x.2.1 x.2.2}
theorem BI6:A3 Tryz.prog At2:=
 cgo (l:=[BG3]) (o:=[]) H0 (by simp[Bg9]) (by simp) Tryz.func168 rfl (by kernel_rfl) (by funext x;kernel_rfl)
noncomputable def AH9 [LP](a:(Int×Int))(b c:Int):Option ((Int×Int)×Int):=
 (S0 a).bind fun d=>
 let e:=decide (c<(1:Int))
 let f:=(bif (!d) then true else e)
 (bif f then
  let g:(Int×Int):=((0:Int),(0:Int))
  some (g,(10:Int))
 else
  let h:=decide (b<(0:Int))
  Option.bind (
   (bif h then
    some (a.2,a.1)
   else
    some (a.1,a.2))) fun i=>
  let j:=i.1
  let k:=i.2
  (AC7 b j c).bind fun l=>
  (bif (l.2 != (0:Int)) then
   let m:(Int×Int):=((0:Int),(0:Int))
   some (m,l.2)
  else
   (AC2 b k c).bind fun n=>
   (bif (n.2 != (0:Int)) then
    let o:(Int×Int):=((0:Int),(0:Int))
    some (o,n.2)
   else
    let p:(Int×Int):=(l.1,n.1)
    some (p,(0:Int)))))
noncomputable def Bn1:Con:={f:=150,ps:=[.dat (.agg (.pair (.int .i64) (.int .i64))),dI,dI],boxes:=[],ins:=BE9,nin:=3,outs:=(.pair (.agg (.pair (.int .i64) (.int .i64))) (.int .i64)),rs:=[.dat (.agg (.pair (.int .i64) (.int .i64))),dI],A2:=2,F:=fun x=>AH9 x.1 x.2.1 x.2.2}
theorem Dn0:A3 Tryz.prog Bn1:=
 cgo (l:=[u6,At2,Ar4]) (o:=[]) (.mk .plain [H0,(.mk .plain [H0,(.mk .plain [H0,(.mk .plain [(.mk .plain [H0,(.mk (.join [(0,27),(0,28)] [(.normal,[sI 8,sI 9])]) [])])])])])]) (by simp[AC0,BI6,BG4]) (by simp) Tryz.func150 rfl (by kernel_rfl) (by funext x;kernel_rfl)
noncomputable def AI0 [LP](a:Int)(b:(Int×Int))(c:Int):Option ((Int×Int)×Int):=
 let d:=decide (a<(-32768:Int))
 let e:=decide ((32767:Int)<a)
 let f:=(bif d then true else e)
 (bif f then
  let g:(Int×Int):=((0:Int),(0:Int))
  some (g,(10:Int))
 else
  let h:=IntKind.wrap .i64 (a-1)
  (AH9 b h c).bind fun i=>
  (bif (i.2 != (0:Int)) then
   let j:(Int×Int):=((0:Int),(0:Int))
   some (j,i.2)
  else
   let k:=IntKind.wrap .i64 (a+1)
   (AH9 b k c).bind fun l=>
   (bif (l.2 != (0:Int)) then
    let m:(Int×Int):=((0:Int),(0:Int))
    some (m,l.2)
   else
    (AG5 i.1 l.1).bind fun n=>
    some (n,(0:Int)))))
noncomputable def Bn2:Con:={f:=100,ps:=[dI,.dat (.agg (.pair (.int .i64) (.int .i64))),dI],boxes:=[],ins:=Cm9,nin:=3,outs:=(.pair (.agg (.pair (.int .i64) (.int .i64))) (.int .i64)),rs:=[.dat (.agg (.pair (.int .i64) (.int .i64))),dI],A2:=2,F:=fun x=>AI0 x.1 x.2.1 x.2.2}
theorem Dn1:A3 Tryz.prog Bn2:=
 cgo (l:=[Bn1,AW6]) (o:=[]) H0 (by simp[Dn0,Ad1]) (by simp) Tryz.func100 rfl (by kernel_rfl) (by funext x;kernel_rfl)
noncomputable def z8 [LP](a:Int)(b:T7)(c d e f g h i j k l m n o p:Int)(q:(List Yd1))(r:(List Yd3))(s:Bool)(t u v:Int)(w:(List Int))(y:Bool)(z a0:Int)(a1:Bool)(a2 a3 a4 a5 a6 a7 a8 a9 b0:Int)(b1:Bool)(b2 b3 b4 b5 b6:Int)(b7:(List E3))(b8:Bool)(b9 c0 c1 c2 c3:Int)(c4 c5 c6:Bool)(c7 c8 c9 d0:Int)(d1:Bool):Option Cn1:=
 let d2:=IntKind.wrap .i64 ((1:Int)+a)
 (z7 b d2).bind fun d3=>
 chk none ((decide ((0:Int)≤a))&&(decide (a<(2:Int))))<|
 let d4:(Bool×(Int×Int)):=(List.getD [(y,(z,a0)),(a1,(a2,a3))] a.toNat (false,((0:Int),(0:Int))))
 (Ae2 d4 d3.1 d3.2).bind fun d5=>
 chk none ((decide ((0:Int)≤a))&&(decide (a<(2:Int))))<|
 (bif (!d5.2.2) then
  let d6:(Bool×(Int×Int)):=(false,((0:Int),(0:Int)))
  some (d6,c,d,e,f,g,h,i,j,k,l,m,n,o,p,q,r,s,t,u,v,w,(bif (a==(0:Int)) then d5.1.1 else y),(bif (a==(0:Int)) then d5.1.2.1 else z),(bif (a==(0:Int)) then d5.1.2.2 else a0),(bif (a==(1:Int)) then d5.1.1 else a1),(bif (a==(1:Int)) then d5.1.2.1 else a2),(bif (a==(1:Int)) then d5.1.2.2 else a3),a4,a5,a6,a7,a8,a9,b0,b1,b2,b3,b4,b5,b6,b7,b8,b9,c0,c1,c2,c3,c4,c5,c6,c7,c8,c9,d0,d1)
 else
  chk none ((decide ((0:Int)≤a))&&(decide (a<(2:Int))))<|
  let d7:(Int×Int):=(List.getD [(a4,a5),(a6,a7)] a.toNat ((0:Int),(0:Int)))
  (AI0 d5.2.1 d7 c).bind fun d8=>
  let d9:(Bool×(Int×Int)):=(true,d8.1)
  some (d9,c,d,e,f,g,h,i,j,k,l,m,n,o,p,q,r,s,t,u,v,w,(bif (a==(0:Int)) then d5.1.1 else y),(bif (a==(0:Int)) then d5.1.2.1 else z),(bif (a==(0:Int)) then d5.1.2.2 else a0),(bif (a==(1:Int)) then d5.1.1 else a1),(bif (a==(1:Int)) then d5.1.2.1 else a2),(bif (a==(1:Int)) then d5.1.2.2 else a3),a4,a5,a6,a7,a8,a9,b0,b1,b2,b3,b4,b5,b6,b7,b8,b9,c0,c1,c2,c3,c4,c5,c6,c7,c8,c9,d0,d1))
noncomputable def Bn3:Con:={f:=66,ps:=[.ref 0 0,dI,.dat (.agg V7)],boxes:=[[dI,dI,dI,dI,dI,dI,dI,dI,dI,dI,dI,dI,dI,dI,.dat (.slice (.agg Yt1)),.dat (.slice (.agg Yt3)),.dat .bool,dI,dI,dI,.dat (.slice (.int .i64)),.dat .bool,.dat (.int .u16),dI,.dat .bool,.dat (.int .u16),dI,dI,dI,dI,dI,dI,dI,dI,.dat .bool,dI,dI,dI,dI,dI,.dat (.slice (.agg I4)),.dat .bool,dI,dI,dI,dI,dI,.dat .bool,.dat .bool,.dat .bool,dI,dI,dI,dI,.dat .bool]],ins:=Cn2,nin:=57,outs:=Cn0,rs:=[.dat (.agg (.pair .bool (.agg (.pair (.int .i64) (.int .i64)))))],A2:=56,F:=fun x=>let a:=x.2.2.2.2.2.2.2.2;let b:=a.2.2.2.2.2.2.2.2;let c:=b.2.2.2.2.2.2.2.2;let d:=c.2.2.2.2.2.2.2.2;let e:=d.2.2.2.2.2.2.2.2;let f:=e.2.2.2.2.2.2.2.2;z8 x.1 x.2.1 x.2.2.1 x.2.2.2.1 x.2.2.2.2.1 x.2.2.2.2.2.1 x.2.2.2.2.2.2.1 x.2.2.2.2.2.2.2.1 x.2.2.2.2.2.2.2.2.1 a.2.1 a.2.2.1 a.2.2.2.1 a.2.2.2.2.1 a.2.2.2.2.2.1 a.2.2.2.2.2.2.1 a.2.2.2.2.2.2.2.1 a.2.2.2.2.2.2.2.2.1 b.2.1 b.2.2.1 b.2.2.2.1 b.2.2.2.2.1 b.2.2.2.2.2.1 b.2.2.2.2.2.2.1 b.2.2.2.2.2.2.2.1 b.2.2.2.2.2.2.2.2.1 c.2.1 c.2.2.1 c.2.2.2.1 c.2.2.2.2.1 c.2.2.2.2.2.1 c.2.2.2.2.2.2.1 c.2.2.2.2.2.2.2.1 c.2.2.2.2.2.2.2.2.1 d.2.1 d.2.2.1 d.2.2.2.1 d.2.2.2.2.1 d.2.2.2.2.2.1 d.2.2.2.2.2.2.1 d.2.2.2.2.2.2.2.1 d.2.2.2.2.2.2.2.2.1 e.2.1 e.2.2.1 e.2.2.2.1 e.2.2.2.2.1 e.2.2.2.2.2.1 e.2.2.2.2.2.2.1 e.2.2.2.2.2.2.2.1 e.2.2.2.2.2.2.2.2.1 f.2.1 f.2.2.1 f.2.2.2.1 f.2.2.2.2.1 f.2.2.2.2.2.1 f.2.2.2.2.2.2.1 f.2.2.2.2.2.2.2.1 f.2.2.2.2.2.2.2.2}
theorem Dn2:A3 Tryz.prog Bn3:=
 cgo (l:=[Ad8,Bn0,Bn2]) (o:=[]) H0 (by simp[As9,Dm9,Dn1]) (by simp) Tryz.func66 rfl (by kernel_rfl) (by funext x;kernel_rfl)
noncomputable def AO7 [LP](a:C8)(b:Int):Option Int:=
 let c:=IntKind.wrap .i64 (0-b)
 let d:=(if c>b then c else b)
 (AC7 d a.2.2.2.2.1 (1048576:Int)).bind fun e=>
 let f:=IntKind.wrap .i64 (a.2.2.2.1+e.1)
 some f
noncomputable def Bn4:Con:={f:=152,ps:=[.dat (.agg C9),dI],boxes:=[],ins:=BF0,nin:=2,outs:=(.int .i64),rs:=[dI],A2:=1,F:=fun x=>AO7 x.1 x.2}
theorem Dn3:A3 Tryz.prog Bn4:=
 cgo (l:=[At2]) (o:=[]) H0 (by simp[BI6]) (by simp) Tryz.func152 rfl (by kernel_rfl) (by funext x;kernel_rfl)
noncomputable def AI1 [LP](a b:Int):Option (Int×Bool):=
 let c:=IntKind.wrap .i64 (a-b)
 let d:=decide ((0:Int)≤a)
 let e:=decide ((0:Int)≤b)
 let f:=decide ((0:Int)≤c)
 let g:=decide ((0:Int)≤a)
 let h:=(bif (!(d==e)) then (!(f==g)) else false)
 (bif h then
  some ((0:Int),false)
 else
  some (c,true))
noncomputable def Ae3:Con:={f:=155,ps:=[dI,dI],boxes:=[],ins:=(.pair (.int .i64) (.int .i64)),nin:=2,outs:=(.pair (.int .i64) .bool),rs:=[dI,.dat .bool],A2:=2,F:=fun x=>AI1 x.1 x.2}
theorem At3:A3 Tryz.prog Ae3:=
 cgo (l:=[]) (o:=[]) H0 (by simp) (by simp) Tryz.func155 rfl (by kernel_rfl) (by funext x;kernel_rfl)
noncomputable def AO8 [LP](a:Int)(b:Bool)(c:Int)(d:Bool):Option ((Int×Int)×Bool):=
 let e:=(bif (!b) then true else (!d))
 let f:=(bif e then true else (decide (c<a)))
 (bif f then
  let g:(Int×Int):=((0:Int),(0:Int))
  some (g,false)
 else
  let h:(Int×Int):=(a,c)
  some (h,true))
noncomputable def Ae4:Con:={f:=126,ps:=[dI,.dat .bool,dI,.dat .bool],boxes:=[],ins:=Cn3,nin:=4,outs:=(.pair (.agg (.pair (.int .i64) (.int .i64))) .bool),rs:=[.dat (.agg (.pair (.int .i64) (.int .i64))),.dat .bool],A2:=2,F:=fun x=>AO8 x.1 x.2.1 x.2.2.1 x.2.2.2}
theorem At4:A3 Tryz.prog Ae4:=
 cgo (l:=[]) (o:=[]) H0 (by simp) (by simp) Tryz.func126 rfl (by kernel_rfl) (by funext x;kernel_rfl)
noncomputable def AX6 [LP](a:(Int×Int))(b:Int):Option ((Int×Int)×Bool):=
 (S0 a).bind fun c=>
 (bif (!c) then
  let d:(Int×Int):=((0:Int),(0:Int))
  some (d,false)
 else
  (AI1 a.1 b).bind fun e=>
  (AC6 a.2 b).bind fun f=>
  (AO8 e.1 e.2 f.1 f.2).bind fun g=>
  some (g.1,g.2))
noncomputable def At5:Con:={f:=107,ps:=[.dat (.agg (.pair (.int .i64) (.int .i64))),dI],boxes:=[],ins:=(.pair (.agg (.pair (.int .i64) (.int .i64))) (.int .i64)),nin:=2,outs:=(.pair (.agg (.pair (.int .i64) (.int .i64))) .bool),rs:=[.dat (.agg (.pair (.int .i64) (.int .i64))),.dat .bool],A2:=2,F:=fun x=>AX6 x.1 x.2}
theorem BI7:A3 Tryz.prog At5:=
 cgo (l:=[u6,Ae3,Ad9,Ae4]) (o:=[]) H0 (by simp[AC0,At3,At1,At4]) (by simp) Tryz.func107 rfl (by kernel_rfl) (by funext x;kernel_rfl)
noncomputable def Ae5 [LP](a b:Int):Option ((Int×Int)×Bool):=
 (u9 a).bind fun c=>
 (AX6 c b).bind fun d=>
 some (d.1,d.2)
noncomputable def BI8:Con:={f:=151,ps:=[dI,dI],boxes:=[],ins:=(.pair (.int .i64) (.int .i64)),nin:=2,outs:=(.pair (.agg (.pair (.int .i64) (.int .i64))) .bool),rs:=[.dat (.agg (.pair (.int .i64) (.int .i64))),.dat .bool],A2:=2,F:=fun x=>Ae5 x.1 x.2}
theorem Bn5:A3 Tryz.prog BI8:=
 cgo (l:=[AW5,At5]) (o:=[]) H0 (by simp[Ad0,BI7]) (by simp) Tryz.func151 rfl (by kernel_rfl) (by funext x;kernel_rfl)
noncomputable def AI2 [LP](a:C8)(b:Int):Option (Int×Int):=
 (AO7 a b).bind fun c=>
 (Ae5 b c).bind fun d=>
 some d.1
noncomputable def Bn6:Con:={f:=101,ps:=[.dat (.agg C9),dI],boxes:=[],ins:=BF0,nin:=2,outs:=(.agg (.pair (.int .i64) (.int .i64))),rs:=[.dat (.agg (.pair (.int .i64) (.int .i64)))],A2:=1,F:=fun x=>AI2 x.1 x.2}
theorem Dn4:A3 Tryz.prog Bn6:=
 cgo (l:=[Bn4,BI8]) (o:=[]) H0 (by simp[Dn3,Bn5]) (by simp) Tryz.func101 rfl (by kernel_rfl) (by funext x;kernel_rfl)
noncomputable def AO9 [LP](a b c d e f g h i j k l m n:Int)(o:(List Yd1))(p:(List Yd3))(q:Bool)(r s t:Int)(u:(List Int))(v:Bool)(w y:Int)(z:Bool)(a0 a1 a2 a3 a4 a5 a6 a7 a8:Int)(a9:Bool)(b0 b1 b2 b3 b4:Int)(b5:(List E3))(b6:Bool)(b7 b8 b9 c0 c1:Int)(c2 c3 c4:Bool)(c5 c6 c7 c8:Int)(c9:Bool)(d0:T7):Option (Bool×(Int×Int)):=
 (z7 d0 (3:Int)).bind fun d1=>
 (bif (!d1.2) then
  let d2:(Bool×(Int×Int)):=(false,((0:Int),(0:Int)))
  some d2
 else
  let d3:C8:=(a,(b,(c,(d,(e,(f,(g,(h,(i,(j,(k,(l,(m,n)))))))))))))
  (AI2 d3 d1.1).bind fun d4=>
  let d5:(Bool×(Int×Int)):=(true,d4)
  some d5)
noncomputable def Bn7:Con:={f:=67,ps:=[.rp [dI,dI,dI,dI,dI,dI,dI,dI,dI,dI,dI,dI,dI,dI,.dat (.slice (.agg Yt1)),.dat (.slice (.agg Yt3)),.dat .bool,dI,dI,dI,.dat (.slice (.int .i64)),.dat .bool,.dat (.int .u16),dI,.dat .bool,.dat (.int .u16),dI,dI,dI,dI,dI,dI,dI,dI,.dat .bool,dI,dI,dI,dI,dI,.dat (.slice (.agg I4)),.dat .bool,dI,dI,dI,dI,dI,.dat .bool,.dat .bool,.dat .bool,dI,dI,dI,dI,.dat .bool] 0,.dat (.agg V7)],boxes:=[],ins:=Bb1,nin:=56,outs:=(.agg (.pair .bool (.agg (.pair (.int .i64) (.int .i64))))),rs:=[.dat (.agg (.pair .bool (.agg (.pair (.int .i64) (.int .i64)))))],A2:=1,F:=fun x=>let a:=x.2.2.2.2.2.2.2.2;let b:=a.2.2.2.2.2.2.2.2;let c:=b.2.2.2.2.2.2.2.2;let d:=c.2.2.2.2.2.2.2.2;let e:=d.2.2.2.2.2.2.2.2;let f:=e.2.2.2.2.2.2.2.2;AO9 x.1 x.2.1 x.2.2.1 x.2.2.2.1 x.2.2.2.2.1 x.2.2.2.2.2.1 x.2.2.2.2.2.2.1 x.2.2.2.2.2.2.2.1 x.2.2.2.2.2.2.2.2.1 a.2.1 a.2.2.1 a.2.2.2.1 a.2.2.2.2.1 a.2.2.2.2.2.1 a.2.2.2.2.2.2.1 a.2.2.2.2.2.2.2.1 a.2.2.2.2.2.2.2.2.1 b.2.1 b.2.2.1 b.2.2.2.1 b.2.2.2.2.1 b.2.2.2.2.2.1 b.2.2.2.2.2.2.1 b.2.2.2.2.2.2.2.1 b.2.2.2.2.2.2.2.2.1 c.2.1 c.2.2.1 c.2.2.2.1 c.2.2.2.2.1 c.2.2.2.2.2.1 c.2.2.2.2.2.2.1 c.2.2.2.2.2.2.2.1 c.2.2.2.2.2.2.2.2.1 d.2.1 d.2.2.1 d.2.2.2.1 d.2.2.2.2.1 d.2.2.2.2.2.1 d.2.2.2.2.2.2.1 d.2.2.2.2.2.2.2.1 d.2.2.2.2.2.2.2.2.1 e.2.1 e.2.2.1 e.2.2.2.1 e.2.2.2.2.1 e.2.2.2.2.2.1 e.2.2.2.2.2.2.1 e.2.2.2.2.2.2.2.1 e.2.2.2.2.2.2.2.2.1 f.2.1 f.2.2.1 f.2.2.2.1 f.2.2.2.2.1 f.2.2.2.2.2.1 f.2.2.2.2.2.2.1 f.2.2.2.2.2.2.2}
theorem Dn5:A3 Tryz.prog Bn7:=
 cgo (l:=[Ad8,Bn6]) (o:=[]) H0 (by simp[As9,Dn4]) (by simp) Tryz.func67 rfl (by kernel_rfl) (by funext x;kernel_rfl)
noncomputable def l5 [LP](a b:(Int×Int)):Option ((Int×Int)×Bool):=
 let c:=(if b.1>a.1 then b.1 else a.1)
 let d:=(if b.2<a.2 then b.2 else a.2)
 (AO8 c true d true).bind fun e=>
 some (e.1,e.2)
noncomputable def AC8:Con:={f:=108,ps:=[.dat (.agg (.pair (.int .i64) (.int .i64))),.dat (.agg (.pair (.int .i64) (.int .i64)))],boxes:=[],ins:=V4,nin:=2,outs:=(.pair (.agg (.pair (.int .i64) (.int .i64))) .bool),rs:=[.dat (.agg (.pair (.int .i64) (.int .i64))),.dat .bool],A2:=2,F:=fun x=>l5 x.1 x.2}
theorem AI3:A3 Tryz.prog AC8:=
 cgo (l:=[Ae4]) (o:=[]) H0 (by simp[At4]) (by simp) Tryz.func108 rfl (by kernel_rfl) (by funext x;kernel_rfl)
noncomputable def Ae6 [LP](a:C8)(b:(Int×Int)):Option (Int×Int):=
 (AX6 b a.2.2.2.2.2.2.2.1).bind fun c=>
 (AW7 a).bind fun d=>
 (l5 c.1 d).bind fun e=>
 some e.1
noncomputable def Bn8:Con:={f:=69,ps:=[.dat (.agg C9),.dat (.agg (.pair (.int .i64) (.int .i64)))],boxes:=[],ins:=Bb2,nin:=2,outs:=(.agg (.pair (.int .i64) (.int .i64))),rs:=[.dat (.agg (.pair (.int .i64) (.int .i64)))],A2:=1,F:=fun x=>Ae6 x.1 x.2}
theorem Dn6:A3 Tryz.prog Bn8:=
 cgo (l:=[At5,Ar8,AC8]) (o:=[]) H0 (by simp[BI7,Bh7,AI3]) (by simp) Tryz.func69 rfl (by kernel_rfl) (by funext x;kernel_rfl)
noncomputable def AP0 [LP](a b c d:Int)(e:(List Yd1))(f:(List Yd3))(g:Bool)(h i:Int):Option Bb3:=
 chk none (decide (0≤a)&&decide (a<e.length))<|
 let j:Yd1:=(e.getD a.toNat ((0:Int),([],[])))
 let k:=IntKind.wrap .i64 (b+j.1)
 (l5 (c,d) (b,k)).bind fun l=>
 (bif (!l.2) then
  some (c,d,e,f,g,h,i)
 else
  chk none (decide (0≤a)&&decide (a<e.length))<|
  let m:Yd1:=(e.getD a.toNat ((0:Int),([],[])))
  let n:=IntKind.wrap .i64 (l.1.1-b)
  let o:=IntKind.wrap .i64 (l.1.2-b)
  (AG6 m.2.1 (n,o)).bind fun p=>
  Option.bind (
   (bif (!g) then
    some (p.1.1,p.1.2,true)
   else
    some (h,i,g))) fun q=>
  let r:=q.1
  let s:=q.2.1
  let t:=q.2.2
  (AG5 (r,s) p.1).bind fun u=>
  some (c,d,e,f,t,u.1,u.2))
noncomputable def Bn9:Con:={f:=170,ps:=[dI,dI,.ref 0 0,.ref 1 0,.ref 2 0,.ref 3 0],boxes:=[[dI,dI],[.dat (.slice (.agg Yt1)),.dat (.slice (.agg Yt3))],[.dat .bool],[dI,dI]],ins:=Ct5,nin:=9,outs:=Ao8,rs:=[],A2:=7,F:=fun x=>AP0 x.1 x.2.1 x.2.2.1 x.2.2.2.1 x.2.2.2.2.1 x.2.2.2.2.2.1 x.2.2.2.2.2.2.1 x.2.2.2.2.2.2.2.1 x.2.2.2.2.2.2.2.2}
theorem Dn7:A3 Tryz.prog Bn9:=
 cgo (l:=[AC8,BG6,AW6]) (o:=[]) (.mk .plain [H0,(.mk .plain [H0,(.mk .plain [H0,(.mk .plain [(.mk .plain [H0,(.mk (.join [(0,50)] [(.normal,[kI 3 0,kI 3 1,kB 2 0])]) [])])])])])]) (by simp[AI3,Bh6,Ad1]) (by simp) Tryz.func170 rfl (by kernel_rfl) (by funext x;kernel_rfl)
noncomputable def AP1 [LP](a:V5)(b:F0)(c d:Int)(e:(List Yd1))(f:(List Yd3))(g:Bool)(h i:Int):Option Bb3:=
 Option.bind (
  LP.lp (X:=BZ4) (fun (j:Ct6)=>
   let pA:=j.2.2.2.2
   let k:=j.1
   let l:=j.2.1
   let m:=j.2.2.1
   let n:=j.2.2.2.1
   let o:(List Yd3):=pA.1
   let p:=pA.2.1
   let q:=pA.2.2.1
   let r:(List Yd1):=pA.2.2.2
   let s:=decide (m<a.2.length)
   (bif s then
    chk none (decide (0≤m)&&decide (m<a.2.length))<|
    let t:E3:=(a.2.getD m.toNat ((0:Int),((0:Int),((0:Int),((0:Int),((0:Int),((0:Int),((0:Int),((0:Int),((0:Int),((0:Int),((0:Int),((0:Int),(0:Int))))))))))))))
    let u:=IntKind.wrap .i64 (0-a.1)
    (AW1 t).bind fun v=>
    Option.bind (
     LP.lp (X:=CQ4) (fun (w:Cu3)=>
      let pB:=w.2.2.2.2
      let y:=w.1
      let z:(List Yd3):=w.2.1
      let a0:=w.2.2.1
      let a1:=w.2.2.2.1
      let a2:=pB.1
      let a3:=pB.2.1
      let a4:(List Yd1):=pB.2.2.1
      let a5:=pB.2.2.2.1
      let a6:=pB.2.2.2.2
      let a7:=decide (a6<v.length)
      (bif a7 then
       chk none (decide (0≤a6)&&decide (a6<v.length))<|
       let a8:=(v.getD a6.toNat 0)
       (AP0 a8 a1 a0 a3 a4 z a5 y a2).bind fun a9=>
       let pC:=a9.2.2.2.2
       chk none (decide (0≤a8)&&decide (a8<b.1.length))<|
       let b0:Yd1:=(b.1.getD a8.toNat ((0:Int),([],[])))
       let b1:=IntKind.wrap .i64 (a1+b0.1)
       let b2:=IntKind.wrap .i64 (a6+1)
       some (.inl (pC.2.1,a9.2.2.2.1,a9.1,b1,pC.2.2,a9.2.1,a9.2.2.1,pC.1,b2))
      else
       some (.inr (y,z,a0,a2,a3,a4,a5)))) (k,o,l,u,p,q,r,n,(0:Int))) fun b3=>
    let pD:=b3.2.2.2.2
    let b4:=b3.1
    let b5:(List Yd3):=b3.2.1
    let b6:=b3.2.2.1
    let b7:=b3.2.2.2.1
    let b8:=pD.1
    let b9:(List Yd1):=pD.2.1
    let c0:=pD.2.2
    let c1:=IntKind.wrap .i64 (m+1)
    some (.inl (b4,b6,c1,c0,b5,b7,b8,b9))
   else
    some (.inr (k,l,n,o,p,q,r)))) (h,c,(0:Int),g,f,i,d,e)) fun c2=>
 let pE:=c2.2.2.2.2
 let c3:=c2.1
 let c4:=c2.2.1
 let c5:=c2.2.2.1
 let c6:(List Yd3):=c2.2.2.2.1
 let c7:=pE.1
 let c8:=pE.2.1
 let c9:(List Yd1):=pE.2.2
 some (c4,c8,c9,c6,c5,c3,c7)
noncomputable def Bo0:Con:={f:=169,ps:=[.dat (.agg T6),.dat (.agg E7),.clo 170 [] [.ref 0 0,.ref 1 0,.ref 2 0,.ref 3 0]],boxes:=[[dI,dI],[.dat (.slice (.agg Yt1)),.dat (.slice (.agg Yt3))],[.dat .bool],[dI,dI]],ins:=Cu5,nin:=9,outs:=Ao8,rs:=[],A2:=7,F:=fun x=>AP1 x.1 x.2.1 x.2.2.1 x.2.2.2.1 x.2.2.2.2.1 x.2.2.2.2.2.1 x.2.2.2.2.2.2.1 x.2.2.2.2.2.2.2.1 x.2.2.2.2.2.2.2.2}
theorem Dn8:A3 Tryz.prog Bo0:=
 cgo (l:=[Ac5,Bn9]) (o:=[]) (.mk .plain [H0,(.mk .plain [H0,(.mk .plain [(.mk (.loop [kI 3 0,kI 0 0,sI 14,kB 2 0,⟨.cell 1 1,(.slice (.agg Yt3)),none⟩,kI 3 1,kI 0 1,⟨.cell 1 0,(.slice (.agg Yt1)),none⟩] (zP [30,36,39,8,17,23,20,26,29,35,32,38,41,7,10,16,19,22,28,25,31,34,40,37,15,21,18,24,27,33]) [(.exit 0,[kI 3 0,kI 0 0,kB 2 0,⟨.cell 1 1,(.slice (.agg Yt3)),none⟩,kI 3 1,kI 0 1,⟨.cell 1 0,(.slice (.agg Yt1)),none⟩])]) [(.mk .plain [H0,(.mk .plain [H0,(.mk .plain [(.mk .plain [(.mk .plain [H0,(.mk .plain [H0,(.mk .plain [H0,(.mk .plain [(.mk (.loop [kI 3 0,⟨.cell 1 1,(.slice (.agg Yt3)),none⟩,kI 0 0,sI 8,kI 3 1,kI 0 1,⟨.cell 1 0,(.slice (.agg Yt1)),none⟩,kB 2 0,sI 24] (zP [30,36,10,39,28,25,31,34,40,37,26,29,35,32,38,27,33]) [(.exit 2,[kI 3 0,⟨.cell 1 1,(.slice (.agg Yt3)),none⟩,kI 0 0,kI 3 1,kI 0 1,⟨.cell 1 0,(.slice (.agg Yt1)),none⟩,kB 2 0])]) [])])])])])])])])])])])])]) (by simp[BF3,Dn7]) (by simp) Tryz.func169 rfl (by kernel_rfl) (by funext x;kernel_rfl)
noncomputable def AP2 [LP](a:V5)(b:F0)(c:(Int×Int)):Option ((Int×Int)×Bool):=
 (AP1 a b c.1 c.2 b.1 b.2 false (0:Int) (0:Int)).bind fun d=>
 some (d.2.2.2.2.2,d.2.2.2.2.1)
noncomputable def Bo1:Con:={f:=156,ps:=[.dat (.agg T6),.dat (.agg E7),.dat (.agg (.pair (.int .i64) (.int .i64)))],boxes:=[],ins:=Cu6,nin:=3,outs:=(.pair (.agg (.pair (.int .i64) (.int .i64))) .bool),rs:=[.dat (.agg (.pair (.int .i64) (.int .i64))),.dat .bool],A2:=2,F:=fun x=>AP2 x.1 x.2.1 x.2.2}
theorem Dn9:A3 Tryz.prog Bo1:=
 cgo (l:=[Bo0]) (o:=[]) H0 (by simp[Dn8]) (by simp) Tryz.func156 rfl (by kernel_rfl) (by funext x;kernel_rfl)
noncomputable def AP3 [LP](a b c d e f g h i j k l m n:Int)(o:(List Yd1))(p:(List Yd3))(q:Bool)(r s t:Int)(u:(List Int))(v:Bool)(w y:Int)(z:Bool)(a0 a1 a2 a3 a4 a5 a6 a7 a8:Int)(a9:Bool)(b0 b1 b2 b3 b4:Int)(b5:(List E3))(b6:Bool)(b7 b8 b9 c0 c1:Int)(c2 c3 c4:Bool)(c5 c6 c7 c8:Int)(c9:Bool):Option (Int×Int):=
 (bif (!a9) then
  let d0:(Int×Int):=(s,t)
  some d0
 else
  Option.bind (α:=(Int×Int) ⊕ (Int×Int)) (
   LP.lp (X:=(Int×Int) ⊕ (Int×Int)) (fun (d1:(Int×(Int×Int)))=>
    let d2:=d1.1
    let d3:=d1.2.1
    let d4:=d1.2.2
    let d5:=decide (d4<b5.length)
    (bif d5 then
     chk none (decide (0≤d4)&&decide (d4<b5.length))<|
     let d6:E3:=(b5.getD d4.toNat ((0:Int),((0:Int),((0:Int),((0:Int),((0:Int),((0:Int),((0:Int),((0:Int),((0:Int),((0:Int),((0:Int),((0:Int),(0:Int))))))))))))))
     (R1 (b4,b5) (o,p) d6).bind fun d7=>
     (bif (d7==b2) then
      let d8:(Int×Int):=(s,t)
      some (.inr (.inl (d8.1,d8.2)))
     else
      let d9:=IntKind.wrap .i64 (d4+1)
      some (.inl (d2,d3,d9)))
    else
     some (.inr (.inr (d2,d3))))) ((0:Int),(0:Int),(0:Int))) fun z=>match z with
  | .inl e0=>
   let e1:=e0.1
   let e2:=e0.2
   some (e1,e2)
  | .inr e3=>
   let e4:=e3.1
   let e5:=e3.2
   (AP2 (b4,b5) (o,p) (b1,b2)).bind fun e6=>
   (bif e6.2 then
    some e6.1
   else
    let e7:(Int×Int):=(s,t)
    some e7))
noncomputable def Bo2:Con:={f:=111,ps:=[.rp [dI,dI,dI,dI,dI,dI,dI,dI,dI,dI,dI,dI,dI,dI,.dat (.slice (.agg Yt1)),.dat (.slice (.agg Yt3)),.dat .bool,dI,dI,dI,.dat (.slice (.int .i64)),.dat .bool,.dat (.int .u16),dI,.dat .bool,.dat (.int .u16),dI,dI,dI,dI,dI,dI,dI,dI,.dat .bool,dI,dI,dI,dI,dI,.dat (.slice (.agg I4)),.dat .bool,dI,dI,dI,dI,dI,.dat .bool,.dat .bool,.dat .bool,dI,dI,dI,dI,.dat .bool] 0],boxes:=[],ins:=V6,nin:=55,outs:=(.agg (.pair (.int .i64) (.int .i64))),rs:=[.dat (.agg (.pair (.int .i64) (.int .i64)))],A2:=1,F:=fun x=>let a:=x.2.2.2.2.2.2.2.2;let b:=a.2.2.2.2.2.2.2.2;let c:=b.2.2.2.2.2.2.2.2;let d:=c.2.2.2.2.2.2.2.2;let e:=d.2.2.2.2.2.2.2.2;let f:=e.2.2.2.2.2.2.2.2;AP3 x.1 x.2.1 x.2.2.1 x.2.2.2.1 x.2.2.2.2.1 x.2.2.2.2.2.1 x.2.2.2.2.2.2.1 x.2.2.2.2.2.2.2.1 x.2.2.2.2.2.2.2.2.1 a.2.1 a.2.2.1 a.2.2.2.1 a.2.2.2.2.1 a.2.2.2.2.2.1 a.2.2.2.2.2.2.1 a.2.2.2.2.2.2.2.1 a.2.2.2.2.2.2.2.2.1 b.2.1 b.2.2.1 b.2.2.2.1 b.2.2.2.2.1 b.2.2.2.2.2.1 b.2.2.2.2.2.2.1 b.2.2.2.2.2.2.2.1 b.2.2.2.2.2.2.2.2.1 c.2.1 c.2.2.1 c.2.2.2.1 c.2.2.2.2.1 c.2.2.2.2.2.1 c.2.2.2.2.2.2.1 c.2.2.2.2.2.2.2.1 c.2.2.2.2.2.2.2.2.1 d.2.1 d.2.2.1 d.2.2.2.1 d.2.2.2.2.1 d.2.2.2.2.2.1 d.2.2.2.2.2.2.1 d.2.2.2.2.2.2.2.1 d.2.2.2.2.2.2.2.2.1 e.2.1 e.2.2.1 e.2.2.2.1 e.2.2.2.2.1 e.2.2.2.2.2.1 e.2.2.2.2.2.2.1 e.2.2.2.2.2.2.2.1 e.2.2.2.2.2.2.2.2.1 f.2.1 f.2.2.1 f.2.2.2.1 f.2.2.2.2.1 f.2.2.2.2.2.1 f.2.2.2.2.2.2}
theorem Do0:A3 Tryz.prog Bo2:=
 cgo (l:=[Ap2,Bo1]) (o:=[]) (.mk .plain [H0,(.mk .plain [H0,(.mk .plain [(.mk .plain [H0,(.mk .plain [(.mk (.loop [kI 0 0,kI 0 1,sI 24] (zP [30,36,42,39,45,48,26,29,35,32,38,41,47,44,4,28,25,31,34,40,37,43,46,49,27,33,50]) [(.ret,[kI 0 0,kI 0 1]),(.exit 0,[kI 0 0,kI 0 1])]) [])])])])])]) (by simp[BF4,Dn9]) (by simp) Tryz.func111 rfl (by kernel_rfl) (by funext x;kernel_rfl)
noncomputable def AP4 [LP](a b:(Int×Int)):Option ((Int×Int)×Bool):=
 (S0 a).bind fun c=>
 (bif !(!c) then S0 b else some false).bind fun d=>
 let e:=(bif (!c) then true else (!d))
 (bif e then
  let f:(Int×Int):=((0:Int),(0:Int))
  some (f,false)
 else
  (AI1 a.1 b.2).bind fun g=>
  (AI1 a.2 b.1).bind fun h=>
  (AO8 g.1 g.2 h.1 h.2).bind fun i=>
  some (i.1,i.2))
noncomputable def At6:Con:={f:=124,ps:=[.dat (.agg (.pair (.int .i64) (.int .i64))),.dat (.agg (.pair (.int .i64) (.int .i64)))],boxes:=[],ins:=V4,nin:=2,outs:=(.pair (.agg (.pair (.int .i64) (.int .i64))) .bool),rs:=[.dat (.agg (.pair (.int .i64) (.int .i64))),.dat .bool],A2:=2,F:=fun x=>AP4 x.1 x.2}
theorem BI9:A3 Tryz.prog At6:=
 cgo (l:=[u6,Ae3,Ae4]) (o:=[]) H0 (by simp[AC0,At3,At4]) (by simp) Tryz.func124 rfl (by kernel_rfl) (by funext x;kernel_rfl)
noncomputable def Ae7 [LP](a:C8)(b:Int)(c:(Int×Int)):Option (Int×Int):=
 (u9 b).bind fun d=>
 (AP4 d c).bind fun e=>
 (AX6 e.1 a.2.2.2.2.2.1).bind fun f=>
 some f.1
noncomputable def Bo3:Con:={f:=110,ps:=[.dat (.agg C9),dI,.dat (.agg (.pair (.int .i64) (.int .i64)))],boxes:=[],ins:=Cu7,nin:=3,outs:=(.agg (.pair (.int .i64) (.int .i64))),rs:=[.dat (.agg (.pair (.int .i64) (.int .i64)))],A2:=1,F:=fun x=>Ae7 x.1 x.2.1 x.2.2}
theorem Do1:A3 Tryz.prog Bo3:=
 cgo (l:=[AW5,At6,At5]) (o:=[]) H0 (by simp[Ad0,BI9,BI7]) (by simp) Tryz.func110 rfl (by kernel_rfl) (by funext x;kernel_rfl)
noncomputable def AC9 [LP](a b:(Int×Int)):Option ((Int×Int)×Bool):=
 (S0 a).bind fun c=>
 (bif !(!c) then S0 b else some false).bind fun d=>
 let e:=(bif (!c) then true else (!d))
 (bif e then
  let f:(Int×Int):=((0:Int),(0:Int))
  some (f,false)
 else
  (AC6 a.1 b.1).bind fun g=>
  (AC6 a.2 b.2).bind fun h=>
  (AO8 g.1 g.2 h.1 h.2).bind fun i=>
  some (i.1,i.2))
noncomputable def AX7:Con:={f:=82,ps:=[.dat (.agg (.pair (.int .i64) (.int .i64))),.dat (.agg (.pair (.int .i64) (.int .i64)))],boxes:=[],ins:=V4,nin:=2,outs:=(.pair (.agg (.pair (.int .i64) (.int .i64))) .bool),rs:=[.dat (.agg (.pair (.int .i64) (.int .i64))),.dat .bool],A2:=2,F:=fun x=>AC9 x.1 x.2}
theorem Ae8:A3 Tryz.prog AX7:=
 cgo (l:=[u6,Ad9,Ae4]) (o:=[]) H0 (by simp[AC0,At1,At4]) (by simp) Tryz.func82 rfl (by kernel_rfl) (by funext x;kernel_rfl)
noncomputable def Ae9 [LP](a b:(Int×Int)):Option (Int×Int):=
 (AC9 a b).bind fun c=>
 some c.1
noncomputable def Bo4:Con:={f:=109,ps:=[.dat (.agg (.pair (.int .i64) (.int .i64))),.dat (.agg (.pair (.int .i64) (.int .i64)))],boxes:=[],ins:=V4,nin:=2,outs:=(.agg (.pair (.int .i64) (.int .i64))),rs:=[.dat (.agg (.pair (.int .i64) (.int .i64)))],A2:=1,F:=fun x=>Ae9 x.1 x.2}
theorem Do2:A3 Tryz.prog Bo4:=
 cgo (l:=[AX7]) (o:=[]) H0 (by simp[Ae8]) (by simp) Tryz.func109 rfl (by kernel_rfl) (by funext x;kernel_rfl)
noncomputable def AP5 [LP](a b c d e f g h i j k l m n:Int)(o:(List Yd1))(p:(List Yd3))(q:Bool)(r s t:Int)(u:(List Int))(v:Bool)(w y:Int)(z:Bool)(a0 a1 a2 a3 a4 a5 a6 a7 a8:Int)(a9:Bool)(b0 b1 b2 b3 b4:Int)(b5:(List E3))(b6:Bool)(b7 b8 b9 c0 c1:Int)(c2 c3 c4:Bool)(c5 c6 c7 c8:Int)(c9:Bool)(d0:T7):Option (Bool×(Int×Int)):=
 (z7 d0 (4:Int)).bind fun d1=>
 (bif (!d1.2) then
  let d2:(Bool×(Int×Int)):=(false,((0:Int),(0:Int)))
  some d2
 else
  let d3:C8:=(a,(b,(c,(d,(e,(f,(g,(h,(i,(j,(k,(l,(m,n)))))))))))))
  (AP3 a b c d e f g h i j k l m n o p q r s t u v w y z a0 a1 a2 a3 a4 a5 a6 a7 a8 a9 b0 b1 b2 b3 b4 b5 b6 b7 b8 b9 c0 c1 c2 c3 c4 c5 c6 c7 c8 c9).bind fun d4=>
  (Ae7 d3 d1.1 d4).bind fun d5=>
  (Ae9 (a6,a7) d5).bind fun d6=>
  let d7:(Bool×(Int×Int)):=(true,d6)
  some d7)
noncomputable def Bo5:Con:={f:=70,ps:=[.rp [dI,dI,dI,dI,dI,dI,dI,dI,dI,dI,dI,dI,dI,dI,.dat (.slice (.agg Yt1)),.dat (.slice (.agg Yt3)),.dat .bool,dI,dI,dI,.dat (.slice (.int .i64)),.dat .bool,.dat (.int .u16),dI,.dat .bool,.dat (.int .u16),dI,dI,dI,dI,dI,dI,dI,dI,.dat .bool,dI,dI,dI,dI,dI,.dat (.slice (.agg I4)),.dat .bool,dI,dI,dI,dI,dI,.dat .bool,.dat .bool,.dat .bool,dI,dI,dI,dI,.dat .bool] 0,.dat (.agg V7)],boxes:=[],ins:=Bb1,nin:=56,outs:=(.agg (.pair .bool (.agg (.pair (.int .i64) (.int .i64))))),rs:=[.dat (.agg (.pair .bool (.agg (.pair (.int .i64) (.int .i64)))))],A2:=1,F:=fun x=>let a:=x.2.2.2.2.2.2.2.2;let b:=a.2.2.2.2.2.2.2.2;let c:=b.2.2.2.2.2.2.2.2;let d:=c.2.2.2.2.2.2.2.2;let e:=d.2.2.2.2.2.2.2.2;let f:=e.2.2.2.2.2.2.2.2;AP5 x.1 x.2.1 x.2.2.1 x.2.2.2.1 x.2.2.2.2.1 x.2.2.2.2.2.1 x.2.2.2.2.2.2.1 x.2.2.2.2.2.2.2.1 x.2.2.2.2.2.2.2.2.1 a.2.1 a.2.2.1 a.2.2.2.1 a.2.2.2.2.1 a.2.2.2.2.2.1 a.2.2.2.2.2.2.1 a.2.2.2.2.2.2.2.1 a.2.2.2.2.2.2.2.2.1 b.2.1 b.2.2.1 b.2.2.2.1 b.2.2.2.2.1 b.2.2.2.2.2.1 b.2.2.2.2.2.2.1 b.2.2.2.2.2.2.2.1 b.2.2.2.2.2.2.2.2.1 c.2.1 c.2.2.1 c.2.2.2.1 c.2.2.2.2.1 c.2.2.2.2.2.1 c.2.2.2.2.2.2.1 c.2.2.2.2.2.2.2.1 c.2.2.2.2.2.2.2.2.1 d.2.1 d.2.2.1 d.2.2.2.1 d.2.2.2.2.1 d.2.2.2.2.2.1 d.2.2.2.2.2.2.1 d.2.2.2.2.2.2.2.1 d.2.2.2.2.2.2.2.2.1 e.2.1 e.2.2.1 e.2.2.2.1 e.2.2.2.2.1 e.2.2.2.2.2.1 e.2.2.2.2.2.2.1 e.2.2.2.2.2.2.2.1 e.2.2.2.2.2.2.2.2.1 f.2.1 f.2.2.1 f.2.2.2.1 f.2.2.2.2.1 f.2.2.2.2.2.1 f.2.2.2.2.2.2.1 f.2.2.2.2.2.2.2}
theorem Do3:A3 Tryz.prog Bo5:=
 cgo (l:=[Ad8,Bo2,Bo3,Bo4]) (o:=[]) H0 (by simp[As9,Do0,Do1,Do2]) (by simp) Tryz.func70 rfl (by kernel_rfl) (by funext x;kernel_rfl)
noncomputable def BJ0 [LP](a:Ao9):Option (List (Int×Int)):=
 Option.bind (
  (bif a.1.1 then
   let b:(List (Int×Int)):=([a.1.2]:List (Int×Int))
   chk none (decide ((([]:List (Int×Int)).length+b.length)*16≤140737488355328))<|
   let c:(List (Int×Int)):=b
   some c
  else
   some ([]))) fun d=>
 Option.bind (
  (bif a.2.1.1 then
   let e:(List (Int×Int)):=([a.2.1.2]:List (Int×Int))
   chk none (decide ((d.length+e.length)*16≤140737488355328))<|
   let f:(List (Int×Int)):=(d++e)
   some f
  else
   some d)) fun g=>
 Option.bind (
  (bif a.2.2.1 then
   let h:(List (Int×Int)):=([a.2.2.2]:List (Int×Int))
   chk none (decide ((g.length+h.length)*16≤140737488355328))<|
   let i:(List (Int×Int)):=(g++h)
   some i
  else
   some g)) fun j=>
 some j
noncomputable def Bo6:Con:={f:=102,ps:=[.dat (.agg Ac2)],boxes:=[],ins:=(.agg Ac2),nin:=1,outs:=(.slice (.agg (.pair (.int .i64) (.int .i64)))),rs:=[.dat (.slice (.agg (.pair (.int .i64) (.int .i64))))],A2:=1,F:=fun x=>BJ0 x}
theorem Do4:A3 Tryz.prog Bo6:=
 cgo (l:=[]) (o:=[]) (.mk .plain [H0,(.mk .plain [H0,(.mk .plain [(.mk .plain [H0,(.mk .plain [(.mk (.AT0 4) [(.mk .plain [H0,(.mk .plain [H0,(.mk .plain [(.mk .plain [(.mk .plain [H0,(.mk .plain [H0,(.mk (.join (zP [12,15,16,14,13]) [(.normal,[⟨.slot 3,(.slice (.agg (.pair (.int .i64) (.int .i64)))),some 1600044⟩])]) [])])])])])])])])])])])])]) (by simp) (by simp) Tryz.func102 rfl (by kernel_rfl) (by funext x;kernel_rfl)
noncomputable def AP6 [LP](a:(List (Int×Int))):Option ((Int×Int)×Bool):=
 let b:=((a.length:Int)==(0:Int))
 (bif b then
  let c:(Int×Int):=((0:Int),(0:Int))
  some (c,false)
 else
  chk none (true&&(decide ((0:Int)<(a.length:Int))))<|
  let d:(Int×Int):=(a.getD (0:Int).toNat ((0:Int),(0:Int)))
  Option.bind (α:=(Int×(Int×Bool)) ⊕ Yd2) (
   LP.lp (X:=(Int×(Int×Bool)) ⊕ Yd2) (fun (e:Yd3)=>
    let f:=e.1
    let g:=e.2.1
    let h:=e.2.2.1
    let i:=e.2.2.2.1
    let j:=e.2.2.2.2
    let k:=decide (j<a.length)
    (bif k then
     chk none (decide (0≤j)&&decide (j<a.length))<|
     let l:(Int×Int):=(a.getD j.toNat ((0:Int),(0:Int)))
     (l5 (i,f) l).bind fun m=>
     (bif (!m.2) then
      let n:(Int×Int):=((0:Int),(0:Int))
      some (.inr (.inl (n.1,n.2,false)))
     else
      let o:=IntKind.wrap .i64 (j+1)
      some (.inl (m.1.2,g,h,m.1.1,o)))
    else
     some (.inr (.inr (f,g,h,i))))) (d.2,(0:Int),(0:Int),d.1,(0:Int))) fun z=>match z with
  | .inl p=>
   let q:=p.1
   let r:=p.2.1
   let s:=p.2.2
   some ((q,r),s)
  | .inr t=>
   let u:=t.1
   let v:=t.2.1
   let w:=t.2.2.1
   let y:=t.2.2.2
   let z:(Int×Int):=(y,u)
   some (z,true))
noncomputable def Bo7:Con:={f:=153,ps:=[.dat (.slice (.agg (.pair (.int .i64) (.int .i64))))],boxes:=[],ins:=(.slice (.agg (.pair (.int .i64) (.int .i64)))),nin:=1,outs:=(.pair (.agg (.pair (.int .i64) (.int .i64))) .bool),rs:=[.dat (.agg (.pair (.int .i64) (.int .i64))),.dat .bool],A2:=2,F:=fun x=>AP6 x}
theorem Do5:A3 Tryz.prog Bo7:=
 cgo (l:=[AC8]) (o:=[]) (.mk .plain [H0,(.mk .plain [H0,(.mk .plain [H0,(.mk .plain [(.mk .plain [H0,(.mk .plain [(.mk (.loop [kI 1 1,kI 0 0,kI 0 1,kI 1 0,sI 17] (zP [7,19,22,28,25,23,20,26,29,3,6,21,18,24,27,30]) [(.ret,[kI 0 0,kI 0 1,sB 3]),(.exit 0,[kI 1 1,kI 0 0,kI 0 1,kI 1 0])]) [])])])])])])]) (by simp[AI3]) (by simp) Tryz.func153 rfl (by kernel_rfl) (by funext x;kernel_rfl)
noncomputable def AP7 [LP](a:(List (Int×Int))):Option ((Int×Int)×Bool):=
 Option.bind (
  LP.lp (X:=(Bool×(Int×Int))) (fun (b:BE5)=>
   let c:=b.1
   let d:=b.2.1
   let e:=b.2.2.1
   let f:=b.2.2.2
   let g:=decide (d<a.length)
   (bif g then
    chk none (decide (0≤d)&&decide (d<a.length))<|
    let h:(Int×Int):=(a.getD d.toNat ((0:Int),(0:Int)))
    let i:=IntKind.wrap .i64 (d+1)
    chk none ((decide ((0:Int)≤i))&&(decide (i≤(a.length:Int)))&&(decide ((a.length:Int)≤(a.length:Int))))<|
    let j:(List (Int×Int)):=((a.take (a.length:Int).toNat).drop i.toNat)
    Option.bind (
     LP.lp (X:=(Bool×(Int×Int))) (fun (k:BE5)=>
      let l:=k.1
      let m:=k.2.1
      let n:=k.2.2.1
      let o:=k.2.2.2
      let p:=decide (o<j.length)
      (bif p then
       chk none (decide (0≤o)&&decide (o<j.length))<|
       let q:(Int×Int):=(j.getD o.toNat ((0:Int),(0:Int)))
       (l5 h q).bind fun r=>
       let s:=(bif r.2 then l else false)
       Option.bind (
        (bif s then
         (AG5 (n,m) r.1).bind fun t=>
         some (t.2,t.1,l)
        else
         Option.bind (
          (bif r.2 then
           some (r.1.1,r.1.2,true)
          else
           some (n,m,l))) fun u=>
         let v:=u.1
         let w:=u.2.1
         let y:=u.2.2
         some (w,v,y))) fun z=>
       let a0:=z.1
       let a1:=z.2.1
       let a2:=z.2.2
       let a3:=IntKind.wrap .i64 (o+1)
       some (.inl (a2,a0,a1,a3))
      else
       some (.inr (l,m,n)))) (c,e,f,(0:Int))) fun a4=>
    let a5:=a4.1
    let a6:=a4.2.1
    let a7:=a4.2.2
    let a8:=IntKind.wrap .i64 (d+1)
    some (.inl (a5,a8,a6,a7))
   else
    some (.inr (c,e,f)))) (false,(0:Int),(0:Int),(0:Int))) fun a9=>
 let b0:=a9.1
 let b1:=a9.2.1
 let b2:=a9.2.2
 let b3:(Int×Int):=(b2,b1)
 some (b3,b0)
noncomputable def Bo8:Con:={f:=154,ps:=[.dat (.slice (.agg (.pair (.int .i64) (.int .i64))))],boxes:=[],ins:=(.slice (.agg (.pair (.int .i64) (.int .i64)))),nin:=1,outs:=(.pair (.agg (.pair (.int .i64) (.int .i64))) .bool),rs:=[.dat (.agg (.pair (.int .i64) (.int .i64))),.dat .bool],A2:=2,F:=fun x=>AP7 x}
theorem Do6:A3 Tryz.prog Bo8:=
 cgo (l:=[AC8,AW6]) (o:=[]) (.mk .plain [H0,(.mk .plain [H0,(.mk .plain [H0,(.mk .plain [(.mk .plain [H0,(.mk .plain [(.mk (.loop [sB 5,sI 14,kI 1 1,kI 1 0] (zP [30,36,42,39,45,11,17,23,20,26,29,35,32,38,41,44,7,10,16,19,22,28,25,31,34,40,37,43,46,9,6,15,21,18,24,27,33]) [(.exit 0,[sB 5,kI 1 1,kI 1 0])]) [(.mk .plain [H0,(.mk .plain [H0,(.mk .plain [(.mk .plain [(.mk .plain [H0,(.mk .plain [H0,(.mk .plain [(.mk (.loop [sB 5,kI 1 1,kI 1 0,sI 24] (zP [30,36,42,39,45,11,26,29,35,32,38,41,44,10,28,25,31,34,40,37,43,9,27,33]) [(.exit 2,[sB 5,kI 1 1,kI 1 0])]) [(.mk .plain [H0,(.mk .plain [H0,(.mk .plain [(.mk .plain [(.mk .plain [H0,(.mk .plain [H0,(.mk .plain [(.mk .plain [H0,(.mk (.join (zP [41,39,40,42,44,43]) [(.normal,[kI 1 1,kI 1 0,sB 5])]) [H0,(.mk .plain [H0,(.mk (.join [(0,44)] [(.normal,[kI 1 0,kI 1 1,sB 5])]) [])])])])])])])])])])])])])])])])])])])])])])])])])]) (by simp[AI3,Ad1]) (by simp) Tryz.func154 rfl (by kernel_rfl) (by funext x;kernel_rfl)
noncomputable def AP8 [LP](a:(List (Int×Int))):Option Cv1:=
 (AP6 a).bind fun b=>
 (bif b.2 then
  some (b.1,true,true)
 else
  let c:=(decide ((a.length:Int)<(3:Int)))
  (bif c then
   let d:(Int×Int):=((0:Int),(0:Int))
   some (d,false,false)
  else
   (AP7 a).bind fun e=>
   some (e.1,e.2,false)))
noncomputable def Bo9:Con:={f:=103,ps:=[.dat (.slice (.agg (.pair (.int .i64) (.int .i64))))],boxes:=[],ins:=(.slice (.agg (.pair (.int .i64) (.int .i64)))),nin:=1,outs:=Cv0,rs:=[.dat (.agg (.pair (.int .i64) (.int .i64))),.dat .bool,.dat .bool],A2:=3,F:=fun x=>AP8 x}
theorem Do7:A3 Tryz.prog Bo9:=
 cgo (l:=[Bo7,Bo8]) (o:=[]) H0 (by simp[Do5,Do6]) (by simp) Tryz.func103 rfl (by kernel_rfl) (by funext x;kernel_rfl)
noncomputable def Af0 [LP](a:(Int×Int))(b c d:Int)(e f:Bool)(g h:Int):Option CP1:=
 (l5 (b,c) a).bind fun i=>
 (bif (!i.2) then
  some (b,c,d,e,true,g,h)
 else
  some (i.1.1,i.1.2,d,e,f,g,h))
noncomputable def Bp0:Con:={f:=104,ps:=[.ref 0 0,.dat (.agg (.pair (.int .i64) (.int .i64)))],boxes:=[[dI,dI,dI,.dat .bool,.dat .bool,dI,dI]],ins:=Cv2,nin:=8,outs:=BZ3,rs:=[],A2:=7,F:=fun x=>Af0 x.1 x.2.1 x.2.2.1 x.2.2.2.1 x.2.2.2.2.1 x.2.2.2.2.2.1 x.2.2.2.2.2.2.1 x.2.2.2.2.2.2.2}
theorem Do8:A3 Tryz.prog Bp0:=
 cgo (l:=[AC8]) (o:=[]) H0 (by simp[AI3]) (by simp) Tryz.func104 rfl (by kernel_rfl) (by funext x;kernel_rfl)
noncomputable def AP9 [LP](a:(Int×Int))(b:(List (Int×Int))):Option (List Int):=
 Option.bind (
  LP.lp (X:=(List Int)) (fun (c:((List Int)×Int))=>
   let d:(List Int):=c.1
   let e:=c.2
   let f:=decide (e<b.length)
   (bif f then
    chk none (decide (0≤e)&&decide (e<b.length))<|
    let g:(Int×Int):=(b.getD e.toNat ((0:Int),(0:Int)))
    (l5 a g).bind fun h=>
    Option.bind (
     (bif (!h.2) then
      chk none (decide ((d.length+([e]:List Int).length)*8≤140737488355328))<|
      let i:(List Int):=(d++([e]:List Int))
      some i
     else
      some d)) fun j=>
    let k:=IntKind.wrap .i64 (e+1)
    some (.inl (j,k))
   else
    some (.inr d))) ([],(0:Int))) fun l=>
 some l
noncomputable def Bp1:Con:={f:=105,ps:=[.dat (.agg (.pair (.int .i64) (.int .i64))),.dat (.slice (.agg (.pair (.int .i64) (.int .i64))))],boxes:=[],ins:=Cv3,nin:=2,outs:=(.slice (.int .i64)),rs:=[.dat (.slice (.int .i64))],A2:=1,F:=fun x=>AP9 x.1 x.2}
theorem Do9:A3 Tryz.prog Bp1:=
 cgo (l:=[AC8]) (o:=[]) (.mk .plain [H0,(.mk .plain [H0,(.mk .plain [(.mk .plain [H0,(.mk .plain [(.mk (.loop [⟨.slot 5,(.slice (.int .i64)),some 2800003⟩,sI 12] (zP [7,16,13,19,22,28,25,8,14,17,23,20,26,29,9,6,15,21,18,24,27]) [(.exit 0,[⟨.slot 5,(.slice (.int .i64)),some 2800003⟩])]) [(.mk .plain [H0,(.mk .plain [H0,(.mk .plain [(.mk .plain [(.mk .plain [H0,(.mk .plain [H0,(.mk .plain [H0,(.mk (.join (zP [25,26,27,28]) [(.normal,[⟨.slot 5,(.slice (.int .i64)),some 2800003⟩])]) [])])])])])])])])])])])])])]) (by simp[AI3]) (by simp) Tryz.func105 rfl (by kernel_rfl) (by funext x;kernel_rfl)
noncomputable def At7 [LP](a b:Int):Option Int:=
 let c:=((bits .i64 .xor a b).fdiv (2 ^ 1))
 let d:=IntKind.wrap .i64 ((bits .i64 .and a b)+c)
 some d
noncomputable def Bp2:Con:={f:=113,ps:=[dI,dI],boxes:=[],ins:=(.pair (.int .i64) (.int .i64)),nin:=2,outs:=(.int .i64),rs:=[dI],A2:=1,F:=fun x=>At7 x.1 x.2}
theorem Dp0:A3 Tryz.prog Bp2:=
 cgo (l:=[]) (o:=[]) H0 (by simp) (by simp) Tryz.func113 rfl (by kernel_rfl) (by funext x;kernel_rfl)
noncomputable def AA0 [LP](a:(Int×Int)):Option Int:=
 (At7 a.1 a.2).bind fun b=>
 some b
noncomputable def AQ0:Con:={f:=72,ps:=[.dat (.agg (.pair (.int .i64) (.int .i64)))],boxes:=[],ins:=(.agg (.pair (.int .i64) (.int .i64))),nin:=1,outs:=(.int .i64),rs:=[dI],A2:=1,F:=fun x=>AA0 x}
theorem Af1:A3 Tryz.prog AQ0:=
 cgo (l:=[Bp2]) (o:=[]) H0 (by simp[Dp0]) (by simp) Tryz.func72 rfl (by kernel_rfl) (by funext x;kernel_rfl)
noncomputable def At8 [LP](a b:(Int×Int)):Option Int:=
 let c:=decide (b.2<a.1)
 (AA0 b).bind fun d=>
 let e:=decide (d<(0:Int))
 Option.bind (
  (bif e then
   let f:=decide (a.2<b.1)
   some f
  else
   some c)) fun g=>
 (bif g then
  some (1:Int)
 else
  some (-1:Int))
noncomputable def Bp3:Con:={f:=106,ps:=[.dat (.agg (.pair (.int .i64) (.int .i64))),.dat (.agg (.pair (.int .i64) (.int .i64)))],boxes:=[],ins:=V4,nin:=2,outs:=(.int .i64),rs:=[dI],A2:=1,F:=fun x=>At8 x.1 x.2}
theorem Dp1:A3 Tryz.prog Bp3:=
 cgo (l:=[AQ0]) (o:=[]) (.mk .plain [H0,(.mk .plain [H0,(.mk .plain [(.mk .plain [H0,(.mk (.join (zP [15,16,18,14,17]) [(.normal,[sB 5])]) [])])])])]) (by simp[Af1]) (by simp) Tryz.func106 rfl (by kernel_rfl) (by funext x;kernel_rfl)
noncomputable def AI4 [LP](a:(Int×Int))(b:Ao9)(c:(Bool×(Int×Int))):Option AV9:=
 (BJ0 b).bind fun d=>
 let e:AV9:=(a,((d.length:Int),(false,(false,((0:Int),(0:Int))))))
 let pA:=e.2.2.2.2
 (AP8 d).bind fun f=>
 let g:=((d.length:Int)==(3:Int))
 let h:=(bif f.2.2 then g else false)
 Option.bind (
  (bif f.2.1 then
   (Af0 f.1 e.1.1 e.1.2 e.2.1 h e.2.2.2.1 pA.1 pA.2).bind fun i=>
   let pB:=i.2.2.2.2
   some (pB.2.1,pB.1,i.2.1,i.1,pB.2.2,i.2.2.2.1,i.2.2.1)
  else
   let j:=(decide ((0:Int)<(d.length:Int)))
   Option.bind (
    (bif j then
     some true
    else
     some e.2.2.2.1)) fun k=>
   some (pA.1,k,e.1.2,e.1.1,pA.2,h,e.2.1))) fun l=>
 let pC:=l.2.2.2.2
 let m:=l.1
 let n:=l.2.1
 let o:=l.2.2.1
 let p:=l.2.2.2.1
 let q:=pC.1
 let r:=pC.2.1
 let s:=pC.2.2
 Option.bind (
  (bif c.1 then
   (Af0 c.2 p o s r n m q).bind fun t=>
   let pD:=t.2.2.2.2
   some (pD.2.1,pD.1,t.2.1,t.1,pD.2.2,t.2.2.2.1,t.2.2.1)
  else
   some (m,n,o,p,q,r,s))) fun u=>
 let pE:=u.2.2.2.2
 let v:=u.1
 let w:=u.2.1
 let y:=u.2.2.1
 let z:=u.2.2.2.1
 let a0:=pE.1
 let a1:=pE.2.1
 let a2:=pE.2.2
 let a3:=(bif f.2.1 then (!f.2.2) else false)
 Option.bind (
  (bif a3 then
   let a4:(List (Int×Int)):=([b.1.2,b.2.1.2]:List (Int×Int))
   (AP9 f.1 a4).bind fun a5=>
   Option.bind (
    LP.lp (X:=CR4) (fun (a6:Cv8)=>
     let pF:=a6.2.2.2.2
     let a7:=a6.1
     let a8:=a6.2.1
     let a9:=a6.2.2.1
     let b0:=a6.2.2.2.1
     let b1:=pF.1
     let b2:=pF.2.1
     let b3:=pF.2.2.1
     let b4:=pF.2.2.2
     let b5:=decide (b4<a5.length)
     (bif b5 then
      chk none (decide (0≤b4)&&decide (b4<a5.length))<|
      let b6:=(a5.getD b4.toNat 0)
      chk none ((decide ((0:Int)≤b6))&&(decide (b6<(3:Int))))<|
      let b7:(Int×Int):=(List.getD [b.1.2,b.2.1.2,b.2.2.2] b6.toNat ((0:Int),(0:Int)))
      (At8 b7 f.1).bind fun b8=>
      chk none ((decide ((0:Int)≤b6))&&(decide (b6<(2:Int))))<|
      let b9:=IntKind.wrap .i64 (b4+1)
      some (.inl (a7,a8,a9,(bif (b6==(0:Int)) then b8 else b0),b1,(bif (b6==(1:Int)) then b8 else b2),b3,b9))
     else
      some (.inr (a7,a8,a9,b0,b1,b2,b3)))) (w,y,a2,v,z,a0,a1,(0:Int))) fun c0=>
   let pG:=c0.2.2.2.2
   let c1:=c0.1
   let c2:=c0.2.1
   let c3:=c0.2.2.1
   let c4:=c0.2.2.2.1
   let c5:=pG.1
   let c6:=pG.2.1
   let c7:=pG.2.2
   some (c1,c2,c3,c4,c5,c6,c7)
  else
   some (w,y,a2,v,z,a0,a1))) fun c8=>
 let pH:=c8.2.2.2.2
 let c9:=c8.1
 let d0:=c8.2.1
 let d1:=c8.2.2.1
 let d2:=c8.2.2.2.1
 let d3:=pH.1
 let d4:=pH.2.1
 let d5:=pH.2.2
 let d6:AV9:=((d3,d0),(d1,(d5,(c9,(d2,d4)))))
 some d6
noncomputable def Bp4:Con:={f:=68,ps:=[.dat (.agg (.pair (.int .i64) (.int .i64))),.dat (.agg Ac2),.dat (.agg (.pair .bool (.agg (.pair (.int .i64) (.int .i64)))))],boxes:=[],ins:=Cw0,nin:=3,outs:=(.agg AL5),rs:=[.dat (.agg AL5)],A2:=1,F:=fun x=>AI4 x.1 x.2.1 x.2.2}
theorem Dp2:A3 Tryz.prog Bp4:=
 cgo (l:=[Bo6,Bo9,Bp0,Bp1,Bp3]) (o:=[]) (.mk .plain [H0,(.mk .plain [H0,(.mk .plain [H0,(.mk .plain [H0,(.mk .plain [H0,(.mk .plain [(.mk .plain [(.mk .plain [H0,(.mk (.join (zP [36,35,41,39,40,37,38]) [(.normal,[kI 4 5,kB 4 4,kI 4 1,kI 4 0,kI 4 6,kB 4 3,kI 4 2])]) [H0,(.mk .plain [H0,(.mk (.join [(0,41)] [(.normal,[kB 4 4])]) [])])])])]),(.mk .plain [(.mk .plain [H0,(.mk (.join (zP [46,45,44]) [(.normal,[kI 4 5,kB 4 4,kI 4 1,kI 4 0,kI 4 6,kB 4 3,kI 4 2])]) [])]),(.mk .plain [(.mk .plain [H0,(.mk (.join (zP [68,65,71,74,13,54,57,60,66,63,69,72,75,52,55,61,58,64,67,73,70,53,59,56,62]) [(.normal,[kB 4 4,kI 4 1,kI 4 2,kI 4 5,kI 4 0,kI 4 6,kB 4 3])]) [(.mk .plain [H0,(.mk .plain [(.mk (.loop [kB 4 4,kI 4 1,kI 4 2,kI 4 5,kI 4 0,kI 4 6,kB 4 3,sI 62] (zP [68,65,71,74,13,66,63,69,72,75,64,67,73,70]) [(.exit 1,[kB 4 4,kI 4 1,kI 4 2,kI 4 5,kI 4 0,kI 4 6,kB 4 3])]) [])])])])])])])])])])])])]) (by simp[Do4,Do7,Do8,Do9,Dp1]) (by simp) Tryz.func68 rfl (by kernel_rfl) (by funext x;kernel_rfl)
noncomputable def AQ1 [LP](a:T7)(b c d e f g h i j k l m n o:Int)(p:(List Yd1))(q:(List Yd3))(r:Bool)(s t u:Int)(v:(List Int))(w:Bool)(y z:Int)(a0:Bool)(a1 a2 a3 a4 a5 a6 a7 a8 a9:Int)(b0:Bool)(b1 b2 b3 b4 b5:Int)(b6:(List E3))(b7:Bool)(b8 b9 c0 c1 c2:Int)(c3 c4 c5:Bool)(c6 c7 c8 c9:Int)(d0:Bool):Option Cw2:=
 (z8 (0:Int) a b c d e f g h i j k l m n o p q r s t u v w y z a0 a1 a2 a3 a4 a5 a6 a7 a8 a9 b0 b1 b2 b3 b4 b5 b6 b7 b8 b9 c0 c1 c2 c3 c4 c5 c6 c7 c8 c9 d0).bind fun d1=>
 let pA:=d1.2.2.2.2
 let pC:=pA.2.2.2.2
 let pE:=pC.2.2.2.2
 let pG:=pE.2.2.2.2
 let pI:=pG.2.2.2.2
 let pK:=pI.2.2.2.2
 let pM:=pK.2.2.2.2
 let pO:=pM.2.2.2.2
 let pQ:=pO.2.2.2.2
 let pS:=pQ.2.2.2.2
 let pU:=pS.2.2.2.2
 let pW:=pU.2.2.2.2
 let pY:=pW.2.2.2.2
 (z8 (1:Int) a d1.2.1 d1.2.2.1 d1.2.2.2.1 pA.1 pA.2.1 pA.2.2.1 pA.2.2.2.1 pC.1 pC.2.1 pC.2.2.1 pC.2.2.2.1 pE.1 pE.2.1 pE.2.2.1 pE.2.2.2.1 pG.1 pG.2.1 pG.2.2.1 pG.2.2.2.1 pI.1 pI.2.1 pI.2.2.1 pI.2.2.2.1 pK.1 pK.2.1 pK.2.2.1 pK.2.2.2.1 pM.1 pM.2.1 pM.2.2.1 pM.2.2.2.1 pO.1 pO.2.1 pO.2.2.1 pO.2.2.2.1 pQ.1 pQ.2.1 pQ.2.2.1 pQ.2.2.2.1 pS.1 pS.2.1 pS.2.2.1 pS.2.2.2.1 pU.1 pU.2.1 pU.2.2.1 pU.2.2.2.1 pW.1 pW.2.1 pW.2.2.1 pW.2.2.2.1 pY.1 pY.2.1 pY.2.2.1 pY.2.2.2).bind fun d2=>
 let pB:=d2.2.2.2.2
 let pD:=pB.2.2.2.2
 let pF:=pD.2.2.2.2
 let pH:=pF.2.2.2.2
 let pJ:=pH.2.2.2.2
 let pL:=pJ.2.2.2.2
 let pN:=pL.2.2.2.2
 let pP:=pN.2.2.2.2
 let pR:=pP.2.2.2.2
 let pT:=pR.2.2.2.2
 let pV:=pT.2.2.2.2
 let pX:=pV.2.2.2.2
 let pZ:=pX.2.2.2.2
 (AO9 d2.2.1 d2.2.2.1 d2.2.2.2.1 pB.1 pB.2.1 pB.2.2.1 pB.2.2.2.1 pD.1 pD.2.1 pD.2.2.1 pD.2.2.2.1 pF.1 pF.2.1 pF.2.2.1 pF.2.2.2.1 pH.1 pH.2.1 pH.2.2.1 pH.2.2.2.1 pJ.1 pJ.2.1 pJ.2.2.1 pJ.2.2.2.1 pL.1 pL.2.1 pL.2.2.1 pL.2.2.2.1 pN.1 pN.2.1 pN.2.2.1 pN.2.2.2.1 pP.1 pP.2.1 pP.2.2.1 pP.2.2.2.1 pR.1 pR.2.1 pR.2.2.1 pR.2.2.2.1 pT.1 pT.2.1 pT.2.2.1 pT.2.2.2.1 pV.1 pV.2.1 pV.2.2.1 pV.2.2.2.1 pX.1 pX.2.1 pX.2.2.1 pX.2.2.2.1 pZ.1 pZ.2.1 pZ.2.2.1 pZ.2.2.2 a).bind fun d3=>
 let d4:Ao9:=(d1.1,(d2.1,d3))
 let d5:C8:=(d2.2.1,(d2.2.2.1,(d2.2.2.2.1,(pB.1,(pB.2.1,(pB.2.2.1,(pB.2.2.2.1,(pD.1,(pD.2.1,(pD.2.2.1,(pD.2.2.2.1,(pF.1,(pF.2.1,pF.2.2.1)))))))))))))
 let d6:(Int×Int):=(pP.1,pP.2.1)
 (Ae6 d5 d6).bind fun d7=>
 (AP5 d2.2.1 d2.2.2.1 d2.2.2.2.1 pB.1 pB.2.1 pB.2.2.1 pB.2.2.2.1 pD.1 pD.2.1 pD.2.2.1 pD.2.2.2.1 pF.1 pF.2.1 pF.2.2.1 pF.2.2.2.1 pH.1 pH.2.1 pH.2.2.1 pH.2.2.2.1 pJ.1 pJ.2.1 pJ.2.2.1 pJ.2.2.2.1 pL.1 pL.2.1 pL.2.2.1 pL.2.2.2.1 pN.1 pN.2.1 pN.2.2.1 pN.2.2.2.1 pP.1 pP.2.1 pP.2.2.1 pP.2.2.2.1 pR.1 pR.2.1 pR.2.2.1 pR.2.2.2.1 pT.1 pT.2.1 pT.2.2.1 pT.2.2.2.1 pV.1 pV.2.1 pV.2.2.1 pV.2.2.2.1 pX.1 pX.2.1 pX.2.2.1 pX.2.2.2.1 pZ.1 pZ.2.1 pZ.2.2.1 pZ.2.2.2 a).bind fun d8=>
 (AI4 d7 d4 d8).bind fun d9=>
 some (d9,d2.2.1,d2.2.2.1,d2.2.2.2.1,pB.1,pB.2.1,pB.2.2.1,pB.2.2.2.1,pD.1,pD.2.1,pD.2.2.1,pD.2.2.2.1,pF.1,pF.2.1,pF.2.2.1,pF.2.2.2.1,pH.1,pH.2.1,pH.2.2.1,pH.2.2.2.1,pJ.1,pJ.2.1,pJ.2.2.1,pJ.2.2.2.1,pL.1,pL.2.1,pL.2.2.1,pL.2.2.2.1,pN.1,pN.2.1,pN.2.2.1,pN.2.2.2.1,pP.1,pP.2.1,pP.2.2.1,pP.2.2.2.1,pR.1,pR.2.1,pR.2.2.1,pR.2.2.2.1,pT.1,pT.2.1,pT.2.2.1,pT.2.2.2.1,pV.1,pV.2.1,pV.2.2.1,pV.2.2.2.1,pX.1,pX.2.1,pX.2.2.1,pX.2.2.2.1,pZ.1,pZ.2.1,pZ.2.2.1,pZ.2.2.2)
noncomputable def BJ1:Con:={f:=40,ps:=[.ref 0 0,.dat (.agg V7)],boxes:=[[dI,dI,dI,dI,dI,dI,dI,dI,dI,dI,dI,dI,dI,dI,.dat (.slice (.agg Yt1)),.dat (.slice (.agg Yt3)),.dat .bool,dI,dI,dI,.dat (.slice (.int .i64)),.dat .bool,.dat (.int .u16),dI,.dat .bool,.dat (.int .u16),dI,dI,dI,dI,dI,dI,dI,dI,.dat .bool,dI,dI,dI,dI,dI,.dat (.slice (.agg I4)),.dat .bool,dI,dI,dI,dI,dI,.dat .bool,.dat .bool,.dat .bool,dI,dI,dI,dI,.dat .bool]],ins:=Bb0,nin:=56,outs:=Cw1,rs:=[.dat (.agg AL5)],A2:=56,F:=fun x=>let a:=x.2.2.2.2.2.2.2.2;let b:=a.2.2.2.2.2.2.2.2;let c:=b.2.2.2.2.2.2.2.2;let d:=c.2.2.2.2.2.2.2.2;let e:=d.2.2.2.2.2.2.2.2;let f:=e.2.2.2.2.2.2.2.2;AQ1 x.1 x.2.1 x.2.2.1 x.2.2.2.1 x.2.2.2.2.1 x.2.2.2.2.2.1 x.2.2.2.2.2.2.1 x.2.2.2.2.2.2.2.1 x.2.2.2.2.2.2.2.2.1 a.2.1 a.2.2.1 a.2.2.2.1 a.2.2.2.2.1 a.2.2.2.2.2.1 a.2.2.2.2.2.2.1 a.2.2.2.2.2.2.2.1 a.2.2.2.2.2.2.2.2.1 b.2.1 b.2.2.1 b.2.2.2.1 b.2.2.2.2.1 b.2.2.2.2.2.1 b.2.2.2.2.2.2.1 b.2.2.2.2.2.2.2.1 b.2.2.2.2.2.2.2.2.1 c.2.1 c.2.2.1 c.2.2.2.1 c.2.2.2.2.1 c.2.2.2.2.2.1 c.2.2.2.2.2.2.1 c.2.2.2.2.2.2.2.1 c.2.2.2.2.2.2.2.2.1 d.2.1 d.2.2.1 d.2.2.2.1 d.2.2.2.2.1 d.2.2.2.2.2.1 d.2.2.2.2.2.2.1 d.2.2.2.2.2.2.2.1 d.2.2.2.2.2.2.2.2.1 e.2.1 e.2.2.1 e.2.2.2.1 e.2.2.2.2.1 e.2.2.2.2.2.1 e.2.2.2.2.2.2.1 e.2.2.2.2.2.2.2.1 e.2.2.2.2.2.2.2.2.1 f.2.1 f.2.2.1 f.2.2.2.1 f.2.2.2.2.1 f.2.2.2.2.2.1 f.2.2.2.2.2.2.1 f.2.2.2.2.2.2.2}
theorem Dp3:A3 Tryz.prog BJ1:=
 cgo (l:=[Bn3,Bn7,Bn8,Bo5,Bp4]) (o:=[]) H0 (by simp[Dn2,Dn5,Dn6,Do3,Dp2]) (by simp) Tryz.func40 rfl (by kernel_rfl) (by funext x;kernel_rfl)
noncomputable def At9 [LP](a:Int):Option (Int×Bool):=
 (AI1 (0:Int) a).bind fun b=>
 some (b.1,b.2)
noncomputable def Bp5:Con:={f:=112,ps:=[dI],boxes:=[],ins:=(.int .i64),nin:=1,outs:=(.pair (.int .i64) .bool),rs:=[dI,.dat .bool],A2:=2,F:=fun x=>At9 x}
theorem Dp4:A3 Tryz.prog Bp5:=
 cgo (l:=[Ae3]) (o:=[]) H0 (by simp[At3]) (by simp) Tryz.func112 rfl (by kernel_rfl) (by funext x;kernel_rfl)
noncomputable def Af2 [LP](a:Int):Option (Int×Bool):=
 let b:=decide (a<(0:Int))
 (bif b then
  (At9 a).bind fun c=>
  some (c.1,c.2)
 else
  some (a,true))
noncomputable def Bp6:Con:={f:=71,ps:=[dI],boxes:=[],ins:=(.int .i64),nin:=1,outs:=(.pair (.int .i64) .bool),rs:=[dI,.dat .bool],A2:=2,F:=fun x=>Af2 x}
theorem Dp5:A3 Tryz.prog Bp6:=
 cgo (l:=[Bp5]) (o:=[]) H0 (by simp[Dp4]) (by simp) Tryz.func71 rfl (by kernel_rfl) (by funext x;kernel_rfl)
noncomputable def Af3 [LP](a b:(Int×Int)):Option Bool:=
 (S0 a).bind fun c=>
 let d:=(bif (decide (b.1≤a.1)) then (decide (a.2≤b.2)) else false)
 let e:=(bif (!c) then true else d)
 some e
noncomputable def BJ2:Con:={f:=114,ps:=[.dat (.agg (.pair (.int .i64) (.int .i64))),.dat (.agg (.pair (.int .i64) (.int .i64)))],boxes:=[],ins:=V4,nin:=2,outs:=.bool,rs:=[.dat .bool],A2:=1,F:=fun x=>Af3 x.1 x.2}
theorem Bp7:A3 Tryz.prog BJ2:=
 cgo (l:=[u6]) (o:=[]) H0 (by simp[AC0]) (by simp) Tryz.func114 rfl (by kernel_rfl) (by funext x;kernel_rfl)
noncomputable def Au0 [LP](a b c:Int):Option Int:=
 let d:=(if c<a then c else a)
 let e:=(if d>b then d else b)
 some e
noncomputable def Bp8:Con:={f:=116,ps:=[dI,dI,dI],boxes:=[],ins:=(.pair (.int .i64) (.pair (.int .i64) (.int .i64))),nin:=3,outs:=(.int .i64),rs:=[dI],A2:=1,F:=fun x=>Au0 x.1 x.2.1 x.2.2}
theorem Dp6:A3 Tryz.prog Bp8:=
 cgo (l:=[]) (o:=[]) H0 (by simp) (by simp) Tryz.func116 rfl (by kernel_rfl) (by funext x;kernel_rfl)
noncomputable def AD0 [LP](a:X2)(b:F0)(c:(Int×Int)):Option Cx0:=
 (bif (!a.1) then
  some ((false,((0:Int),(((0:Int),(0:Int)),((0:Int),((0:Int),[]))))),(12:Int))
 else
  (AC9 a.2.2.1 c).bind fun d=>
  let e:(Int×Int):=((-17592186044416:Int),(17592186044416:Int))
  (bif !(!d.2) then Af3 d.1 e else some false).bind fun f=>
  let g:=(bif (!d.2) then true else (!f))
  (bif g then
   some ((false,((0:Int),(((0:Int),(0:Int)),((0:Int),((0:Int),[]))))),(20:Int))
  else
   (AC5 a.2.2.2.2 b d.1).bind fun h=>
   (bif (h.2 != (0:Int)) then
    some ((false,((0:Int),(((0:Int),(0:Int)),((0:Int),((0:Int),[]))))),h.2)
   else
    (AA0 c).bind fun i=>
    (Ae1 a.2.2.2.1 i).bind fun j=>
    (Au0 j d.1.1 d.1.2).bind fun k=>
    let l:X2:=(a.1,(a.2.1,(d.1,(k,h.1))))
    some (l,(0:Int)))))
noncomputable def Bp9:Con:={f:=74,ps:=[.dat (.agg X1),.dat (.agg E7),.dat (.agg (.pair (.int .i64) (.int .i64)))],boxes:=[],ins:=Cx1,nin:=3,outs:=Cw9,rs:=[.dat (.agg X1),dI],A2:=2,F:=fun x=>AD0 x.1 x.2.1 x.2.2}
theorem Dp7:A3 Tryz.prog Bp9:=
 cgo (l:=[AX7,BJ2,BI0,AQ0,BI5,Bp8]) (o:=[]) H0 (by simp[Ae8,Bp7,Dl2,Af1,Bm9,Dp6]) (by simp) Tryz.func74 rfl (by kernel_rfl) (by funext x;kernel_rfl)
noncomputable def AQ2 [LP](a:(Int×Int))(b c d e f g h i j k l m n o:Int)(p:(List Yd1))(q:(List Yd3))(r:Bool)(s t u:Int)(v:(List Int))(w:Bool)(y z:Int)(a0:Bool)(a1 a2 a3 a4 a5 a6 a7 a8 a9:Int)(b0:Bool)(b1 b2 b3 b4 b5:Int)(b6:(List E3))(b7:Bool)(b8 b9 c0 c1 c2:Int)(c3 c4 c5:Bool)(c6 c7 c8 c9:Int)(d0:Bool):Option Cx2:=
 (AA0 a).bind fun d1=>
 (Af2 d1).bind fun d2=>
 (AC6 a9 d2.1).bind fun d3=>
 let d4:=(bif d2.2 then d3.2 else false)
 Option.bind (
  (bif d4 then
   some (d3.1,false)
  else
   some (a9,true))) fun d5=>
 let d6:=d5.1
 let d7:=d5.2
 Option.bind (
  (bif b0 then
   let d8:X2:=(b0,(b1,((b2,b3),(b4,(b5,b6)))))
   (AD0 d8 (p,q) a).bind fun d9=>
   let e0:=(bif d7 then true else (d9.2==(20:Int)))
   some (d9.1.2.2.1.2,d9.1.1,d9.1.2.2.2.2.2,e0,d9.1.2.2.2.2.1,d9.1.2.2.1.1,d9.1.2.1,d9.1.2.2.2.1)
  else
   some (b3,b0,b6,d7,b5,b2,b1,b4))) fun e1=>
 let pA:=e1.2.2.2.2
 let e2:=e1.1
 let e3:=e1.2.1
 let e4:(List E3):=e1.2.2.1
 let e5:=e1.2.2.2.1
 let e6:=pA.1
 let e7:=pA.2.1
 let e8:=pA.2.2.1
 let e9:=pA.2.2.2
 some (e5,b,c,d,e,f,g,h,i,j,k,l,m,n,o,p,q,r,s,t,u,v,w,y,z,a0,a1,a2,a3,a4,a5,a6,a.1,a.2,d6,e3,e8,e7,e2,e9,e6,e4,b7,b8,b9,c0,c1,c2,c3,c4,c5,c6,c7,c8,c9,d0)
noncomputable def BJ3:Con:={f:=41,ps:=[.ref 0 0,.dat (.agg (.pair (.int .i64) (.int .i64)))],boxes:=[[dI,dI,dI,dI,dI,dI,dI,dI,dI,dI,dI,dI,dI,dI,.dat (.slice (.agg Yt1)),.dat (.slice (.agg Yt3)),.dat .bool,dI,dI,dI,.dat (.slice (.int .i64)),.dat .bool,.dat (.int .u16),dI,.dat .bool,.dat (.int .u16),dI,dI,dI,dI,dI,dI,dI,dI,.dat .bool,dI,dI,dI,dI,dI,.dat (.slice (.agg I4)),.dat .bool,dI,dI,dI,dI,dI,.dat .bool,.dat .bool,.dat .bool,dI,dI,dI,dI,.dat .bool]],ins:=BF1,nin:=56,outs:=Bb5,rs:=[.dat .bool],A2:=56,F:=fun x=>let a:=x.2.2.2.2.2.2.2.2;let b:=a.2.2.2.2.2.2.2.2;let c:=b.2.2.2.2.2.2.2.2;let d:=c.2.2.2.2.2.2.2.2;let e:=d.2.2.2.2.2.2.2.2;let f:=e.2.2.2.2.2.2.2.2;AQ2 x.1 x.2.1 x.2.2.1 x.2.2.2.1 x.2.2.2.2.1 x.2.2.2.2.2.1 x.2.2.2.2.2.2.1 x.2.2.2.2.2.2.2.1 x.2.2.2.2.2.2.2.2.1 a.2.1 a.2.2.1 a.2.2.2.1 a.2.2.2.2.1 a.2.2.2.2.2.1 a.2.2.2.2.2.2.1 a.2.2.2.2.2.2.2.1 a.2.2.2.2.2.2.2.2.1 b.2.1 b.2.2.1 b.2.2.2.1 b.2.2.2.2.1 b.2.2.2.2.2.1 b.2.2.2.2.2.2.1 b.2.2.2.2.2.2.2.1 b.2.2.2.2.2.2.2.2.1 c.2.1 c.2.2.1 c.2.2.2.1 c.2.2.2.2.1 c.2.2.2.2.2.1 c.2.2.2.2.2.2.1 c.2.2.2.2.2.2.2.1 c.2.2.2.2.2.2.2.2.1 d.2.1 d.2.2.1 d.2.2.2.1 d.2.2.2.2.1 d.2.2.2.2.2.1 d.2.2.2.2.2.2.1 d.2.2.2.2.2.2.2.1 d.2.2.2.2.2.2.2.2.1 e.2.1 e.2.2.1 e.2.2.2.1 e.2.2.2.2.1 e.2.2.2.2.2.1 e.2.2.2.2.2.2.1 e.2.2.2.2.2.2.2.1 e.2.2.2.2.2.2.2.2.1 f.2.1 f.2.2.1 f.2.2.2.1 f.2.2.2.2.1 f.2.2.2.2.2.1 f.2.2.2.2.2.2.1 f.2.2.2.2.2.2.2}
theorem Dp8:A3 Tryz.prog BJ3:=
 cgo (l:=[AQ0,Bp6,Ad9,Bp9]) (o:=[]) (.mk .plain [H0,(.mk .plain [H0,(.mk .plain [H0,(.mk .plain [H0,(.mk .plain [H0,(.mk .plain [(.mk .plain [H0,(.mk (.join (zP [36,35,37,38]) [(.normal,[kI 0 33,sB 5])]) [])]),(.mk .plain [(.mk .plain [H0,(.mk (.join (zP [45,48,54,51,57,60,63,11,47,44,50,53,59,56,62,65,10,46,52,49,55,61,58,64]) [(.normal,[kI 0 37,kB 0 34,⟨.cell 0 40,(.slice (.agg I4)),none⟩,sB 5,kI 0 39,kI 0 36,kI 0 35,kI 0 38])]) [])])])])])])])])]) (by simp[Af1,Dp5,At1,Dp7]) (by simp) Tryz.func41 rfl (by kernel_rfl) (by funext x;kernel_rfl)
noncomputable def Af4 [LP](a:Int):Option Bool:=
 some (a != a)
noncomputable def Bq0:Con:={f:=161,ps:=[dI],boxes:=[],ins:=(.int .i64),nin:=1,outs:=.bool,rs:=[.dat .bool],A2:=1,F:=fun x=>Af4 x}
theorem Dp9:A3 Tryz.prog Bq0:=
 cgo (l:=[]) (o:=[]) H0 (by simp) (by simp) Tryz.func161 rfl (by kernel_rfl) (by funext x;kernel_rfl)
noncomputable def Au1 [LP](a b:Int):Option Int:=
 (Af4 a).bind fun c=>
 (Af4 b).bind fun d=>
 (bif c then
  (bif d then
   some (0:Int)
  else
   some (-1:Int))
 else
  (bif d then
   some (1:Int)
  else
   (bif (decide (a<b)) then
    some (-1:Int)
   else
    (bif (decide (b<a)) then
     some (1:Int)
    else
     some (0:Int)))))
noncomputable def Bq1:Con:={f:=120,ps:=[dI,dI],boxes:=[],ins:=(.pair (.int .i64) (.int .i64)),nin:=2,outs:=(.int .i64),rs:=[dI],A2:=1,F:=fun x=>Au1 x.1 x.2}
theorem Dq0:A3 Tryz.prog Bq1:=
 cgo (l:=[Bq0]) (o:=[]) H0 (by simp[Dp9]) (by simp) Tryz.func120 rfl (by kernel_rfl) (by funext x;kernel_rfl)
noncomputable def Af5 [LP](a:Yd3)(b:Int):Option Int:=
 (Au1 a.1 b).bind fun c=>
 some c
noncomputable def Bq2:Con:={f:=119,ps:=[.dat (.agg Yt3),dI],boxes:=[],ins:=Cx3,nin:=2,outs:=(.int .i64),rs:=[dI],A2:=1,F:=fun x=>Af5 x.1 x.2}
theorem Dq1:A3 Tryz.prog Bq2:=
 cgo (l:=[Bq1]) (o:=[]) H0 (by simp[Dq0]) (by simp) Tryz.func119 rfl (by kernel_rfl) (by funext x;kernel_rfl)
noncomputable def AX8 [LP](a:(List Yd3))(b:Int):Option (Int×Bool):=
 Option.bind (
  LP.lp (X:=Int) (fun (c:(Int×Int))=>
   let d:=c.1
   let e:=c.2
   (bif (decide (e<d)) then
    let f:=IntKind.wrap .i64 (e+d)
    let g:=(IntKind.wrap .u64 f)
    let h:=IntKind.wrap .i64 (g.fdiv (2 ^ 1))
    chk none (decide (0≤h)&&decide (h<a.length))<|
    let i:Yd3:=(a.getD h.toNat ((0:Int),((0:Int),((0:Int),((0:Int),(0:Int))))))
    (Af5 i b).bind fun j=>
    let k:=decide (j<(0:Int))
    Option.bind (
     (bif k then
      let l:=IntKind.wrap .i64 (h+1)
      some (l,d)
     else
      some (e,h))) fun m=>
    let n:=m.1
    let o:=m.2
    some (.inl (o,n))
   else
    some (.inr e))) ((a.length:Int),(0:Int))) fun p=>
 let q:=decide (p<a.length)
 chk none ((decide (0≤p)&&decide (p<a.length))|| !q)<|
 let r:Yd3:=(a.getD p.toNat ((0:Int),((0:Int),((0:Int),((0:Int),(0:Int))))))
 (bif q then Af5 r b else some (0:Int)).bind fun s=>
 let t:=(bif q then (s==(0:Int)) else false)
 some (p,t)
noncomputable def Bq3:Con:={f:=118,ps:=[.dat (.slice (.agg Yt3)),dI,.clo 119 [] []],boxes:=[],ins:=Cx4,nin:=2,outs:=(.pair (.int .i64) .bool),rs:=[dI,.dat .bool],A2:=2,F:=fun x=>AX8 x.1 x.2}
theorem Dq2:A3 Tryz.prog Bq3:=
 cgo (l:=[Bq2]) (o:=[]) (.mk .plain [H0,(.mk .plain [H0,(.mk .plain [H0,(.mk .plain [(.mk .plain [(.mk (.loop [sI 10,sI 9] (zP [30,16,19,22,28,25,31,34,11,17,23,20,26,29,32,15,21,18,24,27,33]) [(.exit 0,[sI 9])]) [(.mk .plain [H0,(.mk .plain [(.mk .plain [H0,(.mk .plain [H0,(.mk (.join (zP [32,33,34]) [(.normal,[sI 9,sI 10])]) [])])])])])])])])])])]) (by simp[Dq1]) (by simp) Tryz.func118 rfl (by kernel_rfl) (by funext x;kernel_rfl)
noncomputable def AI5 [LP](a:F0)(b:Int):Option (Int×Bool):=
 (AX8 a.2 b).bind fun c=>
 some (c.1,c.2)
noncomputable def Bq4:Con:={f:=76,ps:=[.dat (.agg E7),dI],boxes:=[],ins:=Ba5,nin:=2,outs:=(.pair (.int .i64) .bool),rs:=[dI,.dat .bool],A2:=2,F:=fun x=>AI5 x.1 x.2}
theorem Dq3:A3 Tryz.prog Bq4:=
 cgo (l:=[Bq3]) (o:=[]) H0 (by simp[Dq2]) (by simp) Tryz.func76 rfl (by kernel_rfl) (by funext x;kernel_rfl)
noncomputable def Af6 [LP](a b:(Int×Int)):Option ((Int×Int)×Bool):=
 let c:=(if b.1<(0:Int) then b.1 else (0:Int))
 let d:=(if b.2>(0:Int) then b.2 else (0:Int))
 (AC9 a (c,d)).bind fun e=>
 some (e.1,e.2)
noncomputable def Bq5:Con:={f:=121,ps:=[.dat (.agg (.pair (.int .i64) (.int .i64))),.dat (.agg (.pair (.int .i64) (.int .i64)))],boxes:=[],ins:=V4,nin:=2,outs:=(.pair (.agg (.pair (.int .i64) (.int .i64))) .bool),rs:=[.dat (.agg (.pair (.int .i64) (.int .i64))),.dat .bool],A2:=2,F:=fun x=>Af6 x.1 x.2}
theorem Dq4:A3 Tryz.prog Bq5:=
 cgo (l:=[AX7]) (o:=[]) H0 (by simp[Ae8]) (by simp) Tryz.func121 rfl (by kernel_rfl) (by funext x;kernel_rfl)
noncomputable def Au2 [LP](a:C8)(b:Yd3):Option Int:=
 let c:=IntKind.wrap .i64 (b.2.2.2.1+a.2.2.2.2.2.2.2.2.1)
 let d:=IntKind.wrap .i64 (c+b.2.2.2.2)
 some d
noncomputable def Bq6:Con:={f:=163,ps:=[.dat (.agg C9),.dat (.agg Yt3)],boxes:=[],ins:=Ba6,nin:=2,outs:=(.int .i64),rs:=[dI],A2:=1,F:=fun x=>Au2 x.1 x.2}
theorem Dq5:A3 Tryz.prog Bq6:=
 cgo (l:=[]) (o:=[]) H0 (by simp) (by simp) Tryz.func163 rfl (by kernel_rfl) (by funext x;kernel_rfl)
noncomputable def AI6 [LP](a:C8)(b:F0)(c:V5)(d:(Int×Int))(e:Int):Option (List Int):=
 (AX5 c b e).bind fun f=>
 Option.bind (
  LP.lp (X:=(List Int)) (fun (g:((List Int)×Int))=>
   let h:(List Int):=g.1
   let i:=g.2
   let j:=decide (i<f.length)
   (bif j then
    chk none (decide (0≤i)&&decide (i<f.length))<|
    let k:=(f.getD i.toNat 0)
    chk none (decide (0≤e)&&decide (e<b.2.length))<|
    let l:Yd3:=(b.2.getD e.toNat ((0:Int),((0:Int),((0:Int),((0:Int),(0:Int))))))
    (Au2 a l).bind fun m=>
    (Ae5 k m).bind fun n=>
    (l5 n.1 d).bind fun o=>
    let p:=(bif n.2 then o.2 else false)
    Option.bind (
     (bif p then
      chk none (decide ((h.length+([k]:List Int).length)*8≤140737488355328))<|
      let q:(List Int):=(h++([k]:List Int))
      some q
     else
      some h)) fun r=>
    let s:=IntKind.wrap .i64 (i+1)
    some (.inl (r,s))
   else
    some (.inr h))) ([],(0:Int))) fun t=>
 some t
noncomputable def Bq7:Con:={f:=122,ps:=[.dat (.agg C9),.dat (.agg E7),.dat (.agg T6),.dat (.agg (.pair (.int .i64) (.int .i64))),dI],boxes:=[],ins:=Cx7,nin:=5,outs:=(.slice (.int .i64)),rs:=[.dat (.slice (.int .i64))],A2:=1,F:=fun x=>AI6 x.1 x.2.1 x.2.2.1 x.2.2.2.1 x.2.2.2.2}
theorem Dq6:A3 Tryz.prog Bq7:=
 cgo (l:=[Bm3,Bq6,BI8,AC8]) (o:=[]) (.mk .plain [H0,(.mk .plain [H0,(.mk .plain [(.mk .plain [H0,(.mk .plain [(.mk (.loop [⟨.slot 11,(.slice (.int .i64)),some 5200002⟩,sI 23] (zP [30,36,42,39,45,48,51,14,17,26,29,35,32,38,41,47,44,50,53,16,13,28,25,31,34,40,37,43,46,52,49,15,24,27,33]) [(.exit 0,[⟨.slot 11,(.slice (.int .i64)),some 5200002⟩])]) [(.mk .plain [H0,(.mk .plain [H0,(.mk .plain [(.mk .plain [(.mk .plain [H0,(.mk .plain [H0,(.mk .plain [H0,(.mk .plain [H0,(.mk (.join (zP [52,49,50,51]) [(.normal,[⟨.slot 11,(.slice (.int .i64)),some 5200002⟩])]) [])])])])])])])])])])])])])])]) (by simp[Dm5,Dq5,Bn5,AI3]) (by simp) Tryz.func122 rfl (by kernel_rfl) (by funext x;kernel_rfl)
noncomputable def AQ3 [LP](a:X2)(b:(Int×Int))(c d e f g h i j k l m n o p q:Int)(r:(List Yd1))(s:(List Yd3))(t:Bool)(u v w:Int)(y:(List Int))(z:Bool)(a0 a1:Int)(a2:Bool)(a3 a4 a5 a6 a7 a8 a9 b0 b1:Int)(b2:Bool)(b3 b4 b5 b6 b7:Int)(b8:(List E3))(b9:Bool)(c0 c1 c2 c3 c4:Int)(c5 c6 c7:Bool)(c8 c9 d0 d1:Int)(d2:Bool):Option Cx9:=
 (Af6 a.2.2.1 b).bind fun d3=>
 (bif (!d3.2) then
  some ([],d,e,f,g,h,i,j,k,l,m,n,o,p,q,r,s,t,u,v,w,y,z,a0,a1,a2,a3,a4,a5,a6,a7,a8,a9,b0,b1,b2,b3,b4,b5,b6,b7,b8,b9,c0,c1,c2,c3,c4,c5,c6,c7,c8,c9,d0,d1,d2)
 else
  let d4:C8:=(d,(e,(f,(g,(h,(i,(j,(k,(l,(m,(n,(o,(p,q)))))))))))))
  (AI6 d4 (r,s) (b7,b8) d3.1 c).bind fun d5=>
  some (d5,d,e,f,g,h,i,j,k,l,m,n,o,p,q,r,s,t,u,v,w,y,z,a0,a1,a2,a3,a4,a5,a6,a7,a8,a9,b0,b1,b2,b3,b4,b5,b6,b7,b8,b9,c0,c1,c2,c3,c4,c5,c6,c7,c8,c9,d0,d1,d2))
noncomputable def Bq8:Con:={f:=77,ps:=[.ref 0 0,.dat (.agg X1),.dat (.agg (.pair (.int .i64) (.int .i64))),dI],boxes:=[[dI,dI,dI,dI,dI,dI,dI,dI,dI,dI,dI,dI,dI,dI,.dat (.slice (.agg Yt1)),.dat (.slice (.agg Yt3)),.dat .bool,dI,dI,dI,.dat (.slice (.int .i64)),.dat .bool,.dat (.int .u16),dI,.dat .bool,.dat (.int .u16),dI,dI,dI,dI,dI,dI,dI,dI,.dat .bool,dI,dI,dI,dI,dI,.dat (.slice (.agg I4)),.dat .bool,dI,dI,dI,dI,dI,.dat .bool,.dat .bool,.dat .bool,dI,dI,dI,dI,.dat .bool]],ins:=Cy1,nin:=58,outs:=Cx8,rs:=[.dat (.slice (.int .i64))],A2:=56,F:=fun x=>let a:=x.2.2.2.2.2.2.2.2;let b:=a.2.2.2.2.2.2.2.2;let c:=b.2.2.2.2.2.2.2.2;let d:=c.2.2.2.2.2.2.2.2;let e:=d.2.2.2.2.2.2.2.2;let f:=e.2.2.2.2.2.2.2.2;let g:=f.2.2.2.2.2.2.2.2;AQ3 x.1 x.2.1 x.2.2.1 x.2.2.2.1 x.2.2.2.2.1 x.2.2.2.2.2.1 x.2.2.2.2.2.2.1 x.2.2.2.2.2.2.2.1 x.2.2.2.2.2.2.2.2.1 a.2.1 a.2.2.1 a.2.2.2.1 a.2.2.2.2.1 a.2.2.2.2.2.1 a.2.2.2.2.2.2.1 a.2.2.2.2.2.2.2.1 a.2.2.2.2.2.2.2.2.1 b.2.1 b.2.2.1 b.2.2.2.1 b.2.2.2.2.1 b.2.2.2.2.2.1 b.2.2.2.2.2.2.1 b.2.2.2.2.2.2.2.1 b.2.2.2.2.2.2.2.2.1 c.2.1 c.2.2.1 c.2.2.2.1 c.2.2.2.2.1 c.2.2.2.2.2.1 c.2.2.2.2.2.2.1 c.2.2.2.2.2.2.2.1 c.2.2.2.2.2.2.2.2.1 d.2.1 d.2.2.1 d.2.2.2.1 d.2.2.2.2.1 d.2.2.2.2.2.1 d.2.2.2.2.2.2.1 d.2.2.2.2.2.2.2.1 d.2.2.2.2.2.2.2.2.1 e.2.1 e.2.2.1 e.2.2.2.1 e.2.2.2.2.1 e.2.2.2.2.2.1 e.2.2.2.2.2.2.1 e.2.2.2.2.2.2.2.1 e.2.2.2.2.2.2.2.2.1 f.2.1 f.2.2.1 f.2.2.2.1 f.2.2.2.2.1 f.2.2.2.2.2.1 f.2.2.2.2.2.2.1 f.2.2.2.2.2.2.2.1 f.2.2.2.2.2.2.2.2.1 g.2}
theorem Dq7:A3 Tryz.prog Bq8:=
 cgo (l:=[Bq5,Bq7]) (o:=[]) H0 (by simp[Dq4,Dq6]) (by simp) Tryz.func77 rfl (by kernel_rfl) (by funext x;kernel_rfl)
noncomputable def AQ4 [LP](a:T7)(b:X2)(c:(Int×Int))(d e f g h i j k l m n o p q:Int)(r:(List Yd1))(s:(List Yd3))(t:Bool)(u v w:Int)(y:(List Int))(z:Bool)(a0 a1:Int)(a2:Bool)(a3 a4 a5 a6 a7 a8 a9 b0 b1:Int)(b2:Bool)(b3 b4 b5 b6 b7:Int)(b8:(List E3))(b9:Bool)(c0 c1 c2 c3 c4:Int)(c5 c6 c7:Bool)(c8 c9 d0 d1:Int)(d2:Bool):Option Cy3:=
 (z7 a (5:Int)).bind fun d3=>
 (bif (!d3.2) then
  some (((0:Int),([],(true,false))),d,e,f,g,h,i,j,k,l,m,n,o,p,q,r,s,t,u,v,w,y,z,a0,a1,a2,a3,a4,a5,a6,a7,a8,a9,b0,b1,b2,b3,b4,b5,b6,b7,b8,b9,c0,c1,c2,c3,c4,c5,c6,c7,c8,c9,d0,d1,d2)
 else
  (AI5 (r,s) d3.1).bind fun d4=>
  (bif (!d4.2) then
   some (((0:Int),([],(false,false))),d,e,f,g,h,i,j,k,l,m,n,o,p,q,r,s,t,u,v,w,y,z,a0,a1,a2,a3,a4,a5,a6,a7,a8,a9,b0,b1,b2,b3,b4,b5,b6,b7,b8,b9,c0,c1,c2,c3,c4,c5,c6,c7,c8,c9,d0,d1,d2)
  else
   Option.bind (
    (bif b2 then
     (AQ3 b c d4.1 d e f g h i j k l m n o p q r s t u v w y z a0 a1 a2 a3 a4 a5 a6 a7 a8 a9 b0 b1 b2 b3 b4 b5 b6 b7 b8 b9 c0 c1 c2 c3 c4 c5 c6 c7 c8 c9 d0 d1 d2).bind fun d5=>
     let pA:=d5.2.2.2.2
     let pC:=pA.2.2.2.2
     let pE:=pC.2.2.2.2
     let pG:=pE.2.2.2.2
     let pI:=pG.2.2.2.2
     let pK:=pI.2.2.2.2
     let pM:=pK.2.2.2.2
     let pO:=pM.2.2.2.2
     let pQ:=pO.2.2.2.2
     let pS:=pQ.2.2.2.2
     let pU:=pS.2.2.2.2
     let pW:=pU.2.2.2.2
     let pY:=pW.2.2.2.2
     let d6:=(decide ((0:Int)<(d5.1.length:Int)))
     some (pO.1,pS.2.1,pW.2.2.1,d5.2.1,pC.2.2.1,pG.2.2.2.1,d6,pG.1,pK.2.1,pO.2.2.1,pS.2.2.2.1,pY.1,pW.2.1,d5.2.2.2.1,pE.1,pC.2.1,pI.2.1,pG.2.2.1,pK.2.2.2.1,pQ.1,pU.2.1,pS.2.2.1,pW.2.2.2.1,pA.2.1,pE.2.2.1,pC.2.2.2.1,pI.1,d6,pM.2.1,pQ.2.2.1,pO.2.2.2.1,pU.2.2.2.1,pU.1,pY.2.1,pA.2.2.2.1,pA.1,pE.2.1,pI.2.2.1,pM.2.2.2.1,pM.1,pS.1,pQ.2.1,pU.2.2.1,pY.2.2.2,pA.2.2.1,d5.1,pE.2.2.2.1,pK.1,pO.2.1,pM.2.2.1,pQ.2.2.2.1,pW.1,d5.2.2.1,pY.2.2.1,pC.1,pG.2.1,pK.2.2.1,pI.2.2.2.1)
    else
     some (a9,b8,c7,d,m,v,true,s,a2,b1,c0,c9,c6,f,o,l,y,u,a4,b3,c2,b9,c8,h,q,n,w,true,a6,b5,b2,c4,c1,d0,j,g,p,z,a8,a5,b7,b4,c3,d2,i,[],r,a1,b0,a7,b6,c5,e,d1,k,t,a3,a0))) fun d7=>
   let pB:=d7.2.2.2.2
   let pD:=pB.2.2.2.2
   let pF:=pD.2.2.2.2
   let pH:=pF.2.2.2.2
   let pJ:=pH.2.2.2.2
   let pL:=pJ.2.2.2.2
   let pN:=pL.2.2.2.2
   let pP:=pN.2.2.2.2
   let pR:=pP.2.2.2.2
   let pT:=pR.2.2.2.2
   let pV:=pT.2.2.2.2
   let pX:=pV.2.2.2.2
   let pZ:=pX.2.2.2.2
   let d8:=d7.1
   let d9:(List E3):=d7.2.1
   let e0:=d7.2.2.1
   let e1:=d7.2.2.2.1
   let e2:=pB.1
   let e3:=pB.2.1
   let e4:=pB.2.2.1
   let e5:(List Yd3):=pB.2.2.2.1
   let e6:=pD.1
   let e7:=pD.2.1
   let e8:=pD.2.2.1
   let e9:=pD.2.2.2.1
   let f0:=pF.1
   let f1:=pF.2.1
   let f2:=pF.2.2.1
   let f3:=pF.2.2.2.1
   let f4:(List Int):=pH.1
   let f5:=pH.2.1
   let f6:=pH.2.2.1
   let f7:=pH.2.2.2.1
   let f8:=pJ.1
   let f9:=pJ.2.1
   let g0:=pJ.2.2.1
   let g1:=pJ.2.2.2.1
   let g2:=pL.1
   let g3:=pL.2.1
   let g4:=pL.2.2.1
   let g5:=pL.2.2.2.1
   let g6:=pN.1
   let g7:=pN.2.1
   let g8:=pN.2.2.1
   let g9:=pN.2.2.2.1
   let h0:=pP.1
   let h1:=pP.2.1
   let h2:=pP.2.2.1
   let h3:=pP.2.2.2.1
   let h4:=pR.1
   let h5:=pR.2.1
   let h6:=pR.2.2.1
   let h7:=pR.2.2.2.1
   let h8:=pT.1
   let h9:=pT.2.1
   let i0:=pT.2.2.1
   let i1:=pT.2.2.2.1
   let i2:=pV.1
   let i3:(List Int):=pV.2.1
   let i4:(List Yd1):=pV.2.2.1
   let i5:=pV.2.2.2.1
   let i6:=pX.1
   let i7:=pX.2.1
   let i8:=pX.2.2.1
   let i9:=pX.2.2.2.1
   let j0:=pZ.1
   let j1:=pZ.2.1
   let j2:=pZ.2.2.1
   let j3:=pZ.2.2.2.1
   let j4:=pZ.2.2.2.2.1
   let j5:=pZ.2.2.2.2.2
   let j6:Ap0:=(d4.1,(i3,(e4,g5)))
   some (j6,e1,j0,f1,h3,g1,i2,h2,j2,f3,e2,g3,f2,h4,g2,i4,e5,j3,f5,e3,g4,f4,h5,j5,i5,e6,j4,f6,h7,g6,i7,h6,d8,i6,e7,g8,f7,h9,g7,i8,h8,d9,f9,e8,h0,f8,i0,g9,i9,f0,e0,g0,e9,h1,j1,i1)))
noncomputable def BJ4:Con:={f:=42,ps:=[.ref 0 0,.dat (.agg V7),.dat (.agg X1),.dat (.agg (.pair (.int .i64) (.int .i64)))],boxes:=[[dI,dI,dI,dI,dI,dI,dI,dI,dI,dI,dI,dI,dI,dI,.dat (.slice (.agg Yt1)),.dat (.slice (.agg Yt3)),.dat .bool,dI,dI,dI,.dat (.slice (.int .i64)),.dat .bool,.dat (.int .u16),dI,.dat .bool,.dat (.int .u16),dI,dI,dI,dI,dI,dI,dI,dI,.dat .bool,dI,dI,dI,dI,dI,.dat (.slice (.agg I4)),.dat .bool,dI,dI,dI,dI,dI,.dat .bool,.dat .bool,.dat .bool,dI,dI,dI,dI,.dat .bool]],ins:=Cy5,nin:=58,outs:=Cy2,rs:=[.dat (.agg Ac3)],A2:=56,F:=fun x=>let a:=x.2.2.2.2.2.2.2.2;let b:=a.2.2.2.2.2.2.2.2;let c:=b.2.2.2.2.2.2.2.2;let d:=c.2.2.2.2.2.2.2.2;let e:=d.2.2.2.2.2.2.2.2;let f:=e.2.2.2.2.2.2.2.2;let g:=f.2.2.2.2.2.2.2.2;AQ4 x.1 x.2.1 x.2.2.1 x.2.2.2.1 x.2.2.2.2.1 x.2.2.2.2.2.1 x.2.2.2.2.2.2.1 x.2.2.2.2.2.2.2.1 x.2.2.2.2.2.2.2.2.1 a.2.1 a.2.2.1 a.2.2.2.1 a.2.2.2.2.1 a.2.2.2.2.2.1 a.2.2.2.2.2.2.1 a.2.2.2.2.2.2.2.1 a.2.2.2.2.2.2.2.2.1 b.2.1 b.2.2.1 b.2.2.2.1 b.2.2.2.2.1 b.2.2.2.2.2.1 b.2.2.2.2.2.2.1 b.2.2.2.2.2.2.2.1 b.2.2.2.2.2.2.2.2.1 c.2.1 c.2.2.1 c.2.2.2.1 c.2.2.2.2.1 c.2.2.2.2.2.1 c.2.2.2.2.2.2.1 c.2.2.2.2.2.2.2.1 c.2.2.2.2.2.2.2.2.1 d.2.1 d.2.2.1 d.2.2.2.1 d.2.2.2.2.1 d.2.2.2.2.2.1 d.2.2.2.2.2.2.1 d.2.2.2.2.2.2.2.1 d.2.2.2.2.2.2.2.2.1 e.2.1 e.2.2.1 e.2.2.2.1 e.2.2.2.2.1 e.2.2.2.2.2.1 e.2.2.2.2.2.2.1 e.2.2.2.2.2.2.2.1 e.2.2.2.2.2.2.2.2.1 f.2.1 f.2.2.1 f.2.2.2.1 f.2.2.2.2.1 f.2.2.2.2.2.1 f.2.2.2.2.2.2.1 f.2.2.2.2.2.2.2.1 f.2.2.2.2.2.2.2.2.1 g.2}
theorem Dq8:A3 Tryz.prog BJ4:=
 cgo (l:=[Ad8,Bq4,Bq8]) (o:=[]) (.mk .plain [H0,(.mk .plain [H0,(.mk .plain [H0,(.mk .plain [H0,(.mk .plain [H0,(.mk .plain [H0,(.mk .plain [(.mk .plain [H0,(.mk (.join (zP [45,54,51,47,44,53,46,42,48,41,50,43,52,49]) [(.normal,[kI 0 31,⟨.cell 0 40,(.slice (.agg I4)),none⟩,kB 0 49,kI 0 0,kI 0 9,kI 0 18,kB 5 2,⟨.cell 0 15,(.slice (.agg Yt3)),none⟩,kB 0 24,kI 0 33,kI 0 42,kI 0 51,kB 0 48,kI 0 2,kI 0 11,kI 0 8,⟨.cell 0 20,(.slice (.int .i64)),none⟩,kI 0 17,kI 0 26,kI 0 35,kI 0 44,kB 0 41,kI 0 50,kI 0 4,kI 0 13,kI 0 10,kI 0 19,kB 5 3,kI 0 28,kI 0 37,kB 0 34,kI 0 46,kI 0 43,kI 0 52,kI 0 6,kI 0 3,kI 0 12,kB 0 21,kI 0 30,kI 0 27,kI 0 39,kI 0 36,kI 0 45,kB 0 54,kI 0 5,⟨.cell 5 1,(.slice (.int .i64)),none⟩,⟨.cell 0 14,(.slice (.agg Yt1)),none⟩,kI 0 23,kI 0 32,kI 0 29,kI 0 38,kB 0 47,kI 0 1,kI 0 53,kI 0 7,kB 0 16,⟨.cell 0 25,(.int .u16),none⟩,⟨.cell 0 22,(.int .u16),none⟩])]) [])])])])])])])])]) (by simp[As9,Dq3,Dq7]) (by simp) Tryz.func42 rfl (by kernel_rfl) (by funext x;kernel_rfl)
noncomputable def BJ5 [LP](a b:Int):Option V5:=
 let c:E3:=((1:Int),((0:Int),((0:Int),((0:Int),((0:Int),((0:Int),((0:Int),((0:Int),((0:Int),((0:Int),((0:Int),((0:Int),(0:Int)))))))))))))
 let d:E3:=(c.1,(a,c.2.2))
 let e:V5:=(b,([d]:List E3))
 some e
noncomputable def Bq9:Con:={f:=123,ps:=[dI,dI],boxes:=[],ins:=(.pair (.int .i64) (.int .i64)),nin:=2,outs:=(.agg T6),rs:=[.dat (.agg T6)],A2:=1,F:=fun x=>BJ5 x.1 x.2}
theorem Dq9:A3 Tryz.prog Bq9:=
 cgo (l:=[]) (o:=[]) H0 (by simp) (by simp) Tryz.func123 rfl (by kernel_rfl) (by funext x;kernel_rfl)
noncomputable def Af7 [LP](a:C8)(b:F0)(c:Int)(d:(Int×Int)):Option X2:=
 chk none (decide (0≤c)&&decide (c<b.2.length))<|
 let e:Yd3:=(b.2.getD c.toNat ((0:Int),((0:Int),((0:Int),((0:Int),(0:Int))))))
 let f:=IntKind.wrap .i64 (e.2.2.2.1+a.2.2.2.2.2.2.2.2.1)
 let g:=IntKind.wrap .i64 (0-f)
 let h:=(if d.1<(0:Int) then d.1 else (0:Int))
 let i:=IntKind.wrap .i64 (g+h)
 let j:=(if d.2>(0:Int) then d.2 else (0:Int))
 let k:=IntKind.wrap .i64 (f+j)
 let l:(Int×Int):=(i,k)
 (AA0 l).bind fun m=>
 (BJ5 e.2.1 e.2.2.1).bind fun n=>
 let o:X2:=(true,(c,(l,(m,n))))
 some o
noncomputable def Br0:Con:={f:=78,ps:=[.dat (.agg C9),.dat (.agg E7),dI,.dat (.agg (.pair (.int .i64) (.int .i64)))],boxes:=[],ins:=Cy7,nin:=4,outs:=(.agg X1),rs:=[.dat (.agg X1)],A2:=1,F:=fun x=>Af7 x.1 x.2.1 x.2.2.1 x.2.2.2}
theorem Dr0:A3 Tryz.prog Br0:=
 cgo (l:=[AQ0,Bq9]) (o:=[]) H0 (by simp[Af1,Dq9]) (by simp) Tryz.func78 rfl (by kernel_rfl) (by funext x;kernel_rfl)
noncomputable def AQ5 [LP](a:(Int×Int))(b c:Int):Option ((Int×Int)×Bool):=
 let d:=decide (a.1≤(0:Int))
 (bif !d then S0 a else some false).bind fun e=>
 let f:=(bif d then true else (!e))
 let g:=decide (c<(2:Int))
 let h:=(bif f then true else g)
 (bif h then
  let i:(Int×Int):=((0:Int),(0:Int))
  some (i,false)
 else
  let j:=IntKind.wrap .i64 (c+1)
  (AC7 a.1 b j).bind fun k=>
  let l:=IntKind.wrap .i64 (c-1)
  (AC2 a.2 b l).bind fun m=>
  let n:=(bif (k.2==(0:Int)) then (m.2==(0:Int)) else false)
  let o:(Int×Int):=(k.1,m.1)
  some (o,n))
noncomputable def Br1:Con:={f:=164,ps:=[.dat (.agg (.pair (.int .i64) (.int .i64))),dI,dI],boxes:=[],ins:=BE9,nin:=3,outs:=(.pair (.agg (.pair (.int .i64) (.int .i64))) .bool),rs:=[.dat (.agg (.pair (.int .i64) (.int .i64))),.dat .bool],A2:=2,F:=fun x=>AQ5 x.1 x.2.1 x.2.2}
theorem Dr1:A3 Tryz.prog Br1:=
 cgo (l:=[u6,At2,Ar4]) (o:=[]) H0 (by simp[AC0,BI6,BG4]) (by simp) Tryz.func164 rfl (by kernel_rfl) (by funext x;kernel_rfl)
noncomputable def AA1 [LP](a b:(Int×Int))(c d:Int):Option ((Int×Int)×Bool):=
 let e:=decide (d<(0:Int))
 let f:=decide ((-4611686018427387904:Int)<d)
 let g:=(bif e then f else false)
 Option.bind (α:=(Int×(Bool×Int)) ⊕ Yd3) (
  (bif g then
   (AP4 ((0:Int),(0:Int)) b).bind fun h=>
   (bif (!h.2) then
    some (.inl (a.2,false,a.1))
   else
    let i:=IntKind.wrap .i64 (0-d)
    some (.inr ((0:Int),(0:Int),h.1.2,i,h.1.1)))
  else
   some (.inr ((0:Int),(0:Int),b.2,d,b.1)))) fun z=>match z with
 | .inl j=>
  let k:=j.1
  let l:=j.2.1
  let m:=j.2.2
  some ((m,k),l)
 | .inr n=>
  let o:=n.1
  let p:=n.2.1
  let q:=n.2.2.1
  let r:=n.2.2.2.1
  let s:=n.2.2.2.2
  (AQ5 (s,q) c r).bind fun t=>
  (bif (!t.2) then
   some (a,false)
  else
   (l5 a t.1).bind fun u=>
   (bif (!u.2) then
    some (a,false)
   else
    some (u.1,true)))
noncomputable def Br2:Con:={f:=125,ps:=[.dat (.agg (.pair (.int .i64) (.int .i64))),.dat (.agg (.pair (.int .i64) (.int .i64))),dI,dI],boxes:=[],ins:=Cy8,nin:=4,outs:=(.pair (.agg (.pair (.int .i64) (.int .i64))) .bool),rs:=[.dat (.agg (.pair (.int .i64) (.int .i64))),.dat .bool],A2:=2,F:=fun x=>AA1 x.1 x.2.1 x.2.2.1 x.2.2.2}
theorem Dr2:A3 Tryz.prog Br2:=
 cgo (l:=[At6,Br1,AC8]) (o:=[]) (.mk .plain [H0,(.mk .plain [(.mk .plain [H0,(.mk (.join [(0,10),(0,22),(0,28),(0,25),(0,11),(0,23),(0,26),(0,29),(0,9),(0,21),(0,24),(0,27),(0,30),(2,1),(0,31),(0,3),(2,0),(0,32)] [(.ret,[kI 2 1,sB 9,kI 2 0]),(.normal,[kI 2 1,kI 2 0,kI 1 1,sI 3,kI 1 0])]) [])])])]) (by simp[BI9,Dr1,AI3]) (by simp) Tryz.func125 rfl (by kernel_rfl) (by funext x;kernel_rfl)
end Go.Proofs.YthfjpkdadjemcaaGreat
