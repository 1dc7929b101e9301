/- The functional reading of the code (printed). -/
import Derived.Test.YthfjpkdadjemcaaGreatFnsF2
set_option linter.unusedSimpArgs false
set_option linter.unusedVariables false
namespace Go.Proofs.YthfjpkdadjemcaaGreat
open Go
noncomputable def AQ6 [LP](a b c d e f g h i j k l m n o:Int)(p:(List Yd1))(q:(List Yd3))(r:Bool)(s t u:Int)(v:(List Int))(w:Bool)(y z:Int)(a0:Bool)(a1 a2 a3 a4 a5 a6 a7 a8 a9:Int)(b0:Bool)(b1 b2 b3 b4 b5:Int)(b6:(List E3))(b7:Bool)(b8 b9 c0 c1 c2:Int)(c3 c4 c5:Bool)(c6 c7 c8 c9:Int)(d0:Bool):Option AB9:=
 (u9 a).bind fun d1=>
 (AC9 (b2,b3) d1).bind fun d2=>
 (bif (!d2.2) then
  some (b,c,d,e,f,g,h,i,j,k,l,m,n,o,p,q,r,s,t,u,v,w,y,z,a0,a1,a2,a3,a4,a5,a6,a7,a8,a9,b0,b1,b2,b3,b4,b5,b6,b7,b8,b9,c0,c1,c2,c3,c4,c5,c6,c7,c8,c9,d0)
 else
  (AP4 d2.1 (b8,b9)).bind fun d3=>
  (bif (!d3.2) then
   some (b,c,d,e,f,g,h,i,j,k,l,m,n,o,p,q,r,s,t,u,v,w,y,z,a0,a1,a2,a3,a4,a5,a6,a7,a8,a9,b0,b1,b2,b3,b4,b5,b6,b7,b8,b9,c0,c1,c2,c3,c4,c5,c6,c7,c8,c9,d0)
  else
   let d4:=IntKind.wrap .i64 (z-c0)
   (AA1 (a3,a4) d3.1 b d4).bind fun d5=>
   let d6:=IntKind.wrap .i64 (a2-c1)
   (AA1 (a5,a6) d3.1 b d6).bind fun d7=>
   some (b,c,d,e,f,g,h,i,j,k,l,m,n,o,p,q,r,s,t,u,v,w,y,z,a0,a1,a2,d5.1.1,d5.1.2,d7.1.1,d7.1.2,a7,a8,a9,b0,b1,b2,b3,b4,b5,b6,b7,b8,b9,c0,c1,c2,c3,c4,c5,c6,c7,c8,c9,d0)))
noncomputable def Br3:Con:={f:=79,ps:=[.ref 0 0,dI],boxes:=[[dI,dI,dI,dI,dI,dI,dI,dI,dI,dI,dI,dI,dI,dI,.dat (.slice (.agg Yt1)),.dat (.slice (.agg Yt3)),.dat .bool,dI,dI,dI,.dat (.slice (.int .i64)),.dat .bool,.dat (.int .u16),dI,.dat .bool,.dat (.int .u16),dI,dI,dI,dI,dI,dI,dI,dI,.dat .bool,dI,dI,dI,dI,dI,.dat (.slice (.agg I4)),.dat .bool,dI,dI,dI,dI,dI,.dat .bool,.dat .bool,.dat .bool,dI,dI,dI,dI,.dat .bool]],ins:=Bb6,nin:=56,outs:=V6,rs:=[],A2:=55,F:=fun x=>let a:=x.2.2.2.2.2.2.2.2;let b:=a.2.2.2.2.2.2.2.2;let c:=b.2.2.2.2.2.2.2.2;let d:=c.2.2.2.2.2.2.2.2;let e:=d.2.2.2.2.2.2.2.2;let f:=e.2.2.2.2.2.2.2.2;AQ6 x.1 x.2.1 x.2.2.1 x.2.2.2.1 x.2.2.2.2.1 x.2.2.2.2.2.1 x.2.2.2.2.2.2.1 x.2.2.2.2.2.2.2.1 x.2.2.2.2.2.2.2.2.1 a.2.1 a.2.2.1 a.2.2.2.1 a.2.2.2.2.1 a.2.2.2.2.2.1 a.2.2.2.2.2.2.1 a.2.2.2.2.2.2.2.1 a.2.2.2.2.2.2.2.2.1 b.2.1 b.2.2.1 b.2.2.2.1 b.2.2.2.2.1 b.2.2.2.2.2.1 b.2.2.2.2.2.2.1 b.2.2.2.2.2.2.2.1 b.2.2.2.2.2.2.2.2.1 c.2.1 c.2.2.1 c.2.2.2.1 c.2.2.2.2.1 c.2.2.2.2.2.1 c.2.2.2.2.2.2.1 c.2.2.2.2.2.2.2.1 c.2.2.2.2.2.2.2.2.1 d.2.1 d.2.2.1 d.2.2.2.1 d.2.2.2.2.1 d.2.2.2.2.2.1 d.2.2.2.2.2.2.1 d.2.2.2.2.2.2.2.1 d.2.2.2.2.2.2.2.2.1 e.2.1 e.2.2.1 e.2.2.2.1 e.2.2.2.2.1 e.2.2.2.2.2.1 e.2.2.2.2.2.2.1 e.2.2.2.2.2.2.2.1 e.2.2.2.2.2.2.2.2.1 f.2.1 f.2.2.1 f.2.2.2.1 f.2.2.2.2.1 f.2.2.2.2.2.1 f.2.2.2.2.2.2.1 f.2.2.2.2.2.2.2}
theorem Dr3:A3 Tryz.prog Br3:=
 cgo (l:=[AW5,AX7,At6,Br2]) (o:=[]) (.mk .plain [H0,(.mk .plain [H0,(.mk .plain [H0,(.mk .plain [H0,(.mk .plain [(.mk (.AT0 3) [])])])])])]) (by simp[Ad0,Ae8,BI9,Dr2]) (by simp) Tryz.func79 rfl (by kernel_rfl) (by funext x;kernel_rfl)
noncomputable def AQ7 [LP](a:Ap0)(b:(Int×Int))(c d e f g h i j k l m n o p:Int)(q:(List Yd1))(r:(List Yd3))(s:Bool)(t u v:Int)(w:(List Int))(y:Bool)(z a0:Int)(a1:Bool)(a2 a3 a4 a5 a6 a7 a8 a9 b0:Int)(b1:Bool)(b2 b3 b4 b5 b6:Int)(b7:(List E3))(b8:Bool)(b9 c0 c1 c2 c3:Int)(c4 c5 c6:Bool)(c7 c8 c9 d0:Int)(d1:Bool):Option AB9:=
 let d2:C8:=(c,(d,(e,(f,(g,(h,(i,(j,(k,(l,(m,(n,(o,p)))))))))))))
 (Af7 d2 (q,r) a.1 b).bind fun d3=>
 let pA:=d3.2.2.2.2
 let d4:=(bif b1 then b8 else false)
 let d5:=((a.2.1.length:Int)==(1:Int))
 let d6:=(bif d4 then d5 else false)
 Option.bind (
  (bif d6 then
   chk none (true&&(decide ((0:Int)<(a.2.1.length:Int))))<|
   let d7:=(a.2.1.getD (0:Int).toNat 0)
   (AQ6 d7 c d e f g h i j k l m n o p q r s t u v w y z a0 a1 a2 a3 a4 a5 a6 a7 a8 a9 b0 d3.1 d3.2.1 d3.2.2.1.1 d3.2.2.1.2 d3.2.2.2.1 pA.1 pA.2 b8 b9 c0 c1 c2 c3 c4 c5 c6 c7 c8 c9 d0 d1).bind fun d8=>
   let pB:=d8.2.2.2.2
   let pD:=pB.2.2.2.2
   let pF:=pD.2.2.2.2
   let pH:=pF.2.2.2.2
   let pJ:=pH.2.2.2.2
   let pL:=pJ.2.2.2.2
   let pN:=pL.2.2.2.2
   let pP:=pN.2.2.2.2
   let pR:=pP.2.2.2.2
   let pT:=pR.2.2.2.2
   let pV:=pT.2.2.2.2
   let pX:=pV.2.2.2.2
   let pZ:=pX.2.2.2.2
   some (pN.1,pN.2.2.2.1,pR.2.1,pP.2.2.1,pT.1,pV.2.2.1,pT.2.2.2.1,pX.2.1,pZ.1,d8.1,pB.2.2.1,d8.2.2.2.1,pD.2.1,pF.1,pH.2.2.1,pF.2.2.2.1,pJ.2.1,pL.1,pN.2.2.1,pL.2.2.2.1,pP.2.1,pR.2.2.2.1,pR.1,pT.2.2.1,pV.2.1,pX.2.2.2.1,pX.1,pZ.2.2,d8.2.2.1,pB.2.1,pD.2.2.2.1,pD.1,pF.2.2.1,pJ.1,pH.2.1,pJ.2.2.2.1,pL.2.2.1,pP.1,pN.2.1,pP.2.2.2.1,pR.2.2.1,pV.1,pT.2.1,pV.2.2.2.1,pX.2.2.1,d8.2.1,pZ.2.1,pB.1,pB.2.2.2.1,pF.2.1,pD.2.2.1,pH.1,pH.2.2.2.1,pL.2.1,pJ.2.2.1)
  else
   some (a5,a8,d3.2.2.1.2,d3.1,pA.2,c3,c0,c6,c9,c,i,f,l,o,u,r,y,a1,a7,a4,b0,pA.1,d3.2.2.1.1,b9,c2,c8,c5,d1,e,h,n,k,q,w,t,a0,a3,a9,a6,d3.2.1,d3.2.2.2.1,c1,b8,c4,c7,d,d0,g,j,p,m,s,v,a2,z))) fun d9=>
 let pC:=d9.2.2.2.2
 let pE:=pC.2.2.2.2
 let pG:=pE.2.2.2.2
 let pI:=pG.2.2.2.2
 let pK:=pI.2.2.2.2
 let pM:=pK.2.2.2.2
 let pO:=pM.2.2.2.2
 let pQ:=pO.2.2.2.2
 let pS:=pQ.2.2.2.2
 let pU:=pS.2.2.2.2
 let pW:=pU.2.2.2.2
 let pY:=pW.2.2.2.2
 let qA:=pY.2.2.2.2
 let e0:=d9.1
 let e1:=d9.2.1
 let e2:=d9.2.2.1
 let e3:=d9.2.2.2.1
 let e4:(List E3):=pC.1
 let e5:=pC.2.1
 let e6:=pC.2.2.1
 let e7:=pC.2.2.2.1
 let e8:=pE.1
 let e9:=pE.2.1
 let f0:=pE.2.2.1
 let f1:=pE.2.2.2.1
 let f2:=pG.1
 let f3:=pG.2.1
 let f4:=pG.2.2.1
 let f5:(List Yd3):=pG.2.2.2.1
 let f6:=pI.1
 let f7:=pI.2.1
 let f8:=pI.2.2.1
 let f9:=pI.2.2.2.1
 let g0:=pK.1
 let g1:=pK.2.1
 let g2:=pK.2.2.1
 let g3:=pK.2.2.2.1
 let g4:=pM.1
 let g5:=pM.2.1
 let g6:=pM.2.2.1
 let g7:=pM.2.2.2.1
 let g8:=pO.1
 let g9:=pO.2.1
 let h0:=pO.2.2.1
 let h1:=pO.2.2.2.1
 let h2:(List Yd1):=pQ.1
 let h3:(List Int):=pQ.2.1
 let h4:=pQ.2.2.1
 let h5:=pQ.2.2.2.1
 let h6:=pS.1
 let h7:=pS.2.1
 let h8:=pS.2.2.1
 let h9:=pS.2.2.2.1
 let i0:=pU.1
 let i1:=pU.2.1
 let i2:=pU.2.2.1
 let i3:=pU.2.2.2.1
 let i4:=pW.1
 let i5:=pW.2.1
 let i6:=pW.2.2.1
 let i7:=pW.2.2.2.1
 let i8:=pY.1
 let i9:=pY.2.1
 let j0:=pY.2.2.1
 let j1:=pY.2.2.2.1
 let j2:=qA.1
 let j3:=qA.2.1
 let j4:=qA.2.2
 let j5:(Int×Int):=(g2,e2)
 let j6:Cy9:=((f6,(j4,h5)),(f7,(j3,h6)))
 some (e9,i5,g8,f1,i7,g9,f0,i8,h1,f2,j0,h0,f3,i9,h2,f5,j1,h4,f4,j2,h3,f6,j4,h5,f7,j3,h6,f9,e0,h8,f8,e1,h7,g0,e3,h9,g2,e2,i0,g1,e4,true,j5.1,j5.2,j6.1.2.2,j6.2.2.2,e5,i3,g6,e7,i4,g5,e8,i6,g7)
noncomputable def BJ6:Con:={f:=43,ps:=[.ref 0 0,.dat (.agg Ac3),.dat (.agg (.pair (.int .i64) (.int .i64)))],boxes:=[[dI,dI,dI,dI,dI,dI,dI,dI,dI,dI,dI,dI,dI,dI,.dat (.slice (.agg Yt1)),.dat (.slice (.agg Yt3)),.dat .bool,dI,dI,dI,.dat (.slice (.int .i64)),.dat .bool,.dat (.int .u16),dI,.dat .bool,.dat (.int .u16),dI,dI,dI,dI,dI,dI,dI,dI,.dat .bool,dI,dI,dI,dI,dI,.dat (.slice (.agg I4)),.dat .bool,dI,dI,dI,dI,dI,.dat .bool,.dat .bool,.dat .bool,dI,dI,dI,dI,.dat .bool]],ins:=Cz0,nin:=57,outs:=V6,rs:=[],A2:=55,F:=fun x=>let a:=x.2.2.2.2.2.2.2.2;let b:=a.2.2.2.2.2.2.2.2;let c:=b.2.2.2.2.2.2.2.2;let d:=c.2.2.2.2.2.2.2.2;let e:=d.2.2.2.2.2.2.2.2;let f:=e.2.2.2.2.2.2.2.2;AQ7 x.1 x.2.1 x.2.2.1 x.2.2.2.1 x.2.2.2.2.1 x.2.2.2.2.2.1 x.2.2.2.2.2.2.1 x.2.2.2.2.2.2.2.1 x.2.2.2.2.2.2.2.2.1 a.2.1 a.2.2.1 a.2.2.2.1 a.2.2.2.2.1 a.2.2.2.2.2.1 a.2.2.2.2.2.2.1 a.2.2.2.2.2.2.2.1 a.2.2.2.2.2.2.2.2.1 b.2.1 b.2.2.1 b.2.2.2.1 b.2.2.2.2.1 b.2.2.2.2.2.1 b.2.2.2.2.2.2.1 b.2.2.2.2.2.2.2.1 b.2.2.2.2.2.2.2.2.1 c.2.1 c.2.2.1 c.2.2.2.1 c.2.2.2.2.1 c.2.2.2.2.2.1 c.2.2.2.2.2.2.1 c.2.2.2.2.2.2.2.1 c.2.2.2.2.2.2.2.2.1 d.2.1 d.2.2.1 d.2.2.2.1 d.2.2.2.2.1 d.2.2.2.2.2.1 d.2.2.2.2.2.2.1 d.2.2.2.2.2.2.2.1 d.2.2.2.2.2.2.2.2.1 e.2.1 e.2.2.1 e.2.2.2.1 e.2.2.2.2.1 e.2.2.2.2.2.1 e.2.2.2.2.2.2.1 e.2.2.2.2.2.2.2.1 e.2.2.2.2.2.2.2.2.1 f.2.1 f.2.2.1 f.2.2.2.1 f.2.2.2.2.1 f.2.2.2.2.2.1 f.2.2.2.2.2.2.1 f.2.2.2.2.2.2.2.1 f.2.2.2.2.2.2.2.2}
theorem Dr4:A3 Tryz.prog BJ6:=
 cgo (l:=[Br0,Br3]) (o:=[]) (.mk .plain [H0,(.mk .plain [H0,(.mk .plain [H0,(.mk .plain [(.mk .plain [H0,(.mk (.join (zP [45,48,47,44,43,46]) [(.normal,[kI 0 28,kI 0 31,kI 0 37,kB 0 34,⟨.cell 0 40,(.slice (.agg I4)),none⟩,kI 0 46,kI 0 43,kB 0 49,kI 0 52,kI 0 0,kI 0 6,kI 0 3,kI 0 9,kI 0 12,kI 0 18,⟨.cell 0 15,(.slice (.agg Yt3)),none⟩,kB 0 21,kB 0 24,kI 0 30,kI 0 27,kI 0 33,kI 0 39,kI 0 36,kI 0 42,kI 0 45,kI 0 51,kB 0 48,kB 0 54,kI 0 2,kI 0 5,kI 0 11,kI 0 8,⟨.cell 0 14,(.slice (.agg Yt1)),none⟩,⟨.cell 0 20,(.slice (.int .i64)),none⟩,kI 0 17,kI 0 23,kI 0 26,kI 0 32,kI 0 29,kI 0 35,kI 0 38,kI 0 44,kB 0 41,kB 0 47,kI 0 50,kI 0 1,kI 0 53,kI 0 4,kI 0 7,kI 0 13,kI 0 10,kB 0 16,kI 0 19,⟨.cell 0 25,(.int .u16),none⟩,⟨.cell 0 22,(.int .u16),none⟩])]) [])]),(.mk .plain [H0,(.mk .plain [H0,(.mk .plain [(.mk (.AT0 3) [])])])])])])])]) (by simp[Dr0,Dr3]) (by simp) Tryz.func43 rfl (by kernel_rfl) (by funext x;kernel_rfl)
noncomputable def Af8 [LP](a b:Int)(c:Bool):Option Int:=
 (bif (!c) then
  some (0:Int)
 else
  let d:=IntKind.wrap .i64 (a+1)
  let e:=(if b<d then b else d)
  some e)
noncomputable def Br4:Con:={f:=80,ps:=[dI,dI,.dat .bool],boxes:=[],ins:=(.pair (.int .i64) (.pair (.int .i64) .bool)),nin:=3,outs:=(.int .i64),rs:=[dI],A2:=1,F:=fun x=>Af8 x.1 x.2.1 x.2.2}
theorem Dr5:A3 Tryz.prog Br4:=
 cgo (l:=[]) (o:=[]) H0 (by simp) (by simp) Tryz.func80 rfl (by kernel_rfl) (by funext x;kernel_rfl)
noncomputable def Af9 [LP](a:(Int×(Int×Bool)))(b:C8)(c:Int)(d e f:Bool):Option (Int×(Int×Bool)):=
 let pA:=b.2.2.2.2
 let pB:=pA.2.2.2.2
 let pC:=pB.2.2.2.2
 let g:=pC.1
 let h:=IntKind.wrap .i64 (g+1)
 let i:=decide (c<(1:Int))
 (Af8 a.1 h i).bind fun j=>
 let k:=pC.1
 let l:=IntKind.wrap .i64 (k+1)
 (Af8 a.2.1 l d).bind fun m=>
 let n:=pC.1
 let o:=decide (n<j)
 let p:=(bif e then true else o)
 let q:=pC.1
 let r:=decide (q<m)
 let s:=(bif p then true else r)
 let t:=(bif a.2.2 then (!f) else false)
 let u:=(bif s then true else t)
 let v:(Int×(Int×Bool)):=(j,(m,u))
 some v
noncomputable def BJ7:Con:={f:=44,ps:=[.dat (.agg (.pair (.int .i64) (.pair (.int .i64) .bool))),.dat (.agg C9),dI,.dat .bool,.dat .bool,.dat .bool],boxes:=[],ins:=Cz3,nin:=6,outs:=(.agg (.pair (.int .i64) (.pair (.int .i64) .bool))),rs:=[.dat (.agg (.pair (.int .i64) (.pair (.int .i64) .bool)))],A2:=1,F:=fun x=>Af9 x.1 x.2.1 x.2.2.1 x.2.2.2.1 x.2.2.2.2.1 x.2.2.2.2.2}
theorem Dr6:A3 Tryz.prog BJ7:=
 cgo (l:=[Br4]) (o:=[]) H0 (by simp[Dr5]) (by simp) Tryz.func44 rfl (by kernel_rfl) (by funext x;kernel_rfl)
noncomputable def Au3 [LP](a:C8)(b:(Int×Int)):Option Bool:=
 let c:=a.2.2.2.2.2.2.2.2.2.2.1
 let d:=IntKind.wrap .i64 (0-c)
 let e:=a.2.2.2.2.2.2.2.2.2.2.1
 (Af3 b (d,e)).bind fun f=>
 some f
noncomputable def Br5:Con:={f:=81,ps:=[.dat (.agg C9),.dat (.agg (.pair (.int .i64) (.int .i64)))],boxes:=[],ins:=Bb2,nin:=2,outs:=.bool,rs:=[.dat .bool],A2:=1,F:=fun x=>Au3 x.1 x.2}
theorem Dr7:A3 Tryz.prog Br5:=
 cgo (l:=[BJ2]) (o:=[]) H0 (by simp[Bp7]) (by simp) Tryz.func81 rfl (by kernel_rfl) (by funext x;kernel_rfl)
noncomputable def Ag0 [LP](a:(Int×Bool))(b:C8)(c:(Int×Int))(d:Int):Option (Int×Bool):=
 let pA:=b.2.2.2.2
 let pB:=pA.2.2.2.2
 let e:=decide (d<(1:Int))
 (bif !e then Au3 b c else some false).bind fun f=>
 let g:=(bif e then true else (!f))
 (bif g then
  let h:(Int×Bool):=((0:Int),false)
  some h
 else
  let i:=IntKind.wrap .i64 (a.1+1)
  let j:=(if pB.2.1<i then pB.2.1 else i)
  let k:=decide (pB.2.1≤j)
  let l:(Int×Bool):=(j,k)
  some l)
noncomputable def BJ8:Con:={f:=45,ps:=[.dat (.agg (.pair (.int .i64) .bool)),.dat (.agg C9),.dat (.agg (.pair (.int .i64) (.int .i64))),dI],boxes:=[],ins:=Cz5,nin:=4,outs:=(.agg (.pair (.int .i64) .bool)),rs:=[.dat (.agg (.pair (.int .i64) .bool))],A2:=1,F:=fun x=>Ag0 x.1 x.2.1 x.2.2.1 x.2.2.2}
theorem Dr8:A3 Tryz.prog BJ8:=
 cgo (l:=[Br5]) (o:=[]) H0 (by simp[Dr7]) (by simp) Tryz.func45 rfl (by kernel_rfl) (by funext x;kernel_rfl)
noncomputable def Ag1 [LP](a:AF6)(b:C8)(c d:Bool)(e:(Int×Int)):Option AF6:=
 (bif d then
  let f:AF6:=(false,(false,((0:Int),(0:Int))))
  some f
 else
  (bif (!a.1) then
   let g:AF6:=(c,(false,((0:Int),(0:Int))))
   some g
  else
   (AC9 a.2.2 e).bind fun h=>
   Option.bind (
    (bif h.2 then
     some (h.1.1,h.1.2)
    else
     some (a.2.2.1,a.2.2.2))) fun i=>
   let j:=i.1
   let k:=i.2
   let l:=b.2.2.2.2.2.2.2.2.2.2.2.1
   let m:=decide (l<j)
   let n:=(bif a.2.1 then true else m)
   let o:=b.2.2.2.2.2.2.2.2.2.2.2.1
   let p:=IntKind.wrap .i64 (0-o)
   let q:=decide (k<p)
   let r:=(bif n then true else q)
   let s:AF6:=(a.1,(r,(j,k)))
   some s))
noncomputable def BJ9:Con:={f:=46,ps:=[.dat (.agg AF5),.dat (.agg C9),.dat .bool,.dat .bool,.dat (.agg (.pair (.int .i64) (.int .i64)))],boxes:=[],ins:=Cz7,nin:=5,outs:=(.agg AF5),rs:=[.dat (.agg AF5)],A2:=1,F:=fun x=>Ag1 x.1 x.2.1 x.2.2.1 x.2.2.2.1 x.2.2.2.2}
theorem Dr9:A3 Tryz.prog BJ9:=
 cgo (l:=[AX7]) (o:=[]) (.mk .plain [H0,(.mk .plain [H0,(.mk .plain [(.mk .plain [H0,(.mk .plain [H0,(.mk (.join [(0,30),(0,31)] [(.normal,[kI 0 2,kI 0 3])]) [])])])])])]) (by simp[Ae8]) (by simp) Tryz.func46 rfl (by kernel_rfl) (by funext x;kernel_rfl)
noncomputable def Ag2 [LP](a:(Int×(Int×Bool)))(b:Bool)(c:Int)(d:Bool):Option Int:=
 (bif a.2.2 then
  some (4:Int)
 else
  (bif (!b) then
   some (1:Int)
  else
   let e:=decide (c<(2:Int))
   let f:=(bif e then true else d)
   (bif f then
    some (3:Int)
   else
    some (2:Int))))
noncomputable def BK0:Con:={f:=83,ps:=[.dat (.agg (.pair (.int .i64) (.pair (.int .i64) .bool))),.dat .bool,dI,.dat .bool],boxes:=[],ins:=Cz8,nin:=4,outs:=(.int .i64),rs:=[dI],A2:=1,F:=fun x=>Ag2 x.1 x.2.1 x.2.2.1 x.2.2.2}
theorem Ds0:A3 Tryz.prog BK0:=
 cgo (l:=[]) (o:=[]) H0 (by simp) (by simp) Tryz.func83 rfl (by kernel_rfl) (by funext x;kernel_rfl)
noncomputable def Au4 [LP](a b:Int):Option Int:=
 (AI1 a b).bind fun c=>
 let d:=decide (a<(0:Int))
 (Ae0 c.1 c.2 d).bind fun e=>
 some e
noncomputable def Br6:Con:={f:=128,ps:=[dI,dI],boxes:=[],ins:=(.pair (.int .i64) (.int .i64)),nin:=2,outs:=(.int .i64),rs:=[dI],A2:=1,F:=fun x=>Au4 x.1 x.2}
theorem Ds1:A3 Tryz.prog Br6:=
 cgo (l:=[Ae3,BI4]) (o:=[]) H0 (by simp[At3,Bm8]) (by simp) Tryz.func128 rfl (by kernel_rfl) (by funext x;kernel_rfl)
noncomputable def AI7 [LP](a:F0)(b:(List Int))(c:V5)(d:Int):Option (Int×Bool):=
 Option.bind (
  LP.lp (X:=(Bool×Int)) (fun (e:(Bool×(Int×Int)))=>
   let f:=e.1
   let g:=e.2.1
   let h:=e.2.2
   let i:=decide (h<c.2.length)
   (bif i then
    Option.bind (
     chk none (decide (0≤h)&&decide (h<c.2.length))<|
     let j:E3:=(c.2.getD h.toNat ((0:Int),((0:Int),((0:Int),((0:Int),((0:Int),((0:Int),((0:Int),((0:Int),((0:Int),((0:Int),((0:Int),((0:Int),(0:Int))))))))))))))
     let pA:=j.2.2.2.2
     let pB:=pA.2.2.2.2
     let k:=IntKind.wrap .i64 (j.1-1)
     chk none ((decide ((0:Int)≤k))&&(decide (k<(12:Int))))<|
     let l:=(List.getD [j.2.1,j.2.2.1,j.2.2.2.1,pA.1,pA.2.1,pA.2.2.1,pA.2.2.2.1,pB.1,pB.2.1,pB.2.2.1,pB.2.2.2.1,pB.2.2.2.2] k.toNat 0)
     chk none (decide (0≤l)&&decide (l<b.length))<|
     let m:=(b.getD l.toNat 0)
     (bif (m==(-1:Int)) then
      some (f,g)
     else
      (R1 c a j).bind fun n=>
      let o:=IntKind.wrap .i64 (n+m)
      (Au4 o d).bind fun p=>
      let q:=decide (p<g)
      let r:=(bif (!f) then true else q)
      Option.bind (
       (bif r then
        some (p,true)
       else
        some (g,f))) fun s=>
      let t:=s.1
      let u:=s.2
      some (u,t))) fun v=>
    let w:=v.1
    let y:=v.2
    let z:=IntKind.wrap .i64 (h+1)
    some (.inl (w,y,z))
   else
    some (.inr (f,g)))) (false,(0:Int),(0:Int))) fun a0=>
 let a1:=a0.1
 let a2:=a0.2
 some (a2,a1)
noncomputable def BK1:Con:={f:=85,ps:=[.dat (.agg E7),.dat (.slice (.int .i64)),.dat (.agg T6),dI],boxes:=[],ins:=DA1,nin:=4,outs:=(.pair (.int .i64) .bool),rs:=[dI,.dat .bool],A2:=2,F:=fun x=>AI7 x.1 x.2.1 x.2.2.1 x.2.2.2}
theorem Ds2:A3 Tryz.prog BK1:=
 cgo (l:=[Ap2,Br6]) (o:=[]) (.mk .plain [H0,(.mk .plain [H0,(.mk .plain [(.mk .plain [H0,(.mk .plain [(.mk (.loop [sB 11,sI 10,sI 19] (zP [30,36,42,39,45,48,14,23,20,26,29,35,32,38,41,47,44,50,13,22,28,25,31,34,40,37,43,46,49,15,21,24,27,33]) [(.exit 0,[sB 11,sI 10])]) [(.mk .plain [H0,(.mk .plain [H0,(.mk .plain [(.mk (.join (zP [30,13,22,28,25,31,14,23,26,29,32,21,24,27,33,36,42,39,45,48,35,38,41,47,44,34,40,37,43,46,49,15]) [(.normal,[sB 11,sI 10])]) [(.mk .plain [H0,(.mk .plain [H0,(.mk .plain [H0,(.mk .plain [H0,(.mk .plain [H0,(.mk (.join [(0,49)] [(.normal,[sI 10,sB 11])]) [])])])])])])])])])])])])])])])]) (by simp[BF4,Ds1]) (by simp) Tryz.func85 rfl (by kernel_rfl) (by funext x;kernel_rfl)
noncomputable def AQ8 [LP](a:(Int×Int)):Option Int:=
 Option.bind (
  LP.lp (X:=Int) (fun (b:(Int×Int))=>
   let c:=b.1
   let d:=b.2
   let e:=decide ((0:Int)≤c)
   (bif e then
    chk none (decide ((0:Int)≤(IntKind.wrap .u64 c)))<|
    let f:=(IntKind.wrap .u64 ((1:Int)*2 ^ (min (IntKind.wrap .u64 c).toNat 64)))
    let g:=(bits .u64 .or d f)
    (AW4 g g).bind fun h=>
    (AN2 h a).bind fun i=>
    let j:=decide (i≤(0:Int))
    Option.bind (
     (bif j then
      some g
     else
      some d)) fun k=>
    let l:=IntKind.wrap .i64 (c-1)
    some (.inl (l,k))
   else
    some (.inr d))) ((63:Int),(0:Int))) fun m=>
 some m
noncomputable def Br7:Con:={f:=166,ps:=[.dat (.agg (.pair (.int .u64) (.int .u64)))],boxes:=[],ins:=(.agg (.pair (.int .u64) (.int .u64))),nin:=1,outs:=(.int .u64),rs:=[.dat (.int .u64)],A2:=1,F:=fun x=>AQ8 x}
theorem Ds3:A3 Tryz.prog Br7:=
 cgo (l:=[Aq8,Ac9]) (o:=[]) (.mk .plain [H0,(.mk .plain [H0,(.mk .plain [(.mk .plain [H0,(.mk .plain [(.mk (.loop [sI 4,⟨.slot 3,(.int .u64),none⟩] (zP [7,10,16,13,19,5,8,14,11,17,20,9,6,12,15,21,18]) [(.exit 0,[⟨.slot 3,(.int .u64),none⟩])]) [(.mk .plain [H0,(.mk .plain [(.mk .plain [(.mk .plain [H0,(.mk .plain [H0,(.mk (.join [(0,21)] [(.normal,[⟨.slot 3,(.int .u64),none⟩])]) [])])])])])])])])])])])]) (by simp[BG2,Ar0]) (by simp) Tryz.func166 rfl (by kernel_rfl) (by funext x;kernel_rfl)
noncomputable def AX9 [LP](a b:Int):Option (Int×Int):=
 let c:=decide (a<(0:Int))
 let d:=decide (b<(0:Int))
 let e:=(bif c then true else d)
 (bif e then
  some ((0:Int),(10:Int))
 else
  (AW4 (IntKind.wrap .u64 a) (IntKind.wrap .u64 b)).bind fun f=>
  (AQ8 f).bind fun g=>
  let h:=(IntKind.wrap .i64 g)
  some (h,(0:Int)))
noncomputable def Br8:Con:={f:=130,ps:=[dI,dI],boxes:=[],ins:=(.pair (.int .i64) (.int .i64)),nin:=2,outs:=(.pair (.int .i64) (.int .i64)),rs:=[dI,dI],A2:=2,F:=fun x=>AX9 x.1 x.2}
theorem Ds4:A3 Tryz.prog Br8:=
 cgo (l:=[Aq8,Br7]) (o:=[]) H0 (by simp[BG2,Ds3]) (by simp) Tryz.func130 rfl (by kernel_rfl) (by funext x;kernel_rfl)
noncomputable def AI8 [LP](a:C8)(b:Int):Option Int:=
 let pA:=a.2.2.2.2
 let c:=pA.2.2.2.2.2.2.2.2.2
 let d:=IntKind.wrap .i64 ((2:Int)*c)
 let e:=(if (0:Int)>b then (0:Int) else b)
 (AX9 d e).bind fun f=>
 let g:=decide (pA.2.2.1<f.1)
 let h:=(bif (f.2 != (0:Int)) then true else g)
 (bif h then
  some pA.2.2.1
 else
  some f.1)
noncomputable def BK2:Con:={f:=86,ps:=[.dat (.agg C9),dI],boxes:=[],ins:=BF0,nin:=2,outs:=(.int .i64),rs:=[dI],A2:=1,F:=fun x=>AI8 x.1 x.2}
theorem Ds5:A3 Tryz.prog BK2:=
 cgo (l:=[Br8]) (o:=[]) H0 (by simp[Ds4]) (by simp) Tryz.func86 rfl (by kernel_rfl) (by funext x;kernel_rfl)
noncomputable def AQ9 [LP](a:AV9)(b c d e f g h i j k l m n o:Int)(p:(List Yd1))(q:(List Yd3))(r:Bool)(s t u:Int)(v:(List Int))(w:Bool)(y z:Int)(a0:Bool)(a1 a2 a3 a4 a5 a6 a7 a8 a9:Int)(b0:Bool)(b1 b2 b3 b4 b5:Int)(b6:(List E3))(b7:Bool)(b8 b9 c0 c1 c2:Int)(c3 c4 c5:Bool)(c6 c7 c8 c9:Int)(d0:Bool)(d1 d2 d3 d4 d5 d6 d7 d8 d9 e0:Int)(e1:(List (List Int)))(e2:Int)(e3 e4:Bool)(e5 e6:Int)(e7 e8 e9 f0 f1:Bool)(f2 f3 f4 f5 f6 f7 f8 f9 g0 g1 g2:Int):Option DP2:=
 let pA:=a.2.2.2.2
 (AA0 a.1).bind fun g3=>
 let g4:Ao7:=((a3,a4),(a5,a6))
 let g5:(Int×Int):=(c6,c7)
 (Ag2 (c8,(c9,d0)) b0 a.2.1 a.2.2.2.1).bind fun g6=>
 (bif (!b0) then
  some (b,c,d,e,f,g,h,i,j,k,l,m,n,o,p,q,r,s,t,u,v,w,y,z,a0,a1,a2,a3,a4,a5,a6,a7,a8,a9,b0,b1,b2,b3,b4,b5,b6,b7,b8,b9,c0,c1,c2,c3,c4,c5,c6,c7,c8,c9,d0,d1,g6,d3,d4,d5,d6,a.1.1,a.1.2,g3,a9,e1,a.2.1,a.2.2.1,a.2.2.2.1,pA.1,pA.2,e7,e8,c3,c5,f1,g5.1,g5.2,h,g4.1.1,g4.1.2,g4.2.1,g4.2.2,f9,g0,g1,g2)
 else
  chk none (decide (0≤b1)&&decide (b1<q.length))<|
  let g7:Yd3:=(q.getD b1.toNat ((0:Int),((0:Int),((0:Int),((0:Int),(0:Int))))))
  let g8:(Int×Int):=(b2,b3)
  Option.bind (
   LP.lp (X:=(List (List Int))) (fun (g9:((List (List Int))×Int))=>
    let h0:(List (List Int)):=g9.1
    let h1:=g9.2
    let h2:=decide (h1<b6.length)
    (bif h2 then
     chk none (decide (0≤h1)&&decide (h1<b6.length))<|
     let h3:E3:=(b6.getD h1.toNat ((0:Int),((0:Int),((0:Int),((0:Int),((0:Int),((0:Int),((0:Int),((0:Int),((0:Int),((0:Int),((0:Int),((0:Int),(0:Int))))))))))))))
     (AW1 h3).bind fun h4=>
     let h5:(List (List Int)):=([h4]:List (List Int))
     chk none (decide ((h0.length+h5.length)*24≤140737488355328))<|
     let h6:(List (List Int)):=(h0++h5)
     let h7:=IntKind.wrap .i64 (h1+1)
     some (.inl (h6,h7))
    else
     some (.inr h0))) (e1,(0:Int))) fun h8=>
  (AI7 (p,q) v (b5,b6) b3).bind fun h9=>
  Option.bind (
   (bif h9.2 then
    let i0:C8:=(b,(c,(d,(e,(f,(g,(h,(i,(j,(k,(l,(m,(n,o)))))))))))))
    (AI8 i0 h9.1).bind fun i1=>
    some i1
   else
    some h)) fun i2=>
  let i3:=decide (i2<a.1.2)
  some (b,c,d,e,f,g,h,i,j,k,l,m,n,o,p,q,r,s,t,u,v,w,y,z,a0,a1,a2,a3,a4,a5,a6,a7,a8,a9,b0,b1,b2,b3,b4,b5,b6,b7,b8,b9,c0,c1,c2,c3,c4,c5,c6,c7,c8,c9,d0,d1,g6,g7.1,g8.1,g8.2,b4,a.1.1,a.1.2,g3,a9,h8,a.2.1,a.2.2.1,a.2.2.2.1,pA.1,pA.2,e7,e8,c3,c5,i3,g5.1,g5.2,i2,g4.1.1,g4.1.2,g4.2.1,g4.2.2,f9,g0,g1,g2))
noncomputable def Ag3:G2:={f:=47,ps:=[.ref 0 0,.ref 1 0,.dat (.agg AL5)],boxes:=[[oI,oI,oI,oI,oI,oI,oI,oI,oI,oI,oI,oI,oI,oI,.dat (.slice (.agg Yt1)),.dat (.slice (.agg Yt3)),.dat .bool,oI,oI,oI,.dat (.slice (.int .i64)),.dat .bool,.dat (.int .u16),oI,.dat .bool,.dat (.int .u16),oI,oI,oI,oI,oI,oI,oI,oI,.dat .bool,oI,oI,oI,oI,oI,.dat (.slice (.agg I4)),.dat .bool,oI,oI,oI,oI,oI,.dat .bool,.dat .bool,.dat .bool,oI,oI,oI,oI,.dat .bool],[oI,oI,oI,oI,oI,oI,oI,oI,oI,oI,.own 605000065 (.slice (.int .i64)),oI,.dat .bool,.dat .bool,oI,oI,.dat .bool,.dat .bool,.dat .bool,.dat .bool,.dat .bool,oI,oI,oI,oI,oI,oI,oI,oI,oI,oI,oI]],ins:=DP3,nin:=88,outs:=Bb8,rs:=[],aft:=[[oI,oI,oI,oI,oI,oI,oI,oI,oI,oI,oI,oI,oI,oI,.dat (.slice (.agg Yt1)),.dat (.slice (.agg Yt3)),.dat .bool,oI,oI,oI,.dat (.slice (.int .i64)),.dat .bool,.dat (.int .u16),oI,.dat .bool,.dat (.int .u16),oI,oI,oI,oI,oI,oI,oI,oI,.dat .bool,oI,oI,oI,oI,oI,.dat (.slice (.agg I4)),.dat .bool,oI,oI,oI,oI,oI,.dat .bool,.dat .bool,.dat .bool,oI,oI,oI,oI,.dat .bool],[oI,oI,oI,oI,oI,oI,oI,oI,oI,oI,.own 605000065 (.slice (.int .i64)),oI,.dat .bool,.dat .bool,oI,oI,.dat .bool,.dat .bool,.dat .bool,.dat .bool,.dat .bool,oI,oI,oI,oI,oI,oI,oI,oI,oI,oI,oI]],A2:=87,F:=fun x=>let a:=x.2.2.2.2.2.2.2.2;let b:=a.2.2.2.2.2.2.2.2;let c:=b.2.2.2.2.2.2.2.2;let d:=c.2.2.2.2.2.2.2.2;let e:=d.2.2.2.2.2.2.2.2;let f:=e.2.2.2.2.2.2.2.2;let g:=f.2.2.2.2.2.2.2.2;let h:=g.2.2.2.2.2.2.2.2;let i:=h.2.2.2.2.2.2.2.2;let j:=i.2.2.2.2.2.2.2.2;AQ9 x.1 x.2.1 x.2.2.1 x.2.2.2.1 x.2.2.2.2.1 x.2.2.2.2.2.1 x.2.2.2.2.2.2.1 x.2.2.2.2.2.2.2.1 x.2.2.2.2.2.2.2.2.1 a.2.1 a.2.2.1 a.2.2.2.1 a.2.2.2.2.1 a.2.2.2.2.2.1 a.2.2.2.2.2.2.1 a.2.2.2.2.2.2.2.1 a.2.2.2.2.2.2.2.2.1 b.2.1 b.2.2.1 b.2.2.2.1 b.2.2.2.2.1 b.2.2.2.2.2.1 b.2.2.2.2.2.2.1 b.2.2.2.2.2.2.2.1 b.2.2.2.2.2.2.2.2.1 c.2.1 c.2.2.1 c.2.2.2.1 c.2.2.2.2.1 c.2.2.2.2.2.1 c.2.2.2.2.2.2.1 c.2.2.2.2.2.2.2.1 c.2.2.2.2.2.2.2.2.1 d.2.1 d.2.2.1 d.2.2.2.1 d.2.2.2.2.1 d.2.2.2.2.2.1 d.2.2.2.2.2.2.1 d.2.2.2.2.2.2.2.1 d.2.2.2.2.2.2.2.2.1 e.2.1 e.2.2.1 e.2.2.2.1 e.2.2.2.2.1 e.2.2.2.2.2.1 e.2.2.2.2.2.2.1 e.2.2.2.2.2.2.2.1 e.2.2.2.2.2.2.2.2.1 f.2.1 f.2.2.1 f.2.2.2.1 f.2.2.2.2.1 f.2.2.2.2.2.1 f.2.2.2.2.2.2.1 f.2.2.2.2.2.2.2.1 f.2.2.2.2.2.2.2.2.1 g.2.1 g.2.2.1 g.2.2.2.1 g.2.2.2.2.1 g.2.2.2.2.2.1 g.2.2.2.2.2.2.1 g.2.2.2.2.2.2.2.1 g.2.2.2.2.2.2.2.2.1 h.2.1 h.2.2.1 h.2.2.2.1 h.2.2.2.2.1 h.2.2.2.2.2.1 h.2.2.2.2.2.2.1 h.2.2.2.2.2.2.2.1 h.2.2.2.2.2.2.2.2.1 i.2.1 i.2.2.1 i.2.2.2.1 i.2.2.2.2.1 i.2.2.2.2.2.1 i.2.2.2.2.2.2.1 i.2.2.2.2.2.2.2.1 i.2.2.2.2.2.2.2.2.1 j.2.1 j.2.2.1 j.2.2.2.1 j.2.2.2.2.1 j.2.2.2.2.2.1 j.2.2.2.2.2.2.1 j.2.2.2.2.2.2.2}
def Ds6:Hint:=(.mk .plain [H0,(.mk .plain [H0,(.mk .plain [H0,(.mk .plain [H0,(.mk .plain [H0,(.mk .plain [H0,(.mk .plain [H0,(.mk .plain [(.mk .plain [H0,(.mk .plain [(.mk (.loop [⟨.cell 1 10,(.slice (.slice (.int .i64))),some 605000065⟩,sI 149] (zP [158,7,155,161,164,150,156,153,159,162,151,154,157,163,160,152]) [(.exit 0,[⟨.cell 1 10,(.slice (.slice (.int .i64))),some 605000065⟩])]) [])])]),(.mk .plain [(.mk .plain [H0,(.mk .plain [H0,(.mk (.join (zP [190,196,193,189,192,195,194,191,197]) [(.normal,[kI 1 23])]) [])])])])])])])])])])])])
theorem Ds7:Ak9 ⟨R7 tys,[AQ0,BK0,Ac5,BK1,BK2],[],[],[]⟩ Ag3 Tryz.f47 Ds6=Ag3.F:=by
 funext x
 kernel_rfl
theorem Ds8:Al3 Tryz.prog Ag3:=
 CM8 (Γ:=⟨R7 tys,[AQ0,BK0,Ac5,BK1,BK2],[],[],[]⟩) ⟨fun T d h=>AL3 tys AW0 T d h,by simp[Af1,Ds0,BF3,Ds2,Ds5],by simp[],by simp[],AU1 Tryz.prog [] (by kernel_rfl)⟩ (by kernel_rfl) Tryz.func47 rfl (by kernel_rfl) rfl Ds7
noncomputable def AR0 [LP](a:(List (List Int)))(b:Bool)(c d e f g h i j k l m n o p:Int)(q:(List Yd1))(r:(List Yd3))(s:Bool)(t u v:Int)(w:(List Int))(y:Bool)(z a0:Int)(a1:Bool)(a2 a3 a4 a5 a6 a7 a8 a9 b0:Int)(b1:Bool)(b2 b3 b4 b5 b6:Int)(b7:(List E3))(b8:Bool)(b9 c0 c1 c2 c3:Int)(c4 c5 c6:Bool)(c7 c8 c9 d0:Int)(d1:Bool):Option DP5:=
 let d2:=IntKind.wrap .i64 (t+1)
 (bif s then
  let d3:L8:=(t,((4:Int),((0:Int),(((0:Int),(0:Int)),((0:Int),(((0:Int),(0:Int)),((0:Int),((0:Int),([],((0:Int),(false,(false,(((0:Int),(0:Int)),(false,(false,(false,(false,(false,(((0:Int),(0:Int)),((0:Int),((((0:Int),(0:Int)),((0:Int),(0:Int))),((0:Int),((0:Int),((0:Int),(0:Int)))))))))))))))))))))))))
  some (d3,c,d,e,f,g,h,i,j,k,l,m,n,o,p,q,r,s,d2,u,v,w,y,z,a0,a1,a2,a3,a4,a5,a6,a7,a8,a9,b0,b1,b2,b3,b4,b5,b6,b7,b8,b9,c0,c1,c2,c3,c4,c5,c6,c7,c8,c9,d0,d1)
 else
  (AH8 t a).bind fun d4=>
  (AQ1 d4 c d e f g h i j k l m n o p q r s d2 u v w y z a0 a1 a2 a3 a4 a5 a6 a7 a8 a9 b0 b1 b2 b3 b4 b5 b6 b7 b8 b9 c0 c1 c2 c3 c4 c5 c6 c7 c8 c9 d0 d1).bind fun d5=>
  let pA:=d5.2.2.2.2
  let pH:=pA.2.2.2.2
  let pN:=pH.2.2.2.2
  let pT:=pN.2.2.2.2
  let pZ:=pT.2.2.2.2
  let qF:=pZ.2.2.2.2
  let qL:=qF.2.2.2.2
  let qR:=qL.2.2.2.2
  let qX:=qR.2.2.2.2
  let rD:=qX.2.2.2.2
  let rJ:=rD.2.2.2.2
  let rP:=rJ.2.2.2.2
  let rV:=rP.2.2.2.2
  let d6:=rD.2.2.1
  let d7:=(bif d6 then d5.1.2.2.1 else false)
  let d8:X2:=(qR.2.2.2.1,(qX.1,((qX.2.1,qX.2.2.1),(qX.2.2.2.1,(rD.1,rD.2.1)))))
  (AQ2 d5.1.1 d5.2.1 d5.2.2.1 d5.2.2.2.1 pA.1 pA.2.1 pA.2.2.1 pA.2.2.2.1 pH.1 pH.2.1 pH.2.2.1 pH.2.2.2.1 pN.1 pN.2.1 pN.2.2.1 pN.2.2.2.1 pT.1 pT.2.1 pT.2.2.1 pT.2.2.2.1 pZ.1 pZ.2.1 pZ.2.2.1 pZ.2.2.2.1 qF.1 qF.2.1 qF.2.2.1 qF.2.2.2.1 qL.1 qL.2.1 qL.2.2.1 qL.2.2.2.1 qR.1 qR.2.1 qR.2.2.1 qR.2.2.2.1 qX.1 qX.2.1 qX.2.2.1 qX.2.2.2.1 rD.1 rD.2.1 d7 rD.2.2.2.1 rJ.1 rJ.2.1 rJ.2.2.1 rJ.2.2.2.1 rP.1 rP.2.1 rP.2.2.1 rP.2.2.2.1 rV.1 rV.2.1 rV.2.2.1 rV.2.2.2).bind fun d9=>
  let pB:=d9.2.2.2.2
  let pI:=pB.2.2.2.2
  let pO:=pI.2.2.2.2
  let pU:=pO.2.2.2.2
  let qA:=pU.2.2.2.2
  let qG:=qA.2.2.2.2
  let qM:=qG.2.2.2.2
  let qS:=qM.2.2.2.2
  let qY:=qS.2.2.2.2
  let rE:=qY.2.2.2.2
  let rK:=rE.2.2.2.2
  let rQ:=rK.2.2.2.2
  let rW:=rQ.2.2.2.2
  (AQ4 d4 d8 d5.1.1 d9.2.1 d9.2.2.1 d9.2.2.2.1 pB.1 pB.2.1 pB.2.2.1 pB.2.2.2.1 pI.1 pI.2.1 pI.2.2.1 pI.2.2.2.1 pO.1 pO.2.1 pO.2.2.1 pO.2.2.2.1 pU.1 pU.2.1 pU.2.2.1 pU.2.2.2.1 qA.1 qA.2.1 qA.2.2.1 qA.2.2.2.1 qG.1 qG.2.1 qG.2.2.1 qG.2.2.2.1 qM.1 qM.2.1 qM.2.2.1 qM.2.2.2.1 qS.1 qS.2.1 qS.2.2.1 qS.2.2.2.1 qY.1 qY.2.1 qY.2.2.1 qY.2.2.2.1 rE.1 rE.2.1 rE.2.2.1 rE.2.2.2.1 rK.1 rK.2.1 rK.2.2.1 rK.2.2.2.1 rQ.1 rQ.2.1 rQ.2.2.1 rQ.2.2.2.1 rW.1 rW.2.1 rW.2.2.1 rW.2.2.2).bind fun e0=>
  let pC:=e0.2.2.2.2
  let pJ:=pC.2.2.2.2
  let pP:=pJ.2.2.2.2
  let pV:=pP.2.2.2.2
  let qB:=pV.2.2.2.2
  let qH:=qB.2.2.2.2
  let qN:=qH.2.2.2.2
  let qT:=qN.2.2.2.2
  let qZ:=qT.2.2.2.2
  let rF:=qZ.2.2.2.2
  let rL:=rF.2.2.2.2
  let rR:=rL.2.2.2.2
  let rX:=rR.2.2.2.2
  Option.bind (
   (bif e0.1.2.2.2 then
    (AQ7 e0.1 d5.1.1 e0.2.1 e0.2.2.1 e0.2.2.2.1 pC.1 pC.2.1 pC.2.2.1 pC.2.2.2.1 pJ.1 pJ.2.1 pJ.2.2.1 pJ.2.2.2.1 pP.1 pP.2.1 pP.2.2.1 pP.2.2.2.1 pV.1 pV.2.1 pV.2.2.1 pV.2.2.2.1 qB.1 qB.2.1 qB.2.2.1 qB.2.2.2.1 qH.1 qH.2.1 qH.2.2.1 qH.2.2.2.1 qN.1 qN.2.1 qN.2.2.1 qN.2.2.2.1 qT.1 qT.2.1 qT.2.2.1 qT.2.2.2.1 qZ.1 qZ.2.1 qZ.2.2.1 qZ.2.2.2.1 rF.1 rF.2.1 rF.2.2.1 rF.2.2.2.1 rL.1 rL.2.1 rL.2.2.1 rL.2.2.2.1 rR.1 rR.2.1 rR.2.2.1 rR.2.2.2.1 rX.1 rX.2.1 rX.2.2.1 rX.2.2.2).bind fun e1=>
    let pD:=e1.2.2.2.2
    let pK:=pD.2.2.2.2
    let pQ:=pK.2.2.2.2
    let pW:=pQ.2.2.2.2
    let qC:=pW.2.2.2.2
    let qI:=qC.2.2.2.2
    let qO:=qI.2.2.2.2
    let qU:=qO.2.2.2.2
    let rA:=qU.2.2.2.2
    let rG:=rA.2.2.2.2
    let rM:=rG.2.2.2.2
    let rS:=rM.2.2.2.2
    let rY:=rS.2.2.2.2
    some (qO.1,qO.2.2.2.1,rA.2.1,qU.2.2.1,rG.1,rM.2.2.1,rG.2.2.2.1,rS.2.1,rY.1,e1.1,pD.2.2.1,e1.2.2.2.1,pK.2.1,pQ.1,pW.2.2.1,pQ.2.2.2.1,qC.2.1,qI.1,qO.2.2.1,qI.2.2.2.1,qU.2.1,rA.2.2.2.1,rA.1,rG.2.2.1,rM.2.1,rS.2.2.2.1,rS.1,rY.2.2,e1.2.2.1,pD.2.1,pK.2.2.2.1,pK.1,pQ.2.2.1,qC.1,pW.2.1,qC.2.2.2.1,qI.2.2.1,qU.1,qO.2.1,qU.2.2.2.1,rA.2.2.1,rM.1,rG.2.1,rM.2.2.2.1,rS.2.2.1,e1.2.1,rY.2.1,pD.1,pD.2.2.2.1,pQ.2.1,pK.2.2.1,pW.1,pW.2.2.2.1,qI.2.1,qC.2.2.1)
   else
    some (qN.2.1,qT.1,qZ.2.2.1,qT.2.2.2.1,rF.2.1,rL.2.2.2.1,rL.1,rR.2.2.1,rX.2.1,e0.2.1,pC.2.2.2.1,pC.1,pJ.2.2.1,pP.2.1,pV.2.2.2.1,pV.1,qB.2.2.1,qH.2.1,qN.2.2.2.1,qN.1,qT.2.2.1,rF.1,qZ.2.1,rF.2.2.2.1,rL.2.2.1,rX.1,rR.2.1,rX.2.2.2,e0.2.2.2.1,pC.2.2.1,pP.1,pJ.2.1,pP.2.2.2.1,qB.2.1,pV.2.2.1,qH.1,qH.2.2.2.1,qT.2.1,qN.2.2.1,qZ.1,qZ.2.2.2.1,rL.2.1,rF.2.2.1,rR.1,rR.2.2.2.1,e0.2.2.1,rX.2.2.1,pC.2.1,pJ.1,pP.2.2.1,pJ.2.2.2.1,pV.2.1,qB.1,qH.2.2.1,qB.2.2.2.1))) fun e2=>
  let pE:=e2.2.2.2.2
  let pL:=pE.2.2.2.2
  let pR:=pL.2.2.2.2
  let pX:=pR.2.2.2.2
  let qD:=pX.2.2.2.2
  let qJ:=qD.2.2.2.2
  let qP:=qJ.2.2.2.2
  let qV:=qP.2.2.2.2
  let rB:=qV.2.2.2.2
  let rH:=rB.2.2.2.2
  let rN:=rH.2.2.2.2
  let rT:=rN.2.2.2.2
  let rZ:=rT.2.2.2.2
  let e3:=e2.1
  let e4:=e2.2.1
  let e5:=e2.2.2.1
  let e6:=e2.2.2.2.1
  let e7:(List E3):=pE.1
  let e8:=pE.2.1
  let e9:=pE.2.2.1
  let f0:=pE.2.2.2.1
  let f1:=pL.1
  let f2:=pL.2.1
  let f3:=pL.2.2.1
  let f4:=pL.2.2.2.1
  let f5:=pR.1
  let f6:=pR.2.1
  let f7:=pR.2.2.1
  let f8:(List Yd3):=pR.2.2.2.1
  let f9:=pX.1
  let g0:=pX.2.1
  let g1:=pX.2.2.1
  let g2:=pX.2.2.2.1
  let g3:=qD.1
  let g4:=qD.2.1
  let g5:=qD.2.2.1
  let g6:=qD.2.2.2.1
  let g7:=qJ.1
  let g8:=qJ.2.1
  let g9:=qJ.2.2.1
  let h0:=qJ.2.2.2.1
  let h1:=qP.1
  let h2:=qP.2.1
  let h3:=qP.2.2.1
  let h4:=qP.2.2.2.1
  let h5:(List Yd1):=qV.1
  let h6:(List Int):=qV.2.1
  let h7:=qV.2.2.1
  let h8:=qV.2.2.2.1
  let h9:=rB.1
  let i0:=rB.2.1
  let i1:=rB.2.2.1
  let i2:=rB.2.2.2.1
  let i3:=rH.1
  let i4:=rH.2.1
  let i5:=rH.2.2.1
  let i6:=rH.2.2.2.1
  let i7:=rN.1
  let i8:=rN.2.1
  let i9:=rN.2.2.1
  let j0:=rN.2.2.2.1
  let j1:=rT.1
  let j2:=rT.2.1
  let j3:=rT.2.2.1
  let j4:=rT.2.2.2.1
  let j5:=rZ.1
  let j6:=rZ.2.1
  let j7:=rZ.2.2
  let j8:C8:=(f2,(i8,(h1,(f4,(j0,(h2,(f3,(j1,(h4,(f5,(j3,(h3,(f6,j2)))))))))))))
  (Af9 (f1,(i9,h0)) j8 d5.1.2.1 d5.1.2.2.2.1 d9.1 e0.1.2.2.2).bind fun j9=>
  Option.bind (
   (bif j9.2.2 then
    some ((0:Int),false,[],(0:Int),(0:Int),(0:Int),(0:Int))
   else
    some (e5,e6,e7,g4,g5,i2,i3))) fun k0=>
  let pF:=k0.2.2.2.2
  let k1:=k0.1
  let k2:=k0.2.1
  let k3:(List E3):=k0.2.2.1
  let k4:=k0.2.2.2.1
  let k5:=pF.1
  let k6:=pF.2.1
  let k7:=pF.2.2
  let k8:C8:=(f2,(i8,(h1,(f4,(j0,(h2,(f3,(j1,(h4,(f5,(j3,(h3,(f6,j2)))))))))))))
  (Ag0 (e8,i6) k8 d5.1.1 d5.1.2.1).bind fun k9=>
  let l0:AF6:=(g9,(f0,(i7,g8)))
  let l1:C8:=(f2,(i8,(h1,(f4,(j0,(h2,(f3,(j1,(h4,(f5,(j3,(h3,(f6,j2)))))))))))))
  (Ag1 l0 l1 k9.2 b d5.1.1).bind fun l2=>
  (AQ9 d5.1 f2 i8 h1 f4 j0 h2 f3 j1 h4 f5 j3 h3 f6 j2 h5 f8 j4 h7 f7 j5 h6 f9 j7 h8 g0 j6 h9 g2 e3 i1 g1 e4 i0 g3 k2 k6 k5 k1 k7 k4 k3 i5 g6 e9 i4 g7 k9.1 k9.2 l2.1 l2.2.1 l2.2.2.1 l2.2.2.2 j9.1 j9.2.1 j9.2.2 t (4:Int) (0:Int) (0:Int) (0:Int) (0:Int) (0:Int) (0:Int) (0:Int) (0:Int) [] (0:Int) false false (0:Int) (0:Int) e0.1.2.2.2 (!e0.1.2.2.1) false false false (0:Int) (0:Int) (0:Int) (0:Int) (0:Int) (0:Int) (0:Int) d4.2.2.1 d4.2.2.2.1 d4.2.2.2.2.1 d4.2.2.2.2.2).bind fun l3=>
  let pG:=l3.2.2.2.2
  let pM:=pG.2.2.2.2
  let pS:=pM.2.2.2.2
  let pY:=pS.2.2.2.2
  let qE:=pY.2.2.2.2
  let qK:=qE.2.2.2.2
  let qQ:=qK.2.2.2.2
  let qW:=qQ.2.2.2.2
  let rC:=qW.2.2.2.2
  let rI:=rC.2.2.2.2
  let rO:=rI.2.2.2.2
  let rU:=rO.2.2.2.2
  let sA:=rU.2.2.2.2
  let sB:=sA.2.2.2.2
  let sC:=sB.2.2.2.2
  let sD:=sC.2.2.2.2
  let sE:=sD.2.2.2.2
  let sF:=sE.2.2.2.2
  let sG:=sF.2.2.2.2
  let sH:=sG.2.2.2.2
  let l4:L8:=(sA.2.2.2.1,(sB.1,(sB.2.1,((sB.2.2.1,sB.2.2.2.1),(sC.1,((sC.2.1,sC.2.2.1),(sC.2.2.2.1,(sD.1,(sD.2.1,(sD.2.2.1,(sD.2.2.2.1,(sE.1,((sE.2.1,sE.2.2.1),(sE.2.2.2.1,(sF.1,(sF.2.1,(sF.2.2.1,(sF.2.2.2.1,((sG.1,sG.2.1),(sG.2.2.1,(((sG.2.2.2.1,sH.1),(sH.2.1,sH.2.2.1)),sH.2.2.2)))))))))))))))))))))
  some (l4,l3.1,l3.2.1,l3.2.2.1,l3.2.2.2.1,pG.1,pG.2.1,pG.2.2.1,pG.2.2.2.1,pM.1,pM.2.1,pM.2.2.1,pM.2.2.2.1,pS.1,pS.2.1,pS.2.2.1,pS.2.2.2.1,pY.1,pY.2.1,pY.2.2.1,pY.2.2.2.1,qE.1,qE.2.1,qE.2.2.1,qE.2.2.2.1,qK.1,qK.2.1,qK.2.2.1,qK.2.2.2.1,qQ.1,qQ.2.1,qQ.2.2.1,qQ.2.2.2.1,qW.1,qW.2.1,qW.2.2.1,qW.2.2.2.1,rC.1,rC.2.1,rC.2.2.1,rC.2.2.2.1,rI.1,rI.2.1,rI.2.2.1,rI.2.2.2.1,rO.1,rO.2.1,rO.2.2.1,rO.2.2.2.1,rU.1,rU.2.1,rU.2.2.1,rU.2.2.2.1,sA.1,sA.2.1,sA.2.2.1))
noncomputable def Ag4:Con:={f:=25,ps:=[.ref 0 0,.dat (.slice (.slice (.int .u8))),.dat .bool],boxes:=[[dI,dI,dI,dI,dI,dI,dI,dI,dI,dI,dI,dI,dI,dI,.dat (.slice (.agg Yt1)),.dat (.slice (.agg Yt3)),.dat .bool,dI,dI,dI,.dat (.slice (.int .i64)),.dat .bool,.dat (.int .u16),dI,.dat .bool,.dat (.int .u16),dI,dI,dI,dI,dI,dI,dI,dI,.dat .bool,dI,dI,dI,dI,dI,.dat (.slice (.agg I4)),.dat .bool,dI,dI,dI,dI,dI,.dat .bool,.dat .bool,.dat .bool,dI,dI,dI,dI,.dat .bool]],ins:=DP6,nin:=57,outs:=DP4,rs:=[.dat (.agg R0)],A2:=56,F:=fun x=>let a:=x.2.2.2.2.2.2.2.2;let b:=a.2.2.2.2.2.2.2.2;let c:=b.2.2.2.2.2.2.2.2;let d:=c.2.2.2.2.2.2.2.2;let e:=d.2.2.2.2.2.2.2.2;let f:=e.2.2.2.2.2.2.2.2;AR0 x.1 x.2.1 x.2.2.1 x.2.2.2.1 x.2.2.2.2.1 x.2.2.2.2.2.1 x.2.2.2.2.2.2.1 x.2.2.2.2.2.2.2.1 x.2.2.2.2.2.2.2.2.1 a.2.1 a.2.2.1 a.2.2.2.1 a.2.2.2.2.1 a.2.2.2.2.2.1 a.2.2.2.2.2.2.1 a.2.2.2.2.2.2.2.1 a.2.2.2.2.2.2.2.2.1 b.2.1 b.2.2.1 b.2.2.2.1 b.2.2.2.2.1 b.2.2.2.2.2.1 b.2.2.2.2.2.2.1 b.2.2.2.2.2.2.2.1 b.2.2.2.2.2.2.2.2.1 c.2.1 c.2.2.1 c.2.2.2.1 c.2.2.2.2.1 c.2.2.2.2.2.1 c.2.2.2.2.2.2.1 c.2.2.2.2.2.2.2.1 c.2.2.2.2.2.2.2.2.1 d.2.1 d.2.2.1 d.2.2.2.1 d.2.2.2.2.1 d.2.2.2.2.2.1 d.2.2.2.2.2.2.1 d.2.2.2.2.2.2.2.1 d.2.2.2.2.2.2.2.2.1 e.2.1 e.2.2.1 e.2.2.2.1 e.2.2.2.2.1 e.2.2.2.2.2.1 e.2.2.2.2.2.2.1 e.2.2.2.2.2.2.2.1 e.2.2.2.2.2.2.2.2.1 f.2.1 f.2.2.1 f.2.2.2.1 f.2.2.2.2.1 f.2.2.2.2.2.1 f.2.2.2.2.2.2.1 f.2.2.2.2.2.2.2.1 f.2.2.2.2.2.2.2.2}
def Ds9:Hint:=(.mk .plain [H0,(.mk .plain [H0,(.mk .plain [H0,(.mk .plain [H0,(.mk .plain [H0,(.mk .plain [H0,(.mk .plain [H0,(.mk .plain [H0,(.mk .plain [H0,(.mk .plain [H0,(.mk .plain [H0,(.mk .plain [(.mk .plain [H0,(.mk (.join (zP [82,78,79,81,80]) [(.normal,[kI 0 28,kI 0 31,kI 0 37,kB 0 34,⟨.cell 0 40,(.slice (.agg I4)),none⟩,kI 0 46,kI 0 43,kB 0 49,kI 0 52,kI 0 0,kI 0 6,kI 0 3,kI 0 9,kI 0 12,kI 0 18,⟨.cell 0 15,(.slice (.agg Yt3)),none⟩,kB 0 21,kB 0 24,kI 0 30,kI 0 27,kI 0 33,kI 0 39,kI 0 36,kI 0 42,kI 0 45,kI 0 51,kB 0 48,kB 0 54,kI 0 2,kI 0 5,kI 0 11,kI 0 8,⟨.cell 0 14,(.slice (.agg Yt1)),none⟩,⟨.cell 0 20,(.slice (.int .i64)),none⟩,kI 0 17,kI 0 23,kI 0 26,kI 0 32,kI 0 29,kI 0 35,kI 0 38,kI 0 44,kB 0 41,kB 0 47,kI 0 50,kI 0 1,kI 0 53,kI 0 4,kI 0 7,kI 0 13,kI 0 10,kB 0 16,kI 0 19,⟨.cell 0 25,(.int .u16),none⟩,⟨.cell 0 22,(.int .u16),none⟩])]) [])]),(.mk .plain [H0,(.mk .plain [(.mk .plain [H0,(.mk (.join (zP [110,109,108,107]) [(.normal,[kI 0 37,kB 0 34,⟨.cell 0 40,(.slice (.agg I4)),none⟩,kI 0 39,kI 0 36,kI 0 35,kI 0 38])]) [])])])])])])])])])])])])])])])])
theorem Dt0:AT3 ⟨R7 tys,[BI3,BJ1,BJ3,BJ4,BJ6,BJ7,BJ8,BJ9],[],[Ag3],[]⟩ Ag4 Tryz.f25 Ds9=Ag4.F:=by
 funext x
 kernel_rfl
theorem Dt1:A3 Tryz.prog Ag4:=
 BE3 (Γ:=⟨R7 tys,[BI3,BJ1,BJ3,BJ4,BJ6,BJ7,BJ8,BJ9],[],[Ag3],[]⟩) ⟨fun T d h=>AL3 tys AW0 T d h,by simp[Dm7,Dp3,Dp8,Dq8,Dr4,Dr6,Dr8,Dr9],by simp[],by simp[Ds8],AU1 Tryz.prog [] (by kernel_rfl)⟩ (by kernel_rfl) Tryz.func25 rfl (by kernel_rfl) Dt0
noncomputable def X7 [LP](a:C8)(b:F0)(c:(List ((List (List Int))×Bool))):Option (List L8):=
 (AF8 a b).bind fun d=>
 (bif (d.1 != (0:Int)) then
  some ([])
 else
  (AF9 b).bind fun e=>
  (AN8 a e).bind fun f=>
  let pC:=f.2.2.2.2
  let pF:=pC.2.2.2.2
  let pI:=pF.2.2.2.2
  let pL:=pI.2.2.2.2
  let pO:=pL.2.2.2.2
  let pR:=pO.2.2.2.2
  let pU:=pR.2.2.2.2
  let pX:=pU.2.2.2.2
  let qA:=pX.2.2.2.2
  let qD:=qA.2.2.2.2
  let qG:=qD.2.2.2.2
  let qJ:=qG.2.2.2.2
  let qM:=qJ.2.2.2.2
  Option.bind (
   LP.lp (X:=(List L8)) (fun (g:DV0)=>
    let pA:=g.2.2.2.2
    let pD:=pA.2.2.2.2
    let pG:=pD.2.2.2.2
    let pJ:=pG.2.2.2.2
    let pM:=pJ.2.2.2.2
    let pP:=pM.2.2.2.2
    let pS:=pP.2.2.2.2
    let pV:=pS.2.2.2.2
    let pY:=pV.2.2.2.2
    let qB:=pY.2.2.2.2
    let qE:=qB.2.2.2.2
    let qH:=qE.2.2.2.2
    let qK:=qH.2.2.2.2
    let h:=g.1
    let i:=g.2.1
    let j:=g.2.2.1
    let k:=g.2.2.2.1
    let l:=pA.1
    let m:=pA.2.1
    let n:=pA.2.2.1
    let o:(List E3):=pA.2.2.2.1
    let p:=pD.1
    let q:=pD.2.1
    let r:=pD.2.2.1
    let s:=pD.2.2.2.1
    let t:=pG.1
    let u:=pG.2.1
    let v:(List Yd3):=pG.2.2.1
    let w:=pG.2.2.2.1
    let y:=pJ.1
    let z:=pJ.2.1
    let a0:=pJ.2.2.1
    let a1:=pJ.2.2.2.1
    let a2:=pM.1
    let a3:=pM.2.1
    let a4:=pM.2.2.1
    let a5:=pM.2.2.2.1
    let a6:=pP.1
    let a7:=pP.2.1
    let a8:=pP.2.2.1
    let a9:=pP.2.2.2.1
    let b0:=pS.1
    let b1:=pS.2.1
    let b2:=pS.2.2.1
    let b3:=pS.2.2.2.1
    let b4:=pV.1
    let b5:=pV.2.1
    let b6:=pV.2.2.1
    let b7:=pV.2.2.2.1
    let b8:=pY.1
    let b9:=pY.2.1
    let c0:=pY.2.2.1
    let c1:=pY.2.2.2.1
    let c2:=qB.1
    let c3:=qB.2.1
    let c4:=qB.2.2.1
    let c5:=qB.2.2.2.1
    let c6:(List L8):=qE.1
    let c7:=qE.2.1
    let c8:=qE.2.2.1
    let c9:=qE.2.2.2.1
    let d0:=qH.1
    let d1:=qH.2.1
    let d2:=qH.2.2.1
    let d3:(List Yd1):=qH.2.2.2.1
    let d4:=qK.1
    let d5:(List Int):=qK.2.1
    let d6:=qK.2.2.1
    let d7:=qK.2.2.2.1
    let d8:=qK.2.2.2.2
    let d9:=decide (c9<c.length)
    (bif d9 then
     chk none (decide (0≤c9)&&decide (c9<c.length))<|
     let e0:((List (List Int))×Bool):=(c.getD c9.toNat ([],false))
     chk none (decide (0≤c9)&&decide (c9<c.length))<|
     let e1:((List (List Int))×Bool):=(c.getD c9.toNat ([],false))
     (AR0 e0.1 e1.2 r b3 a2 c1 b2 d2 t i a4 s b4 a3 c2 k d3 v j a5 u b5 d5 c3 m d4 w l a6 c5 b6 d6 c4 n a8 y b8 a7 c7 b7 d7 a0 o b0 z b9 a9 c8 q d8 a1 p b1 d1 c0 h d0).bind fun e2=>
     let pB:=e2.2.2.2.2
     let pE:=pB.2.2.2.2
     let pH:=pE.2.2.2.2
     let pK:=pH.2.2.2.2
     let pN:=pK.2.2.2.2
     let pQ:=pN.2.2.2.2
     let pT:=pQ.2.2.2.2
     let pW:=pT.2.2.2.2
     let pZ:=pW.2.2.2.2
     let qC:=pZ.2.2.2.2
     let qF:=qC.2.2.2.2
     let qI:=qF.2.2.2.2
     let qL:=qI.2.2.2.2
     let e3:(List L8):=([e2.1]:List L8)
     chk none (decide ((c6.length+e3.length)*232≤140737488355328))<|
     let e4:(List L8):=(c6++e3)
     let e5:=IntKind.wrap .i64 (c9+1)
     some (.inl (qL.2.2.1,pE.1,pK.2.1,pH.2.2.1,pQ.2.2.1,pN.2.2.2.1,pW.1,qC.2.1,qI.2.2.1,qF.2.2.2.1,e2.2.1,pE.2.2.1,pB.2.2.2.1,pK.2.2.2.1,pK.1,pQ.2.1,pW.2.2.1,qC.2.2.2.1,qC.1,qI.2.1,e2.2.2.2.1,pH.1,pE.2.1,pK.2.2.1,pQ.2.2.2.1,pZ.1,pW.2.1,qF.2.1,qC.2.2.1,qI.2.2.2.1,pB.2.1,e2.2.2.1,pE.2.2.2.1,pN.1,pT.2.1,pZ.2.2.1,pW.2.2.2.1,qF.1,qL.2.1,pB.1,pH.2.1,pN.2.2.1,pT.2.2.2.1,pT.1,e4,pZ.2.1,qF.2.2.1,e5,qL.2.2.2,qL.1,pB.2.2.1,pH.2.2.2.1,pQ.1,pN.2.1,pT.2.2.1,pZ.2.2.2.1,qI.1))
    else
     some (.inr c6))) (qM.2.1,pC.2.2.2.1,pL.1,pI.2.1,pR.2.1,pO.2.2.1,pU.2.2.2.1,qD.1,qJ.2.1,qG.2.2.1,f.1,pF.2.1,pC.2.2.1,pL.2.2.1,pI.2.2.2.1,pR.1,pX.2.1,qD.2.2.1,qA.2.2.2.1,qJ.1,f.2.2.1,pF.2.2.2.1,pF.1,pL.2.1,pR.2.2.1,pX.2.2.2.1,pX.1,qG.1,qD.2.1,qJ.2.2.1,pC.1,f.2.1,pF.2.2.1,pL.2.2.2.1,pU.1,qA.2.1,pX.2.2.1,qD.2.2.2.1,qM.1,f.2.2.2.1,pI.1,pO.2.1,pU.2.2.1,pR.2.2.2.1,[],qA.1,qG.2.1,(0:Int),qM.2.2,qJ.2.2.2.1,pC.2.1,pI.2.2.1,pO.2.2.2.1,pO.1,pU.2.1,qA.2.2.1,qG.2.2.2.1)) fun e6=>
  some e6)
noncomputable def Ag5:Con:={f:=13,ps:=[.dat (.agg C9),.dat (.agg E7),.dat (.slice (.agg (.pair (.slice (.slice (.int .u8))) .bool)))],boxes:=[],ins:=DV1,nin:=3,outs:=(.slice (.agg R0)),rs:=[.dat (.slice (.agg R0))],A2:=1,F:=fun x=>X7 x.1 x.2.1 x.2.2}
def Dt2:Hint:=(.mk .plain [H0,(.mk .plain [H0,(.mk .plain [H0,(.mk .plain [H0,(.mk .plain [H0,(.mk .plain [(.mk .plain [H0,(.mk .plain [(.mk (.loop [kI 2 53,kI 2 7,kB 2 16,kI 2 13,⟨.cell 2 25,(.int .u16),none⟩,⟨.cell 2 22,(.int .u16),none⟩,kI 2 31,⟨.cell 2 40,(.slice (.agg I4)),none⟩,kB 2 49,kI 2 46,kI 2 0,kI 2 9,kI 2 6,kI 2 18,⟨.cell 2 15,(.slice (.agg Yt3)),none⟩,kB 2 24,kI 2 33,kI 2 42,kI 2 39,kB 2 48,kI 2 2,kI 2 11,kI 2 8,kI 2 17,kI 2 26,kI 2 35,kI 2 32,kI 2 44,kB 2 41,kI 2 50,kI 2 4,kI 2 1,kI 2 10,kI 2 19,kI 2 28,kI 2 37,kB 2 34,kI 2 43,kI 2 52,kI 2 3,kI 2 12,kB 2 21,kI 2 30,kI 2 27,⟨.slot 10,(.slice (.agg R0)),some 4500049⟩,kI 2 36,kI 2 45,sI 28,kB 2 54,kI 2 51,kI 2 5,⟨.cell 2 14,(.slice (.agg Yt1)),none⟩,kI 2 23,⟨.cell 2 20,(.slice (.int .i64)),none⟩,kI 2 29,kI 2 38,kB 2 47] (zP [36,45,11,29,38,44,31,40,37,46,33,30,42,39,35,32,41,34,43]) [(.exit 0,[⟨.slot 10,(.slice (.agg R0)),some 4500049⟩])]) [])])])])])])])])])
theorem Dt3:AT3 ⟨R7 tys,[BF6,BF7,Ag4],[Ad2],[],[81]⟩ Ag5 Tryz.f13 Dt2=Ag5.F:=by
 funext x
 kernel_rfl
theorem Br9:A3 Tryz.prog Ag5:=
 BE3 (Γ:=⟨R7 tys,[BF6,BF7,Ag4],[Ad2],[],[81]⟩) ⟨fun T d h=>AL3 tys AW0 T d h,by simp[DZ2,DZ4,Dt1],by simp[De0],by simp[],AU1 Tryz.prog [81] (by kernel_rfl)⟩ (by kernel_rfl) Tryz.func13 rfl (by kernel_rfl) Dt3
noncomputable def Bs0 [LP](a:(Int×Int))(b:Int):Option Bool:=
 let c:=(bif (decide (a.1≤b)) then (decide (b≤a.2)) else false)
 some c
noncomputable def Bs1:Con:={f:=17,ps:=[.dat (.agg (.pair (.int .i64) (.int .i64))),dI],boxes:=[],ins:=(.pair (.agg (.pair (.int .i64) (.int .i64))) (.int .i64)),nin:=2,outs:=.bool,rs:=[.dat .bool],A2:=1,F:=fun x=>Bs0 x.1 x.2}
theorem Dt4:A3 Tryz.prog Bs1:=
 cgo (l:=[]) (o:=[]) H0 (by simp) (by simp) Tryz.func17 rfl (by kernel_rfl) (by funext x;kernel_rfl)
noncomputable def Bs2 [LP](a:(Int×Int)):Option Int:=
 (S0 a).bind fun b=>
 (bif (!b) then
  some (0:Int)
 else
  let c:=(IntKind.wrap .u64 a.2)
  let d:=(IntKind.wrap .u64 a.1)
  let e:=IntKind.wrap .u64 (c-d)
  some e)
noncomputable def Bs3:Con:={f:=18,ps:=[.dat (.agg (.pair (.int .i64) (.int .i64)))],boxes:=[],ins:=(.agg (.pair (.int .i64) (.int .i64))),nin:=1,outs:=(.int .u64),rs:=[.dat (.int .u64)],A2:=1,F:=fun x=>Bs2 x}
theorem Dt5:A3 Tryz.prog Bs3:=
 cgo (l:=[u6]) (o:=[]) H0 (by simp[AC0]) (by simp) Tryz.func18 rfl (by kernel_rfl) (by funext x;kernel_rfl)
noncomputable def AI9 [LP](_:Unit):Option Bool:=
 let a:C8:=((1024:Int),((131072:Int),((131072:Int),((0:Int),((0:Int),((0:Int),((1000:Int),((100:Int),((9:Int),((2:Int),((128:Int),((0:Int),((5:Int),(2:Int))))))))))))))
 let b:(List (Int×Int)):=([((0:Int),(0:Int))]:List (Int×Int))
 let c:(List Yd1):=([((9000:Int),(b,[]))]:List Yd1)
 let d:Yd3:=((7:Int),((0:Int),((4000:Int),((0:Int),(0:Int)))))
 let e:F0:=(c,([d]:List Yd3))
 let f:Yd5:=(true,(true,(true,(true,true))))
 let g:AL4:=(((0:Int),(0:Int)),((0:Int),((0:Int),((7:Int),(f,false)))))
 let h:Yd5:=(true,(true,(true,(true,false))))
 let i:AL4:=(((0:Int),(0:Int)),((0:Int),((0:Int),((0:Int),(h,false)))))
 let j:(List AL4):=([g,i]:List AL4)
 (Ac6 j).bind fun k=>
 (X7 a e k).bind fun l=>
 let m:=((l.length:Int)==(2:Int))
 chk none ((true&&(decide ((0:Int)<(l.length:Int))))|| !m)<|
 let n:L8:=(l.getD (0:Int).toNat ((0:Int),((0:Int),((0:Int),(((0:Int),(0:Int)),((0:Int),(((0:Int),(0:Int)),((0:Int),((0:Int),([],((0:Int),(false,(false,(((0:Int),(0:Int)),(false,(false,(false,(false,(false,(((0:Int),(0:Int)),((0:Int),((((0:Int),(0:Int)),((0:Int),(0:Int))),((0:Int),((0:Int),((0:Int),(0:Int))))))))))))))))))))))))))
 let o:=n.2.2.2.2.2.2.2.2.2.2.2.2.2.1
 let p:=(bif m then o else false)
 chk none ((true&&(decide ((1:Int)<(l.length:Int))))|| !p)<|
 let q:L8:=(l.getD (1:Int).toNat ((0:Int),((0:Int),((0:Int),(((0:Int),(0:Int)),((0:Int),(((0:Int),(0:Int)),((0:Int),((0:Int),([],((0:Int),(false,(false,(((0:Int),(0:Int)),(false,(false,(false,(false,(false,(((0:Int),(0:Int)),((0:Int),((((0:Int),(0:Int)),((0:Int),(0:Int))),((0:Int),((0:Int),((0:Int),(0:Int))))))))))))))))))))))))))
 let r:=(q.2.2.1==(7:Int))
 let s:=(bif p then r else false)
 chk none ((true&&(decide ((1:Int)<(l.length:Int))))|| !s)<|
 let t:L8:=(l.getD (1:Int).toNat ((0:Int),((0:Int),((0:Int),(((0:Int),(0:Int)),((0:Int),(((0:Int),(0:Int)),((0:Int),((0:Int),([],((0:Int),(false,(false,(((0:Int),(0:Int)),(false,(false,(false,(false,(false,(((0:Int),(0:Int)),((0:Int),((((0:Int),(0:Int)),((0:Int),(0:Int))),((0:Int),((0:Int),((0:Int),(0:Int))))))))))))))))))))))))))
 let u:=(bif s then (t.2.1==(2:Int)) else false)
 chk none ((true&&(decide ((1:Int)<(l.length:Int))))|| !u)<|
 let v:L8:=(l.getD (1:Int).toNat ((0:Int),((0:Int),((0:Int),(((0:Int),(0:Int)),((0:Int),(((0:Int),(0:Int)),((0:Int),((0:Int),([],((0:Int),(false,(false,(((0:Int),(0:Int)),(false,(false,(false,(false,(false,(((0:Int),(0:Int)),((0:Int),((((0:Int),(0:Int)),((0:Int),(0:Int))),((0:Int),((0:Int),((0:Int),(0:Int))))))))))))))))))))))))))
 let w:=v.2.2.2.2.2.2.2.2.2.2.2.2.2.2.2.1
 let y:=(bif u then w else false)
 chk none ((true&&(decide ((1:Int)<(l.length:Int))))|| !y)<|
 let z:L8:=(l.getD (1:Int).toNat ((0:Int),((0:Int),((0:Int),(((0:Int),(0:Int)),((0:Int),(((0:Int),(0:Int)),((0:Int),((0:Int),([],((0:Int),(false,(false,(((0:Int),(0:Int)),(false,(false,(false,(false,(false,(((0:Int),(0:Int)),((0:Int),((((0:Int),(0:Int)),((0:Int),(0:Int))),((0:Int),((0:Int),((0:Int),(0:Int))))))))))))))))))))))))))
 (bif y then Bs0 z.2.2.2.1 (0:Int) else some false).bind fun a0=>
 let a1:=(bif y then a0 else false)
 chk none ((true&&(decide ((1:Int)<(l.length:Int))))|| !a1)<|
 let a2:L8:=(l.getD (1:Int).toNat ((0:Int),((0:Int),((0:Int),(((0:Int),(0:Int)),((0:Int),(((0:Int),(0:Int)),((0:Int),((0:Int),([],((0:Int),(false,(false,(((0:Int),(0:Int)),(false,(false,(false,(false,(false,(((0:Int),(0:Int)),((0:Int),((((0:Int),(0:Int)),((0:Int),(0:Int))),((0:Int),((0:Int),((0:Int),(0:Int))))))))))))))))))))))))))
 (bif a1 then Bs2 a2.2.2.2.1 else some (0:Int)).bind fun a3=>
 let a4:=decide (a3<(1000:Int))
 let a5:=(bif a1 then a4 else false)
 some a5
noncomputable def Bs4:Con:={f:=10,ps:=[],boxes:=[],ins:=.unit,nin:=0,outs:=.bool,rs:=[.dat .bool],A2:=1,F:=fun x=>AI9 ()}
theorem Dt6:A3 Tryz.prog Bs4:=
 cgo (l:=[Bd0,Ag5,Bs1,Bs3]) (o:=[]) H0 (by simp[DY6,Br9,Dt4,Dt5]) (by simp) Tryz.func10 rfl (by kernel_rfl) (by funext x;kernel_rfl)
noncomputable def Ag6 [LP](a b:L8):Option Bool:=
 let c:=(bif (a.1 != b.1) then true else (a.2.1 != b.2.1))
 let d:=(bif c then true else (a.2.2.1 != b.2.2.1))
 let e:=(!(eqT (.agg (.pair (.int .i64) (.int .i64))) a.2.2.2.1 b.2.2.2.1))
 let f:=(bif d then true else e)
 let g:=(a.2.2.2.2.1 != b.2.2.2.2.1)
 let h:=(bif f then true else g)
 let i:=(!(eqT (.agg (.pair (.int .i64) (.int .i64))) a.2.2.2.2.2.1 b.2.2.2.2.2.1))
 let j:=(bif h then true else i)
 let k:=(a.2.2.2.2.2.2.1 != b.2.2.2.2.2.2.1)
 let l:=(bif j then true else k)
 let m:=(a.2.2.2.2.2.2.2.1 != b.2.2.2.2.2.2.2.1)
 let n:=(bif l then true else m)
 let o:=(a.2.2.2.2.2.2.2.2.2.1 != b.2.2.2.2.2.2.2.2.2.1)
 let p:=(bif n then true else o)
 let q:=(a.2.2.2.2.2.2.2.2.1.length:Int)
 let r:=(b.2.2.2.2.2.2.2.2.1.length:Int)
 let s:=(bif p then true else (q != r))
 (bif s then
  some false
 else
  let t:=(a.2.2.2.2.2.2.2.2.1.length:Int)
  Option.bind (α:=Bool ⊕ Unit) (
   LP.lp (X:=Bool ⊕ Unit) (fun (u:Int)=>
    (bif (decide (u<t)) then
     chk none (decide (0≤u)&&decide (u<a.2.2.2.2.2.2.2.2.1.length))<|
     let v:(List Int):=(a.2.2.2.2.2.2.2.2.1.getD u.toNat [])
     chk none (decide (0≤u)&&decide (u<b.2.2.2.2.2.2.2.2.1.length))<|
     let w:(List Int):=(b.2.2.2.2.2.2.2.2.1.getD u.toNat [])
     let y:=((v.length:Int)!=(w.length:Int))
     (bif y then
      some (.inr (.inl false))
     else
      chk none (decide (0≤u)&&decide (u<a.2.2.2.2.2.2.2.2.1.length))<|
      let z:(List Int):=(a.2.2.2.2.2.2.2.2.1.getD u.toNat [])
      Option.bind (α:=Bool ⊕ Unit) (
       LP.lp (X:=Bool ⊕ Unit) (fun (a0:Int)=>
        let a1:=decide (a0<z.length)
        (bif a1 then
         chk none (decide (0≤u)&&decide (u<a.2.2.2.2.2.2.2.2.1.length))<|
         let a2:(List Int):=(a.2.2.2.2.2.2.2.2.1.getD u.toNat [])
         chk none (decide (0≤a0)&&decide (a0<a2.length))<|
         let a3:=(a2.getD a0.toNat 0)
         chk none (decide (0≤u)&&decide (u<b.2.2.2.2.2.2.2.2.1.length))<|
         let a4:(List Int):=(b.2.2.2.2.2.2.2.2.1.getD u.toNat [])
         chk none (decide (0≤a0)&&decide (a0<a4.length))<|
         let a5:=(a4.getD a0.toNat 0)
         (bif (a3 != a5) then
          some (.inr (.inl false))
         else
          let a6:=IntKind.wrap .i64 (a0+1)
          some (.inl a6))
        else
         some (.inr (.inr ())))) (0:Int)) fun z=>match z with
      | .inl a7=>
       some (.inr (.inl a7))
      | .inr _=>
       let a8:=IntKind.wrap .i64 (u+1)
       some (.inl a8))
    else
     some (.inr (.inr ())))) (0:Int)) fun z=>match z with
  | .inl a9=>
   some a9
  | .inr _=>
   let b0:=a.2.2.2.2.2.2.2.2.2.2.1
   let b1:=b.2.2.2.2.2.2.2.2.2.2.1
   let b2:=a.2.2.2.2.2.2.2.2.2.2.2.1
   let b3:=b.2.2.2.2.2.2.2.2.2.2.2.1
   let b4:=(bif (b0==b1) then (b2==b3) else false)
   let b5:=a.2.2.2.2.2.2.2.2.2.2.2.2.2.1
   let b6:=b.2.2.2.2.2.2.2.2.2.2.2.2.2.1
   let b7:=(bif b4 then (b5==b6) else false)
   let b8:=a.2.2.2.2.2.2.2.2.2.2.2.2.2.2.1
   let b9:=b.2.2.2.2.2.2.2.2.2.2.2.2.2.2.1
   let c0:=(bif b7 then (b8==b9) else false)
   let c1:=a.2.2.2.2.2.2.2.2.2.2.2.2.2.2.2.1
   let c2:=b.2.2.2.2.2.2.2.2.2.2.2.2.2.2.2.1
   let c3:=(bif c0 then (c1==c2) else false)
   let c4:=a.2.2.2.2.2.2.2.2.2.2.2.2.2.2.2.2.1
   let c5:=b.2.2.2.2.2.2.2.2.2.2.2.2.2.2.2.2.1
   let c6:=(bif c3 then (c4==c5) else false)
   let c7:=a.2.2.2.2.2.2.2.2.2.2.2.2.2.2.2.2.2.1
   let c8:=b.2.2.2.2.2.2.2.2.2.2.2.2.2.2.2.2.2.1
   let c9:=(bif c6 then (c7==c8) else false)
   let d0:(Int×Int):=a.2.2.2.2.2.2.2.2.2.2.2.2.1
   let d1:(Int×Int):=b.2.2.2.2.2.2.2.2.2.2.2.2.1
   let d2:=(eqT (.agg (.pair (.int .i64) (.int .i64))) d0 d1)
   let d3:=(bif c9 then d2 else false)
   let d4:(Int×Int):=a.2.2.2.2.2.2.2.2.2.2.2.2.2.2.2.2.2.2.1
   let d5:(Int×Int):=b.2.2.2.2.2.2.2.2.2.2.2.2.2.2.2.2.2.2.1
   let d6:=(eqT (.agg (.pair (.int .i64) (.int .i64))) d4 d5)
   let d7:=(bif d3 then d6 else false)
   let d8:=a.2.2.2.2.2.2.2.2.2.2.2.2.2.2.2.2.2.2.2.1
   let d9:=b.2.2.2.2.2.2.2.2.2.2.2.2.2.2.2.2.2.2.2.1
   let e0:=(bif d7 then (d8==d9) else false)
   let e1:Ao7:=a.2.2.2.2.2.2.2.2.2.2.2.2.2.2.2.2.2.2.2.2.1
   let e2:Ao7:=b.2.2.2.2.2.2.2.2.2.2.2.2.2.2.2.2.2.2.2.2.1
   let e3:=(eqT (.agg V4) e1 e2)
   let e4:=(bif e0 then e3 else false)
   some e4)
noncomputable def Bs5:Con:={f:=21,ps:=[.dat (.agg R0),.dat (.agg R0)],boxes:=[],ins:=DV2,nin:=2,outs:=.bool,rs:=[.dat .bool],A2:=1,F:=fun x=>Ag6 x.1 x.2}
theorem Dt7:A3 Tryz.prog Bs5:=
 cgo (l:=[]) (o:=[]) (.mk .plain [H0,(.mk .plain [H0,(.mk .plain [(.mk .plain [H0,(.mk .plain [(.mk (.loop [sI 81] (zP [91,4,94,83,86,92,89,5,95,87,84,90,93,96,85,82,88,97,100,106,103,109,112,118,115,121,99,102,105,111,108,114,117,123,120,98,104,101,107,113,110,116,119,122,6,124]) [(.ret,[sB 4]),(.exit 0,[])]) [(.mk .plain [H0,(.mk .plain [H0,(.mk .plain [(.mk .plain [(.mk .plain [H0,(.mk .plain [H0,(.mk .plain [H0,(.mk .plain [(.mk (.loop [sI 103] (zP [120,4,106,109,112,118,115,121,104,107,113,110,116,119,122,6,105,111,108,114,117,123]) [(.ret,[sB 4]),(.exit 2,[])]) [])])])])])])])])])])])])])])]) (by simp) (by simp) Tryz.func21 rfl (by kernel_rfl) (by funext x;kernel_rfl)
noncomputable def AR1 [LP](a b:(List L8)):Option Bool:=
 let c:=((a.length:Int)!=(b.length:Int))
 (bif c then
  some false
 else
  Option.bind (α:=Bool ⊕ Unit) (
   LP.lp (X:=Bool ⊕ Unit) (fun (d:Int)=>
    let e:=decide (d<a.length)
    (bif e then
     chk none (decide (0≤d)&&decide (d<a.length))<|
     let f:L8:=(a.getD d.toNat ((0:Int),((0:Int),((0:Int),(((0:Int),(0:Int)),((0:Int),(((0:Int),(0:Int)),((0:Int),((0:Int),([],((0:Int),(false,(false,(((0:Int),(0:Int)),(false,(false,(false,(false,(false,(((0:Int),(0:Int)),((0:Int),((((0:Int),(0:Int)),((0:Int),(0:Int))),((0:Int),((0:Int),((0:Int),(0:Int))))))))))))))))))))))))))
     chk none (decide (0≤d)&&decide (d<b.length))<|
     let g:L8:=(b.getD d.toNat ((0:Int),((0:Int),((0:Int),(((0:Int),(0:Int)),((0:Int),(((0:Int),(0:Int)),((0:Int),((0:Int),([],((0:Int),(false,(false,(((0:Int),(0:Int)),(false,(false,(false,(false,(false,(((0:Int),(0:Int)),((0:Int),((((0:Int),(0:Int)),((0:Int),(0:Int))),((0:Int),((0:Int),((0:Int),(0:Int))))))))))))))))))))))))))
     (Ag6 f g).bind fun h=>
     (bif (!h) then
      some (.inr (.inl false))
     else
      let i:=IntKind.wrap .i64 (d+1)
      some (.inl i))
    else
     some (.inr (.inr ())))) (0:Int)) fun z=>match z with
  | .inl j=>
   some j
  | .inr _=>
   some true)
noncomputable def Bs6:Con:={f:=12,ps:=[.dat (.slice (.agg R0)),.dat (.slice (.agg R0))],boxes:=[],ins:=DV3,nin:=2,outs:=.bool,rs:=[.dat .bool],A2:=1,F:=fun x=>AR1 x.1 x.2}
theorem Dt8:A3 Tryz.prog Bs6:=
 cgo (l:=[Bs5]) (o:=[]) (.mk .plain [H0,(.mk .plain [H0,(.mk .plain [(.mk .plain [H0,(.mk .plain [(.mk (.loop [sI 13] (zP [23,20,4,16,19,22,25,15,21,5,18,24,14,17,26]) [(.ret,[sB 4]),(.exit 0,[])]) [])])])])])]) (by simp[Dt7]) (by simp) Tryz.func12 rfl (by kernel_rfl) (by funext x;kernel_rfl)
noncomputable def Au5 [LP](a:C8)(b:F0)(c:(List ((List (List Int))×Bool)))(d:Int):Option Bool:=
 (Ap3 b c).bind fun e=>
 let f:=decide (d<(0:Int))
 let g:=(bif (!e) then true else f)
 let h:=decide ((c.length:Int)<d)
 let i:=(bif g then true else h)
 (bif i then
  (AI9 ()).bind fun j=>
  some j
 else
  (X7 a b c).bind fun k=>
  chk none (true&&(decide ((0:Int)≤d))&&(decide (d≤(c.length:Int))))<|
  let l:(List ((List (List Int))×Bool)):=((c.take d.toNat).drop (0:Int).toNat)
  (X7 a b l).bind fun m=>
  let n:=(if (k.length:Int)<d then (k.length:Int) else d)
  let o:=((m.length:Int)==n)
  chk none ((true&&(decide ((0:Int)≤(m.length:Int)))&&(decide ((m.length:Int)≤(k.length:Int))))|| !o)<|
  let p:(List L8):=((k.take (m.length:Int).toNat).drop (0:Int).toNat)
  (bif o then AR1 p m else some false).bind fun q=>
  let r:=(bif o then q else false)
  (bif r then AI9 () else some false).bind fun s=>
  let t:=(bif r then s else false)
  some t)
noncomputable def Dt9:Con:={f:=7,ps:=[.dat (.agg C9),.dat (.agg E7),.dat (.slice (.agg (.pair (.slice (.slice (.int .u8))) .bool))),dI],boxes:=[],ins:=DV5,nin:=4,outs:=.bool,rs:=[.dat .bool],A2:=1,F:=fun x=>Au5 x.1 x.2.1 x.2.2.1 x.2.2.2}
theorem Du0:A3 Tryz.prog Dt9:=
 cgo (l:=[Bc4,Bs4,Ag5,Bs6]) (o:=[]) H0 (by simp[DY2,Dt6,Br9,Dt8]) (by simp) Tryz.func7 rfl (by kernel_rfl) (by funext x;kernel_rfl)
end Go.Proofs.YthfjpkdadjemcaaGreat
