/- The functional reading of the code (printed). -/
import Derived.Test.YthfjpkdadjemcaaGreatFnsF2
set_option linter.unusedSimpArgs false
set_option linter.unusedVariables false
namespace Go.Proofs.YthfjpkdadjemcaaGreat
open Go
open Go.IntKind renaming wrap → FN0
noncomputable def AV6 [LP](a b c d e f g h i j k l m n o:Int)(p:(List Yd1))(q:(List Yd3))(r:Bool)(s t u:Int)(v:(List Int))(w:Bool)(y a0:Int)(a1:Bool)(a2 a3 a4 a5 a6 a7 a8 a9 b0:Int)(b1:Bool)(b2 b3 b4 b5 b6:Int)(b7:(List G9))(b8:Bool)(b9 c0 c1 c2 c3:Int)(c4 c5 c6:Bool)(c7 c8 c9 d0:Int)(d1:Bool):Option AF5:=
 (AA5 a).bind fun d2=>
 (AD5 (b3,b4) d2).bind fun d3=>
 (bif (!d3.2) then
  some (b,c,d,e,f,g,h,i,j,k,l,m,n,o,p,q,r,s,t,u,v,w,y,a0,a1,a2,a3,a4,a5,a6,a7,a8,a9,b0,b1,b2,b3,b4,b5,b6,b7,b8,b9,c0,c1,c2,c3,c4,c5,c6,c7,c8,c9,d0,d1)
 else
  (AN8 d3.1 (b9,c0)).bind fun d4=>
  (bif (!d4.2) then
   some (b,c,d,e,f,g,h,i,j,k,l,m,n,o,p,q,r,s,t,u,v,w,y,a0,a1,a2,a3,a4,a5,a6,a7,a8,a9,b0,b1,b2,b3,b4,b5,b6,b7,b8,b9,c0,c1,c2,c3,c4,c5,c6,c7,c8,c9,d0,d1)
  else
   let d5:=FN0 .i64 (a0-c1)
   (AA9 (a4,a5) d4.1 b d5).bind fun d6=>
   let d7:=FN0 .i64 (a3-c2)
   (AA9 (a6,a7) d4.1 b d7).bind fun d8=>
   some (b,c,d,e,f,g,h,i,j,k,l,m,n,o,p,q,r,s,t,u,v,w,y,a0,a1,a2,a3,d6.1.1,d6.1.2,d8.1.1,d8.1.2,a8,a9,b0,b1,b2,b3,b4,b5,b6,b7,b8,b9,c0,c1,c2,c3,c4,c5,c6,c7,c8,c9,d0,d1)))
noncomputable def Bz5:Con:={f:=79,ps:=[.ref 0 0,dI],boxes:=[[dI,dI,dI,dI,dI,dI,dI,dI,dI,dI,dI,dI,dI,dI,.dat (.slice (.agg Yt1)),.dat (.slice (.agg Yt3)),.dat .bool,dI,dI,dI,.dat (.slice tI),.dat .bool,.dat (.int .u16),dI,.dat .bool,.dat (.int .u16),dI,dI,dI,dI,dI,dI,dI,dI,.dat .bool,dI,dI,dI,dI,dI,.dat (.slice (.agg H8)),.dat .bool,dI,dI,dI,dI,dI,.dat .bool,.dat .bool,.dat .bool,dI,dI,dI,dI,.dat .bool]],ins:=Bj5,nin:=56,outs:=X5,rs:=[],A2:=55,F:=fun x=>let a:=x.2.2.2.2.2.2.2.2;let b:=a.2.2.2.2.2.2.2.2;let c:=b.2.2.2.2.2.2.2.2;let d:=c.2.2.2.2.2.2.2.2;let e:=d.2.2.2.2.2.2.2.2;let f:=e.2.2.2.2.2.2.2.2;AV6 x.1 x.2.1 x.2.2.1 x.2.2.2.1 x.2.2.2.2.1 x.2.2.2.2.2.1 x.2.2.2.2.2.2.1 x.2.2.2.2.2.2.2.1 x.2.2.2.2.2.2.2.2.1 a.2.1 a.2.2.1 a.2.2.2.1 a.2.2.2.2.1 a.2.2.2.2.2.1 a.2.2.2.2.2.2.1 a.2.2.2.2.2.2.2.1 a.2.2.2.2.2.2.2.2.1 b.2.1 b.2.2.1 b.2.2.2.1 b.2.2.2.2.1 b.2.2.2.2.2.1 b.2.2.2.2.2.2.1 b.2.2.2.2.2.2.2.1 b.2.2.2.2.2.2.2.2.1 c.2.1 c.2.2.1 c.2.2.2.1 c.2.2.2.2.1 c.2.2.2.2.2.1 c.2.2.2.2.2.2.1 c.2.2.2.2.2.2.2.1 c.2.2.2.2.2.2.2.2.1 d.2.1 d.2.2.1 d.2.2.2.1 d.2.2.2.2.1 d.2.2.2.2.2.1 d.2.2.2.2.2.2.1 d.2.2.2.2.2.2.2.1 d.2.2.2.2.2.2.2.2.1 e.2.1 e.2.2.1 e.2.2.2.1 e.2.2.2.2.1 e.2.2.2.2.2.1 e.2.2.2.2.2.2.1 e.2.2.2.2.2.2.2.1 e.2.2.2.2.2.2.2.2.1 f.2.1 f.2.2.1 f.2.2.2.1 f.2.2.2.2.1 f.2.2.2.2.2.1 f.2.2.2.2.2.2.1 f.2.2.2.2.2.2.2}
theorem EF1:KO Bz5:=
 cgp (l:=[Ab0,Ac6,Az3,Bz4]) (.mk .plain [H0,(.mk .plain [H0,(.mk .plain [H0,(.mk .plain [H0,(.mk .plain [(.mk (.AY1 3) [])])])])])]) (by simp[Al7,Am9,BP4,EF0]) Tryz.func79
noncomputable def AV7 [LP](a:BL7)(b:(Int×Int))(c d e f g h i j k l m n o p:Int)(q:(List Yd1))(r:(List Yd3))(s:Bool)(t u v:Int)(w:(List Int))(y:Bool)(a0 a1:Int)(a2:Bool)(a3 a4 a5 a6 a7 a8 a9 b0 b1:Int)(b2:Bool)(b3 b4 b5 b6 b7:Int)(b8:(List G9))(b9:Bool)(c0 c1 c2 c3 c4:Int)(c5 c6 c7:Bool)(c8 c9 d0 d1:Int)(d2:Bool):Option AF5:=
 let d3:F2:=(c,(d,(e,(f,(g,(h,(i,(j,(k,(l,(m,(n,(o,p)))))))))))))
 (An7 d3 (q,r) a.1 b).bind fun d4=>
 let pA:=d4.2.2.2.2
 let d5:=(bif b2 then b9 else false)
 let d6:=((a.2.1.length:Int)==(1:Int))
 let d7:=(bif d5 then d6 else false)
 Option.bind (
  (bif d7 then
   chk none (true&&(decide ((0:Int)<(a.2.1.length:Int))))<|
   let d8:=(a.2.1.getD (0:Int).toNat 0)
   (AV6 d8 c d e f g h i j k l m n o p q r s t u v w y a0 a1 a2 a3 a4 a5 a6 a7 a8 a9 b0 b1 d4.1 d4.2.1 d4.2.2.1.1 d4.2.2.1.2 d4.2.2.2.1 pA.1 pA.2 b9 c0 c1 c2 c3 c4 c5 c6 c7 c8 c9 d0 d1 d2).bind fun d9=>
   let pB:=d9.2.2.2.2
   let pD:=pB.2.2.2.2
   let pF:=pD.2.2.2.2
   let pH:=pF.2.2.2.2
   let pJ:=pH.2.2.2.2
   let pL:=pJ.2.2.2.2
   let pN:=pL.2.2.2.2
   let pP:=pN.2.2.2.2
   let pR:=pP.2.2.2.2
   let pT:=pR.2.2.2.2
   let pV:=pT.2.2.2.2
   let pX:=pV.2.2.2.2
   let pZ:=pX.2.2.2.2
   some (pN.1,pN.2.2.2.1,pR.2.1,pP.2.2.1,pT.1,pV.2.2.1,pT.2.2.2.1,pX.2.1,pZ.1,d9.1,pB.2.2.1,d9.2.2.2.1,pD.2.1,pF.1,pH.2.2.1,pF.2.2.2.1,pJ.2.1,pL.1,pN.2.2.1,pL.2.2.2.1,pP.2.1,pR.2.2.2.1,pR.1,pT.2.2.1,pV.2.1,pX.2.2.2.1,pX.1,pZ.2.2,d9.2.2.1,pB.2.1,pD.2.2.2.1,pD.1,pF.2.2.1,pJ.1,pH.2.1,pJ.2.2.2.1,pL.2.2.1,pP.1,pN.2.1,pP.2.2.2.1,pR.2.2.1,pV.1,pT.2.1,pV.2.2.2.1,pX.2.2.1,d9.2.1,pZ.2.1,pB.1,pB.2.2.2.1,pF.2.1,pD.2.2.1,pH.1,pH.2.2.2.1,pL.2.1,pJ.2.2.1)
  else
   some (a6,a9,d4.2.2.1.2,d4.1,pA.2,c4,c1,c7,d0,c,i,f,l,o,u,r,y,a2,a8,a5,b1,pA.1,d4.2.2.1.1,c0,c3,c9,c6,d2,e,h,n,k,q,w,t,a1,a4,b0,a7,d4.2.1,d4.2.2.2.1,c2,b9,c5,c8,d,d1,g,j,p,m,s,v,a3,a0))) fun e0=>
 let pC:=e0.2.2.2.2
 let pE:=pC.2.2.2.2
 let pG:=pE.2.2.2.2
 let pI:=pG.2.2.2.2
 let pK:=pI.2.2.2.2
 let pM:=pK.2.2.2.2
 let pO:=pM.2.2.2.2
 let pQ:=pO.2.2.2.2
 let pS:=pQ.2.2.2.2
 let pU:=pS.2.2.2.2
 let pW:=pU.2.2.2.2
 let pY:=pW.2.2.2.2
 let qA:=pY.2.2.2.2
 let e1:=e0.1
 let e2:=e0.2.1
 let e3:=e0.2.2.1
 let e4:=e0.2.2.2.1
 let e5:(List G9):=pC.1
 let e6:=pC.2.1
 let e7:=pC.2.2.1
 let e8:=pC.2.2.2.1
 let e9:=pE.1
 let f0:=pE.2.1
 let f1:=pE.2.2.1
 let f2:=pE.2.2.2.1
 let f3:=pG.1
 let f4:=pG.2.1
 let f5:=pG.2.2.1
 let f6:(List Yd3):=pG.2.2.2.1
 let f7:=pI.1
 let f8:=pI.2.1
 let f9:=pI.2.2.1
 let g0:=pI.2.2.2.1
 let g1:=pK.1
 let g2:=pK.2.1
 let g3:=pK.2.2.1
 let g4:=pK.2.2.2.1
 let g5:=pM.1
 let g6:=pM.2.1
 let g7:=pM.2.2.1
 let g8:=pM.2.2.2.1
 let g9:=pO.1
 let h0:=pO.2.1
 let h1:=pO.2.2.1
 let h2:=pO.2.2.2.1
 let h3:(List Yd1):=pQ.1
 let h4:(List Int):=pQ.2.1
 let h5:=pQ.2.2.1
 let h6:=pQ.2.2.2.1
 let h7:=pS.1
 let h8:=pS.2.1
 let h9:=pS.2.2.1
 let i0:=pS.2.2.2.1
 let i1:=pU.1
 let i2:=pU.2.1
 let i3:=pU.2.2.1
 let i4:=pU.2.2.2.1
 let i5:=pW.1
 let i6:=pW.2.1
 let i7:=pW.2.2.1
 let i8:=pW.2.2.2.1
 let i9:=pY.1
 let j0:=pY.2.1
 let j1:=pY.2.2.1
 let j2:=pY.2.2.2.1
 let j3:=qA.1
 let j4:=qA.2.1
 let j5:=qA.2.2
 let j6:(Int×Int):=(g3,e3)
 let j7:DM2:=((f7,(j5,h6)),(f8,(j4,h7)))
 some (f0,i6,g9,f2,i8,h0,f1,i9,h2,f3,j1,h1,f4,j0,h3,f6,j2,h5,f5,j3,h4,f7,j5,h6,f8,j4,h7,g0,e1,h9,f9,e2,h8,g1,e4,i0,g3,e3,i1,g2,e5,true,j6.1,j6.2,j7.1.2.2,j7.2.2.2,e6,i4,g7,e8,i5,g6,e9,i7,g8)
noncomputable def BP9:Con:={f:=43,ps:=[.ref 0 0,.dat (.agg Aj2),.dat (.agg (.pair tI tI))],boxes:=[[dI,dI,dI,dI,dI,dI,dI,dI,dI,dI,dI,dI,dI,dI,.dat (.slice (.agg Yt1)),.dat (.slice (.agg Yt3)),.dat .bool,dI,dI,dI,.dat (.slice tI),.dat .bool,.dat (.int .u16),dI,.dat .bool,.dat (.int .u16),dI,dI,dI,dI,dI,dI,dI,dI,.dat .bool,dI,dI,dI,dI,dI,.dat (.slice (.agg H8)),.dat .bool,dI,dI,dI,dI,dI,.dat .bool,.dat .bool,.dat .bool,dI,dI,dI,dI,.dat .bool]],ins:=DM3,nin:=57,outs:=X5,rs:=[],A2:=55,F:=fun x=>let a:=x.2.2.2.2.2.2.2.2;let b:=a.2.2.2.2.2.2.2.2;let c:=b.2.2.2.2.2.2.2.2;let d:=c.2.2.2.2.2.2.2.2;let e:=d.2.2.2.2.2.2.2.2;let f:=e.2.2.2.2.2.2.2.2;AV7 x.1 x.2.1 x.2.2.1 x.2.2.2.1 x.2.2.2.2.1 x.2.2.2.2.2.1 x.2.2.2.2.2.2.1 x.2.2.2.2.2.2.2.1 x.2.2.2.2.2.2.2.2.1 a.2.1 a.2.2.1 a.2.2.2.1 a.2.2.2.2.1 a.2.2.2.2.2.1 a.2.2.2.2.2.2.1 a.2.2.2.2.2.2.2.1 a.2.2.2.2.2.2.2.2.1 b.2.1 b.2.2.1 b.2.2.2.1 b.2.2.2.2.1 b.2.2.2.2.2.1 b.2.2.2.2.2.2.1 b.2.2.2.2.2.2.2.1 b.2.2.2.2.2.2.2.2.1 c.2.1 c.2.2.1 c.2.2.2.1 c.2.2.2.2.1 c.2.2.2.2.2.1 c.2.2.2.2.2.2.1 c.2.2.2.2.2.2.2.1 c.2.2.2.2.2.2.2.2.1 d.2.1 d.2.2.1 d.2.2.2.1 d.2.2.2.2.1 d.2.2.2.2.2.1 d.2.2.2.2.2.2.1 d.2.2.2.2.2.2.2.1 d.2.2.2.2.2.2.2.2.1 e.2.1 e.2.2.1 e.2.2.2.1 e.2.2.2.2.1 e.2.2.2.2.2.1 e.2.2.2.2.2.2.1 e.2.2.2.2.2.2.2.1 e.2.2.2.2.2.2.2.2.1 f.2.1 f.2.2.1 f.2.2.2.1 f.2.2.2.2.1 f.2.2.2.2.2.1 f.2.2.2.2.2.2.1 f.2.2.2.2.2.2.2.1 f.2.2.2.2.2.2.2.2}
theorem EF2:KO BP9:=
 cgp (l:=[Bz2,Bz5]) (.mk .plain [H0,(.mk .plain [H0,(.mk .plain [H0,(.mk .plain [(.mk .plain [H0,(.mk (.join (zP [45,48,47,44,43,46]) [(.normal,[kI 0 28,kI 0 31,kI 0 37,kB 0 34,⟨.cell 0 40,(.slice (.agg H8)),none⟩,kI 0 46,kI 0 43,kB 0 49,kI 0 52,kI 0 0,kI 0 6,kI 0 3,kI 0 9,kI 0 12,kI 0 18,⟨.cell 0 15,(.slice (.agg Yt3)),none⟩,kB 0 21,kB 0 24,kI 0 30,kI 0 27,kI 0 33,kI 0 39,kI 0 36,kI 0 42,kI 0 45,kI 0 51,kB 0 48,kB 0 54,kI 0 2,kI 0 5,kI 0 11,kI 0 8,⟨.cell 0 14,(.slice (.agg Yt1)),none⟩,⟨.cell 0 20,(.slice tI),none⟩,kI 0 17,kI 0 23,kI 0 26,kI 0 32,kI 0 29,kI 0 35,kI 0 38,kI 0 44,kB 0 41,kB 0 47,kI 0 50,kI 0 1,kI 0 53,kI 0 4,kI 0 7,kI 0 13,kI 0 10,kB 0 16,kI 0 19,⟨.cell 0 25,(.int .u16),none⟩,⟨.cell 0 22,(.int .u16),none⟩])]) [])]),(.mk .plain [H0,(.mk .plain [H0,(.mk .plain [(.mk (.AY1 3) [])])])])])])])]) (by simp[EE8,EF1]) Tryz.func43
noncomputable def Ad5 [LP](a b:Int)(c:Bool):Option Int:=
 (bif (!c) then
  some (0:Int)
 else
  let d:=FN0 .i64 (a+1)
  let e:=(if b<d then b else d)
  some e)
noncomputable def Bz6:Con:={f:=80,ps:=[dI,dI,.dat .bool],boxes:=[],ins:=(.pair tI (.pair tI .bool)),nin:=3,outs:=tI,rs:=[dI],A2:=1,F:=fun x=>Ad5 x.1 x.2.1 x.2.2}
theorem EF3:KO Bz6:=
 cgp (l:=[]) H0 (by simp) Tryz.func80
noncomputable def AV8 [LP](a:(Int×(Int×Bool)))(b:F2)(c:Int)(d e f:Bool):Option (Int×(Int×Bool)):=
 let pA:=b.2.2.2.2
 let pB:=pA.2.2.2.2
 let pC:=pB.2.2.2.2
 let g:=pC.1
 let h:=FN0 .i64 (g+1)
 let i:=decide (c<(1:Int))
 (Ad5 a.1 h i).bind fun j=>
 let k:=pC.1
 let l:=FN0 .i64 (k+1)
 (Ad5 a.2.1 l d).bind fun m=>
 let n:=pC.1
 let o:=decide (n<j)
 let p:=(bif e then true else o)
 let q:=pC.1
 let r:=decide (q<m)
 let s:=(bif p then true else r)
 let t:=(bif a.2.2 then (!f) else false)
 let u:=(bif s then true else t)
 let v:(Int×(Int×Bool)):=(j,(m,u))
 some v
noncomputable def BQ0:Con:={f:=44,ps:=[.dat (.agg (.pair tI (.pair tI .bool))),.dat (.agg C4),dI,.dat .bool,.dat .bool,.dat .bool],boxes:=[],ins:=DM6,nin:=6,outs:=(.agg (.pair tI (.pair tI .bool))),rs:=[.dat (.agg (.pair tI (.pair tI .bool)))],A2:=1,F:=fun x=>AV8 x.1 x.2.1 x.2.2.1 x.2.2.2.1 x.2.2.2.2.1 x.2.2.2.2.2}
theorem EF4:KO BQ0:=
 cgp (l:=[Bz6]) H0 (by simp[EF3]) Tryz.func44
noncomputable def An8 [LP](a:F2)(b:(Int×Int)):Option Bool:=
 let c:=a.2.2.2.2.2.2.2.2.2.2.1
 let d:=FN0 .i64 (0-c)
 let e:=a.2.2.2.2.2.2.2.2.2.2.1
 (Ac9 b (d,e)).bind fun f=>
 some f
noncomputable def Bz7:Con:={f:=81,ps:=[.dat (.agg C4),.dat (.agg (.pair tI tI))],boxes:=[],ins:=Bj1,nin:=2,outs:=.bool,rs:=[.dat .bool],A2:=1,F:=fun x=>An8 x.1 x.2}
theorem EF5:KO Bz7:=
 cgp (l:=[BP6]) H0 (by simp[Bx9]) Tryz.func81
noncomputable def AV9 [LP](a:(Int×Bool))(b:F2)(c:(Int×Int))(d:Int):Option (Int×Bool):=
 let pA:=b.2.2.2.2
 let pB:=pA.2.2.2.2
 let e:=decide (d<(1:Int))
 (bif !e then An8 b c else some false).bind fun f=>
 let g:=(bif e then true else (!f))
 (bif g then
  let h:(Int×Bool):=((0:Int),false)
  some h
 else
  let i:=FN0 .i64 (a.1+1)
  let j:=(if pB.2.1<i then pB.2.1 else i)
  let k:=decide (pB.2.1≤j)
  let l:(Int×Bool):=(j,k)
  some l)
noncomputable def BQ1:Con:={f:=45,ps:=[.dat (.agg (.pair tI .bool)),.dat (.agg C4),.dat (.agg (.pair tI tI)),dI],boxes:=[],ins:=DM8,nin:=4,outs:=(.agg (.pair tI .bool)),rs:=[.dat (.agg (.pair tI .bool))],A2:=1,F:=fun x=>AV9 x.1 x.2.1 x.2.2.1 x.2.2.2}
theorem EF6:KO BQ1:=
 cgp (l:=[Bz7]) H0 (by simp[EF5]) Tryz.func45
noncomputable def AW0 [LP](a:AR4)(b:F2)(c d:Bool)(e:(Int×Int)):Option AR4:=
 (bif d then
  let f:AR4:=(false,(false,((0:Int),(0:Int))))
  some f
 else
  (bif (!a.1) then
   let g:AR4:=(c,(false,((0:Int),(0:Int))))
   some g
  else
   (AD5 a.2.2 e).bind fun h=>
   Option.bind (
    (bif h.2 then
     some (h.1.1,h.1.2)
    else
     some (a.2.2.1,a.2.2.2))) fun i=>
   let j:=i.1
   let k:=i.2
   let l:=b.2.2.2.2.2.2.2.2.2.2.2.1
   let m:=decide (l<j)
   let n:=(bif a.2.1 then true else m)
   let o:=b.2.2.2.2.2.2.2.2.2.2.2.1
   let p:=FN0 .i64 (0-o)
   let q:=decide (k<p)
   let r:=(bif n then true else q)
   let s:AR4:=(a.1,(r,(j,k)))
   some s))
noncomputable def BQ2:Con:={f:=46,ps:=[.dat (.agg AL1),.dat (.agg C4),.dat .bool,.dat .bool,.dat (.agg (.pair tI tI))],boxes:=[],ins:=DN0,nin:=5,outs:=(.agg AL1),rs:=[.dat (.agg AL1)],A2:=1,F:=fun x=>AW0 x.1 x.2.1 x.2.2.1 x.2.2.2.1 x.2.2.2.2}
theorem EF7:KO BQ2:=
 cgp (l:=[Ac6]) (.mk .plain [H0,(.mk .plain [H0,(.mk .plain [(.mk .plain [H0,(.mk .plain [H0,(.mk (.join [(0,30),(0,31)] [(.normal,[kI 0 2,kI 0 3])]) [])])])])])]) (by simp[Am9]) Tryz.func46
noncomputable def Ad6 [LP](a:(Int×(Int×Bool)))(b:Bool)(c:Int)(d:Bool):Option Int:=
 (bif a.2.2 then
  some (4:Int)
 else
  (bif (!b) then
   some (1:Int)
  else
   let e:=decide (c<(2:Int))
   let f:=(bif e then true else d)
   (bif f then
    some (3:Int)
   else
    some (2:Int))))
noncomputable def BQ3:Con:={f:=83,ps:=[.dat (.agg (.pair tI (.pair tI .bool))),.dat .bool,dI,.dat .bool],boxes:=[],ins:=DN1,nin:=4,outs:=tI,rs:=[dI],A2:=1,F:=fun x=>Ad6 x.1 x.2.1 x.2.2.1 x.2.2.2}
theorem EF8:KO BQ3:=
 cgp (l:=[]) H0 (by simp) Tryz.func83
noncomputable def An9 [LP](a b:Int):Option Int:=
 (AH1 a b).bind fun c=>
 let d:=decide (a<(0:Int))
 (Ac0 c.1 c.2 d).bind fun e=>
 some e
noncomputable def Bz8:Con:={f:=128,ps:=[dI,dI],boxes:=[],ins:=(.pair tI tI),nin:=2,outs:=tI,rs:=[dI],A2:=1,F:=fun x=>An9 x.1 x.2}
theorem EF9:KO Bz8:=
 cgp (l:=[Am7,BO9]) H0 (by simp[Az0,Bv0]) Tryz.func128
noncomputable def AO4 [LP](a:K7)(b:(List Int))(c:AL0)(d:Int):Option (Int×Bool):=
 Option.bind (
  LP.lp (X:=(Bool×Int)) (fun (e:(Bool×(Int×Int)))=>
   let f:=e.1
   let g:=e.2.1
   let h:=e.2.2
   let i:=decide (h<c.2.length)
   (bif i then
    Option.bind (
     chk none (decide (0≤h)&&decide (h<c.2.length))<|
     let j:G9:=(c.2.getD h.toNat ((0:Int),((0:Int),((0:Int),((0:Int),((0:Int),((0:Int),((0:Int),((0:Int),((0:Int),((0:Int),((0:Int),((0:Int),(0:Int))))))))))))))
     let pA:=j.2.2.2.2
     let pB:=pA.2.2.2.2
     let k:=FN0 .i64 (j.1-1)
     chk none ((decide ((0:Int)≤k))&&(decide (k<(12:Int))))<|
     let l:=(List.getD [j.2.1,j.2.2.1,j.2.2.2.1,pA.1,pA.2.1,pA.2.2.1,pA.2.2.2.1,pB.1,pB.2.1,pB.2.2.1,pB.2.2.2.1,pB.2.2.2.2] k.toNat 0)
     chk none (decide (0≤l)&&decide (l<b.length))<|
     let m:=(b.getD l.toNat 0)
     (bif (m==(-1:Int)) then
      some (f,g)
     else
      (S5 c a j).bind fun n=>
      let o:=FN0 .i64 (n+m)
      (An9 o d).bind fun p=>
      let q:=decide (p<g)
      let r:=(bif (!f) then true else q)
      Option.bind (
       (bif r then
        some (p,true)
       else
        some (g,f))) fun s=>
      let t:=s.1
      let u:=s.2
      some (u,t))) fun v=>
    let w:=v.1
    let y:=v.2
    let a0:=FN0 .i64 (h+1)
    some (.inl (w,y,a0))
   else
    some (.inr (f,g)))) (false,(0:Int),(0:Int))) fun a1=>
 let a2:=a1.1
 let a3:=a1.2
 some (a3,a2)
noncomputable def BQ4:Con:={f:=85,ps:=[.dat (.agg E1),.dat (.slice tI),.dat (.agg V5),dI],boxes:=[],ins:=DN4,nin:=4,outs:=(.pair tI .bool),rs:=[dI,.dat .bool],A2:=2,F:=fun x=>AO4 x.1 x.2.1 x.2.2.1 x.2.2.2}
theorem EG0:KO BQ4:=
 cgp (l:=[Aw6,Bz8]) (.mk .plain [H0,(.mk .plain [H0,(.mk .plain [(.mk .plain [H0,(.mk .plain [(.mk (.loop [sB 11,sI 10,sI 19] (zP [30,36,42,39,45,48,14,23,20,26,29,35,32,38,41,47,44,50,13,22,28,25,31,34,40,37,43,46,49,15,21,24,27,33]) [(.exit 0,[sB 11,sI 10])]) [(.mk .plain [H0,(.mk .plain [H0,(.mk .plain [(.mk (.join (zP [30,13,22,28,25,31,14,23,26,29,32,21,24,27,33,36,42,39,45,48,35,38,41,47,44,34,40,37,43,46,49,15]) [(.normal,[sB 11,sI 10])]) [(.mk .plain [H0,(.mk .plain [H0,(.mk .plain [H0,(.mk .plain [H0,(.mk .plain [H0,(.mk (.join [(0,49)] [(.normal,[sI 10,sB 11])]) [])])])])])])])])])])])])])])])]) (by simp[BM0,EF9]) Tryz.func85
noncomputable def AW1 [LP](a:(Int×Int)):Option Int:=
 Option.bind (
  LP.lp (X:=Int) (fun (b:(Int×Int))=>
   let c:=b.1
   let d:=b.2
   let e:=decide ((0:Int)≤c)
   (bif e then
    chk none (decide ((0:Int)≤(FN0 .u64 c)))<|
    let f:=(FN0 .u64 ((1:Int)*2 ^ (min (FN0 .u64 c).toNat 64)))
    let g:=(bits .u64 .or d f)
    (AT3 g g).bind fun h=>
    (AL6 h a).bind fun i=>
    let j:=decide (i≤(0:Int))
    Option.bind (
     (bif j then
      some g
     else
      some d)) fun k=>
    let l:=FN0 .i64 (c-1)
    some (.inl (l,k))
   else
    some (.inr d))) ((63:Int),(0:Int))) fun m=>
 some m
noncomputable def Bz9:Con:={f:=166,ps:=[.dat (.agg (.pair (.int .u64) (.int .u64)))],boxes:=[],ins:=(.agg (.pair (.int .u64) (.int .u64))),nin:=1,outs:=(.int .u64),rs:=[.dat (.int .u64)],A2:=1,F:=fun x=>AW1 x}
theorem EG1:KO Bz9:=
 cgp (l:=[Ax3,Al0]) (.mk .plain [H0,(.mk .plain [H0,(.mk .plain [(.mk .plain [H0,(.mk .plain [(.mk (.loop [sI 4,⟨.slot 3,(.int .u64),none⟩] (zP [7,10,16,13,19,5,8,14,11,17,20,9,6,12,15,21,18]) [(.exit 0,[⟨.slot 3,(.int .u64),none⟩])]) [(.mk .plain [H0,(.mk .plain [(.mk .plain [(.mk .plain [H0,(.mk .plain [H0,(.mk (.join [(0,21)] [(.normal,[⟨.slot 3,(.int .u64),none⟩])]) [])])])])])])])])])])])]) (by simp[BM7,Ax4]) Tryz.func166
noncomputable def Ad7 [LP](a b:Int):Option (Int×Int):=
 let c:=decide (a<(0:Int))
 let d:=decide (b<(0:Int))
 let e:=(bif c then true else d)
 (bif e then
  some ((0:Int),(10:Int))
 else
  (AT3 (FN0 .u64 a) (FN0 .u64 b)).bind fun f=>
  (AW1 f).bind fun g=>
  let h:=(FN0 .i64 g)
  some (h,(0:Int)))
noncomputable def CA0:Con:={f:=130,ps:=[dI,dI],boxes:=[],ins:=(.pair tI tI),nin:=2,outs:=(.pair tI tI),rs:=[dI,dI],A2:=2,F:=fun x=>Ad7 x.1 x.2}
theorem EG2:KO CA0:=
 cgp (l:=[Ax3,Bz9]) H0 (by simp[BM7,EG1]) Tryz.func130
noncomputable def AO5 [LP](a:F2)(b:Int):Option Int:=
 let pA:=a.2.2.2.2
 let c:=pA.2.2.2.2.2.2.2.2.2
 let d:=FN0 .i64 ((2:Int)*c)
 let e:=(if (0:Int)>b then (0:Int) else b)
 (Ad7 d e).bind fun f=>
 let g:=decide (pA.2.2.1<f.1)
 let h:=(bif (f.2 != (0:Int)) then true else g)
 (bif h then
  some pA.2.2.1
 else
  some f.1)
noncomputable def BQ5:Con:={f:=86,ps:=[.dat (.agg C4),dI],boxes:=[],ins:=BL4,nin:=2,outs:=tI,rs:=[dI],A2:=1,F:=fun x=>AO5 x.1 x.2}
theorem EG3:KO BQ5:=
 cgp (l:=[CA0]) H0 (by simp[EG2]) Tryz.func86
noncomputable def AW2 [LP](a:Aj1)(b c d e f g h i j k l m n o:Int)(p:(List Yd1))(q:(List Yd3))(r:Bool)(s t u:Int)(v:(List Int))(w:Bool)(y a0:Int)(a1:Bool)(a2 a3 a4 a5 a6 a7 a8 a9 b0:Int)(b1:Bool)(b2 b3 b4 b5 b6:Int)(b7:(List G9))(b8:Bool)(b9 c0 c1 c2 c3:Int)(c4 c5 c6:Bool)(c7 c8 c9 d0:Int)(d1:Bool)(d2 d3 d4 d5 d6 d7 d8 d9 e0 e1:Int)(e2:(List (List Int)))(e3:Int)(e4 e5:Bool)(e6 e7:Int)(e8 e9 f0 f1 f2:Bool)(f3 f4 f5 f6 f7 f8 f9 g0 g1 g2 g3:Int):Option Dc5:=
 let pA:=a.2.2.2.2
 (AA7 a.1).bind fun g4=>
 let g5:Aw3:=((a4,a5),(a6,a7))
 let g6:(Int×Int):=(c7,c8)
 (Ad6 (c9,(d0,d1)) b1 a.2.1 a.2.2.2.1).bind fun g7=>
 (bif (!b1) then
  some (b,c,d,e,f,g,h,i,j,k,l,m,n,o,p,q,r,s,t,u,v,w,y,a0,a1,a2,a3,a4,a5,a6,a7,a8,a9,b0,b1,b2,b3,b4,b5,b6,b7,b8,b9,c0,c1,c2,c3,c4,c5,c6,c7,c8,c9,d0,d1,d2,g7,d4,d5,d6,d7,a.1.1,a.1.2,g4,b0,e2,a.2.1,a.2.2.1,a.2.2.2.1,pA.1,pA.2,e8,e9,c4,c6,f2,g6.1,g6.2,h,g5.1.1,g5.1.2,g5.2.1,g5.2.2,g0,g1,g2,g3)
 else
  chk none (decide (0≤b2)&&decide (b2<q.length))<|
  let g8:Yd3:=(q.getD b2.toNat ((0:Int),((0:Int),((0:Int),((0:Int),(0:Int))))))
  let g9:(Int×Int):=(b3,b4)
  Option.bind (
   LP.lp (X:=(List (List Int))) (fun (h0:((List (List Int))×Int))=>
    let h1:(List (List Int)):=h0.1
    let h2:=h0.2
    let h3:=decide (h2<b7.length)
    (bif h3 then
     chk none (decide (0≤h2)&&decide (h2<b7.length))<|
     let h4:G9:=(b7.getD h2.toNat ((0:Int),((0:Int),((0:Int),((0:Int),((0:Int),((0:Int),((0:Int),((0:Int),((0:Int),((0:Int),((0:Int),((0:Int),(0:Int))))))))))))))
     (Aa7 h4).bind fun h5=>
     let h6:(List (List Int)):=([h5]:List (List Int))
     chk none (decide ((h1.length+h6.length)*24≤140737488355328))<|
     let h7:(List (List Int)):=(h1++h6)
     let h8:=FN0 .i64 (h2+1)
     some (.inl (h7,h8))
    else
     some (.inr h1))) (e2,(0:Int))) fun h9=>
  (AO4 (p,q) v (b6,b7) b4).bind fun i0=>
  Option.bind (
   (bif i0.2 then
    let i1:F2:=(b,(c,(d,(e,(f,(g,(h,(i,(j,(k,(l,(m,(n,o)))))))))))))
    (AO5 i1 i0.1).bind fun i2=>
    some i2
   else
    some h)) fun i3=>
  let i4:=decide (i3<a.1.2)
  some (b,c,d,e,f,g,h,i,j,k,l,m,n,o,p,q,r,s,t,u,v,w,y,a0,a1,a2,a3,a4,a5,a6,a7,a8,a9,b0,b1,b2,b3,b4,b5,b6,b7,b8,b9,c0,c1,c2,c3,c4,c5,c6,c7,c8,c9,d0,d1,d2,g7,g8.1,g9.1,g9.2,b5,a.1.1,a.1.2,g4,b0,h9,a.2.1,a.2.2.1,a.2.2.2.1,pA.1,pA.2,e8,e9,c4,c6,i4,g6.1,g6.2,i3,g5.1.1,g5.1.2,g5.2.1,g5.2.2,g0,g1,g2,g3))
noncomputable def Ao0:F9:={f:=47,ps:=[.ref 0 0,.ref 1 0,.dat (.agg AR5)],boxes:=[[oI,oI,oI,oI,oI,oI,oI,oI,oI,oI,oI,oI,oI,oI,.dat (.slice (.agg Yt1)),.dat (.slice (.agg Yt3)),.dat .bool,oI,oI,oI,.dat (.slice tI),.dat .bool,.dat (.int .u16),oI,.dat .bool,.dat (.int .u16),oI,oI,oI,oI,oI,oI,oI,oI,.dat .bool,oI,oI,oI,oI,oI,.dat (.slice (.agg H8)),.dat .bool,oI,oI,oI,oI,oI,.dat .bool,.dat .bool,.dat .bool,oI,oI,oI,oI,.dat .bool],[oI,oI,oI,oI,oI,oI,oI,oI,oI,oI,.own 605000065 (.slice tI),oI,.dat .bool,.dat .bool,oI,oI,.dat .bool,.dat .bool,.dat .bool,.dat .bool,.dat .bool,oI,oI,oI,oI,oI,oI,oI,oI,oI,oI,oI]],ins:=Dc6,nin:=88,outs:=Bj7,rs:=[],aft:=[[oI,oI,oI,oI,oI,oI,oI,oI,oI,oI,oI,oI,oI,oI,.dat (.slice (.agg Yt1)),.dat (.slice (.agg Yt3)),.dat .bool,oI,oI,oI,.dat (.slice tI),.dat .bool,.dat (.int .u16),oI,.dat .bool,.dat (.int .u16),oI,oI,oI,oI,oI,oI,oI,oI,.dat .bool,oI,oI,oI,oI,oI,.dat (.slice (.agg H8)),.dat .bool,oI,oI,oI,oI,oI,.dat .bool,.dat .bool,.dat .bool,oI,oI,oI,oI,.dat .bool],[oI,oI,oI,oI,oI,oI,oI,oI,oI,oI,.own 605000065 (.slice tI),oI,.dat .bool,.dat .bool,oI,oI,.dat .bool,.dat .bool,.dat .bool,.dat .bool,.dat .bool,oI,oI,oI,oI,oI,oI,oI,oI,oI,oI,oI]],A2:=87,F:=fun x=>let a:=x.2.2.2.2.2.2.2.2;let b:=a.2.2.2.2.2.2.2.2;let c:=b.2.2.2.2.2.2.2.2;let d:=c.2.2.2.2.2.2.2.2;let e:=d.2.2.2.2.2.2.2.2;let f:=e.2.2.2.2.2.2.2.2;let g:=f.2.2.2.2.2.2.2.2;let h:=g.2.2.2.2.2.2.2.2;let i:=h.2.2.2.2.2.2.2.2;let j:=i.2.2.2.2.2.2.2.2;AW2 x.1 x.2.1 x.2.2.1 x.2.2.2.1 x.2.2.2.2.1 x.2.2.2.2.2.1 x.2.2.2.2.2.2.1 x.2.2.2.2.2.2.2.1 x.2.2.2.2.2.2.2.2.1 a.2.1 a.2.2.1 a.2.2.2.1 a.2.2.2.2.1 a.2.2.2.2.2.1 a.2.2.2.2.2.2.1 a.2.2.2.2.2.2.2.1 a.2.2.2.2.2.2.2.2.1 b.2.1 b.2.2.1 b.2.2.2.1 b.2.2.2.2.1 b.2.2.2.2.2.1 b.2.2.2.2.2.2.1 b.2.2.2.2.2.2.2.1 b.2.2.2.2.2.2.2.2.1 c.2.1 c.2.2.1 c.2.2.2.1 c.2.2.2.2.1 c.2.2.2.2.2.1 c.2.2.2.2.2.2.1 c.2.2.2.2.2.2.2.1 c.2.2.2.2.2.2.2.2.1 d.2.1 d.2.2.1 d.2.2.2.1 d.2.2.2.2.1 d.2.2.2.2.2.1 d.2.2.2.2.2.2.1 d.2.2.2.2.2.2.2.1 d.2.2.2.2.2.2.2.2.1 e.2.1 e.2.2.1 e.2.2.2.1 e.2.2.2.2.1 e.2.2.2.2.2.1 e.2.2.2.2.2.2.1 e.2.2.2.2.2.2.2.1 e.2.2.2.2.2.2.2.2.1 f.2.1 f.2.2.1 f.2.2.2.1 f.2.2.2.2.1 f.2.2.2.2.2.1 f.2.2.2.2.2.2.1 f.2.2.2.2.2.2.2.1 f.2.2.2.2.2.2.2.2.1 g.2.1 g.2.2.1 g.2.2.2.1 g.2.2.2.2.1 g.2.2.2.2.2.1 g.2.2.2.2.2.2.1 g.2.2.2.2.2.2.2.1 g.2.2.2.2.2.2.2.2.1 h.2.1 h.2.2.1 h.2.2.2.1 h.2.2.2.2.1 h.2.2.2.2.2.1 h.2.2.2.2.2.2.1 h.2.2.2.2.2.2.2.1 h.2.2.2.2.2.2.2.2.1 i.2.1 i.2.2.1 i.2.2.2.1 i.2.2.2.2.1 i.2.2.2.2.2.1 i.2.2.2.2.2.2.1 i.2.2.2.2.2.2.2.1 i.2.2.2.2.2.2.2.2.1 j.2.1 j.2.2.1 j.2.2.2.1 j.2.2.2.2.1 j.2.2.2.2.2.1 j.2.2.2.2.2.2.1 j.2.2.2.2.2.2.2}
def EG4:Hint:=(.mk .plain [H0,(.mk .plain [H0,(.mk .plain [H0,(.mk .plain [H0,(.mk .plain [H0,(.mk .plain [H0,(.mk .plain [H0,(.mk .plain [(.mk .plain [H0,(.mk .plain [(.mk (.loop [⟨.cell 1 10,(.slice (.slice tI)),some 605000065⟩,sI 149] (zP [158,7,155,161,164,150,156,153,159,162,151,154,157,163,160,152]) [(.exit 0,[⟨.cell 1 10,(.slice (.slice tI)),some 605000065⟩])]) [])])]),(.mk .plain [(.mk .plain [H0,(.mk .plain [H0,(.mk (.join (zP [190,196,193,189,192,195,194,191,197]) [(.normal,[kI 1 23])]) [])])])])])])])])])])])])
theorem EG5:Ag8 ⟨N8 tys,[AV2,BQ3,Aj4,BQ4,BQ5],[],[],[]⟩ Ao0 Tryz.f47 EG4=Ao0.F:=by
 funext x
 kernel_rfl
theorem EG6:Ah0 Tryz.prog Ao0:=
 Bg5 (Γ:=⟨N8 tys,[AV2,BQ3,Aj4,BQ4,BQ5],[],[],[]⟩) ⟨fun T d h=>AF4 tys AL2 T d h,by simp[An1,EF8,BL9,EG0,EG3],by simp[],by simp[],AK4 Tryz.prog [] (by kernel_rfl)⟩ (by kernel_rfl) Tryz.func47 rfl (by kernel_rfl) rfl EG5
noncomputable def AO6 [LP](a:(List (List Int)))(b:Bool)(c d e f g h i j k l m n o p:Int)(q:(List Yd1))(r:(List Yd3))(s:Bool)(t u v:Int)(w:(List Int))(y:Bool)(a0 a1:Int)(a2:Bool)(a3 a4 a5 a6 a7 a8 a9 b0 b1:Int)(b2:Bool)(b3 b4 b5 b6 b7:Int)(b8:(List G9))(b9:Bool)(c0 c1 c2 c3 c4:Int)(c5 c6 c7:Bool)(c8 c9 d0 d1:Int)(d2:Bool):Option Dc8:=
 let d3:=FN0 .i64 (t+1)
 (bif s then
  let d4:D7:=(t,((4:Int),((0:Int),(((0:Int),(0:Int)),((0:Int),(((0:Int),(0:Int)),((0:Int),((0:Int),([],((0:Int),(false,(false,(((0:Int),(0:Int)),(false,(false,(false,(false,(false,(((0:Int),(0:Int)),((0:Int),((((0:Int),(0:Int)),((0:Int),(0:Int))),((0:Int),((0:Int),((0:Int),(0:Int)))))))))))))))))))))))))
  some (d4,c,d,e,f,g,h,i,j,k,l,m,n,o,p,q,r,s,d3,u,v,w,y,a0,a1,a2,a3,a4,a5,a6,a7,a8,a9,b0,b1,b2,b3,b4,b5,b6,b7,b8,b9,c0,c1,c2,c3,c4,c5,c6,c7,c8,c9,d0,d1,d2)
 else
  (AN5 t a).bind fun d5=>
  (AV3 d5 c d e f g h i j k l m n o p q r s d3 u v w y a0 a1 a2 a3 a4 a5 a6 a7 a8 a9 b0 b1 b2 b3 b4 b5 b6 b7 b8 b9 c0 c1 c2 c3 c4 c5 c6 c7 c8 c9 d0 d1 d2).bind fun d6=>
  let pA:=d6.2.2.2.2
  let pH:=pA.2.2.2.2
  let pN:=pH.2.2.2.2
  let pT:=pN.2.2.2.2
  let pZ:=pT.2.2.2.2
  let qF:=pZ.2.2.2.2
  let qL:=qF.2.2.2.2
  let qR:=qL.2.2.2.2
  let qX:=qR.2.2.2.2
  let rD:=qX.2.2.2.2
  let rJ:=rD.2.2.2.2
  let rP:=rJ.2.2.2.2
  let rV:=rP.2.2.2.2
  let d7:=rD.2.2.1
  let d8:=(bif d7 then d6.1.2.2.1 else false)
  let d9:AF7:=(qR.2.2.2.1,(qX.1,((qX.2.1,qX.2.2.1),(qX.2.2.2.1,(rD.1,rD.2.1)))))
  (AV4 d6.1.1 d6.2.1 d6.2.2.1 d6.2.2.2.1 pA.1 pA.2.1 pA.2.2.1 pA.2.2.2.1 pH.1 pH.2.1 pH.2.2.1 pH.2.2.2.1 pN.1 pN.2.1 pN.2.2.1 pN.2.2.2.1 pT.1 pT.2.1 pT.2.2.1 pT.2.2.2.1 pZ.1 pZ.2.1 pZ.2.2.1 pZ.2.2.2.1 qF.1 qF.2.1 qF.2.2.1 qF.2.2.2.1 qL.1 qL.2.1 qL.2.2.1 qL.2.2.2.1 qR.1 qR.2.1 qR.2.2.1 qR.2.2.2.1 qX.1 qX.2.1 qX.2.2.1 qX.2.2.2.1 rD.1 rD.2.1 d8 rD.2.2.2.1 rJ.1 rJ.2.1 rJ.2.2.1 rJ.2.2.2.1 rP.1 rP.2.1 rP.2.2.1 rP.2.2.2.1 rV.1 rV.2.1 rV.2.2.1 rV.2.2.2).bind fun e0=>
  let pB:=e0.2.2.2.2
  let pI:=pB.2.2.2.2
  let pO:=pI.2.2.2.2
  let pU:=pO.2.2.2.2
  let qA:=pU.2.2.2.2
  let qG:=qA.2.2.2.2
  let qM:=qG.2.2.2.2
  let qS:=qM.2.2.2.2
  let qY:=qS.2.2.2.2
  let rE:=qY.2.2.2.2
  let rK:=rE.2.2.2.2
  let rQ:=rK.2.2.2.2
  let rW:=rQ.2.2.2.2
  (AV5 d5 d9 d6.1.1 e0.2.1 e0.2.2.1 e0.2.2.2.1 pB.1 pB.2.1 pB.2.2.1 pB.2.2.2.1 pI.1 pI.2.1 pI.2.2.1 pI.2.2.2.1 pO.1 pO.2.1 pO.2.2.1 pO.2.2.2.1 pU.1 pU.2.1 pU.2.2.1 pU.2.2.2.1 qA.1 qA.2.1 qA.2.2.1 qA.2.2.2.1 qG.1 qG.2.1 qG.2.2.1 qG.2.2.2.1 qM.1 qM.2.1 qM.2.2.1 qM.2.2.2.1 qS.1 qS.2.1 qS.2.2.1 qS.2.2.2.1 qY.1 qY.2.1 qY.2.2.1 qY.2.2.2.1 rE.1 rE.2.1 rE.2.2.1 rE.2.2.2.1 rK.1 rK.2.1 rK.2.2.1 rK.2.2.2.1 rQ.1 rQ.2.1 rQ.2.2.1 rQ.2.2.2.1 rW.1 rW.2.1 rW.2.2.1 rW.2.2.2).bind fun e1=>
  let pC:=e1.2.2.2.2
  let pJ:=pC.2.2.2.2
  let pP:=pJ.2.2.2.2
  let pV:=pP.2.2.2.2
  let qB:=pV.2.2.2.2
  let qH:=qB.2.2.2.2
  let qN:=qH.2.2.2.2
  let qT:=qN.2.2.2.2
  let qZ:=qT.2.2.2.2
  let rF:=qZ.2.2.2.2
  let rL:=rF.2.2.2.2
  let rR:=rL.2.2.2.2
  let rX:=rR.2.2.2.2
  Option.bind (
   (bif e1.1.2.2.2 then
    (AV7 e1.1 d6.1.1 e1.2.1 e1.2.2.1 e1.2.2.2.1 pC.1 pC.2.1 pC.2.2.1 pC.2.2.2.1 pJ.1 pJ.2.1 pJ.2.2.1 pJ.2.2.2.1 pP.1 pP.2.1 pP.2.2.1 pP.2.2.2.1 pV.1 pV.2.1 pV.2.2.1 pV.2.2.2.1 qB.1 qB.2.1 qB.2.2.1 qB.2.2.2.1 qH.1 qH.2.1 qH.2.2.1 qH.2.2.2.1 qN.1 qN.2.1 qN.2.2.1 qN.2.2.2.1 qT.1 qT.2.1 qT.2.2.1 qT.2.2.2.1 qZ.1 qZ.2.1 qZ.2.2.1 qZ.2.2.2.1 rF.1 rF.2.1 rF.2.2.1 rF.2.2.2.1 rL.1 rL.2.1 rL.2.2.1 rL.2.2.2.1 rR.1 rR.2.1 rR.2.2.1 rR.2.2.2.1 rX.1 rX.2.1 rX.2.2.1 rX.2.2.2).bind fun e2=>
    let pD:=e2.2.2.2.2
    let pK:=pD.2.2.2.2
    let pQ:=pK.2.2.2.2
    let pW:=pQ.2.2.2.2
    let qC:=pW.2.2.2.2
    let qI:=qC.2.2.2.2
    let qO:=qI.2.2.2.2
    let qU:=qO.2.2.2.2
    let rA:=qU.2.2.2.2
    let rG:=rA.2.2.2.2
    let rM:=rG.2.2.2.2
    let rS:=rM.2.2.2.2
    let rY:=rS.2.2.2.2
    some (qO.1,qO.2.2.2.1,rA.2.1,qU.2.2.1,rG.1,rM.2.2.1,rG.2.2.2.1,rS.2.1,rY.1,e2.1,pD.2.2.1,e2.2.2.2.1,pK.2.1,pQ.1,pW.2.2.1,pQ.2.2.2.1,qC.2.1,qI.1,qO.2.2.1,qI.2.2.2.1,qU.2.1,rA.2.2.2.1,rA.1,rG.2.2.1,rM.2.1,rS.2.2.2.1,rS.1,rY.2.2,e2.2.2.1,pD.2.1,pK.2.2.2.1,pK.1,pQ.2.2.1,qC.1,pW.2.1,qC.2.2.2.1,qI.2.2.1,qU.1,qO.2.1,qU.2.2.2.1,rA.2.2.1,rM.1,rG.2.1,rM.2.2.2.1,rS.2.2.1,e2.2.1,rY.2.1,pD.1,pD.2.2.2.1,pQ.2.1,pK.2.2.1,pW.1,pW.2.2.2.1,qI.2.1,qC.2.2.1)
   else
    some (qN.2.1,qT.1,qZ.2.2.1,qT.2.2.2.1,rF.2.1,rL.2.2.2.1,rL.1,rR.2.2.1,rX.2.1,e1.2.1,pC.2.2.2.1,pC.1,pJ.2.2.1,pP.2.1,pV.2.2.2.1,pV.1,qB.2.2.1,qH.2.1,qN.2.2.2.1,qN.1,qT.2.2.1,rF.1,qZ.2.1,rF.2.2.2.1,rL.2.2.1,rX.1,rR.2.1,rX.2.2.2,e1.2.2.2.1,pC.2.2.1,pP.1,pJ.2.1,pP.2.2.2.1,qB.2.1,pV.2.2.1,qH.1,qH.2.2.2.1,qT.2.1,qN.2.2.1,qZ.1,qZ.2.2.2.1,rL.2.1,rF.2.2.1,rR.1,rR.2.2.2.1,e1.2.2.1,rX.2.2.1,pC.2.1,pJ.1,pP.2.2.1,pJ.2.2.2.1,pV.2.1,qB.1,qH.2.2.1,qB.2.2.2.1))) fun e3=>
  let pE:=e3.2.2.2.2
  let pL:=pE.2.2.2.2
  let pR:=pL.2.2.2.2
  let pX:=pR.2.2.2.2
  let qD:=pX.2.2.2.2
  let qJ:=qD.2.2.2.2
  let qP:=qJ.2.2.2.2
  let qV:=qP.2.2.2.2
  let rB:=qV.2.2.2.2
  let rH:=rB.2.2.2.2
  let rN:=rH.2.2.2.2
  let rT:=rN.2.2.2.2
  let rZ:=rT.2.2.2.2
  let e4:=e3.1
  let e5:=e3.2.1
  let e6:=e3.2.2.1
  let e7:=e3.2.2.2.1
  let e8:(List G9):=pE.1
  let e9:=pE.2.1
  let f0:=pE.2.2.1
  let f1:=pE.2.2.2.1
  let f2:=pL.1
  let f3:=pL.2.1
  let f4:=pL.2.2.1
  let f5:=pL.2.2.2.1
  let f6:=pR.1
  let f7:=pR.2.1
  let f8:=pR.2.2.1
  let f9:(List Yd3):=pR.2.2.2.1
  let g0:=pX.1
  let g1:=pX.2.1
  let g2:=pX.2.2.1
  let g3:=pX.2.2.2.1
  let g4:=qD.1
  let g5:=qD.2.1
  let g6:=qD.2.2.1
  let g7:=qD.2.2.2.1
  let g8:=qJ.1
  let g9:=qJ.2.1
  let h0:=qJ.2.2.1
  let h1:=qJ.2.2.2.1
  let h2:=qP.1
  let h3:=qP.2.1
  let h4:=qP.2.2.1
  let h5:=qP.2.2.2.1
  let h6:(List Yd1):=qV.1
  let h7:(List Int):=qV.2.1
  let h8:=qV.2.2.1
  let h9:=qV.2.2.2.1
  let i0:=rB.1
  let i1:=rB.2.1
  let i2:=rB.2.2.1
  let i3:=rB.2.2.2.1
  let i4:=rH.1
  let i5:=rH.2.1
  let i6:=rH.2.2.1
  let i7:=rH.2.2.2.1
  let i8:=rN.1
  let i9:=rN.2.1
  let j0:=rN.2.2.1
  let j1:=rN.2.2.2.1
  let j2:=rT.1
  let j3:=rT.2.1
  let j4:=rT.2.2.1
  let j5:=rT.2.2.2.1
  let j6:=rZ.1
  let j7:=rZ.2.1
  let j8:=rZ.2.2
  let j9:F2:=(f3,(i9,(h2,(f5,(j1,(h3,(f4,(j2,(h5,(f6,(j4,(h4,(f7,j3)))))))))))))
  (AV8 (f2,(j0,h1)) j9 d6.1.2.1 d6.1.2.2.2.1 e0.1 e1.1.2.2.2).bind fun k0=>
  Option.bind (
   (bif k0.2.2 then
    some ((0:Int),false,[],(0:Int),(0:Int),(0:Int),(0:Int))
   else
    some (e6,e7,e8,g5,g6,i3,i4))) fun k1=>
  let pF:=k1.2.2.2.2
  let k2:=k1.1
  let k3:=k1.2.1
  let k4:(List G9):=k1.2.2.1
  let k5:=k1.2.2.2.1
  let k6:=pF.1
  let k7:=pF.2.1
  let k8:=pF.2.2
  let k9:F2:=(f3,(i9,(h2,(f5,(j1,(h3,(f4,(j2,(h5,(f6,(j4,(h4,(f7,j3)))))))))))))
  (AV9 (e9,i7) k9 d6.1.1 d6.1.2.1).bind fun l0=>
  let l1:AR4:=(h0,(f1,(i8,g9)))
  let l2:F2:=(f3,(i9,(h2,(f5,(j1,(h3,(f4,(j2,(h5,(f6,(j4,(h4,(f7,j3)))))))))))))
  (AW0 l1 l2 l0.2 b d6.1.1).bind fun l3=>
  (AW2 d6.1 f3 i9 h2 f5 j1 h3 f4 j2 h5 f6 j4 h4 f7 j3 h6 f9 j5 h8 f8 j6 h7 g0 j8 h9 g1 j7 i0 g3 e4 i2 g2 e5 i1 g4 k3 k7 k6 k2 k8 k5 k4 i6 g7 f0 i5 g8 l0.1 l0.2 l3.1 l3.2.1 l3.2.2.1 l3.2.2.2 k0.1 k0.2.1 k0.2.2 t (4:Int) (0:Int) (0:Int) (0:Int) (0:Int) (0:Int) (0:Int) (0:Int) (0:Int) [] (0:Int) false false (0:Int) (0:Int) e1.1.2.2.2 (!e1.1.2.2.1) false false false (0:Int) (0:Int) (0:Int) (0:Int) (0:Int) (0:Int) (0:Int) d5.2.2.1 d5.2.2.2.1 d5.2.2.2.2.1 d5.2.2.2.2.2).bind fun l4=>
  let pG:=l4.2.2.2.2
  let pM:=pG.2.2.2.2
  let pS:=pM.2.2.2.2
  let pY:=pS.2.2.2.2
  let qE:=pY.2.2.2.2
  let qK:=qE.2.2.2.2
  let qQ:=qK.2.2.2.2
  let qW:=qQ.2.2.2.2
  let rC:=qW.2.2.2.2
  let rI:=rC.2.2.2.2
  let rO:=rI.2.2.2.2
  let rU:=rO.2.2.2.2
  let sA:=rU.2.2.2.2
  let sB:=sA.2.2.2.2
  let sC:=sB.2.2.2.2
  let sD:=sC.2.2.2.2
  let sE:=sD.2.2.2.2
  let sF:=sE.2.2.2.2
  let sG:=sF.2.2.2.2
  let sH:=sG.2.2.2.2
  let l5:D7:=(sA.2.2.2.1,(sB.1,(sB.2.1,((sB.2.2.1,sB.2.2.2.1),(sC.1,((sC.2.1,sC.2.2.1),(sC.2.2.2.1,(sD.1,(sD.2.1,(sD.2.2.1,(sD.2.2.2.1,(sE.1,((sE.2.1,sE.2.2.1),(sE.2.2.2.1,(sF.1,(sF.2.1,(sF.2.2.1,(sF.2.2.2.1,((sG.1,sG.2.1),(sG.2.2.1,(((sG.2.2.2.1,sH.1),(sH.2.1,sH.2.2.1)),sH.2.2.2)))))))))))))))))))))
  some (l5,l4.1,l4.2.1,l4.2.2.1,l4.2.2.2.1,pG.1,pG.2.1,pG.2.2.1,pG.2.2.2.1,pM.1,pM.2.1,pM.2.2.1,pM.2.2.2.1,pS.1,pS.2.1,pS.2.2.1,pS.2.2.2.1,pY.1,pY.2.1,pY.2.2.1,pY.2.2.2.1,qE.1,qE.2.1,qE.2.2.1,qE.2.2.2.1,qK.1,qK.2.1,qK.2.2.1,qK.2.2.2.1,qQ.1,qQ.2.1,qQ.2.2.1,qQ.2.2.2.1,qW.1,qW.2.1,qW.2.2.1,qW.2.2.2.1,rC.1,rC.2.1,rC.2.2.1,rC.2.2.2.1,rI.1,rI.2.1,rI.2.2.1,rI.2.2.2.1,rO.1,rO.2.1,rO.2.2.1,rO.2.2.2.1,rU.1,rU.2.1,rU.2.2.1,rU.2.2.2.1,sA.1,sA.2.1,sA.2.2.1))
noncomputable def AW3:Con:={f:=25,ps:=[.ref 0 0,.dat (.slice (.slice (.int .u8))),.dat .bool],boxes:=[[dI,dI,dI,dI,dI,dI,dI,dI,dI,dI,dI,dI,dI,dI,.dat (.slice (.agg Yt1)),.dat (.slice (.agg Yt3)),.dat .bool,dI,dI,dI,.dat (.slice tI),.dat .bool,.dat (.int .u16),dI,.dat .bool,.dat (.int .u16),dI,dI,dI,dI,dI,dI,dI,dI,.dat .bool,dI,dI,dI,dI,dI,.dat (.slice (.agg H8)),.dat .bool,dI,dI,dI,dI,dI,.dat .bool,.dat .bool,.dat .bool,dI,dI,dI,dI,.dat .bool]],ins:=Dc9,nin:=57,outs:=Dc7,rs:=[.dat (.agg M5)],A2:=56,F:=fun x=>let a:=x.2.2.2.2.2.2.2.2;let b:=a.2.2.2.2.2.2.2.2;let c:=b.2.2.2.2.2.2.2.2;let d:=c.2.2.2.2.2.2.2.2;let e:=d.2.2.2.2.2.2.2.2;let f:=e.2.2.2.2.2.2.2.2;AO6 x.1 x.2.1 x.2.2.1 x.2.2.2.1 x.2.2.2.2.1 x.2.2.2.2.2.1 x.2.2.2.2.2.2.1 x.2.2.2.2.2.2.2.1 x.2.2.2.2.2.2.2.2.1 a.2.1 a.2.2.1 a.2.2.2.1 a.2.2.2.2.1 a.2.2.2.2.2.1 a.2.2.2.2.2.2.1 a.2.2.2.2.2.2.2.1 a.2.2.2.2.2.2.2.2.1 b.2.1 b.2.2.1 b.2.2.2.1 b.2.2.2.2.1 b.2.2.2.2.2.1 b.2.2.2.2.2.2.1 b.2.2.2.2.2.2.2.1 b.2.2.2.2.2.2.2.2.1 c.2.1 c.2.2.1 c.2.2.2.1 c.2.2.2.2.1 c.2.2.2.2.2.1 c.2.2.2.2.2.2.1 c.2.2.2.2.2.2.2.1 c.2.2.2.2.2.2.2.2.1 d.2.1 d.2.2.1 d.2.2.2.1 d.2.2.2.2.1 d.2.2.2.2.2.1 d.2.2.2.2.2.2.1 d.2.2.2.2.2.2.2.1 d.2.2.2.2.2.2.2.2.1 e.2.1 e.2.2.1 e.2.2.2.1 e.2.2.2.2.1 e.2.2.2.2.2.1 e.2.2.2.2.2.2.1 e.2.2.2.2.2.2.2.1 e.2.2.2.2.2.2.2.2.1 f.2.1 f.2.2.1 f.2.2.2.1 f.2.2.2.2.1 f.2.2.2.2.2.1 f.2.2.2.2.2.2.1 f.2.2.2.2.2.2.2.1 f.2.2.2.2.2.2.2.2}
def EG7:Hint:=(.mk .plain [H0,(.mk .plain [H0,(.mk .plain [H0,(.mk .plain [H0,(.mk .plain [H0,(.mk .plain [H0,(.mk .plain [H0,(.mk .plain [H0,(.mk .plain [H0,(.mk .plain [H0,(.mk .plain [H0,(.mk .plain [(.mk .plain [H0,(.mk (.join (zP [82,78,79,81,80]) [(.normal,[kI 0 28,kI 0 31,kI 0 37,kB 0 34,⟨.cell 0 40,(.slice (.agg H8)),none⟩,kI 0 46,kI 0 43,kB 0 49,kI 0 52,kI 0 0,kI 0 6,kI 0 3,kI 0 9,kI 0 12,kI 0 18,⟨.cell 0 15,(.slice (.agg Yt3)),none⟩,kB 0 21,kB 0 24,kI 0 30,kI 0 27,kI 0 33,kI 0 39,kI 0 36,kI 0 42,kI 0 45,kI 0 51,kB 0 48,kB 0 54,kI 0 2,kI 0 5,kI 0 11,kI 0 8,⟨.cell 0 14,(.slice (.agg Yt1)),none⟩,⟨.cell 0 20,(.slice tI),none⟩,kI 0 17,kI 0 23,kI 0 26,kI 0 32,kI 0 29,kI 0 35,kI 0 38,kI 0 44,kB 0 41,kB 0 47,kI 0 50,kI 0 1,kI 0 53,kI 0 4,kI 0 7,kI 0 13,kI 0 10,kB 0 16,kI 0 19,⟨.cell 0 25,(.int .u16),none⟩,⟨.cell 0 22,(.int .u16),none⟩])]) [])]),(.mk .plain [H0,(.mk .plain [(.mk .plain [H0,(.mk (.join (zP [110,109,108,107]) [(.normal,[kI 0 37,kB 0 34,⟨.cell 0 40,(.slice (.agg H8)),none⟩,kI 0 39,kI 0 36,kI 0 35,kI 0 38])]) [])])])])])])])])])])])])])])])])
theorem EG8:AC1 ⟨N8 tys,[BO8,BP5,BP7,BP8,BP9,BQ0,BQ1,BQ2],[],[Ao0],[]⟩ AW3 Tryz.f25 EG7=AW3.F:=by
 funext x
 kernel_rfl
theorem CA1:M4 Tryz.prog AW3:=
 BK7 (Γ:=⟨N8 tys,[BO8,BP5,BP7,BP8,BP9,BQ0,BQ1,BQ2],[],[Ao0],[]⟩) ⟨fun T d h=>AF4 tys AL2 T d h,by simp[EA5,ED1,ED6,EE6,EF2,EF4,EF6,EF7],by simp[],by simp[EG6],AK4 Tryz.prog [] (by kernel_rfl)⟩ (by kernel_rfl) Tryz.func25 rfl (by kernel_rfl) EG8
noncomputable def AI0 [LP](a:F2)(b:K7)(c:(List ((List (List Int))×Bool))):Option (List D7):=
 (AG1 a b).bind fun d=>
 (bif (d.1 != (0:Int)) then
  some ([])
 else
  (AG2 b).bind fun e=>
  (AM5 a e).bind fun f=>
  let pC:=f.2.2.2.2
  let pF:=pC.2.2.2.2
  let pI:=pF.2.2.2.2
  let pL:=pI.2.2.2.2
  let pO:=pL.2.2.2.2
  let pR:=pO.2.2.2.2
  let pU:=pR.2.2.2.2
  let pX:=pU.2.2.2.2
  let qA:=pX.2.2.2.2
  let qD:=qA.2.2.2.2
  let qG:=qD.2.2.2.2
  let qJ:=qG.2.2.2.2
  let qM:=qJ.2.2.2.2
  Option.bind (
   LP.lp (X:=(List D7)) (fun (g:Bj8)=>
    let pA:=g.2.2.2.2
    let pD:=pA.2.2.2.2
    let pG:=pD.2.2.2.2
    let pJ:=pG.2.2.2.2
    let pM:=pJ.2.2.2.2
    let pP:=pM.2.2.2.2
    let pS:=pP.2.2.2.2
    let pV:=pS.2.2.2.2
    let pY:=pV.2.2.2.2
    let qB:=pY.2.2.2.2
    let qE:=qB.2.2.2.2
    let qH:=qE.2.2.2.2
    let qK:=qH.2.2.2.2
    let h:=g.1
    let i:=g.2.1
    let j:=g.2.2.1
    let k:=g.2.2.2.1
    let l:=pA.1
    let m:=pA.2.1
    let n:=pA.2.2.1
    let o:(List G9):=pA.2.2.2.1
    let p:=pD.1
    let q:=pD.2.1
    let r:=pD.2.2.1
    let s:=pD.2.2.2.1
    let t:=pG.1
    let u:=pG.2.1
    let v:(List Yd3):=pG.2.2.1
    let w:=pG.2.2.2.1
    let y:=pJ.1
    let a0:=pJ.2.1
    let a1:=pJ.2.2.1
    let a2:=pJ.2.2.2.1
    let a3:=pM.1
    let a4:=pM.2.1
    let a5:=pM.2.2.1
    let a6:=pM.2.2.2.1
    let a7:=pP.1
    let a8:=pP.2.1
    let a9:=pP.2.2.1
    let b0:=pP.2.2.2.1
    let b1:=pS.1
    let b2:=pS.2.1
    let b3:=pS.2.2.1
    let b4:=pS.2.2.2.1
    let b5:=pV.1
    let b6:=pV.2.1
    let b7:=pV.2.2.1
    let b8:=pV.2.2.2.1
    let b9:=pY.1
    let c0:=pY.2.1
    let c1:=pY.2.2.1
    let c2:=pY.2.2.2.1
    let c3:=qB.1
    let c4:=qB.2.1
    let c5:=qB.2.2.1
    let c6:=qB.2.2.2.1
    let c7:(List D7):=qE.1
    let c8:=qE.2.1
    let c9:=qE.2.2.1
    let d0:=qE.2.2.2.1
    let d1:=qH.1
    let d2:=qH.2.1
    let d3:=qH.2.2.1
    let d4:(List Yd1):=qH.2.2.2.1
    let d5:=qK.1
    let d6:(List Int):=qK.2.1
    let d7:=qK.2.2.1
    let d8:=qK.2.2.2.1
    let d9:=qK.2.2.2.2
    let e0:=decide (d0<c.length)
    (bif e0 then
     chk none (decide (0≤d0)&&decide (d0<c.length))<|
     let e1:((List (List Int))×Bool):=(c.getD d0.toNat ([],false))
     chk none (decide (0≤d0)&&decide (d0<c.length))<|
     let e2:((List (List Int))×Bool):=(c.getD d0.toNat ([],false))
     (AO6 e1.1 e2.2 r b4 a3 c2 b3 d3 t i a5 s b5 a4 c3 k d4 v j a6 u b6 d6 c4 m d5 w l a7 c6 b7 d7 c5 n a9 y b9 a8 c8 b8 d8 a1 o b1 a0 c0 b0 c9 q d9 a2 p b2 d2 c1 h d1).bind fun e3=>
     let pB:=e3.2.2.2.2
     let pE:=pB.2.2.2.2
     let pH:=pE.2.2.2.2
     let pK:=pH.2.2.2.2
     let pN:=pK.2.2.2.2
     let pQ:=pN.2.2.2.2
     let pT:=pQ.2.2.2.2
     let pW:=pT.2.2.2.2
     let pZ:=pW.2.2.2.2
     let qC:=pZ.2.2.2.2
     let qF:=qC.2.2.2.2
     let qI:=qF.2.2.2.2
     let qL:=qI.2.2.2.2
     let e4:(List D7):=([e3.1]:List D7)
     chk none (decide ((c7.length+e4.length)*232≤140737488355328))<|
     let e5:(List D7):=(c7++e4)
     let e6:=FN0 .i64 (d0+1)
     some (.inl (qL.2.2.1,pE.1,pK.2.1,pH.2.2.1,pQ.2.2.1,pN.2.2.2.1,pW.1,qC.2.1,qI.2.2.1,qF.2.2.2.1,e3.2.1,pE.2.2.1,pB.2.2.2.1,pK.2.2.2.1,pK.1,pQ.2.1,pW.2.2.1,qC.2.2.2.1,qC.1,qI.2.1,e3.2.2.2.1,pH.1,pE.2.1,pK.2.2.1,pQ.2.2.2.1,pZ.1,pW.2.1,qF.2.1,qC.2.2.1,qI.2.2.2.1,pB.2.1,e3.2.2.1,pE.2.2.2.1,pN.1,pT.2.1,pZ.2.2.1,pW.2.2.2.1,qF.1,qL.2.1,pB.1,pH.2.1,pN.2.2.1,pT.2.2.2.1,pT.1,e5,pZ.2.1,qF.2.2.1,e6,qL.2.2.2,qL.1,pB.2.2.1,pH.2.2.2.1,pQ.1,pN.2.1,pT.2.2.1,pZ.2.2.2.1,qI.1))
    else
     some (.inr c7))) (qM.2.1,pC.2.2.2.1,pL.1,pI.2.1,pR.2.1,pO.2.2.1,pU.2.2.2.1,qD.1,qJ.2.1,qG.2.2.1,f.1,pF.2.1,pC.2.2.1,pL.2.2.1,pI.2.2.2.1,pR.1,pX.2.1,qD.2.2.1,qA.2.2.2.1,qJ.1,f.2.2.1,pF.2.2.2.1,pF.1,pL.2.1,pR.2.2.1,pX.2.2.2.1,pX.1,qG.1,qD.2.1,qJ.2.2.1,pC.1,f.2.1,pF.2.2.1,pL.2.2.2.1,pU.1,qA.2.1,pX.2.2.1,qD.2.2.2.1,qM.1,f.2.2.2.1,pI.1,pO.2.1,pU.2.2.1,pR.2.2.2.1,[],qA.1,qG.2.1,(0:Int),qM.2.2,qJ.2.2.2.1,pC.2.1,pI.2.2.1,pO.2.2.2.1,pO.1,pU.2.1,qA.2.2.1,qG.2.2.2.1)) fun e7=>
  some e7)
noncomputable def Az5:Con:={f:=13,ps:=[.dat (.agg C4),.dat (.agg E1),.dat (.slice (.agg (.pair (.slice (.slice (.int .u8))) .bool)))],boxes:=[],ins:=Bj9,nin:=3,outs:=(.slice (.agg M5)),rs:=[.dat (.slice (.agg M5))],A2:=1,F:=fun x=>AI0 x.1 x.2.1 x.2.2}
def EG9:Hint:=(.mk .plain [H0,(.mk .plain [H0,(.mk .plain [H0,(.mk .plain [H0,(.mk .plain [H0,(.mk .plain [(.mk .plain [H0,(.mk .plain [(.mk (.loop [kI 2 53,kI 2 7,kB 2 16,kI 2 13,⟨.cell 2 25,(.int .u16),none⟩,⟨.cell 2 22,(.int .u16),none⟩,kI 2 31,⟨.cell 2 40,(.slice (.agg H8)),none⟩,kB 2 49,kI 2 46,kI 2 0,kI 2 9,kI 2 6,kI 2 18,⟨.cell 2 15,(.slice (.agg Yt3)),none⟩,kB 2 24,kI 2 33,kI 2 42,kI 2 39,kB 2 48,kI 2 2,kI 2 11,kI 2 8,kI 2 17,kI 2 26,kI 2 35,kI 2 32,kI 2 44,kB 2 41,kI 2 50,kI 2 4,kI 2 1,kI 2 10,kI 2 19,kI 2 28,kI 2 37,kB 2 34,kI 2 43,kI 2 52,kI 2 3,kI 2 12,kB 2 21,kI 2 30,kI 2 27,⟨.slot 10,(.slice (.agg M5)),some 4500049⟩,kI 2 36,kI 2 45,sI 28,kB 2 54,kI 2 51,kI 2 5,⟨.cell 2 14,(.slice (.agg Yt1)),none⟩,kI 2 23,⟨.cell 2 20,(.slice tI),none⟩,kI 2 29,kI 2 38,kB 2 47] (zP [36,45,11,29,38,44,31,40,37,46,33,30,42,39,35,32,41,34,43]) [(.exit 0,[⟨.slot 10,(.slice (.agg M5)),some 4500049⟩])]) [])])])])])])])])])
theorem EH0:AC1 ⟨N8 tys,[Aj6,Aj7,AW3],[AT6],[],[81]⟩ Az5 Tryz.f13 EG9=Az5.F:=by
 funext x
 kernel_rfl
theorem EH1:M4 Tryz.prog Az5:=
 BK7 (Γ:=⟨N8 tys,[Aj6,Aj7,AW3],[AT6],[],[81]⟩) ⟨fun T d h=>AF4 tys AL2 T d h,by simp[Bl5,Bl7,CA1],by simp[Bp9],by simp[],AK4 Tryz.prog [81] (by kernel_rfl)⟩ (by kernel_rfl) Tryz.func13 rfl (by kernel_rfl) EH0
noncomputable def CA2 [LP](a:(Int×Int))(b:Int):Option Bool:=
 let c:=(bif (decide (a.1≤b)) then (decide (b≤a.2)) else false)
 some c
noncomputable def CA3:Con:={f:=17,ps:=[.dat (.agg (.pair tI tI)),dI],boxes:=[],ins:=(.pair (.agg (.pair tI tI)) tI),nin:=2,outs:=.bool,rs:=[.dat .bool],A2:=1,F:=fun x=>CA2 x.1 x.2}
theorem EH2:KO CA3:=
 cgp (l:=[]) H0 (by simp) Tryz.func17
noncomputable def CA4 [LP](a:(Int×Int)):Option Int:=
 (Q7 a).bind fun b=>
 (bif (!b) then
  some (0:Int)
 else
  let c:=(FN0 .u64 a.2)
  let d:=(FN0 .u64 a.1)
  let e:=FN0 .u64 (c-d)
  some e)
noncomputable def CA5:Con:={f:=18,ps:=[.dat (.agg (.pair tI tI))],boxes:=[],ins:=(.agg (.pair tI tI)),nin:=1,outs:=(.int .u64),rs:=[.dat (.int .u64)],A2:=1,F:=fun x=>CA4 x}
theorem EH3:KO CA5:=
 cgp (l:=[AC6]) H0 (by simp[AF8]) Tryz.func18
noncomputable def Y1 [LP](_:Unit):Option Bool:=
 let a:F2:=((1024:Int),((131072:Int),((131072:Int),((0:Int),((0:Int),((0:Int),((1000:Int),((100:Int),((9:Int),((2:Int),((128:Int),((0:Int),((5:Int),(2:Int))))))))))))))
 let b:(List (Int×Int)):=([((0:Int),(0:Int))]:List (Int×Int))
 let c:(List Yd1):=([((9000:Int),(b,[]))]:List Yd1)
 let d:Yd3:=((7:Int),((0:Int),((4000:Int),((0:Int),(0:Int)))))
 let e:K7:=(c,([d]:List Yd3))
 let f:Yd5:=(true,(true,(true,(true,true))))
 let g:T6:=(((0:Int),(0:Int)),((0:Int),((0:Int),((7:Int),(f,false)))))
 let h:Yd5:=(true,(true,(true,(true,false))))
 let i:T6:=(((0:Int),(0:Int)),((0:Int),((0:Int),((0:Int),(h,false)))))
 let j:(List T6):=([g,i]:List T6)
 (AG0 j).bind fun k=>
 (AI0 a e k).bind fun l=>
 let m:=((l.length:Int)==(2:Int))
 chk none ((true&&(decide ((0:Int)<(l.length:Int))))|| !m)<|
 let n:D7:=(l.getD (0:Int).toNat ((0:Int),((0:Int),((0:Int),(((0:Int),(0:Int)),((0:Int),(((0:Int),(0:Int)),((0:Int),((0:Int),([],((0:Int),(false,(false,(((0:Int),(0:Int)),(false,(false,(false,(false,(false,(((0:Int),(0:Int)),((0:Int),((((0:Int),(0:Int)),((0:Int),(0:Int))),((0:Int),((0:Int),((0:Int),(0:Int))))))))))))))))))))))))))
 let o:=n.2.2.2.2.2.2.2.2.2.2.2.2.2.1
 let p:=(bif m then o else false)
 chk none ((true&&(decide ((1:Int)<(l.length:Int))))|| !p)<|
 let q:D7:=(l.getD (1:Int).toNat ((0:Int),((0:Int),((0:Int),(((0:Int),(0:Int)),((0:Int),(((0:Int),(0:Int)),((0:Int),((0:Int),([],((0:Int),(false,(false,(((0:Int),(0:Int)),(false,(false,(false,(false,(false,(((0:Int),(0:Int)),((0:Int),((((0:Int),(0:Int)),((0:Int),(0:Int))),((0:Int),((0:Int),((0:Int),(0:Int))))))))))))))))))))))))))
 let r:=(q.2.2.1==(7:Int))
 let s:=(bif p then r else false)
 chk none ((true&&(decide ((1:Int)<(l.length:Int))))|| !s)<|
 let t:D7:=(l.getD (1:Int).toNat ((0:Int),((0:Int),((0:Int),(((0:Int),(0:Int)),((0:Int),(((0:Int),(0:Int)),((0:Int),((0:Int),([],((0:Int),(false,(false,(((0:Int),(0:Int)),(false,(false,(false,(false,(false,(((0:Int),(0:Int)),((0:Int),((((0:Int),(0:Int)),((0:Int),(0:Int))),((0:Int),((0:Int),((0:Int),(0:Int))))))))))))))))))))))))))
 let u:=(bif s then (t.2.1==(2:Int)) else false)
 chk none ((true&&(decide ((1:Int)<(l.length:Int))))|| !u)<|
 let v:D7:=(l.getD (1:Int).toNat ((0:Int),((0:Int),((0:Int),(((0:Int),(0:Int)),((0:Int),(((0:Int),(0:Int)),((0:Int),((0:Int),([],((0:Int),(false,(false,(((0:Int),(0:Int)),(false,(false,(false,(false,(false,(((0:Int),(0:Int)),((0:Int),((((0:Int),(0:Int)),((0:Int),(0:Int))),((0:Int),((0:Int),((0:Int),(0:Int))))))))))))))))))))))))))
 let w:=v.2.2.2.2.2.2.2.2.2.2.2.2.2.2.2.1
 let y:=(bif u then w else false)
 chk none ((true&&(decide ((1:Int)<(l.length:Int))))|| !y)<|
 let a0:D7:=(l.getD (1:Int).toNat ((0:Int),((0:Int),((0:Int),(((0:Int),(0:Int)),((0:Int),(((0:Int),(0:Int)),((0:Int),((0:Int),([],((0:Int),(false,(false,(((0:Int),(0:Int)),(false,(false,(false,(false,(false,(((0:Int),(0:Int)),((0:Int),((((0:Int),(0:Int)),((0:Int),(0:Int))),((0:Int),((0:Int),((0:Int),(0:Int))))))))))))))))))))))))))
 (bif y then CA2 a0.2.2.2.1 (0:Int) else some false).bind fun a1=>
 let a2:=(bif y then a1 else false)
 chk none ((true&&(decide ((1:Int)<(l.length:Int))))|| !a2)<|
 let a3:D7:=(l.getD (1:Int).toNat ((0:Int),((0:Int),((0:Int),(((0:Int),(0:Int)),((0:Int),(((0:Int),(0:Int)),((0:Int),((0:Int),([],((0:Int),(false,(false,(((0:Int),(0:Int)),(false,(false,(false,(false,(false,(((0:Int),(0:Int)),((0:Int),((((0:Int),(0:Int)),((0:Int),(0:Int))),((0:Int),((0:Int),((0:Int),(0:Int))))))))))))))))))))))))))
 (bif a2 then CA4 a3.2.2.2.1 else some (0:Int)).bind fun a4=>
 let a5:=decide (a4<(1000:Int))
 let a6:=(bif a2 then a5 else false)
 some a6
noncomputable def BQ6:Con:={f:=10,ps:=[],boxes:=[],ins:=.unit,nin:=0,outs:=.bool,rs:=[.dat .bool],A2:=1,F:=fun x=>Y1 ()}
theorem EH4:KO BQ6:=
 cgp (l:=[Aw8,Az5,CA3,CA5]) H0 (by simp[Bk9,EH1,EH2,EH3]) Tryz.func10
noncomputable def Ao1 [LP](a b:D7):Option Bool:=
 let c:=(bif (a.1 != b.1) then true else (a.2.1 != b.2.1))
 let d:=(bif c then true else (a.2.2.1 != b.2.2.1))
 let e:=(!(eqT (.agg (.pair tI tI)) a.2.2.2.1 b.2.2.2.1))
 let f:=(bif d then true else e)
 let g:=(a.2.2.2.2.1 != b.2.2.2.2.1)
 let h:=(bif f then true else g)
 let i:=(!(eqT (.agg (.pair tI tI)) a.2.2.2.2.2.1 b.2.2.2.2.2.1))
 let j:=(bif h then true else i)
 let k:=(a.2.2.2.2.2.2.1 != b.2.2.2.2.2.2.1)
 let l:=(bif j then true else k)
 let m:=(a.2.2.2.2.2.2.2.1 != b.2.2.2.2.2.2.2.1)
 let n:=(bif l then true else m)
 let o:=(a.2.2.2.2.2.2.2.2.2.1 != b.2.2.2.2.2.2.2.2.2.1)
 let p:=(bif n then true else o)
 let q:=(a.2.2.2.2.2.2.2.2.1.length:Int)
 let r:=(b.2.2.2.2.2.2.2.2.1.length:Int)
 let s:=(bif p then true else (q != r))
 (bif s then
  some false
 else
  let t:=(a.2.2.2.2.2.2.2.2.1.length:Int)
  Option.bind (α:=Bool ⊕ Unit) (
   LP.lp (X:=Bool ⊕ Unit) (fun (u:Int)=>
    (bif (decide (u<t)) then
     chk none (decide (0≤u)&&decide (u<a.2.2.2.2.2.2.2.2.1.length))<|
     let v:(List Int):=(a.2.2.2.2.2.2.2.2.1.getD u.toNat [])
     chk none (decide (0≤u)&&decide (u<b.2.2.2.2.2.2.2.2.1.length))<|
     let w:(List Int):=(b.2.2.2.2.2.2.2.2.1.getD u.toNat [])
     let y:=((v.length:Int)!=(w.length:Int))
     (bif y then
      some (.inr (.inl false))
     else
      chk none (decide (0≤u)&&decide (u<a.2.2.2.2.2.2.2.2.1.length))<|
      let a0:(List Int):=(a.2.2.2.2.2.2.2.2.1.getD u.toNat [])
      Option.bind (α:=Bool ⊕ Unit) (
       LP.lp (X:=Bool ⊕ Unit) (fun (a1:Int)=>
        let a2:=decide (a1<a0.length)
        (bif a2 then
         chk none (decide (0≤u)&&decide (u<a.2.2.2.2.2.2.2.2.1.length))<|
         let a3:(List Int):=(a.2.2.2.2.2.2.2.2.1.getD u.toNat [])
         chk none (decide (0≤a1)&&decide (a1<a3.length))<|
         let a4:=(a3.getD a1.toNat 0)
         chk none (decide (0≤u)&&decide (u<b.2.2.2.2.2.2.2.2.1.length))<|
         let a5:(List Int):=(b.2.2.2.2.2.2.2.2.1.getD u.toNat [])
         chk none (decide (0≤a1)&&decide (a1<a5.length))<|
         let a6:=(a5.getD a1.toNat 0)
         (bif (a4 != a6) then
          some (.inr (.inl false))
         else
          let a7:=FN0 .i64 (a1+1)
          some (.inl a7))
        else
         some (.inr (.inr ())))) (0:Int)) fun z=>match z with
      | .inl a8=>
       some (.inr (.inl a8))
      | .inr _=>
       let a9:=FN0 .i64 (u+1)
       some (.inl a9))
    else
     some (.inr (.inr ())))) (0:Int)) fun z=>match z with
  | .inl b0=>
   some b0
  | .inr _=>
   let b1:=a.2.2.2.2.2.2.2.2.2.2.1
   let b2:=b.2.2.2.2.2.2.2.2.2.2.1
   let b3:=a.2.2.2.2.2.2.2.2.2.2.2.1
   let b4:=b.2.2.2.2.2.2.2.2.2.2.2.1
   let b5:=(bif (b1==b2) then (b3==b4) else false)
   let b6:=a.2.2.2.2.2.2.2.2.2.2.2.2.2.1
   let b7:=b.2.2.2.2.2.2.2.2.2.2.2.2.2.1
   let b8:=(bif b5 then (b6==b7) else false)
   let b9:=a.2.2.2.2.2.2.2.2.2.2.2.2.2.2.1
   let c0:=b.2.2.2.2.2.2.2.2.2.2.2.2.2.2.1
   let c1:=(bif b8 then (b9==c0) else false)
   let c2:=a.2.2.2.2.2.2.2.2.2.2.2.2.2.2.2.1
   let c3:=b.2.2.2.2.2.2.2.2.2.2.2.2.2.2.2.1
   let c4:=(bif c1 then (c2==c3) else false)
   let c5:=a.2.2.2.2.2.2.2.2.2.2.2.2.2.2.2.2.1
   let c6:=b.2.2.2.2.2.2.2.2.2.2.2.2.2.2.2.2.1
   let c7:=(bif c4 then (c5==c6) else false)
   let c8:=a.2.2.2.2.2.2.2.2.2.2.2.2.2.2.2.2.2.1
   let c9:=b.2.2.2.2.2.2.2.2.2.2.2.2.2.2.2.2.2.1
   let d0:=(bif c7 then (c8==c9) else false)
   let d1:(Int×Int):=a.2.2.2.2.2.2.2.2.2.2.2.2.1
   let d2:(Int×Int):=b.2.2.2.2.2.2.2.2.2.2.2.2.1
   let d3:=(eqT (.agg (.pair tI tI)) d1 d2)
   let d4:=(bif d0 then d3 else false)
   let d5:(Int×Int):=a.2.2.2.2.2.2.2.2.2.2.2.2.2.2.2.2.2.2.1
   let d6:(Int×Int):=b.2.2.2.2.2.2.2.2.2.2.2.2.2.2.2.2.2.2.1
   let d7:=(eqT (.agg (.pair tI tI)) d5 d6)
   let d8:=(bif d4 then d7 else false)
   let d9:=a.2.2.2.2.2.2.2.2.2.2.2.2.2.2.2.2.2.2.2.1
   let e0:=b.2.2.2.2.2.2.2.2.2.2.2.2.2.2.2.2.2.2.2.1
   let e1:=(bif d8 then (d9==e0) else false)
   let e2:Aw3:=a.2.2.2.2.2.2.2.2.2.2.2.2.2.2.2.2.2.2.2.2.1
   let e3:Aw3:=b.2.2.2.2.2.2.2.2.2.2.2.2.2.2.2.2.2.2.2.2.1
   let e4:=(eqT (.agg X4) e2 e3)
   let e5:=(bif e1 then e4 else false)
   some e5)
noncomputable def CA6:Con:={f:=21,ps:=[.dat (.agg M5),.dat (.agg M5)],boxes:=[],ins:=Di3,nin:=2,outs:=.bool,rs:=[.dat .bool],A2:=1,F:=fun x=>Ao1 x.1 x.2}
theorem EH5:KO CA6:=
 cgp (l:=[]) (.mk .plain [H0,(.mk .plain [H0,(.mk .plain [(.mk .plain [H0,(.mk .plain [(.mk (.loop [sI 81] (zP [91,4,94,83,86,92,89,5,95,87,84,90,93,96,85,82,88,97,100,106,103,109,112,118,115,121,99,102,105,111,108,114,117,123,120,98,104,101,107,113,110,116,119,122,6,124]) [(.ret,[sB 4]),(.exit 0,[])]) [(.mk .plain [H0,(.mk .plain [H0,(.mk .plain [(.mk .plain [(.mk .plain [H0,(.mk .plain [H0,(.mk .plain [H0,(.mk .plain [(.mk (.loop [sI 103] (zP [120,4,106,109,112,118,115,121,104,107,113,110,116,119,122,6,105,111,108,114,117,123]) [(.ret,[sB 4]),(.exit 2,[])]) [])])])])])])])])])])])])])])]) (by simp) Tryz.func21
noncomputable def Ao2 [LP](a b:(List D7)):Option Bool:=
 let c:=((a.length:Int)!=(b.length:Int))
 (bif c then
  some false
 else
  Option.bind (α:=Bool ⊕ Unit) (
   LP.lp (X:=Bool ⊕ Unit) (fun (d:Int)=>
    let e:=decide (d<a.length)
    (bif e then
     chk none (decide (0≤d)&&decide (d<a.length))<|
     let f:D7:=(a.getD d.toNat ((0:Int),((0:Int),((0:Int),(((0:Int),(0:Int)),((0:Int),(((0:Int),(0:Int)),((0:Int),((0:Int),([],((0:Int),(false,(false,(((0:Int),(0:Int)),(false,(false,(false,(false,(false,(((0:Int),(0:Int)),((0:Int),((((0:Int),(0:Int)),((0:Int),(0:Int))),((0:Int),((0:Int),((0:Int),(0:Int))))))))))))))))))))))))))
     chk none (decide (0≤d)&&decide (d<b.length))<|
     let g:D7:=(b.getD d.toNat ((0:Int),((0:Int),((0:Int),(((0:Int),(0:Int)),((0:Int),(((0:Int),(0:Int)),((0:Int),((0:Int),([],((0:Int),(false,(false,(((0:Int),(0:Int)),(false,(false,(false,(false,(false,(((0:Int),(0:Int)),((0:Int),((((0:Int),(0:Int)),((0:Int),(0:Int))),((0:Int),((0:Int),((0:Int),(0:Int))))))))))))))))))))))))))
     (Ao1 f g).bind fun h=>
     (bif (!h) then
      some (.inr (.inl false))
     else
      let i:=FN0 .i64 (d+1)
      some (.inl i))
    else
     some (.inr (.inr ())))) (0:Int)) fun z=>match z with
  | .inl j=>
   some j
  | .inr _=>
   some true)
noncomputable def BQ7:Con:={f:=12,ps:=[.dat (.slice (.agg M5)),.dat (.slice (.agg M5))],boxes:=[],ins:=Di4,nin:=2,outs:=.bool,rs:=[.dat .bool],A2:=1,F:=fun x=>Ao2 x.1 x.2}
theorem EH6:KO BQ7:=
 cgp (l:=[CA6]) (.mk .plain [H0,(.mk .plain [H0,(.mk .plain [(.mk .plain [H0,(.mk .plain [(.mk (.loop [sI 13] (zP [23,20,4,16,19,22,25,15,21,5,18,24,14,17,26]) [(.ret,[sB 4]),(.exit 0,[])]) [])])])])])]) (by simp[EH5]) Tryz.func12
end Go.Proofs.YthfjpkdadjemcaaGreat
