/- The functional reading of the code (printed). -/
import Derived.Test.YthfjpkdadjemcaaGreatFnsF2
set_option linter.unusedSimpArgs false
set_option linter.unusedVariables false
namespace Go.Proofs.YthfjpkdadjemcaaGreat
open Go
open Go.IntKind renaming wrap → FT8
noncomputable def AW3 [LP](a b c d e f g h i j k l m n o:Int)(p:(List Yd1))(q:(List Yd3))(r:Bool)(s t u:Int)(v:(List Int))(w:Bool)(y a0:Int)(a1:Bool)(a2 a3 a4 a5 a6 a7 a8 a9 b0:Int)(b1:Bool)(b2 b3 b4 b5 b6:Int)(b7:(List H2))(b8:Bool)(b9 c0 c1 c2 c3:Int)(c4 c5 c6:Bool)(c7 c8 c9 d0:Int)(d1:Bool):Option AH2:=
 (Z8 a).bind fun d2=>
 (l8 (b3,b4) d2).bind fun d3=>
 (bif (!d3.2) then
  some (b,c,d,e,f,g,h,i,j,k,l,m,n,o,p,q,r,s,t,u,v,w,y,a0,a1,a2,a3,a4,a5,a6,a7,a8,a9,b0,b1,b2,b3,b4,b5,b6,b7,b8,b9,c0,c1,c2,c3,c4,c5,c6,c7,c8,c9,d0,d1)
 else
  (AN9 d3.1 (b9,c0)).bind fun d4=>
  (bif (!d4.2) then
   some (b,c,d,e,f,g,h,i,j,k,l,m,n,o,p,q,r,s,t,u,v,w,y,a0,a1,a2,a3,a4,a5,a6,a7,a8,a9,b0,b1,b2,b3,b4,b5,b6,b7,b8,b9,c0,c1,c2,c3,c4,c5,c6,c7,c8,c9,d0,d1)
  else
   let d5:=FT8 .i64 (a0-c1)
   (AB6 (a4,a5) d4.1 b d5).bind fun d6=>
   let d7:=FT8 .i64 (a3-c2)
   (AB6 (a6,a7) d4.1 b d7).bind fun d8=>
   some (b,c,d,e,f,g,h,i,j,k,l,m,n,o,p,q,r,s,t,u,v,w,y,a0,a1,a2,a3,d6.1.1,d6.1.2,d8.1.1,d8.1.2,a8,a9,b0,b1,b2,b3,b4,b5,b6,b7,b8,b9,c0,c1,c2,c3,c4,c5,c6,c7,c8,c9,d0,d1)))
noncomputable def Bz1:Con:={f:=79,ps:=[.ref 0 0,dI],boxes:=[[dI,dI,dI,dI,dI,dI,dI,dI,dI,dI,dI,dI,dI,dI,.dat (.slice (.agg Yt1)),.dat (.slice (.agg Yt3)),.dat .bool,dI,dI,dI,.dat (.slice tI),.dat .bool,.dat (.int .u16),dI,.dat .bool,.dat (.int .u16),dI,dI,dI,dI,dI,dI,dI,dI,.dat .bool,dI,dI,dI,dI,dI,.dat (.slice (.agg I1)),.dat .bool,dI,dI,dI,dI,dI,.dat .bool,.dat .bool,.dat .bool,dI,dI,dI,dI,.dat .bool]],ins:=Bj6,nin:=56,outs:=X2,rs:=[],A1:=55,F:=fun x=>let a:=x.2.2.2.2.2.2.2.2;let b:=a.2.2.2.2.2.2.2.2;let c:=b.2.2.2.2.2.2.2.2;let d:=c.2.2.2.2.2.2.2.2;let e:=d.2.2.2.2.2.2.2.2;let f:=e.2.2.2.2.2.2.2.2;AW3 x.1 x.2.1 x.2.2.1 x.2.2.2.1 x.2.2.2.2.1 x.2.2.2.2.2.1 x.2.2.2.2.2.2.1 x.2.2.2.2.2.2.2.1 x.2.2.2.2.2.2.2.2.1 a.2.1 a.2.2.1 a.2.2.2.1 a.2.2.2.2.1 a.2.2.2.2.2.1 a.2.2.2.2.2.2.1 a.2.2.2.2.2.2.2.1 a.2.2.2.2.2.2.2.2.1 b.2.1 b.2.2.1 b.2.2.2.1 b.2.2.2.2.1 b.2.2.2.2.2.1 b.2.2.2.2.2.2.1 b.2.2.2.2.2.2.2.1 b.2.2.2.2.2.2.2.2.1 c.2.1 c.2.2.1 c.2.2.2.1 c.2.2.2.2.1 c.2.2.2.2.2.1 c.2.2.2.2.2.2.1 c.2.2.2.2.2.2.2.1 c.2.2.2.2.2.2.2.2.1 d.2.1 d.2.2.1 d.2.2.2.1 d.2.2.2.2.1 d.2.2.2.2.2.1 d.2.2.2.2.2.2.1 d.2.2.2.2.2.2.2.1 d.2.2.2.2.2.2.2.2.1 e.2.1 e.2.2.1 e.2.2.2.1 e.2.2.2.2.1 e.2.2.2.2.2.1 e.2.2.2.2.2.2.1 e.2.2.2.2.2.2.2.1 e.2.2.2.2.2.2.2.2.1 f.2.1 f.2.2.1 f.2.2.2.1 f.2.2.2.2.1 f.2.2.2.2.2.1 f.2.2.2.2.2.2.1 f.2.2.2.2.2.2.2}
theorem EJ0:KO Bz1:=
 cgp (l:=[Ad8,Af1,Ay5,Bz0]) (.mk .plain [H0,(.mk .plain [H0,(.mk .plain [H0,(.mk .plain [H0,(.mk .plain [(.mk (.AZ3 3) [])])])])])]) (by simp[Ak7,Am2,BO4,EI9]) Tryz.func79
noncomputable def AW4 [LP](a:BK5)(b:(Int×Int))(c d e f g h i j k l m n o p:Int)(q:(List Yd1))(r:(List Yd3))(s:Bool)(t u v:Int)(w:(List Int))(y:Bool)(a0 a1:Int)(a2:Bool)(a3 a4 a5 a6 a7 a8 a9 b0 b1:Int)(b2:Bool)(b3 b4 b5 b6 b7:Int)(b8:(List H2))(b9:Bool)(c0 c1 c2 c3 c4:Int)(c5 c6 c7:Bool)(c8 c9 d0 d1:Int)(d2:Bool):Option AH2:=
 let d3:F0:=(c,(d,(e,(f,(g,(h,(i,(j,(k,(l,(m,(n,(o,p)))))))))))))
 (AO5 d3 (q,r) a.1 b).bind fun d4=>
 let pA:=d4.2.2.2.2
 let d5:=(bif b2 then b9 else false)
 let d6:=((a.2.1.length:Int)==(1:Int))
 let d7:=(bif d5 then d6 else false)
 Option.bind (
  (bif d7 then
   chk none (true&&(decide ((0:Int)<(a.2.1.length:Int))))<|
   let d8:=(a.2.1.getD (0:Int).toNat 0)
   (AW3 d8 c d e f g h i j k l m n o p q r s t u v w y a0 a1 a2 a3 a4 a5 a6 a7 a8 a9 b0 b1 d4.1 d4.2.1 d4.2.2.1.1 d4.2.2.1.2 d4.2.2.2.1 pA.1 pA.2 b9 c0 c1 c2 c3 c4 c5 c6 c7 c8 c9 d0 d1 d2).bind fun d9=>
   let pB:=d9.2.2.2.2
   let pD:=pB.2.2.2.2
   let pF:=pD.2.2.2.2
   let pH:=pF.2.2.2.2
   let pJ:=pH.2.2.2.2
   let pL:=pJ.2.2.2.2
   let pN:=pL.2.2.2.2
   let pP:=pN.2.2.2.2
   let pR:=pP.2.2.2.2
   let pT:=pR.2.2.2.2
   let pV:=pT.2.2.2.2
   let pX:=pV.2.2.2.2
   let pZ:=pX.2.2.2.2
   some (pN.1,pN.2.2.2.1,pR.2.1,pP.2.2.1,pT.1,pV.2.2.1,pT.2.2.2.1,pX.2.1,pZ.1,d9.1,pB.2.2.1,d9.2.2.2.1,pD.2.1,pF.1,pH.2.2.1,pF.2.2.2.1,pJ.2.1,pL.1,pN.2.2.1,pL.2.2.2.1,pP.2.1,pR.2.2.2.1,pR.1,pT.2.2.1,pV.2.1,pX.2.2.2.1,pX.1,pZ.2.2,d9.2.2.1,pB.2.1,pD.2.2.2.1,pD.1,pF.2.2.1,pJ.1,pH.2.1,pJ.2.2.2.1,pL.2.2.1,pP.1,pN.2.1,pP.2.2.2.1,pR.2.2.1,pV.1,pT.2.1,pV.2.2.2.1,pX.2.2.1,d9.2.1,pZ.2.1,pB.1,pB.2.2.2.1,pF.2.1,pD.2.2.1,pH.1,pH.2.2.2.1,pL.2.1,pJ.2.2.1)
  else
   some (a6,a9,d4.2.2.1.2,d4.1,pA.2,c4,c1,c7,d0,c,i,f,l,o,u,r,y,a2,a8,a5,b1,pA.1,d4.2.2.1.1,c0,c3,c9,c6,d2,e,h,n,k,q,w,t,a1,a4,b0,a7,d4.2.1,d4.2.2.2.1,c2,b9,c5,c8,d,d1,g,j,p,m,s,v,a3,a0))) fun e0=>
 let pC:=e0.2.2.2.2
 let pE:=pC.2.2.2.2
 let pG:=pE.2.2.2.2
 let pI:=pG.2.2.2.2
 let pK:=pI.2.2.2.2
 let pM:=pK.2.2.2.2
 let pO:=pM.2.2.2.2
 let pQ:=pO.2.2.2.2
 let pS:=pQ.2.2.2.2
 let pU:=pS.2.2.2.2
 let pW:=pU.2.2.2.2
 let pY:=pW.2.2.2.2
 let qA:=pY.2.2.2.2
 let e1:=e0.1
 let e2:=e0.2.1
 let e3:=e0.2.2.1
 let e4:=e0.2.2.2.1
 let e5:(List H2):=pC.1
 let e6:=pC.2.1
 let e7:=pC.2.2.1
 let e8:=pC.2.2.2.1
 let e9:=pE.1
 let f0:=pE.2.1
 let f1:=pE.2.2.1
 let f2:=pE.2.2.2.1
 let f3:=pG.1
 let f4:=pG.2.1
 let f5:=pG.2.2.1
 let f6:(List Yd3):=pG.2.2.2.1
 let f7:=pI.1
 let f8:=pI.2.1
 let f9:=pI.2.2.1
 let g0:=pI.2.2.2.1
 let g1:=pK.1
 let g2:=pK.2.1
 let g3:=pK.2.2.1
 let g4:=pK.2.2.2.1
 let g5:=pM.1
 let g6:=pM.2.1
 let g7:=pM.2.2.1
 let g8:=pM.2.2.2.1
 let g9:=pO.1
 let h0:=pO.2.1
 let h1:=pO.2.2.1
 let h2:=pO.2.2.2.1
 let h3:(List Yd1):=pQ.1
 let h4:(List Int):=pQ.2.1
 let h5:=pQ.2.2.1
 let h6:=pQ.2.2.2.1
 let h7:=pS.1
 let h8:=pS.2.1
 let h9:=pS.2.2.1
 let i0:=pS.2.2.2.1
 let i1:=pU.1
 let i2:=pU.2.1
 let i3:=pU.2.2.1
 let i4:=pU.2.2.2.1
 let i5:=pW.1
 let i6:=pW.2.1
 let i7:=pW.2.2.1
 let i8:=pW.2.2.2.1
 let i9:=pY.1
 let j0:=pY.2.1
 let j1:=pY.2.2.1
 let j2:=pY.2.2.2.1
 let j3:=qA.1
 let j4:=qA.2.1
 let j5:=qA.2.2
 let j6:(Int×Int):=(g3,e3)
 let j7:DP0:=((f7,(j5,h6)),(f8,(j4,h7)))
 some (f0,i6,g9,f2,i8,h0,f1,i9,h2,f3,j1,h1,f4,j0,h3,f6,j2,h5,f5,j3,h4,f7,j5,h6,f8,j4,h7,g0,e1,h9,f9,e2,h8,g1,e4,i0,g3,e3,i1,g2,e5,true,j6.1,j6.2,j7.1.2.2,j7.2.2.2,e6,i4,g7,e8,i5,g6,e9,i7,g8)
noncomputable def BP0:Con:={f:=43,ps:=[.ref 0 0,.dat (.agg Ak2),.dat (.agg (.pair tI tI))],boxes:=[[dI,dI,dI,dI,dI,dI,dI,dI,dI,dI,dI,dI,dI,dI,.dat (.slice (.agg Yt1)),.dat (.slice (.agg Yt3)),.dat .bool,dI,dI,dI,.dat (.slice tI),.dat .bool,.dat (.int .u16),dI,.dat .bool,.dat (.int .u16),dI,dI,dI,dI,dI,dI,dI,dI,.dat .bool,dI,dI,dI,dI,dI,.dat (.slice (.agg I1)),.dat .bool,dI,dI,dI,dI,dI,.dat .bool,.dat .bool,.dat .bool,dI,dI,dI,dI,.dat .bool]],ins:=DP1,nin:=57,outs:=X2,rs:=[],A1:=55,F:=fun x=>let a:=x.2.2.2.2.2.2.2.2;let b:=a.2.2.2.2.2.2.2.2;let c:=b.2.2.2.2.2.2.2.2;let d:=c.2.2.2.2.2.2.2.2;let e:=d.2.2.2.2.2.2.2.2;let f:=e.2.2.2.2.2.2.2.2;AW4 x.1 x.2.1 x.2.2.1 x.2.2.2.1 x.2.2.2.2.1 x.2.2.2.2.2.1 x.2.2.2.2.2.2.1 x.2.2.2.2.2.2.2.1 x.2.2.2.2.2.2.2.2.1 a.2.1 a.2.2.1 a.2.2.2.1 a.2.2.2.2.1 a.2.2.2.2.2.1 a.2.2.2.2.2.2.1 a.2.2.2.2.2.2.2.1 a.2.2.2.2.2.2.2.2.1 b.2.1 b.2.2.1 b.2.2.2.1 b.2.2.2.2.1 b.2.2.2.2.2.1 b.2.2.2.2.2.2.1 b.2.2.2.2.2.2.2.1 b.2.2.2.2.2.2.2.2.1 c.2.1 c.2.2.1 c.2.2.2.1 c.2.2.2.2.1 c.2.2.2.2.2.1 c.2.2.2.2.2.2.1 c.2.2.2.2.2.2.2.1 c.2.2.2.2.2.2.2.2.1 d.2.1 d.2.2.1 d.2.2.2.1 d.2.2.2.2.1 d.2.2.2.2.2.1 d.2.2.2.2.2.2.1 d.2.2.2.2.2.2.2.1 d.2.2.2.2.2.2.2.2.1 e.2.1 e.2.2.1 e.2.2.2.1 e.2.2.2.2.1 e.2.2.2.2.2.1 e.2.2.2.2.2.2.1 e.2.2.2.2.2.2.2.1 e.2.2.2.2.2.2.2.2.1 f.2.1 f.2.2.1 f.2.2.2.1 f.2.2.2.2.1 f.2.2.2.2.2.1 f.2.2.2.2.2.2.1 f.2.2.2.2.2.2.2.1 f.2.2.2.2.2.2.2.2}
theorem EJ1:KO BP0:=
 cgp (l:=[By8,Bz1]) (.mk .plain [H0,(.mk .plain [H0,(.mk .plain [H0,(.mk .plain [(.mk .plain [H0,(.mk (.join (zP [45,48,47,44,43,46]) [(.normal,[kI 0 28,kI 0 31,kI 0 37,kB 0 34,⟨.cell 0 40,(.slice (.agg I1)),none⟩,kI 0 46,kI 0 43,kB 0 49,kI 0 52,kI 0 0,kI 0 6,kI 0 3,kI 0 9,kI 0 12,kI 0 18,⟨.cell 0 15,(.slice (.agg Yt3)),none⟩,kB 0 21,kB 0 24,kI 0 30,kI 0 27,kI 0 33,kI 0 39,kI 0 36,kI 0 42,kI 0 45,kI 0 51,kB 0 48,kB 0 54,kI 0 2,kI 0 5,kI 0 11,kI 0 8,⟨.cell 0 14,(.slice (.agg Yt1)),none⟩,⟨.cell 0 20,(.slice tI),none⟩,kI 0 17,kI 0 23,kI 0 26,kI 0 32,kI 0 29,kI 0 35,kI 0 38,kI 0 44,kB 0 41,kB 0 47,kI 0 50,kI 0 1,kI 0 53,kI 0 4,kI 0 7,kI 0 13,kI 0 10,kB 0 16,kI 0 19,⟨.cell 0 25,(.int .u16),none⟩,⟨.cell 0 22,(.int .u16),none⟩])]) [])]),(.mk .plain [H0,(.mk .plain [H0,(.mk .plain [(.mk (.AZ3 3) [])])])])])])])]) (by simp[EI7,EJ0]) Tryz.func43
noncomputable def Af4 [LP](a b:Int)(c:Bool):Option Int:=
 (bif (!c) then
  some (0:Int)
 else
  let d:=FT8 .i64 (a+1)
  let e:=(if b<d then b else d)
  some e)
noncomputable def Bz2:Con:={f:=80,ps:=[dI,dI,.dat .bool],boxes:=[],ins:=(.pair tI (.pair tI .bool)),nin:=3,outs:=tI,rs:=[dI],A1:=1,F:=fun x=>Af4 x.1 x.2.1 x.2.2}
theorem EJ2:KO Bz2:=
 cgp (l:=[]) H0 (by simp) Tryz.func80
noncomputable def AW5 [LP](a:(Int×(Int×Bool)))(b:F0)(c:Int)(d e f:Bool):Option (Int×(Int×Bool)):=
 let pA:=b.2.2.2.2
 let pB:=pA.2.2.2.2
 let pC:=pB.2.2.2.2
 let g:=pC.1
 let h:=FT8 .i64 (g+1)
 let i:=decide (c<(1:Int))
 (Af4 a.1 h i).bind fun j=>
 let k:=pC.1
 let l:=FT8 .i64 (k+1)
 (Af4 a.2.1 l d).bind fun m=>
 let n:=pC.1
 let o:=decide (n<j)
 let p:=(bif e then true else o)
 let q:=pC.1
 let r:=decide (q<m)
 let s:=(bif p then true else r)
 let t:=(bif a.2.2 then (!f) else false)
 let u:=(bif s then true else t)
 let v:(Int×(Int×Bool)):=(j,(m,u))
 some v
noncomputable def BP1:Con:={f:=44,ps:=[.dat (.agg (.pair tI (.pair tI .bool))),.dat (.agg C2),dI,.dat .bool,.dat .bool,.dat .bool],boxes:=[],ins:=DP4,nin:=6,outs:=(.agg (.pair tI (.pair tI .bool))),rs:=[.dat (.agg (.pair tI (.pair tI .bool)))],A1:=1,F:=fun x=>AW5 x.1 x.2.1 x.2.2.1 x.2.2.2.1 x.2.2.2.2.1 x.2.2.2.2.2}
theorem EJ3:KO BP1:=
 cgp (l:=[Bz2]) H0 (by simp[EJ2]) Tryz.func44
noncomputable def Am8 [LP](a:F0)(b:(Int×Int)):Option Bool:=
 let c:=a.2.2.2.2.2.2.2.2.2.2.1
 let d:=FT8 .i64 (0-c)
 let e:=a.2.2.2.2.2.2.2.2.2.2.1
 (AO1 b (d,e)).bind fun f=>
 some f
noncomputable def Bz3:Con:={f:=81,ps:=[.dat (.agg C2),.dat (.agg (.pair tI tI))],boxes:=[],ins:=Bj2,nin:=2,outs:=.bool,rs:=[.dat .bool],A1:=1,F:=fun x=>Am8 x.1 x.2}
theorem EJ4:KO Bz3:=
 cgp (l:=[BO7]) H0 (by simp[Bx5]) Tryz.func81
noncomputable def AW6 [LP](a:(Int×Bool))(b:F0)(c:(Int×Int))(d:Int):Option (Int×Bool):=
 let pA:=b.2.2.2.2
 let pB:=pA.2.2.2.2
 let e:=decide (d<(1:Int))
 (bif !e then Am8 b c else some false).bind fun f=>
 let g:=(bif e then true else (!f))
 (bif g then
  let h:(Int×Bool):=((0:Int),false)
  some h
 else
  let i:=FT8 .i64 (a.1+1)
  let j:=(if pB.2.1<i then pB.2.1 else i)
  let k:=decide (pB.2.1≤j)
  let l:(Int×Bool):=(j,k)
  some l)
noncomputable def BP2:Con:={f:=45,ps:=[.dat (.agg (.pair tI .bool)),.dat (.agg C2),.dat (.agg (.pair tI tI)),dI],boxes:=[],ins:=DP6,nin:=4,outs:=(.agg (.pair tI .bool)),rs:=[.dat (.agg (.pair tI .bool))],A1:=1,F:=fun x=>AW6 x.1 x.2.1 x.2.2.1 x.2.2.2}
theorem EJ5:KO BP2:=
 cgp (l:=[Bz3]) H0 (by simp[EJ4]) Tryz.func45
noncomputable def AW7 [LP](a:AR6)(b:F0)(c d:Bool)(e:(Int×Int)):Option AR6:=
 (bif d then
  let f:AR6:=(false,(false,((0:Int),(0:Int))))
  some f
 else
  (bif (!a.1) then
   let g:AR6:=(c,(false,((0:Int),(0:Int))))
   some g
  else
   (l8 a.2.2 e).bind fun h=>
   Option.bind (
    (bif h.2 then
     some (h.1.1,h.1.2)
    else
     some (a.2.2.1,a.2.2.2))) fun i=>
   let j:=i.1
   let k:=i.2
   let l:=b.2.2.2.2.2.2.2.2.2.2.2.1
   let m:=decide (l<j)
   let n:=(bif a.2.1 then true else m)
   let o:=b.2.2.2.2.2.2.2.2.2.2.2.1
   let p:=FT8 .i64 (0-o)
   let q:=decide (k<p)
   let r:=(bif n then true else q)
   let s:AR6:=(a.1,(r,(j,k)))
   some s))
noncomputable def BP3:Con:={f:=46,ps:=[.dat (.agg AL0),.dat (.agg C2),.dat .bool,.dat .bool,.dat (.agg (.pair tI tI))],boxes:=[],ins:=DP8,nin:=5,outs:=(.agg AL0),rs:=[.dat (.agg AL0)],A1:=1,F:=fun x=>AW7 x.1 x.2.1 x.2.2.1 x.2.2.2.1 x.2.2.2.2}
theorem EJ6:KO BP3:=
 cgp (l:=[Af1]) (.mk .plain [H0,(.mk .plain [H0,(.mk .plain [(.mk .plain [H0,(.mk .plain [H0,(.mk (.join [(0,30),(0,31)] [(.normal,[kI 0 2,kI 0 3])]) [])])])])])]) (by simp[Am2]) Tryz.func46
noncomputable def Af5 [LP](a:(Int×(Int×Bool)))(b:Bool)(c:Int)(d:Bool):Option Int:=
 (bif a.2.2 then
  some (4:Int)
 else
  (bif (!b) then
   some (1:Int)
  else
   let e:=decide (c<(2:Int))
   let f:=(bif e then true else d)
   (bif f then
    some (3:Int)
   else
    some (2:Int))))
noncomputable def BP4:Con:={f:=83,ps:=[.dat (.agg (.pair tI (.pair tI .bool))),.dat .bool,dI,.dat .bool],boxes:=[],ins:=DP9,nin:=4,outs:=tI,rs:=[dI],A1:=1,F:=fun x=>Af5 x.1 x.2.1 x.2.2.1 x.2.2.2}
theorem EJ7:KO BP4:=
 cgp (l:=[]) H0 (by simp) Tryz.func83
noncomputable def Am9 [LP](a b:Int):Option Int:=
 (AB4 a b).bind fun c=>
 let d:=decide (a<(0:Int))
 (Ae7 c.1 c.2 d).bind fun e=>
 some e
noncomputable def Bz4:Con:={f:=128,ps:=[dI,dI],boxes:=[],ins:=(.pair tI tI),nin:=2,outs:=tI,rs:=[dI],A1:=1,F:=fun x=>Am9 x.1 x.2}
theorem EJ8:KO Bz4:=
 cgp (l:=[Am0,BN9]) H0 (by simp[Ay2,Bu6]) Tryz.func128
noncomputable def AO7 [LP](a:I2)(b:(List Int))(c:AK9)(d:Int):Option (Int×Bool):=
 Option.bind (
  LP.lp (X:=(Bool×Int)) (fun (e:(Bool×(Int×Int)))=>
   let f:=e.1
   let g:=e.2.1
   let h:=e.2.2
   let i:=decide (h<c.2.length)
   (bif i then
    Option.bind (
     chk none (decide (0≤h)&&decide (h<c.2.length))<|
     let j:H2:=(c.2.getD h.toNat ((0:Int),((0:Int),((0:Int),((0:Int),((0:Int),((0:Int),((0:Int),((0:Int),((0:Int),((0:Int),((0:Int),((0:Int),(0:Int))))))))))))))
     let pA:=j.2.2.2.2
     let pB:=pA.2.2.2.2
     let k:=FT8 .i64 (j.1-1)
     chk none ((decide ((0:Int)≤k))&&(decide (k<(12:Int))))<|
     let l:=(List.getD [j.2.1,j.2.2.1,j.2.2.2.1,pA.1,pA.2.1,pA.2.2.1,pA.2.2.2.1,pB.1,pB.2.1,pB.2.2.1,pB.2.2.2.1,pB.2.2.2.2] k.toNat 0)
     chk none (decide (0≤l)&&decide (l<b.length))<|
     let m:=(b.getD l.toNat 0)
     (bif (m==(-1:Int)) then
      some (f,g)
     else
      (O3 c a j).bind fun n=>
      let o:=FT8 .i64 (n+m)
      (Am9 o d).bind fun p=>
      let q:=decide (p<g)
      let r:=(bif (!f) then true else q)
      Option.bind (
       (bif r then
        some (p,true)
       else
        some (g,f))) fun s=>
      let t:=s.1
      let u:=s.2
      some (u,t))) fun v=>
    let w:=v.1
    let y:=v.2
    let a0:=FT8 .i64 (h+1)
    some (.inl (w,y,a0))
   else
    some (.inr (f,g)))) (false,(0:Int),(0:Int))) fun a1=>
 let a2:=a1.1
 let a3:=a1.2
 some (a3,a2)
noncomputable def BP5:Con:={f:=85,ps:=[.dat (.agg D3),.dat (.slice tI),.dat (.agg V1),dI],boxes:=[],ins:=DQ2,nin:=4,outs:=(.pair tI .bool),rs:=[dI,.dat .bool],A1:=2,F:=fun x=>AO7 x.1 x.2.1 x.2.2.1 x.2.2.2}
theorem EJ9:KO BP5:=
 cgp (l:=[Av9,Bz4]) (.mk .plain [H0,(.mk .plain [H0,(.mk .plain [(.mk .plain [H0,(.mk .plain [(.mk (.loop [sB 11,sI 10,sI 19] (zP [30,36,42,39,45,48,14,23,20,26,29,35,32,38,41,47,44,50,13,22,28,25,31,34,40,37,43,46,49,15,21,24,27,33]) [(.exit 0,[sB 11,sI 10])]) [(.mk .plain [H0,(.mk .plain [H0,(.mk .plain [(.mk (.join (zP [30,13,22,28,25,31,14,23,26,29,32,21,24,27,33,36,42,39,45,48,35,38,41,47,44,34,40,37,43,46,49,15]) [(.normal,[sB 11,sI 10])]) [(.mk .plain [H0,(.mk .plain [H0,(.mk .plain [H0,(.mk .plain [H0,(.mk .plain [H0,(.mk (.join [(0,49)] [(.normal,[sI 10,sB 11])]) [])])])])])])])])])])])])])])])]) (by simp[BK8,EJ8]) Tryz.func85
noncomputable def AW8 [LP](a:(Int×Int)):Option Int:=
 Option.bind (
  LP.lp (X:=Int) (fun (b:(Int×Int))=>
   let c:=b.1
   let d:=b.2
   let e:=decide ((0:Int)≤c)
   (bif e then
    chk none (decide ((0:Int)≤(FT8 .u64 c)))<|
    let f:=(FT8 .u64 ((1:Int)*2 ^ (min (FT8 .u64 c).toNat 64)))
    let g:=(bits .u64 .or d f)
    (AH7 g g).bind fun h=>
    (Z5 h a).bind fun i=>
    let j:=decide (i≤(0:Int))
    Option.bind (
     (bif j then
      some g
     else
      some d)) fun k=>
    let l:=FT8 .i64 (c-1)
    some (.inl (l,k))
   else
    some (.inr d))) ((63:Int),(0:Int))) fun m=>
 some m
noncomputable def Bz5:Con:={f:=166,ps:=[.dat (.agg (.pair (.int .u64) (.int .u64)))],boxes:=[],ins:=(.agg (.pair (.int .u64) (.int .u64))),nin:=1,outs:=(.int .u64),rs:=[.dat (.int .u64)],A1:=1,F:=fun x=>AW8 x}
theorem EK0:KO Bz5:=
 cgp (l:=[Aw6,Ak6]) (.mk .plain [H0,(.mk .plain [H0,(.mk .plain [(.mk .plain [H0,(.mk .plain [(.mk (.loop [sI 4,⟨.slot 3,(.int .u64),none⟩] (zP [7,10,16,13,19,5,8,14,11,17,20,9,6,12,15,21,18]) [(.exit 0,[⟨.slot 3,(.int .u64),none⟩])]) [(.mk .plain [H0,(.mk .plain [(.mk .plain [(.mk .plain [H0,(.mk .plain [H0,(.mk (.join [(0,21)] [(.normal,[⟨.slot 3,(.int .u64),none⟩])]) [])])])])])])])])])])])]) (by simp[BL7,Aw7]) Tryz.func166
noncomputable def Af6 [LP](a b:Int):Option (Int×Int):=
 let c:=decide (a<(0:Int))
 let d:=decide (b<(0:Int))
 let e:=(bif c then true else d)
 (bif e then
  some ((0:Int),(10:Int))
 else
  (AH7 (FT8 .u64 a) (FT8 .u64 b)).bind fun f=>
  (AW8 f).bind fun g=>
  let h:=(FT8 .i64 g)
  some (h,(0:Int)))
noncomputable def Bz6:Con:={f:=130,ps:=[dI,dI],boxes:=[],ins:=(.pair tI tI),nin:=2,outs:=(.pair tI tI),rs:=[dI,dI],A1:=2,F:=fun x=>Af6 x.1 x.2}
theorem EK1:KO Bz6:=
 cgp (l:=[Aw6,Bz5]) H0 (by simp[BL7,EK0]) Tryz.func130
noncomputable def AO8 [LP](a:F0)(b:Int):Option Int:=
 let pA:=a.2.2.2.2
 let c:=pA.2.2.2.2.2.2.2.2.2
 let d:=FT8 .i64 ((2:Int)*c)
 let e:=(if (0:Int)>b then (0:Int) else b)
 (Af6 d e).bind fun f=>
 let g:=decide (pA.2.2.1<f.1)
 let h:=(bif (f.2 != (0:Int)) then true else g)
 (bif h then
  some pA.2.2.1
 else
  some f.1)
noncomputable def BP6:Con:={f:=86,ps:=[.dat (.agg C2),dI],boxes:=[],ins:=BK2,nin:=2,outs:=tI,rs:=[dI],A1:=1,F:=fun x=>AO8 x.1 x.2}
theorem EK2:KO BP6:=
 cgp (l:=[Bz6]) H0 (by simp[EK1]) Tryz.func86
noncomputable def AW9 [LP](a:Ak1)(b c d e f g h i j k l m n o:Int)(p:(List Yd1))(q:(List Yd3))(r:Bool)(s t u:Int)(v:(List Int))(w:Bool)(y a0:Int)(a1:Bool)(a2 a3 a4 a5 a6 a7 a8 a9 b0:Int)(b1:Bool)(b2 b3 b4 b5 b6:Int)(b7:(List H2))(b8:Bool)(b9 c0 c1 c2 c3:Int)(c4 c5 c6:Bool)(c7 c8 c9 d0:Int)(d1:Bool)(d2 d3 d4 d5 d6 d7 d8 d9 e0 e1:Int)(e2:(List (List Int)))(e3:Int)(e4 e5:Bool)(e6 e7:Int)(e8 e9 f0 f1 f2:Bool)(f3 f4 f5 f6 f7 f8 f9 g0 g1 g2 g3:Int):Option Df3:=
 let pA:=a.2.2.2.2
 (AB5 a.1).bind fun g4=>
 let g5:Bi2:=((a4,a5),(a6,a7))
 let g6:(Int×Int):=(c7,c8)
 (Af5 (c9,(d0,d1)) b1 a.2.1 a.2.2.2.1).bind fun g7=>
 (bif (!b1) then
  some (b,c,d,e,f,g,h,i,j,k,l,m,n,o,p,q,r,s,t,u,v,w,y,a0,a1,a2,a3,a4,a5,a6,a7,a8,a9,b0,b1,b2,b3,b4,b5,b6,b7,b8,b9,c0,c1,c2,c3,c4,c5,c6,c7,c8,c9,d0,d1,d2,g7,d4,d5,d6,d7,a.1.1,a.1.2,g4,b0,e2,a.2.1,a.2.2.1,a.2.2.2.1,pA.1,pA.2,e8,e9,c4,c6,f2,g6.1,g6.2,h,g5.1.1,g5.1.2,g5.2.1,g5.2.2,g0,g1,g2,g3)
 else
  chk none (decide (0≤b2)&&decide (b2<q.length))<|
  let g8:Yd3:=(q.getD b2.toNat ((0:Int),((0:Int),((0:Int),((0:Int),(0:Int))))))
  let g9:(Int×Int):=(b3,b4)
  Option.bind (
   LP.lp (X:=(List (List Int))) (fun (h0:((List (List Int))×Int))=>
    let h1:(List (List Int)):=h0.1
    let h2:=h0.2
    let h3:=decide (h2<b7.length)
    (bif h3 then
     chk none (decide (0≤h2)&&decide (h2<b7.length))<|
     let h4:H2:=(b7.getD h2.toNat ((0:Int),((0:Int),((0:Int),((0:Int),((0:Int),((0:Int),((0:Int),((0:Int),((0:Int),((0:Int),((0:Int),((0:Int),(0:Int))))))))))))))
     (Ac3 h4).bind fun h5=>
     let h6:(List (List Int)):=([h5]:List (List Int))
     chk none (decide ((h1.length+h6.length)*24≤140737488355328))<|
     let h7:(List (List Int)):=(h1++h6)
     let h8:=FT8 .i64 (h2+1)
     some (.inl (h7,h8))
    else
     some (.inr h1))) (e2,(0:Int))) fun h9=>
  (AO7 (p,q) v (b6,b7) b4).bind fun i0=>
  Option.bind (
   (bif i0.2 then
    let i1:F0:=(b,(c,(d,(e,(f,(g,(h,(i,(j,(k,(l,(m,(n,o)))))))))))))
    (AO8 i1 i0.1).bind fun i2=>
    some i2
   else
    some h)) fun i3=>
  let i4:=decide (i3<a.1.2)
  some (b,c,d,e,f,g,h,i,j,k,l,m,n,o,p,q,r,s,t,u,v,w,y,a0,a1,a2,a3,a4,a5,a6,a7,a8,a9,b0,b1,b2,b3,b4,b5,b6,b7,b8,b9,c0,c1,c2,c3,c4,c5,c6,c7,c8,c9,d0,d1,d2,g7,g8.1,g9.1,g9.2,b5,a.1.1,a.1.2,g4,b0,h9,a.2.1,a.2.2.1,a.2.2.2.1,pA.1,pA.2,e8,e9,c4,c6,i4,g6.1,g6.2,i3,g5.1.1,g5.1.2,g5.2.1,g5.2.2,g0,g1,g2,g3))
noncomputable def An0:F8:={f:=47,ps:=[.ref 0 0,.ref 1 0,.dat (.agg AR7)],boxes:=[[oI,oI,oI,oI,oI,oI,oI,oI,oI,oI,oI,oI,oI,oI,.dat (.slice (.agg Yt1)),.dat (.slice (.agg Yt3)),.dat .bool,oI,oI,oI,.dat (.slice tI),.dat .bool,.dat (.int .u16),oI,.dat .bool,.dat (.int .u16),oI,oI,oI,oI,oI,oI,oI,oI,.dat .bool,oI,oI,oI,oI,oI,.dat (.slice (.agg I1)),.dat .bool,oI,oI,oI,oI,oI,.dat .bool,.dat .bool,.dat .bool,oI,oI,oI,oI,.dat .bool],[oI,oI,oI,oI,oI,oI,oI,oI,oI,oI,.own 605000065 (.slice tI),oI,.dat .bool,.dat .bool,oI,oI,.dat .bool,.dat .bool,.dat .bool,.dat .bool,.dat .bool,oI,oI,oI,oI,oI,oI,oI,oI,oI,oI,oI]],ins:=Df4,nin:=88,outs:=Bj8,rs:=[],aft:=[[oI,oI,oI,oI,oI,oI,oI,oI,oI,oI,oI,oI,oI,oI,.dat (.slice (.agg Yt1)),.dat (.slice (.agg Yt3)),.dat .bool,oI,oI,oI,.dat (.slice tI),.dat .bool,.dat (.int .u16),oI,.dat .bool,.dat (.int .u16),oI,oI,oI,oI,oI,oI,oI,oI,.dat .bool,oI,oI,oI,oI,oI,.dat (.slice (.agg I1)),.dat .bool,oI,oI,oI,oI,oI,.dat .bool,.dat .bool,.dat .bool,oI,oI,oI,oI,.dat .bool],[oI,oI,oI,oI,oI,oI,oI,oI,oI,oI,.own 605000065 (.slice tI),oI,.dat .bool,.dat .bool,oI,oI,.dat .bool,.dat .bool,.dat .bool,.dat .bool,.dat .bool,oI,oI,oI,oI,oI,oI,oI,oI,oI,oI,oI]],A1:=87,F:=fun x=>let a:=x.2.2.2.2.2.2.2.2;let b:=a.2.2.2.2.2.2.2.2;let c:=b.2.2.2.2.2.2.2.2;let d:=c.2.2.2.2.2.2.2.2;let e:=d.2.2.2.2.2.2.2.2;let f:=e.2.2.2.2.2.2.2.2;let g:=f.2.2.2.2.2.2.2.2;let h:=g.2.2.2.2.2.2.2.2;let i:=h.2.2.2.2.2.2.2.2;let j:=i.2.2.2.2.2.2.2.2;AW9 x.1 x.2.1 x.2.2.1 x.2.2.2.1 x.2.2.2.2.1 x.2.2.2.2.2.1 x.2.2.2.2.2.2.1 x.2.2.2.2.2.2.2.1 x.2.2.2.2.2.2.2.2.1 a.2.1 a.2.2.1 a.2.2.2.1 a.2.2.2.2.1 a.2.2.2.2.2.1 a.2.2.2.2.2.2.1 a.2.2.2.2.2.2.2.1 a.2.2.2.2.2.2.2.2.1 b.2.1 b.2.2.1 b.2.2.2.1 b.2.2.2.2.1 b.2.2.2.2.2.1 b.2.2.2.2.2.2.1 b.2.2.2.2.2.2.2.1 b.2.2.2.2.2.2.2.2.1 c.2.1 c.2.2.1 c.2.2.2.1 c.2.2.2.2.1 c.2.2.2.2.2.1 c.2.2.2.2.2.2.1 c.2.2.2.2.2.2.2.1 c.2.2.2.2.2.2.2.2.1 d.2.1 d.2.2.1 d.2.2.2.1 d.2.2.2.2.1 d.2.2.2.2.2.1 d.2.2.2.2.2.2.1 d.2.2.2.2.2.2.2.1 d.2.2.2.2.2.2.2.2.1 e.2.1 e.2.2.1 e.2.2.2.1 e.2.2.2.2.1 e.2.2.2.2.2.1 e.2.2.2.2.2.2.1 e.2.2.2.2.2.2.2.1 e.2.2.2.2.2.2.2.2.1 f.2.1 f.2.2.1 f.2.2.2.1 f.2.2.2.2.1 f.2.2.2.2.2.1 f.2.2.2.2.2.2.1 f.2.2.2.2.2.2.2.1 f.2.2.2.2.2.2.2.2.1 g.2.1 g.2.2.1 g.2.2.2.1 g.2.2.2.2.1 g.2.2.2.2.2.1 g.2.2.2.2.2.2.1 g.2.2.2.2.2.2.2.1 g.2.2.2.2.2.2.2.2.1 h.2.1 h.2.2.1 h.2.2.2.1 h.2.2.2.2.1 h.2.2.2.2.2.1 h.2.2.2.2.2.2.1 h.2.2.2.2.2.2.2.1 h.2.2.2.2.2.2.2.2.1 i.2.1 i.2.2.1 i.2.2.2.1 i.2.2.2.2.1 i.2.2.2.2.2.1 i.2.2.2.2.2.2.1 i.2.2.2.2.2.2.2.1 i.2.2.2.2.2.2.2.2.1 j.2.1 j.2.2.1 j.2.2.2.1 j.2.2.2.2.1 j.2.2.2.2.2.1 j.2.2.2.2.2.2.1 j.2.2.2.2.2.2.2}
def EK3:Hint:=(.mk .plain [H0,(.mk .plain [H0,(.mk .plain [H0,(.mk .plain [H0,(.mk .plain [H0,(.mk .plain [H0,(.mk .plain [H0,(.mk .plain [(.mk .plain [H0,(.mk .plain [(.mk (.loop [⟨.cell 1 10,(.slice (.slice tI)),some 605000065⟩,sI 149] (zP [158,7,155,161,164,150,156,153,159,162,151,154,157,163,160,152]) [(.exit 0,[⟨.cell 1 10,(.slice (.slice tI)),some 605000065⟩])]) [])])]),(.mk .plain [(.mk .plain [H0,(.mk .plain [H0,(.mk (.join (zP [190,196,193,189,192,195,194,191,197]) [(.normal,[kI 1 23])]) [])])])])])])])])])])])])
theorem EK4:As6 ⟨R8 tys,[AV5,BP4,Ak4,BP5,BP6],[],[],[]⟩ An0 Tryz.f47 EK3=An0.F:=by
 funext x
 kernel_rfl
theorem EK5:At0 Tryz.prog An0:=
 Cc8 (Γ:=⟨R8 tys,[AV5,BP4,Ak4,BP5,BP6],[],[],[]⟩) ⟨fun T d h=>AR5 tys Ac2 T d h,by simp[Am4,EJ7,BK7,EJ9,EK2],by simp[],by simp[],Aa2 Tryz.prog [] (by kernel_rfl)⟩ (by kernel_rfl) Tryz.func47 rfl (by kernel_rfl) rfl EK4
noncomputable def AX0 [LP](a:(List (List Int)))(b:Bool)(c d e f g h i j k l m n o p:Int)(q:(List Yd1))(r:(List Yd3))(s:Bool)(t u v:Int)(w:(List Int))(y:Bool)(a0 a1:Int)(a2:Bool)(a3 a4 a5 a6 a7 a8 a9 b0 b1:Int)(b2:Bool)(b3 b4 b5 b6 b7:Int)(b8:(List H2))(b9:Bool)(c0 c1 c2 c3 c4:Int)(c5 c6 c7:Bool)(c8 c9 d0 d1:Int)(d2:Bool):Option Df6:=
 let d3:=FT8 .i64 (t+1)
 (bif s then
  let d4:O2:=(t,((4:Int),((0:Int),(((0:Int),(0:Int)),((0:Int),(((0:Int),(0:Int)),((0:Int),((0:Int),([],((0:Int),(false,(false,(((0:Int),(0:Int)),(false,(false,(false,(false,(false,(((0:Int),(0:Int)),((0:Int),((((0:Int),(0:Int)),((0:Int),(0:Int))),((0:Int),((0:Int),((0:Int),(0:Int)))))))))))))))))))))))))
  some (d4,c,d,e,f,g,h,i,j,k,l,m,n,o,p,q,r,s,d3,u,v,w,y,a0,a1,a2,a3,a4,a5,a6,a7,a8,a9,b0,b1,b2,b3,b4,b5,b6,b7,b8,b9,c0,c1,c2,c3,c4,c5,c6,c7,c8,c9,d0,d1,d2)
 else
  (AN3 t a).bind fun d5=>
  (AV6 d5 c d e f g h i j k l m n o p q r s d3 u v w y a0 a1 a2 a3 a4 a5 a6 a7 a8 a9 b0 b1 b2 b3 b4 b5 b6 b7 b8 b9 c0 c1 c2 c3 c4 c5 c6 c7 c8 c9 d0 d1 d2).bind fun d6=>
  let pA:=d6.2.2.2.2
  let pH:=pA.2.2.2.2
  let pN:=pH.2.2.2.2
  let pT:=pN.2.2.2.2
  let pZ:=pT.2.2.2.2
  let qF:=pZ.2.2.2.2
  let qL:=qF.2.2.2.2
  let qR:=qL.2.2.2.2
  let qX:=qR.2.2.2.2
  let rD:=qX.2.2.2.2
  let rJ:=rD.2.2.2.2
  let rP:=rJ.2.2.2.2
  let rV:=rP.2.2.2.2
  let d7:=rD.2.2.1
  let d8:=(bif d7 then d6.1.2.2.1 else false)
  let d9:AH4:=(qR.2.2.2.1,(qX.1,((qX.2.1,qX.2.2.1),(qX.2.2.2.1,(rD.1,rD.2.1)))))
  (AV7 d6.1.1 d6.2.1 d6.2.2.1 d6.2.2.2.1 pA.1 pA.2.1 pA.2.2.1 pA.2.2.2.1 pH.1 pH.2.1 pH.2.2.1 pH.2.2.2.1 pN.1 pN.2.1 pN.2.2.1 pN.2.2.2.1 pT.1 pT.2.1 pT.2.2.1 pT.2.2.2.1 pZ.1 pZ.2.1 pZ.2.2.1 pZ.2.2.2.1 qF.1 qF.2.1 qF.2.2.1 qF.2.2.2.1 qL.1 qL.2.1 qL.2.2.1 qL.2.2.2.1 qR.1 qR.2.1 qR.2.2.1 qR.2.2.2.1 qX.1 qX.2.1 qX.2.2.1 qX.2.2.2.1 rD.1 rD.2.1 d8 rD.2.2.2.1 rJ.1 rJ.2.1 rJ.2.2.1 rJ.2.2.2.1 rP.1 rP.2.1 rP.2.2.1 rP.2.2.2.1 rV.1 rV.2.1 rV.2.2.1 rV.2.2.2).bind fun e0=>
  let pB:=e0.2.2.2.2
  let pI:=pB.2.2.2.2
  let pO:=pI.2.2.2.2
  let pU:=pO.2.2.2.2
  let qA:=pU.2.2.2.2
  let qG:=qA.2.2.2.2
  let qM:=qG.2.2.2.2
  let qS:=qM.2.2.2.2
  let qY:=qS.2.2.2.2
  let rE:=qY.2.2.2.2
  let rK:=rE.2.2.2.2
  let rQ:=rK.2.2.2.2
  let rW:=rQ.2.2.2.2
  (AW1 d5 d9 d6.1.1 e0.2.1 e0.2.2.1 e0.2.2.2.1 pB.1 pB.2.1 pB.2.2.1 pB.2.2.2.1 pI.1 pI.2.1 pI.2.2.1 pI.2.2.2.1 pO.1 pO.2.1 pO.2.2.1 pO.2.2.2.1 pU.1 pU.2.1 pU.2.2.1 pU.2.2.2.1 qA.1 qA.2.1 qA.2.2.1 qA.2.2.2.1 qG.1 qG.2.1 qG.2.2.1 qG.2.2.2.1 qM.1 qM.2.1 qM.2.2.1 qM.2.2.2.1 qS.1 qS.2.1 qS.2.2.1 qS.2.2.2.1 qY.1 qY.2.1 qY.2.2.1 qY.2.2.2.1 rE.1 rE.2.1 rE.2.2.1 rE.2.2.2.1 rK.1 rK.2.1 rK.2.2.1 rK.2.2.2.1 rQ.1 rQ.2.1 rQ.2.2.1 rQ.2.2.2.1 rW.1 rW.2.1 rW.2.2.1 rW.2.2.2).bind fun e1=>
  let pC:=e1.2.2.2.2
  let pJ:=pC.2.2.2.2
  let pP:=pJ.2.2.2.2
  let pV:=pP.2.2.2.2
  let qB:=pV.2.2.2.2
  let qH:=qB.2.2.2.2
  let qN:=qH.2.2.2.2
  let qT:=qN.2.2.2.2
  let qZ:=qT.2.2.2.2
  let rF:=qZ.2.2.2.2
  let rL:=rF.2.2.2.2
  let rR:=rL.2.2.2.2
  let rX:=rR.2.2.2.2
  Option.bind (
   (bif e1.1.2.2.2 then
    (AW4 e1.1 d6.1.1 e1.2.1 e1.2.2.1 e1.2.2.2.1 pC.1 pC.2.1 pC.2.2.1 pC.2.2.2.1 pJ.1 pJ.2.1 pJ.2.2.1 pJ.2.2.2.1 pP.1 pP.2.1 pP.2.2.1 pP.2.2.2.1 pV.1 pV.2.1 pV.2.2.1 pV.2.2.2.1 qB.1 qB.2.1 qB.2.2.1 qB.2.2.2.1 qH.1 qH.2.1 qH.2.2.1 qH.2.2.2.1 qN.1 qN.2.1 qN.2.2.1 qN.2.2.2.1 qT.1 qT.2.1 qT.2.2.1 qT.2.2.2.1 qZ.1 qZ.2.1 qZ.2.2.1 qZ.2.2.2.1 rF.1 rF.2.1 rF.2.2.1 rF.2.2.2.1 rL.1 rL.2.1 rL.2.2.1 rL.2.2.2.1 rR.1 rR.2.1 rR.2.2.1 rR.2.2.2.1 rX.1 rX.2.1 rX.2.2.1 rX.2.2.2).bind fun e2=>
    let pD:=e2.2.2.2.2
    let pK:=pD.2.2.2.2
    let pQ:=pK.2.2.2.2
    let pW:=pQ.2.2.2.2
    let qC:=pW.2.2.2.2
    let qI:=qC.2.2.2.2
    let qO:=qI.2.2.2.2
    let qU:=qO.2.2.2.2
    let rA:=qU.2.2.2.2
    let rG:=rA.2.2.2.2
    let rM:=rG.2.2.2.2
    let rS:=rM.2.2.2.2
    let rY:=rS.2.2.2.2
    some (qO.1,qO.2.2.2.1,rA.2.1,qU.2.2.1,rG.1,rM.2.2.1,rG.2.2.2.1,rS.2.1,rY.1,e2.1,pD.2.2.1,e2.2.2.2.1,pK.2.1,pQ.1,pW.2.2.1,pQ.2.2.2.1,qC.2.1,qI.1,qO.2.2.1,qI.2.2.2.1,qU.2.1,rA.2.2.2.1,rA.1,rG.2.2.1,rM.2.1,rS.2.2.2.1,rS.1,rY.2.2,e2.2.2.1,pD.2.1,pK.2.2.2.1,pK.1,pQ.2.2.1,qC.1,pW.2.1,qC.2.2.2.1,qI.2.2.1,qU.1,qO.2.1,qU.2.2.2.1,rA.2.2.1,rM.1,rG.2.1,rM.2.2.2.1,rS.2.2.1,e2.2.1,rY.2.1,pD.1,pD.2.2.2.1,pQ.2.1,pK.2.2.1,pW.1,pW.2.2.2.1,qI.2.1,qC.2.2.1)
   else
    some (qN.2.1,qT.1,qZ.2.2.1,qT.2.2.2.1,rF.2.1,rL.2.2.2.1,rL.1,rR.2.2.1,rX.2.1,e1.2.1,pC.2.2.2.1,pC.1,pJ.2.2.1,pP.2.1,pV.2.2.2.1,pV.1,qB.2.2.1,qH.2.1,qN.2.2.2.1,qN.1,qT.2.2.1,rF.1,qZ.2.1,rF.2.2.2.1,rL.2.2.1,rX.1,rR.2.1,rX.2.2.2,e1.2.2.2.1,pC.2.2.1,pP.1,pJ.2.1,pP.2.2.2.1,qB.2.1,pV.2.2.1,qH.1,qH.2.2.2.1,qT.2.1,qN.2.2.1,qZ.1,qZ.2.2.2.1,rL.2.1,rF.2.2.1,rR.1,rR.2.2.2.1,e1.2.2.1,rX.2.2.1,pC.2.1,pJ.1,pP.2.2.1,pJ.2.2.2.1,pV.2.1,qB.1,qH.2.2.1,qB.2.2.2.1))) fun e3=>
  let pE:=e3.2.2.2.2
  let pL:=pE.2.2.2.2
  let pR:=pL.2.2.2.2
  let pX:=pR.2.2.2.2
  let qD:=pX.2.2.2.2
  let qJ:=qD.2.2.2.2
  let qP:=qJ.2.2.2.2
  let qV:=qP.2.2.2.2
  let rB:=qV.2.2.2.2
  let rH:=rB.2.2.2.2
  let rN:=rH.2.2.2.2
  let rT:=rN.2.2.2.2
  let rZ:=rT.2.2.2.2
  let e4:=e3.1
  let e5:=e3.2.1
  let e6:=e3.2.2.1
  let e7:=e3.2.2.2.1
  let e8:(List H2):=pE.1
  let e9:=pE.2.1
  let f0:=pE.2.2.1
  let f1:=pE.2.2.2.1
  let f2:=pL.1
  let f3:=pL.2.1
  let f4:=pL.2.2.1
  let f5:=pL.2.2.2.1
  let f6:=pR.1
  let f7:=pR.2.1
  let f8:=pR.2.2.1
  let f9:(List Yd3):=pR.2.2.2.1
  let g0:=pX.1
  let g1:=pX.2.1
  let g2:=pX.2.2.1
  let g3:=pX.2.2.2.1
  let g4:=qD.1
  let g5:=qD.2.1
  let g6:=qD.2.2.1
  let g7:=qD.2.2.2.1
  let g8:=qJ.1
  let g9:=qJ.2.1
  let h0:=qJ.2.2.1
  let h1:=qJ.2.2.2.1
  let h2:=qP.1
  let h3:=qP.2.1
  let h4:=qP.2.2.1
  let h5:=qP.2.2.2.1
  let h6:(List Yd1):=qV.1
  let h7:(List Int):=qV.2.1
  let h8:=qV.2.2.1
  let h9:=qV.2.2.2.1
  let i0:=rB.1
  let i1:=rB.2.1
  let i2:=rB.2.2.1
  let i3:=rB.2.2.2.1
  let i4:=rH.1
  let i5:=rH.2.1
  let i6:=rH.2.2.1
  let i7:=rH.2.2.2.1
  let i8:=rN.1
  let i9:=rN.2.1
  let j0:=rN.2.2.1
  let j1:=rN.2.2.2.1
  let j2:=rT.1
  let j3:=rT.2.1
  let j4:=rT.2.2.1
  let j5:=rT.2.2.2.1
  let j6:=rZ.1
  let j7:=rZ.2.1
  let j8:=rZ.2.2
  let j9:F0:=(f3,(i9,(h2,(f5,(j1,(h3,(f4,(j2,(h5,(f6,(j4,(h4,(f7,j3)))))))))))))
  (AW5 (f2,(j0,h1)) j9 d6.1.2.1 d6.1.2.2.2.1 e0.1 e1.1.2.2.2).bind fun k0=>
  Option.bind (
   (bif k0.2.2 then
    some ((0:Int),false,[],(0:Int),(0:Int),(0:Int),(0:Int))
   else
    some (e6,e7,e8,g5,g6,i3,i4))) fun k1=>
  let pF:=k1.2.2.2.2
  let k2:=k1.1
  let k3:=k1.2.1
  let k4:(List H2):=k1.2.2.1
  let k5:=k1.2.2.2.1
  let k6:=pF.1
  let k7:=pF.2.1
  let k8:=pF.2.2
  let k9:F0:=(f3,(i9,(h2,(f5,(j1,(h3,(f4,(j2,(h5,(f6,(j4,(h4,(f7,j3)))))))))))))
  (AW6 (e9,i7) k9 d6.1.1 d6.1.2.1).bind fun l0=>
  let l1:AR6:=(h0,(f1,(i8,g9)))
  let l2:F0:=(f3,(i9,(h2,(f5,(j1,(h3,(f4,(j2,(h5,(f6,(j4,(h4,(f7,j3)))))))))))))
  (AW7 l1 l2 l0.2 b d6.1.1).bind fun l3=>
  (AW9 d6.1 f3 i9 h2 f5 j1 h3 f4 j2 h5 f6 j4 h4 f7 j3 h6 f9 j5 h8 f8 j6 h7 g0 j8 h9 g1 j7 i0 g3 e4 i2 g2 e5 i1 g4 k3 k7 k6 k2 k8 k5 k4 i6 g7 f0 i5 g8 l0.1 l0.2 l3.1 l3.2.1 l3.2.2.1 l3.2.2.2 k0.1 k0.2.1 k0.2.2 t (4:Int) (0:Int) (0:Int) (0:Int) (0:Int) (0:Int) (0:Int) (0:Int) (0:Int) [] (0:Int) false false (0:Int) (0:Int) e1.1.2.2.2 (!e1.1.2.2.1) false false false (0:Int) (0:Int) (0:Int) (0:Int) (0:Int) (0:Int) (0:Int) d5.2.2.1 d5.2.2.2.1 d5.2.2.2.2.1 d5.2.2.2.2.2).bind fun l4=>
  let pG:=l4.2.2.2.2
  let pM:=pG.2.2.2.2
  let pS:=pM.2.2.2.2
  let pY:=pS.2.2.2.2
  let qE:=pY.2.2.2.2
  let qK:=qE.2.2.2.2
  let qQ:=qK.2.2.2.2
  let qW:=qQ.2.2.2.2
  let rC:=qW.2.2.2.2
  let rI:=rC.2.2.2.2
  let rO:=rI.2.2.2.2
  let rU:=rO.2.2.2.2
  let sA:=rU.2.2.2.2
  let sB:=sA.2.2.2.2
  let sC:=sB.2.2.2.2
  let sD:=sC.2.2.2.2
  let sE:=sD.2.2.2.2
  let sF:=sE.2.2.2.2
  let sG:=sF.2.2.2.2
  let sH:=sG.2.2.2.2
  let l5:O2:=(sA.2.2.2.1,(sB.1,(sB.2.1,((sB.2.2.1,sB.2.2.2.1),(sC.1,((sC.2.1,sC.2.2.1),(sC.2.2.2.1,(sD.1,(sD.2.1,(sD.2.2.1,(sD.2.2.2.1,(sE.1,((sE.2.1,sE.2.2.1),(sE.2.2.2.1,(sF.1,(sF.2.1,(sF.2.2.1,(sF.2.2.2.1,((sG.1,sG.2.1),(sG.2.2.1,(((sG.2.2.2.1,sH.1),(sH.2.1,sH.2.2.1)),sH.2.2.2)))))))))))))))))))))
  some (l5,l4.1,l4.2.1,l4.2.2.1,l4.2.2.2.1,pG.1,pG.2.1,pG.2.2.1,pG.2.2.2.1,pM.1,pM.2.1,pM.2.2.1,pM.2.2.2.1,pS.1,pS.2.1,pS.2.2.1,pS.2.2.2.1,pY.1,pY.2.1,pY.2.2.1,pY.2.2.2.1,qE.1,qE.2.1,qE.2.2.1,qE.2.2.2.1,qK.1,qK.2.1,qK.2.2.1,qK.2.2.2.1,qQ.1,qQ.2.1,qQ.2.2.1,qQ.2.2.2.1,qW.1,qW.2.1,qW.2.2.1,qW.2.2.2.1,rC.1,rC.2.1,rC.2.2.1,rC.2.2.2.1,rI.1,rI.2.1,rI.2.2.1,rI.2.2.2.1,rO.1,rO.2.1,rO.2.2.1,rO.2.2.2.1,rU.1,rU.2.1,rU.2.2.1,rU.2.2.2.1,sA.1,sA.2.1,sA.2.2.1))
noncomputable def An1:Con:={f:=25,ps:=[.ref 0 0,.dat (.slice (.slice (.int .u8))),.dat .bool],boxes:=[[dI,dI,dI,dI,dI,dI,dI,dI,dI,dI,dI,dI,dI,dI,.dat (.slice (.agg Yt1)),.dat (.slice (.agg Yt3)),.dat .bool,dI,dI,dI,.dat (.slice tI),.dat .bool,.dat (.int .u16),dI,.dat .bool,.dat (.int .u16),dI,dI,dI,dI,dI,dI,dI,dI,.dat .bool,dI,dI,dI,dI,dI,.dat (.slice (.agg I1)),.dat .bool,dI,dI,dI,dI,dI,.dat .bool,.dat .bool,.dat .bool,dI,dI,dI,dI,.dat .bool]],ins:=Df7,nin:=57,outs:=Df5,rs:=[.dat (.agg AD5)],A1:=56,F:=fun x=>let a:=x.2.2.2.2.2.2.2.2;let b:=a.2.2.2.2.2.2.2.2;let c:=b.2.2.2.2.2.2.2.2;let d:=c.2.2.2.2.2.2.2.2;let e:=d.2.2.2.2.2.2.2.2;let f:=e.2.2.2.2.2.2.2.2;AX0 x.1 x.2.1 x.2.2.1 x.2.2.2.1 x.2.2.2.2.1 x.2.2.2.2.2.1 x.2.2.2.2.2.2.1 x.2.2.2.2.2.2.2.1 x.2.2.2.2.2.2.2.2.1 a.2.1 a.2.2.1 a.2.2.2.1 a.2.2.2.2.1 a.2.2.2.2.2.1 a.2.2.2.2.2.2.1 a.2.2.2.2.2.2.2.1 a.2.2.2.2.2.2.2.2.1 b.2.1 b.2.2.1 b.2.2.2.1 b.2.2.2.2.1 b.2.2.2.2.2.1 b.2.2.2.2.2.2.1 b.2.2.2.2.2.2.2.1 b.2.2.2.2.2.2.2.2.1 c.2.1 c.2.2.1 c.2.2.2.1 c.2.2.2.2.1 c.2.2.2.2.2.1 c.2.2.2.2.2.2.1 c.2.2.2.2.2.2.2.1 c.2.2.2.2.2.2.2.2.1 d.2.1 d.2.2.1 d.2.2.2.1 d.2.2.2.2.1 d.2.2.2.2.2.1 d.2.2.2.2.2.2.1 d.2.2.2.2.2.2.2.1 d.2.2.2.2.2.2.2.2.1 e.2.1 e.2.2.1 e.2.2.2.1 e.2.2.2.2.1 e.2.2.2.2.2.1 e.2.2.2.2.2.2.1 e.2.2.2.2.2.2.2.1 e.2.2.2.2.2.2.2.2.1 f.2.1 f.2.2.1 f.2.2.2.1 f.2.2.2.2.1 f.2.2.2.2.2.1 f.2.2.2.2.2.2.1 f.2.2.2.2.2.2.2.1 f.2.2.2.2.2.2.2.2}
def EK6:Hint:=(.mk .plain [H0,(.mk .plain [H0,(.mk .plain [H0,(.mk .plain [H0,(.mk .plain [H0,(.mk .plain [H0,(.mk .plain [H0,(.mk .plain [H0,(.mk .plain [H0,(.mk .plain [H0,(.mk .plain [H0,(.mk .plain [(.mk .plain [H0,(.mk (.join (zP [82,78,79,81,80]) [(.normal,[kI 0 28,kI 0 31,kI 0 37,kB 0 34,⟨.cell 0 40,(.slice (.agg I1)),none⟩,kI 0 46,kI 0 43,kB 0 49,kI 0 52,kI 0 0,kI 0 6,kI 0 3,kI 0 9,kI 0 12,kI 0 18,⟨.cell 0 15,(.slice (.agg Yt3)),none⟩,kB 0 21,kB 0 24,kI 0 30,kI 0 27,kI 0 33,kI 0 39,kI 0 36,kI 0 42,kI 0 45,kI 0 51,kB 0 48,kB 0 54,kI 0 2,kI 0 5,kI 0 11,kI 0 8,⟨.cell 0 14,(.slice (.agg Yt1)),none⟩,⟨.cell 0 20,(.slice tI),none⟩,kI 0 17,kI 0 23,kI 0 26,kI 0 32,kI 0 29,kI 0 35,kI 0 38,kI 0 44,kB 0 41,kB 0 47,kI 0 50,kI 0 1,kI 0 53,kI 0 4,kI 0 7,kI 0 13,kI 0 10,kB 0 16,kI 0 19,⟨.cell 0 25,(.int .u16),none⟩,⟨.cell 0 22,(.int .u16),none⟩])]) [])]),(.mk .plain [H0,(.mk .plain [(.mk .plain [H0,(.mk (.join (zP [110,109,108,107]) [(.normal,[kI 0 37,kB 0 34,⟨.cell 0 40,(.slice (.agg I1)),none⟩,kI 0 39,kI 0 36,kI 0 35,kI 0 38])]) [])])])])])])])])])])])])])])])])
theorem EK7:AQ7 ⟨R8 tys,[BN8,BO6,BO8,BO9,BP0,BP1,BP2,BP3],[],[An0],[]⟩ An1 Tryz.f25 EK6=An1.F:=by
 funext x
 kernel_rfl
theorem EK8:P2 Tryz.prog An1:=
 BJ4 (Γ:=⟨R8 tys,[BN8,BO6,BO8,BO9,BP0,BP1,BP2,BP3],[],[An0],[]⟩) ⟨fun T d h=>AR5 tys Ac2 T d h,by simp[EE4,EH0,EH5,EI5,EJ1,EJ3,EJ5,EJ6],by simp[],by simp[EK5],Aa2 Tryz.prog [] (by kernel_rfl)⟩ (by kernel_rfl) Tryz.func25 rfl (by kernel_rfl) EK7
noncomputable def AB7 [LP](a:F0)(b:I2)(c:(List ((List (List Int))×Bool))):Option (List O2):=
 (AL2 a b).bind fun d=>
 (bif (d.1 != (0:Int)) then
  some ([])
 else
  (AL3 b).bind fun e=>
  (AT6 a e).bind fun f=>
  let pC:=f.2.2.2.2
  let pF:=pC.2.2.2.2
  let pI:=pF.2.2.2.2
  let pL:=pI.2.2.2.2
  let pO:=pL.2.2.2.2
  let pR:=pO.2.2.2.2
  let pU:=pR.2.2.2.2
  let pX:=pU.2.2.2.2
  let qA:=pX.2.2.2.2
  let qD:=qA.2.2.2.2
  let qG:=qD.2.2.2.2
  let qJ:=qG.2.2.2.2
  let qM:=qJ.2.2.2.2
  Option.bind (
   LP.lp (X:=(List O2)) (fun (g:Dl1)=>
    let pA:=g.2.2.2.2
    let pD:=pA.2.2.2.2
    let pG:=pD.2.2.2.2
    let pJ:=pG.2.2.2.2
    let pM:=pJ.2.2.2.2
    let pP:=pM.2.2.2.2
    let pS:=pP.2.2.2.2
    let pV:=pS.2.2.2.2
    let pY:=pV.2.2.2.2
    let qB:=pY.2.2.2.2
    let qE:=qB.2.2.2.2
    let qH:=qE.2.2.2.2
    let qK:=qH.2.2.2.2
    let h:=g.1
    let i:=g.2.1
    let j:=g.2.2.1
    let k:=g.2.2.2.1
    let l:=pA.1
    let m:=pA.2.1
    let n:=pA.2.2.1
    let o:(List H2):=pA.2.2.2.1
    let p:=pD.1
    let q:=pD.2.1
    let r:=pD.2.2.1
    let s:=pD.2.2.2.1
    let t:=pG.1
    let u:=pG.2.1
    let v:(List Yd3):=pG.2.2.1
    let w:=pG.2.2.2.1
    let y:=pJ.1
    let a0:=pJ.2.1
    let a1:=pJ.2.2.1
    let a2:=pJ.2.2.2.1
    let a3:=pM.1
    let a4:=pM.2.1
    let a5:=pM.2.2.1
    let a6:=pM.2.2.2.1
    let a7:=pP.1
    let a8:=pP.2.1
    let a9:=pP.2.2.1
    let b0:=pP.2.2.2.1
    let b1:=pS.1
    let b2:=pS.2.1
    let b3:=pS.2.2.1
    let b4:=pS.2.2.2.1
    let b5:=pV.1
    let b6:=pV.2.1
    let b7:=pV.2.2.1
    let b8:=pV.2.2.2.1
    let b9:=pY.1
    let c0:=pY.2.1
    let c1:=pY.2.2.1
    let c2:=pY.2.2.2.1
    let c3:=qB.1
    let c4:=qB.2.1
    let c5:=qB.2.2.1
    let c6:=qB.2.2.2.1
    let c7:(List O2):=qE.1
    let c8:=qE.2.1
    let c9:=qE.2.2.1
    let d0:=qE.2.2.2.1
    let d1:=qH.1
    let d2:=qH.2.1
    let d3:=qH.2.2.1
    let d4:(List Yd1):=qH.2.2.2.1
    let d5:=qK.1
    let d6:(List Int):=qK.2.1
    let d7:=qK.2.2.1
    let d8:=qK.2.2.2.1
    let d9:=qK.2.2.2.2
    let e0:=decide (d0<c.length)
    (bif e0 then
     chk none (decide (0≤d0)&&decide (d0<c.length))<|
     let e1:((List (List Int))×Bool):=(c.getD d0.toNat ([],false))
     chk none (decide (0≤d0)&&decide (d0<c.length))<|
     let e2:((List (List Int))×Bool):=(c.getD d0.toNat ([],false))
     (AX0 e1.1 e2.2 r b4 a3 c2 b3 d3 t i a5 s b5 a4 c3 k d4 v j a6 u b6 d6 c4 m d5 w l a7 c6 b7 d7 c5 n a9 y b9 a8 c8 b8 d8 a1 o b1 a0 c0 b0 c9 q d9 a2 p b2 d2 c1 h d1).bind fun e3=>
     let pB:=e3.2.2.2.2
     let pE:=pB.2.2.2.2
     let pH:=pE.2.2.2.2
     let pK:=pH.2.2.2.2
     let pN:=pK.2.2.2.2
     let pQ:=pN.2.2.2.2
     let pT:=pQ.2.2.2.2
     let pW:=pT.2.2.2.2
     let pZ:=pW.2.2.2.2
     let qC:=pZ.2.2.2.2
     let qF:=qC.2.2.2.2
     let qI:=qF.2.2.2.2
     let qL:=qI.2.2.2.2
     let e4:(List O2):=([e3.1]:List O2)
     chk none (decide ((c7.length+e4.length)*232≤140737488355328))<|
     let e5:(List O2):=(c7++e4)
     let e6:=FT8 .i64 (d0+1)
     some (.inl (qL.2.2.1,pE.1,pK.2.1,pH.2.2.1,pQ.2.2.1,pN.2.2.2.1,pW.1,qC.2.1,qI.2.2.1,qF.2.2.2.1,e3.2.1,pE.2.2.1,pB.2.2.2.1,pK.2.2.2.1,pK.1,pQ.2.1,pW.2.2.1,qC.2.2.2.1,qC.1,qI.2.1,e3.2.2.2.1,pH.1,pE.2.1,pK.2.2.1,pQ.2.2.2.1,pZ.1,pW.2.1,qF.2.1,qC.2.2.1,qI.2.2.2.1,pB.2.1,e3.2.2.1,pE.2.2.2.1,pN.1,pT.2.1,pZ.2.2.1,pW.2.2.2.1,qF.1,qL.2.1,pB.1,pH.2.1,pN.2.2.1,pT.2.2.2.1,pT.1,e5,pZ.2.1,qF.2.2.1,e6,qL.2.2.2,qL.1,pB.2.2.1,pH.2.2.2.1,pQ.1,pN.2.1,pT.2.2.1,pZ.2.2.2.1,qI.1))
    else
     some (.inr c7))) (qM.2.1,pC.2.2.2.1,pL.1,pI.2.1,pR.2.1,pO.2.2.1,pU.2.2.2.1,qD.1,qJ.2.1,qG.2.2.1,f.1,pF.2.1,pC.2.2.1,pL.2.2.1,pI.2.2.2.1,pR.1,pX.2.1,qD.2.2.1,qA.2.2.2.1,qJ.1,f.2.2.1,pF.2.2.2.1,pF.1,pL.2.1,pR.2.2.1,pX.2.2.2.1,pX.1,qG.1,qD.2.1,qJ.2.2.1,pC.1,f.2.1,pF.2.2.1,pL.2.2.2.1,pU.1,qA.2.1,pX.2.2.1,qD.2.2.2.1,qM.1,f.2.2.2.1,pI.1,pO.2.1,pU.2.2.1,pR.2.2.2.1,[],qA.1,qG.2.1,(0:Int),qM.2.2,qJ.2.2.2.1,pC.2.1,pI.2.2.1,pO.2.2.2.1,pO.1,pU.2.1,qA.2.2.1,qG.2.2.2.1)) fun e7=>
  some e7)
noncomputable def An2:Con:={f:=13,ps:=[.dat (.agg C2),.dat (.agg D3),.dat (.slice (.agg (.pair (.slice (.slice (.int .u8))) .bool)))],boxes:=[],ins:=Dl2,nin:=3,outs:=(.slice (.agg AD5)),rs:=[.dat (.slice (.agg AD5))],A1:=1,F:=fun x=>AB7 x.1 x.2.1 x.2.2}
def EK9:Hint:=(.mk .plain [H0,(.mk .plain [H0,(.mk .plain [H0,(.mk .plain [H0,(.mk .plain [H0,(.mk .plain [(.mk .plain [H0,(.mk .plain [(.mk (.loop [kI 2 53,kI 2 7,kB 2 16,kI 2 13,⟨.cell 2 25,(.int .u16),none⟩,⟨.cell 2 22,(.int .u16),none⟩,kI 2 31,⟨.cell 2 40,(.slice (.agg I1)),none⟩,kB 2 49,kI 2 46,kI 2 0,kI 2 9,kI 2 6,kI 2 18,⟨.cell 2 15,(.slice (.agg Yt3)),none⟩,kB 2 24,kI 2 33,kI 2 42,kI 2 39,kB 2 48,kI 2 2,kI 2 11,kI 2 8,kI 2 17,kI 2 26,kI 2 35,kI 2 32,kI 2 44,kB 2 41,kI 2 50,kI 2 4,kI 2 1,kI 2 10,kI 2 19,kI 2 28,kI 2 37,kB 2 34,kI 2 43,kI 2 52,kI 2 3,kI 2 12,kB 2 21,kI 2 30,kI 2 27,⟨.slot 10,(.slice (.agg AD5)),some 4500049⟩,kI 2 36,kI 2 45,sI 28,kB 2 54,kI 2 51,kI 2 5,⟨.cell 2 14,(.slice (.agg Yt1)),none⟩,kI 2 23,⟨.cell 2 20,(.slice tI),none⟩,kI 2 29,kI 2 38,kB 2 47] (zP [36,45,11,29,38,44,31,40,37,46,33,30,42,39,35,32,41,34,43]) [(.exit 0,[⟨.slot 10,(.slice (.agg AD5)),some 4500049⟩])]) [])])])])])])])])])
theorem EL0:AQ7 ⟨R8 tys,[BL1,BL2,An1],[Ak9],[],[81]⟩ An2 Tryz.f13 EK9=An2.F:=by
 funext x
 kernel_rfl
theorem Bz7:P2 Tryz.prog An2:=
 BJ4 (Γ:=⟨R8 tys,[BL1,BL2,An1],[Ak9],[],[81]⟩) ⟨fun T d h=>AR5 tys Ac2 T d h,by simp[Dq1,Dq3,EK8],by simp[Du9],by simp[],Aa2 Tryz.prog [81] (by kernel_rfl)⟩ (by kernel_rfl) Tryz.func13 rfl (by kernel_rfl) EL0
noncomputable def Bz8 [LP](a:(Int×Int))(b:Int):Option Bool:=
 let c:=(bif (decide (a.1≤b)) then (decide (b≤a.2)) else false)
 some c
noncomputable def Bz9:Con:={f:=17,ps:=[.dat (.agg (.pair tI tI)),dI],boxes:=[],ins:=(.pair (.agg (.pair tI tI)) tI),nin:=2,outs:=.bool,rs:=[.dat .bool],A1:=1,F:=fun x=>Bz8 x.1 x.2}
theorem EL1:KO Bz9:=
 cgp (l:=[]) H0 (by simp) Tryz.func17
noncomputable def CA0 [LP](a:(Int×Int)):Option Int:=
 (P4 a).bind fun b=>
 (bif (!b) then
  some (0:Int)
 else
  let c:=(FT8 .u64 a.2)
  let d:=(FT8 .u64 a.1)
  let e:=FT8 .u64 (c-d)
  some e)
noncomputable def CA1:Con:={f:=18,ps:=[.dat (.agg (.pair tI tI))],boxes:=[],ins:=(.agg (.pair tI tI)),nin:=1,outs:=(.int .u64),rs:=[.dat (.int .u64)],A1:=1,F:=fun x=>CA0 x}
theorem EL2:KO CA1:=
 cgp (l:=[AD6]) H0 (by simp[AH5]) Tryz.func18
noncomputable def AE7 [LP](_:Unit):Option Bool:=
 let a:F0:=((1024:Int),((131072:Int),((131072:Int),((0:Int),((0:Int),((0:Int),((1000:Int),((100:Int),((9:Int),((2:Int),((128:Int),((0:Int),((5:Int),(2:Int))))))))))))))
 let b:(List (Int×Int)):=([((0:Int),(0:Int))]:List (Int×Int))
 let c:(List Yd1):=([((9000:Int),(b,[]))]:List Yd1)
 let d:Yd3:=((7:Int),((0:Int),((4000:Int),((0:Int),(0:Int)))))
 let e:I2:=(c,([d]:List Yd3))
 let f:Yd5:=(true,(true,(true,(true,true))))
 let g:AH1:=(((0:Int),(0:Int)),((0:Int),((0:Int),((7:Int),(f,false)))))
 let h:Yd5:=(true,(true,(true,(true,false))))
 let i:AH1:=(((0:Int),(0:Int)),((0:Int),((0:Int),((0:Int),(h,false)))))
 let j:(List AH1):=([g,i]:List AH1)
 (AL1 j).bind fun k=>
 (AB7 a e k).bind fun l=>
 let m:=((l.length:Int)==(2:Int))
 chk none ((true&&(decide ((0:Int)<(l.length:Int))))|| !m)<|
 let n:O2:=(l.getD (0:Int).toNat ((0:Int),((0:Int),((0:Int),(((0:Int),(0:Int)),((0:Int),(((0:Int),(0:Int)),((0:Int),((0:Int),([],((0:Int),(false,(false,(((0:Int),(0:Int)),(false,(false,(false,(false,(false,(((0:Int),(0:Int)),((0:Int),((((0:Int),(0:Int)),((0:Int),(0:Int))),((0:Int),((0:Int),((0:Int),(0:Int))))))))))))))))))))))))))
 let o:=n.2.2.2.2.2.2.2.2.2.2.2.2.2.1
 let p:=(bif m then o else false)
 chk none ((true&&(decide ((1:Int)<(l.length:Int))))|| !p)<|
 let q:O2:=(l.getD (1:Int).toNat ((0:Int),((0:Int),((0:Int),(((0:Int),(0:Int)),((0:Int),(((0:Int),(0:Int)),((0:Int),((0:Int),([],((0:Int),(false,(false,(((0:Int),(0:Int)),(false,(false,(false,(false,(false,(((0:Int),(0:Int)),((0:Int),((((0:Int),(0:Int)),((0:Int),(0:Int))),((0:Int),((0:Int),((0:Int),(0:Int))))))))))))))))))))))))))
 let r:=(q.2.2.1==(7:Int))
 let s:=(bif p then r else false)
 chk none ((true&&(decide ((1:Int)<(l.length:Int))))|| !s)<|
 let t:O2:=(l.getD (1:Int).toNat ((0:Int),((0:Int),((0:Int),(((0:Int),(0:Int)),((0:Int),(((0:Int),(0:Int)),((0:Int),((0:Int),([],((0:Int),(false,(false,(((0:Int),(0:Int)),(false,(false,(false,(false,(false,(((0:Int),(0:Int)),((0:Int),((((0:Int),(0:Int)),((0:Int),(0:Int))),((0:Int),((0:Int),((0:Int),(0:Int))))))))))))))))))))))))))
 let u:=(bif s then (t.2.1==(2:Int)) else false)
 chk none ((true&&(decide ((1:Int)<(l.length:Int))))|| !u)<|
 let v:O2:=(l.getD (1:Int).toNat ((0:Int),((0:Int),((0:Int),(((0:Int),(0:Int)),((0:Int),(((0:Int),(0:Int)),((0:Int),((0:Int),([],((0:Int),(false,(false,(((0:Int),(0:Int)),(false,(false,(false,(false,(false,(((0:Int),(0:Int)),((0:Int),((((0:Int),(0:Int)),((0:Int),(0:Int))),((0:Int),((0:Int),((0:Int),(0:Int))))))))))))))))))))))))))
 let w:=v.2.2.2.2.2.2.2.2.2.2.2.2.2.2.2.1
 let y:=(bif u then w else false)
 chk none ((true&&(decide ((1:Int)<(l.length:Int))))|| !y)<|
 let a0:O2:=(l.getD (1:Int).toNat ((0:Int),((0:Int),((0:Int),(((0:Int),(0:Int)),((0:Int),(((0:Int),(0:Int)),((0:Int),((0:Int),([],((0:Int),(false,(false,(((0:Int),(0:Int)),(false,(false,(false,(false,(false,(((0:Int),(0:Int)),((0:Int),((((0:Int),(0:Int)),((0:Int),(0:Int))),((0:Int),((0:Int),((0:Int),(0:Int))))))))))))))))))))))))))
 (bif y then Bz8 a0.2.2.2.1 (0:Int) else some false).bind fun a1=>
 let a2:=(bif y then a1 else false)
 chk none ((true&&(decide ((1:Int)<(l.length:Int))))|| !a2)<|
 let a3:O2:=(l.getD (1:Int).toNat ((0:Int),((0:Int),((0:Int),(((0:Int),(0:Int)),((0:Int),(((0:Int),(0:Int)),((0:Int),((0:Int),([],((0:Int),(false,(false,(((0:Int),(0:Int)),(false,(false,(false,(false,(false,(((0:Int),(0:Int)),((0:Int),((((0:Int),(0:Int)),((0:Int),(0:Int))),((0:Int),((0:Int),((0:Int),(0:Int))))))))))))))))))))))))))
 (bif a2 then CA0 a3.2.2.2.1 else some (0:Int)).bind fun a4=>
 let a5:=decide (a4<(1000:Int))
 let a6:=(bif a2 then a5 else false)
 some a6
noncomputable def CA2:Con:={f:=10,ps:=[],boxes:=[],ins:=.unit,nin:=0,outs:=.bool,rs:=[.dat .bool],A1:=1,F:=fun x=>AE7 ()}
theorem EL3:KO CA2:=
 cgp (l:=[BL0,An2,Bz9,CA1]) H0 (by simp[Bk9,Bz7,EL1,EL2]) Tryz.func10
noncomputable def An3 [LP](a:I2)(b:Int):Option Int:=
 Option.bind (α:=Int ⊕ Unit) (
  LP.lp (X:=Int ⊕ Unit) (fun (c:Int)=>
   let d:=decide (c<a.2.length)
   (bif d then
    chk none (decide (0≤c)&&decide (c<a.2.length))<|
    let e:Yd3:=(a.2.getD c.toNat ((0:Int),((0:Int),((0:Int),((0:Int),(0:Int))))))
    (bif (e.1==b) then
     some (.inr (.inl c))
    else
     let f:=FT8 .i64 (c+1)
     some (.inl f))
   else
    some (.inr (.inr ())))) (0:Int)) fun z=>match z with
 | .inl g=>
  some g
 | .inr _=>
  some (-1:Int)
noncomputable def BP7:Con:={f:=15,ps:=[.dat (.agg D3),dI],boxes:=[],ins:=BJ9,nin:=2,outs:=tI,rs:=[dI],A1:=1,F:=fun x=>An3 x.1 x.2}
theorem CA3:KO BP7:=
 cgp (l:=[]) (.mk .plain [H0,(.mk .plain [(.mk .plain [H0,(.mk .plain [(.mk (.loop [sI 9] (zP [20,4,10,16,13,19,12,15,5,18,14,11,17,21]) [(.ret,[sI 4]),(.exit 0,[])]) [])])])])]) (by simp) Tryz.func15
noncomputable def Ay6 [LP](a:I2)(b:Int)(c:(List Int)):Option Int:=
 let d:=FT8 .i64 (0-b)
 Option.bind (
  LP.lp (X:=Int) (fun (e:(Int×Int))=>
   let f:=e.1
   let g:=e.2
   let h:=decide (g<c.length)
   (bif h then
    chk none (decide (0≤g)&&decide (g<c.length))<|
    let i:=(c.getD g.toNat 0)
    chk none (decide (0≤i)&&decide (i<a.1.length))<|
    let j:Yd1:=(a.1.getD i.toNat ((0:Int),([],[])))
    let k:=FT8 .i64 (f+j.1)
    let l:=FT8 .i64 (g+1)
    some (.inl (k,l))
   else
    some (.inr f))) (d,(0:Int))) fun m=>
 some m
noncomputable def CA4:Con:={f:=48,ps:=[.dat (.agg D3),dI,.dat (.slice tI)],boxes:=[],ins:=Dl3,nin:=3,outs:=tI,rs:=[dI],A1:=1,F:=fun x=>Ay6 x.1 x.2.1 x.2.2}
theorem EL4:KO CA4:=
 cgp (l:=[]) (.mk .plain [H0,(.mk .plain [H0,(.mk .plain [(.mk .plain [H0,(.mk .plain [(.mk (.loop [sI 7,sI 8] (zP [16,13,19,22,25,14,11,17,23,20,26,12,15,21,18,24,27]) [(.exit 0,[sI 7])]) [])])])])])]) (by simp) Tryz.func48
noncomputable def An4 [LP](a b:(List Int)):Option Bool:=
 Option.bind (α:=Bool ⊕ Unit) (
  LP.lp (X:=Bool ⊕ Unit) (fun (c:Int)=>
   let d:=decide (c<(12:Int))
   (bif d then
    let e:=decide (c<a.length)
    Option.bind (
     (bif e then
      chk none (decide (0≤c)&&decide (c<a.length))<|
      let f:=(a.getD c.toNat 0)
      some f
     else
      some (0:Int))) fun g=>
    let h:=decide (c<b.length)
    Option.bind (
     (bif h then
      chk none (decide (0≤c)&&decide (c<b.length))<|
      let i:=(b.getD c.toNat 0)
      some i
     else
      some (0:Int))) fun j=>
    (bif (g != j) then
     some (.inr (.inl (decide (g<j))))
    else
     let k:=FT8 .i64 (c+1)
     some (.inl k))
   else
    some (.inr (.inr ())))) (0:Int)) fun z=>match z with
 | .inl l=>
  some l
 | .inr _=>
  let m:=(decide ((a.length:Int)<(b.length:Int)))
  some m
noncomputable def CA5:Con:={f:=87,ps:=[.dat (.slice tI),.dat (.slice tI)],boxes:=[],ins:=(.pair (.slice tI) (.slice tI)),nin:=2,outs:=.bool,rs:=[.dat .bool],A1:=1,F:=fun x=>An4 x.1 x.2}
theorem EL5:KO CA5:=
 cgp (l:=[]) (.mk .plain [H0,(.mk .plain [(.mk .plain [H0,(.mk .plain [(.mk (.loop [sI 5] (zP [7,30,4,16,13,19,22,28,25,31,8,14,17,23,20,26,29,32,9,6,12,15,21,18,24,27,33,10,11]) [(.ret,[sB 4]),(.exit 0,[])]) [(.mk .plain [H0,(.mk .plain [(.mk .plain [(.mk .plain [H0,(.mk .plain [H0,(.mk .plain [(.mk .plain [H0,(.mk (.join (zP [16,18,17,19]) [(.normal,[sI 6])]) [])]),(.mk .plain [(.mk .plain [H0,(.mk (.join (zP [25,26,24,27]) [(.normal,[sI 7])]) [])])])])])])])])])])])])])]) (by simp) Tryz.func87
noncomputable def Ay7 [LP](a:(List (List Int)))(b:(List Int)):Option (List (List Int)):=
 Option.bind (
  LP.lp (X:=(Bool×(List (List Int)))) (fun (c:((List (List Int))×(Int×Bool)))=>
   let d:(List (List Int)):=c.1
   let e:=c.2.1
   let f:=c.2.2
   let g:=decide (e<a.length)
   (bif g then
    chk none ((decide (0≤e)&&decide (e<a.length))|| !(!f))<|
    (bif (!f) then An4 (a.getD e.toNat []) b else some false).bind fun h=>
    let i:=(bif (!f) then (!h) else false)
    Option.bind (
     (bif i then
      chk none (decide (0≤e)&&decide (e<a.length))<|
      (An4 b (a.getD e.toNat [])).bind fun j=>
      Option.bind (
       (bif j then
        let k:(List (List Int)):=([b]:List (List Int))
        chk none (decide ((d.length+k.length)*24≤140737488355328))<|
        let l:(List (List Int)):=(d++k)
        some l
       else
        some d)) fun m=>
      some (true,m)
     else
      some (f,d))) fun n=>
    let o:=n.1
    let p:(List (List Int)):=n.2
    chk none (decide (0≤e)&&decide (e<a.length))<|
    let q:(List (List Int)):=([(a.getD e.toNat [])]:List (List Int))
    chk none (decide ((p.length+q.length)*24≤140737488355328))<|
    let r:(List (List Int)):=(p++q)
    let s:=FT8 .i64 (e+1)
    some (.inl (r,s,o))
   else
    some (.inr (f,d)))) ([],(0:Int),false)) fun t=>
 let u:=t.1
 let v:(List (List Int)):=t.2
 Option.bind (
  (bif (!u) then
   let w:(List (List Int)):=([b]:List (List Int))
   chk none (decide ((v.length+w.length)*24≤140737488355328))<|
   let y:(List (List Int)):=(v++w)
   some y
  else
   some v)) fun a0=>
 some a0
noncomputable def CA6:Con:={f:=49,ps:=[.dat (.slice (.slice tI)),.dat (.slice tI)],boxes:=[],ins:=(.pair (.slice (.slice tI)) (.slice tI)),nin:=2,outs:=(.slice (.slice tI)),rs:=[.dat (.slice (.slice tI))],A1:=1,F:=fun x=>Ay7 x.1 x.2}
theorem EL6:KO CA6:=
 cgp (l:=[CA5]) (.mk .plain [H0,(.mk .plain [H0,(.mk .plain [H0,(.mk .plain [(.mk .plain [H0,(.mk .plain [(.mk (.loop [⟨.slot 5,(.slice (.slice tI)),some 3400065⟩,sI 7,sB 6] (zP [30,36,39,8,14,11,17,23,20,26,29,35,32,38,41,10,16,13,19,22,28,25,31,34,40,37,9,12,15,21,18,24,27,33]) [(.exit 0,[sB 6,⟨.slot 5,(.slice (.slice tI)),some 3400065⟩])]) [(.mk .plain [H0,(.mk .plain [(.mk .plain [(.mk .plain [(.mk .plain [H0,(.mk (.join (zP [30,26,29,32,28,25,31,34,27,33]) [(.normal,[sB 6,⟨.slot 5,(.slice (.slice tI)),some 3400065⟩])]) [(.mk .plain [(.mk .plain [H0,(.mk (.join (zP [31,34,32,33]) [(.normal,[⟨.slot 5,(.slice (.slice tI)),some 3400065⟩])]) [])])])])])])])])])])])]),(.mk .plain [(.mk .plain [H0,(.mk (.join (zP [46,47,44,45]) [(.normal,[⟨.slot 5,(.slice (.slice tI)),none⟩])]) [])])])])])])]) (by simp[EL5]) Tryz.func49
noncomputable def Ay8 [LP](a:I2)(b:(Int×(List (List Int))))(c d:Int):Option ((Int×(List (List Int)))×Int):=
 let e:=FT8 .i64 (0-b.1)
 let f:=(bif (decide (d<c)) then true else (decide (c<e)))
 (bif f then
  some (((0:Int),[]),(40:Int))
 else
  Option.bind (α:=(Int×(Int×(List (List Int)))) ⊕ (Int×((List (List Int))×(List (List Int))))) (
   LP.lp (X:=(Int×(Int×(List (List Int)))) ⊕ (Int×((List (List Int))×(List (List Int))))) (fun (g:Dl5)=>
    let h:=g.1
    let i:(List (List Int)):=g.2.1
    let j:(List (List Int)):=g.2.2.1
    let k:(List (List Int)):=g.2.2.2.1
    let l:=g.2.2.2.2
    let m:=decide (l<(13:Int))
    (bif m then
     Option.bind (α:=(Int×(Int×(List (List Int)))) ⊕ Bi3) (
      LP.lp (X:=(Int×(Int×(List (List Int)))) ⊕ Bi3) (fun (n:Dl7)=>
       let o:=n.1
       let p:(List (List Int)):=n.2.1
       let q:(List (List Int)):=n.2.2.1
       let r:=n.2.2.2.1
       let s:(List (List Int)):=n.2.2.2.2
       let t:=decide (r<k.length)
       (bif t then
        Option.bind (α:=((List (List Int))×(Int×Int)) ⊕ Cm2) (
         chk none (decide (0≤r)&&decide (r<k.length))<|
         let u:(List Int):=(k.getD r.toNat [])
         let v:=(FT8 .i64 ((u.length:Int)-(1:Int)))
         chk none (decide (0≤v)&&decide (v<u.length))<|
         let w:=(u.getD v.toNat 0)
         chk none (decide (0≤w)&&decide (w<a.1.length))<|
         let y:Yd1:=(a.1.getD w.toNat ((0:Int),([],[])))
         (Ay6 a b.1 u).bind fun a0=>
         let a1:=((y.2.2.length:Int)==(0:Int))
         let a2:=(bif (decide (d≤a0)) then true else a1)
         (bif a2 then
          Option.bind (
           (bif (decide (c≤a0)) then
            (Ay7 p u).bind fun a3=>
            some a3
           else
            some p)) fun a4=>
          let a5:=(decide ((16:Int)<(a4.length:Int)))
          (bif a5 then
           some (.inl ([],(0:Int),(13:Int)))
          else
           some (.inr (q,o,a4,s)))
         else
          let a6:=((u.length:Int)==(12:Int))
          (bif a6 then
           some (.inl ([],(0:Int),(13:Int)))
          else
           Option.bind (
            LP.lp (X:=(List (List Int))) (fun (a7:((List (List Int))×Int))=>
             let a8:(List (List Int)):=a7.1
             let a9:=a7.2
             let b0:=decide (a9<y.2.2.length)
             (bif b0 then
              chk none (decide ((([]:List Int).length+u.length)*8≤140737488355328))<|
              let b1:(List Int):=u
              chk none (decide (0≤a9)&&decide (a9<y.2.2.length))<|
              let b2:=(y.2.2.getD a9.toNat 0)
              chk none (decide ((b1.length+([b2]:List Int).length)*8≤140737488355328))<|
              let b3:(List Int):=(b1++([b2]:List Int))
              let b4:(List (List Int)):=([b3]:List (List Int))
              chk none (decide ((a8.length+b4.length)*24≤140737488355328))<|
              let b5:(List (List Int)):=(a8++b4)
              let b6:=FT8 .i64 (a9+1)
              some (.inl (b5,b6))
             else
              some (.inr a8))) (s,(0:Int))) fun b7=>
           some (.inr (q,o,p,b7))))) fun z=>match z with
        | .inl b8=>
         let b9:(List (List Int)):=b8.1
         let c0:=b8.2.1
         let c1:=b8.2.2
         some (.inr (.inl (c0,c1,b9)))
        | .inr c2=>
         let c3:(List (List Int)):=c2.1
         let c4:=c2.2.1
         let c5:(List (List Int)):=c2.2.2.1
         let c6:(List (List Int)):=c2.2.2.2
         let c7:=FT8 .i64 (r+1)
         some (.inl (c4,c5,c3,c7,c6))
       else
        some (.inr (.inr (o,p,q,s))))) (h,i,j,(0:Int),[])) fun z=>match z with
     | .inl c8=>
      let c9:=c8.1
      let d0:=c8.2.1
      let d1:(List (List Int)):=c8.2.2
      some (.inr (.inl (c9,d0,d1)))
     | .inr d2=>
      let d3:=d2.1
      let d4:(List (List Int)):=d2.2.1
      let d5:(List (List Int)):=d2.2.2.1
      let d6:(List (List Int)):=d2.2.2.2
      let d7:=FT8 .i64 (l+1)
      some (.inl (d3,d4,d5,d6,d7))
    else
     some (.inr (.inr (h,i,j))))) ((0:Int),[],[],b.2,(0:Int))) fun z=>match z with
  | .inl d8=>
   let d9:=d8.1
   let e0:=d8.2.1
   let e1:(List (List Int)):=d8.2.2
   some ((d9,e1),e0)
  | .inr e2=>
   let e3:=e2.1
   let e4:(List (List Int)):=e2.2.1
   let e5:(List (List Int)):=e2.2.2
   let e6:=((e4.length:Int)==(0:Int))
   (bif e6 then
    some (((0:Int),[]),(40:Int))
   else
    let e7:(Int×(List (List Int))):=(b.1,e4)
    some (e7,(0:Int))))
noncomputable def CA7:Con:={f:=26,ps:=[.dat (.agg D3),.dat (.agg (.pair tI (.slice (.slice tI)))),dI,dI],boxes:=[],ins:=Dl9,nin:=4,outs:=(.pair (.agg (.pair tI (.slice (.slice tI)))) tI),rs:=[.dat (.agg (.pair tI (.slice (.slice tI)))),dI],A1:=2,F:=fun x=>Ay8 x.1 x.2.1 x.2.2.1 x.2.2.2}
theorem EL7:KO CA7:=
 cgp (l:=[CA4,CA6]) (.mk .plain [H0,(.mk .plain [H0,(.mk .plain [H0,(.mk .plain [H0,(.mk .plain [(.mk .plain [H0,(.mk .plain [(.mk (.loop [kI 2 0,⟨.cell 3 1,(.slice (.slice tI)),none⟩,⟨.cell 2 1,(.slice (.slice tI)),none⟩,⟨.slot 11,(.slice (.slice tI)),none⟩,sI 12] (zP [91,36,100,45,85,109,54,51,60,69,14,78,75,87,84,93,102,47,44,108,53,62,71,16,80,13,77,86,95,40,104,37,101,46,55,64,9,73,70,15,79,88,97,42,94,106,103,48,57,66,63,72,17,81,90,99,96,41,105,50,59,56,68,65,74,19,83,92,89,98,43,107,52,49,61,58,67,76,18,82,38,110,39]) [(.ret,[kI 2 0,sI 9,⟨.cell 2 1,(.slice (.slice tI)),none⟩]),(.exit 0,[kI 2 0,⟨.cell 3 1,(.slice (.slice tI)),none⟩,⟨.cell 2 1,(.slice (.slice tI)),none⟩])]) [(.mk .plain [H0,(.mk .plain [(.mk .plain [(.mk .plain [H0,(.mk .plain [(.mk .plain [H0,(.mk .plain [(.mk (.loop [kI 2 0,⟨.cell 3 1,(.slice (.slice tI)),none⟩,⟨.cell 2 1,(.slice (.slice tI)),none⟩,sI 14,⟨.slot 13,(.slice (.slice tI)),some 10900065⟩] (zP [91,100,109,54,51,60,69,78,75,87,84,93,102,18,47,108,53,62,71,16,80,77,86,95,40,104,101,46,55,64,9,73,70,15,79,88,97,42,94,106,103,48,57,66,63,72,17,81,90,99,96,41,105,50,59,56,68,65,74,19,83,92,89,98,43,107,52,49,61,58,67,76,85,82,45,44]) [(.ret,[kI 2 0,sI 9,⟨.cell 2 1,(.slice (.slice tI)),none⟩]),(.exit 2,[kI 2 0,⟨.cell 3 1,(.slice (.slice tI)),none⟩,⟨.cell 2 1,(.slice (.slice tI)),none⟩,⟨.slot 13,(.slice (.slice tI)),some 10900065⟩])]) [(.mk .plain [H0,(.mk .plain [(.mk (.join [(0,48),(0,54),(0,51),(0,57),(0,60),(0,66),(0,63),(0,69),(0,72),(0,78),(0,17),(0,75),(0,81),(0,84),(0,47),(0,50),(0,53),(0,59),(0,56),(0,62),(0,68),(0,65),(0,71),(0,16),(0,74),(0,80),(0,77),(0,83),(0,86),(4,1),(0,46),(0,52),(0,49),(0,55),(0,61),(0,58),(0,64),(0,9),(0,67),(0,73),(0,70),(0,76),(0,15),(0,79),(0,85),(0,82),(0,87),(0,90),(0,89),(0,88),(0,91),(0,97),(0,94),(0,100),(0,106),(0,103),(0,109),(0,93),(0,99),(0,96),(0,102),(0,105),(0,108),(0,13),(0,19),(0,92),(0,95),(0,98),(0,104),(0,101),(0,107),(0,18)] [(.ret,[⟨.cell 2 1,(.slice (.slice tI)),none⟩,kI 2 0,sI 9]),(.normal,[⟨.cell 2 1,(.slice (.slice tI)),none⟩,kI 2 0,⟨.cell 3 1,(.slice (.slice tI)),none⟩,⟨.slot 13,(.slice (.slice tI)),some 10900065⟩])]) [(.mk .plain [H0,(.mk .plain [H0,(.mk .plain [H0,(.mk .plain [(.mk .plain [H0,(.mk .plain [(.mk .plain [(.mk .plain [H0,(.mk (.join (zP [81,79,80,77,78]) [(.normal,[⟨.cell 3 1,(.slice (.slice tI)),none⟩])]) [])])])])]),(.mk .plain [H0,(.mk .plain [H0,(.mk .plain [(.mk (.loop [⟨.slot 13,(.slice (.slice tI)),some 10900065⟩,sI 18] (zP [91,97,94,100,106,103,19,109,92,95,98,104,101,107,93,99,96,102,105,108]) [(.exit 4,[⟨.slot 13,(.slice (.slice tI)),some 10900065⟩])]) [])])])])])])])])])])])])])])])])])])])])])])])])])])]) (by simp[EL4,EL6]) Tryz.func26
noncomputable def Ay9 [LP](a:(List Int))(b:Int):Option (List Int):=
 Option.bind (
  LP.lp (X:=(Bool×(List Int))) (fun (c:((List Int)×(Int×Bool)))=>
   let d:(List Int):=c.1
   let e:=c.2.1
   let f:=c.2.2
   let g:=decide (e<a.length)
   (bif g then
    chk none ((decide (0≤e)&&decide (e<a.length))|| !(!f))<|
    let h:=(a.getD e.toNat 0)
    let i:=(bif (!f) then (decide (b≤h)) else false)
    Option.bind (
     (bif i then
      chk none (decide (0≤e)&&decide (e<a.length))<|
      let j:=(a.getD e.toNat 0)
      Option.bind (
       (bif (decide (b<j)) then
        chk none (decide ((d.length+([b]:List Int).length)*8≤140737488355328))<|
        let k:(List Int):=(d++([b]:List Int))
        some k
       else
        some d)) fun l=>
      some (true,l)
     else
      some (f,d))) fun m=>
    let n:=m.1
    let o:(List Int):=m.2
    chk none (decide (0≤e)&&decide (e<a.length))<|
    let p:=(a.getD e.toNat 0)
    chk none (decide ((o.length+([p]:List Int).length)*8≤140737488355328))<|
    let q:(List Int):=(o++([p]:List Int))
    let r:=FT8 .i64 (e+1)
    some (.inl (q,r,n))
   else
    some (.inr (f,d)))) ([],(0:Int),false)) fun s=>
 let t:=s.1
 let u:(List Int):=s.2
 Option.bind (
  (bif (!t) then
   chk none (decide ((u.length+([b]:List Int).length)*8≤140737488355328))<|
   let v:(List Int):=(u++([b]:List Int))
   some v
  else
   some u)) fun w=>
 some w
noncomputable def CA8:Con:={f:=50,ps:=[.dat (.slice tI),dI],boxes:=[],ins:=(.pair (.slice tI) tI),nin:=2,outs:=(.slice tI),rs:=[.dat (.slice tI)],A1:=1,F:=fun x=>Ay9 x.1 x.2}
theorem EL8:KO CA8:=
 cgp (l:=[]) (.mk .plain [H0,(.mk .plain [H0,(.mk .plain [H0,(.mk .plain [(.mk .plain [H0,(.mk .plain [(.mk (.loop [⟨.slot 5,(.slice tI),some 3300002⟩,sI 7,sB 6] (zP [30,36,39,8,14,11,17,23,20,26,29,35,32,38,10,16,13,19,22,28,25,31,34,40,37,9,12,15,21,18,24,27,33]) [(.exit 0,[sB 6,⟨.slot 5,(.slice tI),some 3300002⟩])]) [(.mk .plain [H0,(.mk .plain [(.mk .plain [(.mk .plain [(.mk .plain [H0,(.mk (.join (zP [30,26,29,32,28,25,31,24,27,33]) [(.normal,[sB 6,⟨.slot 5,(.slice tI),some 3300002⟩])]) [(.mk .plain [(.mk .plain [H0,(.mk (.join (zP [30,31,32,33]) [(.normal,[⟨.slot 5,(.slice tI),some 3300002⟩])]) [])])])])])])])])])])])]),(.mk .plain [(.mk .plain [H0,(.mk (.join (zP [46,44,45,43]) [(.normal,[⟨.slot 5,(.slice tI),none⟩])]) [])])])])])])]) (by simp) Tryz.func50
noncomputable def Az0 [LP](a:I2)(b:(Int×(List (List Int))))(c:Int):Option (List Int):=
 Option.bind (
  LP.lp (X:=(List Int)) (fun (d:(Int×(List Int)))=>
   let e:=d.1
   let f:(List Int):=d.2
   let g:=decide (e<b.2.length)
   (bif g then
    let h:=FT8 .i64 (0-b.1)
    Option.bind (
     LP.lp (X:=(List Int)) (fun (i:((List Int)×(Int×Int)))=>
      let j:(List Int):=i.1
      let k:=i.2.1
      let l:=i.2.2
      chk none (decide (0≤e)&&decide (e<b.2.length))<|
      let m:(List Int):=(b.2.getD e.toNat [])
      let n:=decide (k<m.length)
      (bif n then
       chk none (decide (0≤e)&&decide (e<b.2.length))<|
       let o:(List Int):=(b.2.getD e.toNat [])
       chk none (decide (0≤k)&&decide (k<o.length))<|
       let p:=(o.getD k.toNat 0)
       chk none (decide (0≤c)&&decide (c<a.2.length))<|
       let q:Yd3:=(a.2.getD c.toNat ((0:Int),((0:Int),((0:Int),((0:Int),(0:Int))))))
       Option.bind (
        (bif (p==q.2.1) then
         chk none (decide (0≤c)&&decide (c<a.2.length))<|
         let r:Yd3:=(a.2.getD c.toNat ((0:Int),((0:Int),((0:Int),((0:Int),(0:Int))))))
         let s:=FT8 .i64 (l+r.2.2.1)
         (Ay9 j s).bind fun t=>
         some t
        else
         some j)) fun u=>
       chk none (decide (0≤e)&&decide (e<b.2.length))<|
       let v:(List Int):=(b.2.getD e.toNat [])
       chk none (decide (0≤k)&&decide (k<v.length))<|
       let w:=(v.getD k.toNat 0)
       chk none (decide (0≤w)&&decide (w<a.1.length))<|
       let y:Yd1:=(a.1.getD w.toNat ((0:Int),([],[])))
       let a0:=FT8 .i64 (l+y.1)
       let a1:=FT8 .i64 (k+1)
       some (.inl (u,a1,a0))
      else
       some (.inr j))) (f,(0:Int),h)) fun a2=>
    let a3:=FT8 .i64 (e+1)
    some (.inl (a3,a2))
   else
    some (.inr f))) ((0:Int),[])) fun a4=>
 some a4
noncomputable def CA9:Con:={f:=27,ps:=[.dat (.agg D3),.dat (.agg (.pair tI (.slice (.slice tI)))),dI],boxes:=[],ins:=Dm0,nin:=3,outs:=(.slice tI),rs:=[.dat (.slice tI)],A1:=1,F:=fun x=>Az0 x.1 x.2.1 x.2.2}
theorem EL9:KO CA9:=
 cgp (l:=[CA8]) (.mk .plain [H0,(.mk .plain [H0,(.mk .plain [(.mk .plain [H0,(.mk .plain [(.mk (.loop [sI 8,⟨.slot 7,(.slice tI),none⟩] (zP [36,45,54,51,60,69,14,11,23,20,29,38,47,44,53,62,16,13,22,31,40,37,46,55,64,9,70,15,24,33,30,42,39,48,57,66,63,17,26,35,32,41,50,59,56,68,65,10,19,28,25,34,43,52,49,61,58,67,12,21,18,27]) [(.exit 0,[⟨.slot 7,(.slice tI),none⟩])]) [(.mk .plain [H0,(.mk .plain [(.mk .plain [(.mk .plain [H0,(.mk .plain [H0,(.mk .plain [(.mk (.loop [⟨.slot 7,(.slice tI),none⟩,sI 10,sI 9] (zP [30,36,42,39,45,48,54,51,57,60,66,63,69,23,26,29,35,32,38,41,47,44,50,53,59,56,62,68,65,22,28,25,31,34,40,37,43,46,52,49,55,61,58,64,67,70,21,24,27,33]) [(.exit 2,[⟨.slot 7,(.slice tI),none⟩])]) [(.mk .plain [H0,(.mk .plain [(.mk .plain [(.mk .plain [(.mk .plain [H0,(.mk (.join (zP [46,52,49,55,48,54,51,47,50,53]) [(.normal,[⟨.slot 7,(.slice tI),none⟩])]) [])])])])])])])])])])])])])])])])])])]) (by simp[EL8]) Tryz.func27
noncomputable def Az1 [LP](a:F0)(b:I2)(c:O2)(d:(Int×Int))(e:Int):Option Bool:=
 (An3 b c.2.2.1).bind fun f=>
 chk none (decide (0≤f)&&decide (f<b.2.length))<|
 let g:Yd3:=(b.2.getD f.toNat ((0:Int),((0:Int),((0:Int),((0:Int),(0:Int))))))
 chk none (decide (0≤e)&&decide (e<b.2.length))<|
 let h:Yd3:=(b.2.getD e.toNat ((0:Int),((0:Int),((0:Int),((0:Int),(0:Int))))))
 let i:(Int×(List (List Int))):=(g.2.2.1,c.2.2.2.2.2.2.2.2.1)
 let j:=FT8 .i64 (c.2.2.2.1.1+d.1)
 let k:=FT8 .i64 (c.2.2.2.1.2+d.2)
 (Ay8 b i j k).bind fun l=>
 (bif (l.2 != (0:Int)) then
  some true
 else
  let m:=FT8 .i64 (h.2.2.2.1+a.2.2.2.2.2.2.2.2.1)
  let n:=FT8 .i64 (m+h.2.2.2.2)
  (Az0 b l.1 e).bind fun o=>
  Option.bind (α:=Bool ⊕ Unit) (
   LP.lp (X:=Bool ⊕ Unit) (fun (p:Int)=>
    let q:=decide (p<o.length)
    (bif q then
     chk none (decide (0≤p)&&decide (p<o.length))<|
     let r:=(o.getD p.toNat 0)
     let s:=FT8 .i64 (r+n)
     let t:=(if d.1<(0:Int) then d.1 else (0:Int))
     let u:=FT8 .i64 (c.2.2.2.1.1+t)
     let v:=decide (u≤s)
     let w:=FT8 .i64 (r-n)
     let y:=(if d.2>(0:Int) then d.2 else (0:Int))
     let a0:=FT8 .i64 (c.2.2.2.1.2+y)
     let a1:=decide (w≤a0)
     let a2:=(bif v then a1 else false)
     (bif a2 then
      some (.inr (.inl true))
     else
      let a3:=FT8 .i64 (p+1)
      some (.inl a3))
    else
     some (.inr (.inr ())))) (0:Int)) fun z=>match z with
  | .inl a4=>
   some a4
  | .inr _=>
   some false)
noncomputable def CB0:Con:={f:=16,ps:=[.dat (.agg C2),.dat (.agg D3),.dat (.agg AD5),.dat (.agg (.pair tI tI)),dI],boxes:=[],ins:=Dm3,nin:=5,outs:=.bool,rs:=[.dat .bool],A1:=1,F:=fun x=>Az1 x.1 x.2.1 x.2.2.1 x.2.2.2.1 x.2.2.2.2}
theorem EM0:KO CB0:=
 cgp (l:=[BP7,CA7,CA9]) (.mk .plain [H0,(.mk .plain [H0,(.mk .plain [H0,(.mk .plain [H0,(.mk .plain [H0,(.mk .plain [(.mk .plain [H0,(.mk .plain [(.mk (.loop [sI 68] (zP [91,94,10,71,74,80,77,83,86,92,89,95,69,72,78,17,75,81,87,84,90,93,73,70,76,79,85,82,88,96]) [(.ret,[sB 10]),(.exit 0,[])]) [])])])])])])])])]) (by simp[CA3,EL7,EL9]) Tryz.func16
end Go.Proofs.YthfjpkdadjemcaaGreat
