/- The functional reading of the code (printed). -/
import Derived.Test.YthfjpkdadjemcaaGreatFnsF4
import Derived.Test.YthfjpkdadjemcaaGreatTwinB
set_option linter.unusedSimpArgs false
set_option linter.unusedVariables false
namespace Go.Proofs.YthfjpkdadjemcaaGreat
open Go
open Go.IntKind renaming wrap → Fa4
noncomputable def AP4 [LP](a:F2)(b:K7)(c:(List ((List (List Int))×Bool))):Option (List D7):=
 (AG1 a b).bind fun d=>
 (bif (d.1 != (0:Int)) then
  some ([])
 else
  (AG2 b).bind fun e=>
  (AM5 a e).bind fun f=>
  let pC:=f.2.2.2.2
  let pF:=pC.2.2.2.2
  let pI:=pF.2.2.2.2
  let pL:=pI.2.2.2.2
  let pO:=pL.2.2.2.2
  let pR:=pO.2.2.2.2
  let pU:=pR.2.2.2.2
  let pX:=pU.2.2.2.2
  let qA:=pX.2.2.2.2
  let qD:=qA.2.2.2.2
  let qG:=qD.2.2.2.2
  let qJ:=qG.2.2.2.2
  let qM:=qJ.2.2.2.2
  Option.bind (
   LP.lp (X:=(List D7)) (fun (g:Bj8)=>
    let pA:=g.2.2.2.2
    let pD:=pA.2.2.2.2
    let pG:=pD.2.2.2.2
    let pJ:=pG.2.2.2.2
    let pM:=pJ.2.2.2.2
    let pP:=pM.2.2.2.2
    let pS:=pP.2.2.2.2
    let pV:=pS.2.2.2.2
    let pY:=pV.2.2.2.2
    let qB:=pY.2.2.2.2
    let qE:=qB.2.2.2.2
    let qH:=qE.2.2.2.2
    let qK:=qH.2.2.2.2
    let h:=g.1
    let i:=g.2.1
    let j:=g.2.2.1
    let k:=g.2.2.2.1
    let l:=pA.1
    let m:=pA.2.1
    let n:=pA.2.2.1
    let o:(List G9):=pA.2.2.2.1
    let p:=pD.1
    let q:=pD.2.1
    let r:=pD.2.2.1
    let s:=pD.2.2.2.1
    let t:=pG.1
    let u:=pG.2.1
    let v:(List Yd3):=pG.2.2.1
    let w:=pG.2.2.2.1
    let y:=pJ.1
    let a0:=pJ.2.1
    let a1:=pJ.2.2.1
    let a2:=pJ.2.2.2.1
    let a3:=pM.1
    let a4:=pM.2.1
    let a5:=pM.2.2.1
    let a6:=pM.2.2.2.1
    let a7:=pP.1
    let a8:=pP.2.1
    let a9:=pP.2.2.1
    let b0:=pP.2.2.2.1
    let b1:=pS.1
    let b2:=pS.2.1
    let b3:=pS.2.2.1
    let b4:=pS.2.2.2.1
    let b5:=pV.1
    let b6:=pV.2.1
    let b7:=pV.2.2.1
    let b8:=pV.2.2.2.1
    let b9:=pY.1
    let c0:=pY.2.1
    let c1:=pY.2.2.1
    let c2:=pY.2.2.2.1
    let c3:=qB.1
    let c4:=qB.2.1
    let c5:=qB.2.2.1
    let c6:=qB.2.2.2.1
    let c7:(List D7):=qE.1
    let c8:=qE.2.1
    let c9:=qE.2.2.1
    let d0:=qE.2.2.2.1
    let d1:=qH.1
    let d2:=qH.2.1
    let d3:=qH.2.2.1
    let d4:(List Yd1):=qH.2.2.2.1
    let d5:=qK.1
    let d6:(List Int):=qK.2.1
    let d7:=qK.2.2.1
    let d8:=qK.2.2.2.1
    let d9:=qK.2.2.2.2
    let e0:=decide (d0<c.length)
    (bif e0 then
     chk none (decide (0≤d0)&&decide (d0<c.length))<|
     let e1:((List (List Int))×Bool):=(c.getD d0.toNat ([],false))
     chk none (decide (0≤d0)&&decide (d0<c.length))<|
     let e2:((List (List Int))×Bool):=(c.getD d0.toNat ([],false))
     (AO6 e1.1 e2.2 r b4 a3 c2 b3 d3 t i a5 s b5 a4 c3 k d4 v j a6 u b6 d6 c4 m d5 w l a7 c6 b7 d7 c5 n a9 y b9 a8 c8 b8 d8 a1 o b1 a0 c0 b0 c9 q d9 a2 p b2 d2 c1 h d1).bind fun e3=>
     let pB:=e3.2.2.2.2
     let pE:=pB.2.2.2.2
     let pH:=pE.2.2.2.2
     let pK:=pH.2.2.2.2
     let pN:=pK.2.2.2.2
     let pQ:=pN.2.2.2.2
     let pT:=pQ.2.2.2.2
     let pW:=pT.2.2.2.2
     let pZ:=pW.2.2.2.2
     let qC:=pZ.2.2.2.2
     let qF:=qC.2.2.2.2
     let qI:=qF.2.2.2.2
     let qL:=qI.2.2.2.2
     let e4:(List D7):=([e3.1]:List D7)
     chk none (decide ((c7.length+e4.length)*232≤140737488355328))<|
     let e5:(List D7):=(c7++e4)
     let e6:=Fa4 .i64 (d0+1)
     some (.inl (qL.2.2.1,pE.1,pK.2.1,pH.2.2.1,pQ.2.2.1,pN.2.2.2.1,pW.1,qC.2.1,qI.2.2.1,qF.2.2.2.1,e3.2.1,pE.2.2.1,pB.2.2.2.1,pK.2.2.2.1,pK.1,pQ.2.1,pW.2.2.1,qC.2.2.2.1,qC.1,qI.2.1,e3.2.2.2.1,pH.1,pE.2.1,pK.2.2.1,pQ.2.2.2.1,pZ.1,pW.2.1,qF.2.1,qC.2.2.1,qI.2.2.2.1,pB.2.1,e3.2.2.1,pE.2.2.2.1,pN.1,pT.2.1,pZ.2.2.1,pW.2.2.2.1,qF.1,qL.2.1,pB.1,pH.2.1,pN.2.2.1,pT.2.2.2.1,pT.1,e5,pZ.2.1,qF.2.2.1,e6,qL.2.2.2,qL.1,pB.2.2.1,pH.2.2.2.1,pQ.1,pN.2.1,pT.2.2.1,pZ.2.2.2.1,qI.1))
    else
     some (.inr c7))) (qM.2.1,pC.2.2.2.1,pL.1,pI.2.1,pR.2.1,pO.2.2.1,pU.2.2.2.1,qD.1,qJ.2.1,qG.2.2.1,f.1,pF.2.1,pC.2.2.1,pL.2.2.1,pI.2.2.2.1,pR.1,pX.2.1,qD.2.2.1,qA.2.2.2.1,qJ.1,f.2.2.1,pF.2.2.2.1,pF.1,pL.2.1,pR.2.2.1,pX.2.2.2.1,pX.1,qG.1,qD.2.1,qJ.2.2.1,pC.1,f.2.1,pF.2.2.1,pL.2.2.2.1,pU.1,qA.2.1,pX.2.2.1,qD.2.2.2.1,qM.1,f.2.2.2.1,pI.1,pO.2.1,pU.2.2.1,pR.2.2.2.1,[],qA.1,qG.2.1,(0:Int),qM.2.2,qJ.2.2.2.1,pC.2.1,pI.2.2.1,pO.2.2.2.1,pO.1,pU.2.1,qA.2.2.1,qG.2.2.2.1)) fun e7=>
  some e7)
noncomputable def Aq3:F9:={f:=13,ps:=[.dat (.agg C4),.dat (.agg E1),.dat (.slice (.agg (.pair (.slice (.slice (.int .u8))) .bool)))],boxes:=[],ins:=Bj9,nin:=3,outs:=(.slice (.agg M5)),rs:=[.own 700050049 (.agg M5)],aft:=[],A2:=1,F:=fun x=>AP4 x.1 x.2.1 x.2.2}
def Ea1:Hint:=(.mk .plain [H0,(.mk .plain [H0,(.mk .plain [H0,(.mk .plain [H0,(.mk .plain [H0,(.mk .plain [(.mk .plain [H0,(.mk .plain [(.mk (.loop [kI 2 53,kI 2 7,kB 2 16,kI 2 13,⟨.cell 2 25,(.int .u16),none⟩,⟨.cell 2 22,(.int .u16),none⟩,kI 2 31,⟨.cell 2 40,(.slice (.agg H8)),none⟩,kB 2 49,kI 2 46,kI 2 0,kI 2 9,kI 2 6,kI 2 18,⟨.cell 2 15,(.slice (.agg Yt3)),none⟩,kB 2 24,kI 2 33,kI 2 42,kI 2 39,kB 2 48,kI 2 2,kI 2 11,kI 2 8,kI 2 17,kI 2 26,kI 2 35,kI 2 32,kI 2 44,kB 2 41,kI 2 50,kI 2 4,kI 2 1,kI 2 10,kI 2 19,kI 2 28,kI 2 37,kB 2 34,kI 2 43,kI 2 52,kI 2 3,kI 2 12,kB 2 21,kI 2 30,kI 2 27,⟨.slot 10,(.slice (.agg M5)),some 4550049⟩,kI 2 36,kI 2 45,sI 28,kB 2 54,kI 2 51,kI 2 5,⟨.cell 2 14,(.slice (.agg Yt1)),none⟩,kI 2 23,⟨.cell 2 20,(.slice (.int .i64)),none⟩,kI 2 29,kI 2 38,kB 2 47] (zP [36,45,11,29,38,44,31,40,37,46,33,30,42,39,35,32,41,34,43]) [(.exit 0,[⟨.slot 10,(.slice (.agg M5)),some 4550049⟩])]) [])])])])])])])])])
theorem Ea2:Ag8 ⟨N8 tys,[Aj6,Aj7,AW3],[AT6],[],[81,100000045]⟩ Aq3 Tryz.f13 Ea1=Aq3.F:=by
 funext x
 kernel_rfl
theorem Ea3:Ah0 Tryz.prog Aq3:=
 Bg5 (Γ:=⟨N8 tys,[Aj6,Aj7,AW3],[AT6],[],[81,100000045]⟩) ⟨fun T d h=>AF4 tys AL2 T d h,by simp[Bl5,Bl7,CA1],by simp[Bp9],by simp[],AK4 Tryz.prog [81,100000045] (by kernel_rfl)⟩ (by kernel_rfl) Tryz.func13 rfl (by kernel_rfl) rfl Ea2
noncomputable def BD4 [LP](a:F2)(b:K7)(c:(List T6)):Option Bool:=
 let d:=(decide ((100:Int)<(c.length:Int)))
 (bif !d then Aj5 b [] else some false).bind fun e=>
 let f:=(bif d then true else (!e))
 (bif f then
  (Y1 ()).bind fun g=>
  some g
 else
  Option.bind (
   LP.lp (X:=(List T6)) (fun (h:Di7)=>
    let i:(List T6):=h.1
    let j:=h.2
    let k:=decide (j<c.length)
    (bif k then
     chk none (decide (0≤j)&&decide (j<c.length))<|
     let l:T6:=(c.getD j.toNat (((0:Int),(0:Int)),((0:Int),((0:Int),((0:Int),((false,(false,(false,(false,false)))),false))))))
     let pA:=l.2.2.2.2
     let m:T6:=((l.1.2,l.1.1),(l.2.1,(l.2.2.1,(l.2.2.2.1,((pA.1.2.1,(pA.1.1,pA.1.2.2)),pA.2)))))
     chk none (decide ((i.length+([m]:List T6).length)*20≤140737488355328))<|
     let n:(List T6):=(i++([m]:List T6))
     let o:=Fa4 .i64 (j+1)
     some (.inl (n,o))
    else
     some (.inr i))) ([],(0:Int))) fun p=>
  (AG0 c).bind fun q=>
  (AP4 a b q).bind fun r=>
  (AG0 p).bind fun s=>
  (AP4 a b s).bind fun t=>
  Option.bind (
   LP.lp (X:=(List D7)) (fun (u:Di8)=>
    let v:(List D7):=u.1
    let w:=u.2
    let y:=decide (w<t.length)
    (bif y then
     chk none (decide (0≤w)&&decide (w<v.length))<|
     chk none (decide (0≤w)&&decide (w<v.length))<|
     chk none (decide (0≤w)&&decide (w<v.length))<|
     let a0:D7:=(v.getD w.toNat ((0:Int),((0:Int),((0:Int),(((0:Int),(0:Int)),((0:Int),(((0:Int),(0:Int)),((0:Int),((0:Int),([],((0:Int),(false,(false,(((0:Int),(0:Int)),(false,(false,(false,(false,(false,(((0:Int),(0:Int)),((0:Int),((((0:Int),(0:Int)),((0:Int),(0:Int))),((0:Int),((0:Int),((0:Int),(0:Int))))))))))))))))))))))))))
     let a1:D7:=(v.getD w.toNat ((0:Int),((0:Int),((0:Int),(((0:Int),(0:Int)),((0:Int),(((0:Int),(0:Int)),((0:Int),((0:Int),([],((0:Int),(false,(false,(((0:Int),(0:Int)),(false,(false,(false,(false,(false,(((0:Int),(0:Int)),((0:Int),((((0:Int),(0:Int)),((0:Int),(0:Int))),((0:Int),((0:Int),((0:Int),(0:Int))))))))))))))))))))))))))
     let a2:D7:=(v.getD w.toNat ((0:Int),((0:Int),((0:Int),(((0:Int),(0:Int)),((0:Int),(((0:Int),(0:Int)),((0:Int),((0:Int),([],((0:Int),(false,(false,(((0:Int),(0:Int)),(false,(false,(false,(false,(false,(((0:Int),(0:Int)),((0:Int),((((0:Int),(0:Int)),((0:Int),(0:Int))),((0:Int),((0:Int),((0:Int),(0:Int))))))))))))))))))))))))))
     let pB:=a2.2.2.2.2
     let pF:=pB.2.2.2.2
     let a3:(List D7):=(v.set w.toNat (a2.1,(a2.2.1,(a2.2.2.1,(a2.2.2.2.1,(pB.1,(pB.2.1,(pB.2.2.1,(pB.2.2.2.1,(pF.1,(pF.2.1,(pF.2.2.1,(pF.2.2.2.1,((a0.2.2.2.2.2.2.2.2.2.2.2.2.1.2,pF.2.2.2.2.1.2),pF.2.2.2.2.2))))))))))))))
     let a4:(List D7):=(bif Nat.beq v.length a3.length then a3 else [])
     chk none (decide (0≤w)&&decide (w<a4.length))<|
     let a5:D7:=(a4.getD w.toNat ((0:Int),((0:Int),((0:Int),(((0:Int),(0:Int)),((0:Int),(((0:Int),(0:Int)),((0:Int),((0:Int),([],((0:Int),(false,(false,(((0:Int),(0:Int)),(false,(false,(false,(false,(false,(((0:Int),(0:Int)),((0:Int),((((0:Int),(0:Int)),((0:Int),(0:Int))),((0:Int),((0:Int),((0:Int),(0:Int))))))))))))))))))))))))))
     let pC:=a5.2.2.2.2
     let pG:=pC.2.2.2.2
     let a6:(List D7):=(a4.set w.toNat (a5.1,(a5.2.1,(a5.2.2.1,(a5.2.2.2.1,(pC.1,(pC.2.1,(pC.2.2.1,(pC.2.2.2.1,(pG.1,(pG.2.1,(pG.2.2.1,(pG.2.2.2.1,((pG.2.2.2.2.1.1,a1.2.2.2.2.2.2.2.2.2.2.2.2.1.1),pG.2.2.2.2.2))))))))))))))
     let a7:(List D7):=(bif Nat.beq a4.length a6.length then a6 else [])
     chk none (decide (0≤w)&&decide (w<a7.length))<|
     chk none (decide (0≤w)&&decide (w<a7.length))<|
     chk none (decide (0≤w)&&decide (w<a7.length))<|
     let a8:D7:=(a7.getD w.toNat ((0:Int),((0:Int),((0:Int),(((0:Int),(0:Int)),((0:Int),(((0:Int),(0:Int)),((0:Int),((0:Int),([],((0:Int),(false,(false,(((0:Int),(0:Int)),(false,(false,(false,(false,(false,(((0:Int),(0:Int)),((0:Int),((((0:Int),(0:Int)),((0:Int),(0:Int))),((0:Int),((0:Int),((0:Int),(0:Int))))))))))))))))))))))))))
     let a9:D7:=(a7.getD w.toNat ((0:Int),((0:Int),((0:Int),(((0:Int),(0:Int)),((0:Int),(((0:Int),(0:Int)),((0:Int),((0:Int),([],((0:Int),(false,(false,(((0:Int),(0:Int)),(false,(false,(false,(false,(false,(((0:Int),(0:Int)),((0:Int),((((0:Int),(0:Int)),((0:Int),(0:Int))),((0:Int),((0:Int),((0:Int),(0:Int))))))))))))))))))))))))))
     let b0:D7:=(a7.getD w.toNat ((0:Int),((0:Int),((0:Int),(((0:Int),(0:Int)),((0:Int),(((0:Int),(0:Int)),((0:Int),((0:Int),([],((0:Int),(false,(false,(((0:Int),(0:Int)),(false,(false,(false,(false,(false,(((0:Int),(0:Int)),((0:Int),((((0:Int),(0:Int)),((0:Int),(0:Int))),((0:Int),((0:Int),((0:Int),(0:Int))))))))))))))))))))))))))
     let pD:=b0.2.2.2.2
     let pH:=pD.2.2.2.2
     let pJ:=pH.2.2.2.2
     let pL:=pJ.2.2.2.2
     let b1:(List D7):=(a7.set w.toNat (b0.1,(b0.2.1,(b0.2.2.1,(b0.2.2.2.1,(pD.1,(pD.2.1,(pD.2.2.1,(pD.2.2.2.1,(pH.1,(pH.2.1,(pH.2.2.1,(pH.2.2.2.1,(pJ.1,(pJ.2.1,(pJ.2.2.1,(pJ.2.2.2.1,(pL.1,(pL.2.1,(pL.2.2.1,(pL.2.2.2.1,((a8.2.2.2.2.2.2.2.2.2.2.2.2.2.2.2.2.2.2.2.2.1.2,pL.2.2.2.2.1.2),pL.2.2.2.2.2))))))))))))))))))))))
     let b2:(List D7):=(bif Nat.beq a7.length b1.length then b1 else [])
     chk none (decide (0≤w)&&decide (w<b2.length))<|
     let b3:D7:=(b2.getD w.toNat ((0:Int),((0:Int),((0:Int),(((0:Int),(0:Int)),((0:Int),(((0:Int),(0:Int)),((0:Int),((0:Int),([],((0:Int),(false,(false,(((0:Int),(0:Int)),(false,(false,(false,(false,(false,(((0:Int),(0:Int)),((0:Int),((((0:Int),(0:Int)),((0:Int),(0:Int))),((0:Int),((0:Int),((0:Int),(0:Int))))))))))))))))))))))))))
     let pE:=b3.2.2.2.2
     let pI:=pE.2.2.2.2
     let pK:=pI.2.2.2.2
     let pM:=pK.2.2.2.2
     let b4:(List D7):=(b2.set w.toNat (b3.1,(b3.2.1,(b3.2.2.1,(b3.2.2.2.1,(pE.1,(pE.2.1,(pE.2.2.1,(pE.2.2.2.1,(pI.1,(pI.2.1,(pI.2.2.1,(pI.2.2.2.1,(pK.1,(pK.2.1,(pK.2.2.1,(pK.2.2.2.1,(pM.1,(pM.2.1,(pM.2.2.1,(pM.2.2.2.1,((pM.2.2.2.2.1.1,a9.2.2.2.2.2.2.2.2.2.2.2.2.2.2.2.2.2.2.2.2.1.1),pM.2.2.2.2.2))))))))))))))))))))))
     let b5:(List D7):=(bif Nat.beq b2.length b4.length then b4 else [])
     let b6:=Fa4 .i64 (w+1)
     some (.inl (b5,b6))
    else
     some (.inr v))) (t,(0:Int))) fun b7=>
  (Ao2 r b7).bind fun b8=>
  (bif b8 then Y1 () else some false).bind fun b9=>
  let c0:=(bif b8 then b9 else false)
  some c0)
noncomputable def BU7:Con:={f:=6,ps:=[.dat (.agg C4),.dat (.agg E1),.dat (.slice (.agg AK9))],boxes:=[],ins:=Di6,nin:=3,outs:=.bool,rs:=[.dat .bool],A2:=1,F:=fun x=>BD4 x.1 x.2.1 x.2.2}
def Ea4:Hint:=(.mk .plain [H0,(.mk .plain [H0,(.mk .plain [H0,(.mk .plain [(.mk .plain [H0,(.mk .plain [(.mk (.loop [⟨.slot 7,(.slice (.agg AK9)),some 5100056⟩,sI 24] (zP [30,36,42,39,45,48,51,26,29,35,32,38,41,47,44,50,28,25,31,34,40,37,43,46,52,49,9,27,33]) [(.exit 0,[⟨.slot 7,(.slice (.agg AK9)),some 5100056⟩])]) [])])]),(.mk .plain [H0,(.mk .plain [(.mk .plain [H0,(.mk .plain [(.mk (.loop [⟨.slot 11,(.slice (.agg M5)),some 7000050049⟩,sI 65] (zP [91,97,94,100,106,103,109,112,66,63,69,72,78,75,81,87,84,90,93,99,96,102,105,111,108,62,68,71,74,80,77,83,86,92,89,95,98,104,101,107,110,67,73,12,70,76,79,85,82,88]) [(.exit 2,[⟨.slot 11,(.slice (.agg M5)),some 7000050049⟩])]) [])])])])])])])])])
theorem Ea5:AC1 ⟨N8 tys,[BM1,BQ6,Aw8,BQ7],[],[Aq3],[]⟩ BU7 (BU6 [15,16] Tryz.f6) Ea4=BU7.F:=by
 funext x
 kernel_rfl
theorem Ea6:M4 Tryz.prog BU7:=
 Ea0 [15,16] (Γ:=⟨N8 tys,[BM1,BQ6,Aw8,BQ7],[],[Aq3],[]⟩) ⟨fun T d h=>AF4 tys AL2 T d h,by simp[Dl5,EH4,Bk9,EH6],by simp[],by simp[Ea3],AK4 Tryz.prog [] (by kernel_rfl)⟩ (by kernel_rfl) Tryz.func6 rfl (by kernel_rfl) (by kernel_rfl) Ea5
end Go.Proofs.YthfjpkdadjemcaaGreat
