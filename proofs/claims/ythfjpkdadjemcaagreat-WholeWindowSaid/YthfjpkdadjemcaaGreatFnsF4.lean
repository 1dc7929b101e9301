/- The functional reading of the code (printed). -/
import Derived.Test.YthfjpkdadjemcaaGreatFnsF3
set_option linter.unusedSimpArgs false
set_option linter.unusedVariables false
namespace Go.Proofs.YthfjpkdadjemcaaGreat
open Go
open Go.IntKind renaming wrap → Fj0
noncomputable def BC1 [LP](a:F0)(b:I2)(c:(List AH1)):Option Bool:=
 let d:=(decide ((60:Int)<(c.length:Int)))
 (bif !d then Aw0 b [] else some false).bind fun e=>
 let f:=(bif d then true else (!e))
 (bif f then
  (AE7 ()).bind fun g=>
  some g
 else
  (AL1 c).bind fun h=>
  (AB7 a b h).bind fun i=>
  Option.bind (α:=Bool ⊕ Unit) (
   LP.lp (X:=Bool ⊕ Unit) (fun (j:Int)=>
    let k:=decide (j<i.length)
    (bif k then
     Option.bind (α:=Bool ⊕ Unit) (
      chk none (decide (0≤j)&&decide (j<i.length))<|
      let l:O2:=(i.getD j.toNat ((0:Int),((0:Int),((0:Int),(((0:Int),(0:Int)),((0:Int),(((0:Int),(0:Int)),((0:Int),((0:Int),([],((0:Int),(false,(false,(((0:Int),(0:Int)),(false,(false,(false,(false,(false,(((0:Int),(0:Int)),((0:Int),((((0:Int),(0:Int)),((0:Int),(0:Int))),((0:Int),((0:Int),((0:Int),(0:Int))))))))))))))))))))))))))
      let pA:=l.2.2.2.2
      let pB:=pA.2.2.2.2
      let pC:=pB.2.2.2.2
      chk none (decide (0≤j)&&decide (j<c.length))<|
      let m:AH1:=(c.getD j.toNat (((0:Int),(0:Int)),((0:Int),((0:Int),((0:Int),((false,(false,(false,(false,false)))),false))))))
      let n:=(Fj0 .i64 m.2.2.2.1)
      (An3 b n).bind fun o=>
      chk none (decide (0≤j)&&decide (j<c.length))<|
      let p:AH1:=(c.getD j.toNat (((0:Int),(0:Int)),((0:Int),((0:Int),((0:Int),((false,(false,(false,(false,false)))),false))))))
      let q:=(!p.2.2.2.2.1.2.2.2.2)
      (bif q then
       let r:=pC.2.1
       let s:=pC.2.2.1
       let t:=(bif r then true else s)
       (bif t then
        some (.inl false)
       else
        some (.inr ()))
      else
       let u:=pC.2.1
       let v:=pC.2.2.1
       let w:=decide (o<(0:Int))
       let y:=pC.2.1
       let a0:=(bif w then y else false)
       let a1:=(bif (u==v) then true else a0)
       (bif a1 then
        some (.inl false)
       else
        let a2:=Fj0 .i64 (j-1)
        chk none ((decide (0≤a2)&&decide (a2<i.length))|| !(!(j==(0:Int))))<|
        let a3:O2:=(i.getD a2.toNat ((0:Int),((0:Int),((0:Int),(((0:Int),(0:Int)),((0:Int),(((0:Int),(0:Int)),((0:Int),((0:Int),([],((0:Int),(false,(false,(((0:Int),(0:Int)),(false,(false,(false,(false,(false,(((0:Int),(0:Int)),((0:Int),((((0:Int),(0:Int)),((0:Int),(0:Int))),((0:Int),((0:Int),((0:Int),(0:Int))))))))))))))))))))))))))
        let a4:=(a3.2.2.1==(0:Int))
        let a5:=(bif (j==(0:Int)) then true else a4)
        let a6:=decide (o<(0:Int))
        let a7:=(bif a5 then true else a6)
        (bif a7 then
         some (.inr ())
        else
         let a8:=Fj0 .i64 (j-1)
         chk none (decide (0≤a8)&&decide (a8<i.length))<|
         let a9:O2:=(i.getD a8.toNat ((0:Int),((0:Int),((0:Int),(((0:Int),(0:Int)),((0:Int),(((0:Int),(0:Int)),((0:Int),((0:Int),([],((0:Int),(false,(false,(((0:Int),(0:Int)),(false,(false,(false,(false,(false,(((0:Int),(0:Int)),((0:Int),((((0:Int),(0:Int)),((0:Int),(0:Int))),((0:Int),((0:Int),((0:Int),(0:Int))))))))))))))))))))))))))
         (Az1 a b a9 pA.2.1 o).bind fun b0=>
         let b1:=pC.2.2.1
         let b2:=(l.2.2.1 != (0:Int))
         let b3:=(l.2.2.1 != a9.2.2.1)
         let b4:=Fj0 .i64 (a9.2.2.2.1.1+pA.2.1.1)
         let b5:=(l.2.2.2.1.1 != b4)
         let b6:=(bif b3 then true else b5)
         let b7:=Fj0 .i64 (a9.2.2.2.1.2+pA.2.1.2)
         let b8:=(l.2.2.2.1.2 != b7)
         let b9:=(bif b6 then true else b8)
         let c0:=(bif b2 then b9 else false)
         let c1:=(bif (!b1) then true else c0)
         let c2:=(bif (!b0) then c1 else false)
         (bif c2 then
          some (.inl false)
         else
          some (.inr ())))))) fun z=>match z with
     | .inl c3=>
      some (.inr (.inl c3))
     | .inr _=>
      let c4:=Fj0 .i64 (j+1)
      some (.inl c4)
    else
     some (.inr (.inr ())))) (0:Int)) fun z=>match z with
  | .inl c5=>
   some c5
  | .inr _=>
   (AE7 ()).bind fun c6=>
   some c6)
noncomputable def Ef0:Con:={f:=8,ps:=[.dat (.agg C2),.dat (.agg D3),.dat (.slice (.agg Ac1))],boxes:=[],ins:=Dm5,nin:=3,outs:=.bool,rs:=[.dat .bool],A1:=1,F:=fun x=>BC1 x.1 x.2.1 x.2.2}
theorem Ef1:KO Ef0:=
 cgp (l:=[Bk4,CA2,BL0,An2,BP7,CB0]) (.mk .plain [H0,(.mk .plain [H0,(.mk .plain [H0,(.mk .plain [(.mk .plain [H0,(.mk .plain [(.mk (.loop [sI 28] (zP [30,36,42,39,45,48,54,51,57,60,66,63,69,8,72,78,75,81,29,35,32,38,41,47,44,50,53,59,56,62,68,65,71,10,74,80,77,31,34,40,37,43,46,52,49,55,61,58,64,9,67,6,73,70,76,79,33,143,91,100,109,118,115,124,133,11,142,87,139,84,93,102,111,108,117,126,135,141,86,95,104,101,113,110,119,128,137,134,88,97,94,106,103,112,121,130,127,136,90,99,96,105,114,123,120,132,129,138,83,92,89,98,107,116,125,122,131,140,85,82]) [(.ret,[sB 6]),(.exit 0,[])]) [(.mk .plain [H0,(.mk .plain [H0,(.mk .plain [(.mk (.join (zP [30,36,42,39,45,48,51,8,35,32,38,41,47,44,50,53,10,31,34,40,37,43,46,52,49,9,6,33,54,60,62,55,64,57,66,63,59,56,65,61,58,69,78,75,71,80,77,73,70,79,72,81,68,74,67,76,115,124,133,142,87,108,117,126,135,101,110,119,128,137,94,103,112,121,130,96,105,114,123,132,89,98,107,116,125,82,91,100,109,118,11,139,84,93,102,111,141,86,95,104,113,134,88,97,106,127,136,90,99,120,129,138,83,92,122,131,140,85]) [(.ret,[sB 6]),(.normal,[])]) [])])])])])])])])])])]) (by simp[Dp2,EL3,Bk9,Bz7,CA3,EM0]) Tryz.func8
end Go.Proofs.YthfjpkdadjemcaaGreat
